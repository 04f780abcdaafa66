/- Proved: the law FlowParts holds for every input that the row lets in. No condition of ours. -/
import Derived.Test.YtcffniaieegbgaaBFlowPartsd
import Derived.Test.YtcffniaieegbgaaRows
import Derived.ShutString
import Derived.ChangeOld
import Derived.Lib.SmallJoins
section
namespace Go.Proofs.Ytcffniaieegbgaa.P
open Go.RowKit Go.Proofs.YtcffniaieegbgaaW.PrintWords Go.Proofs.YtcffniaieegbgaaW.PrintLast Go.Proofs.YtcffniaieegbgaaW.PrintMore
attribute [local go_sem] max2_int min2_int max_two min_two max_three min_three max_four min_four   -- for this text's walks alone
set_option linter.unusedVariables false
set_option linter.unusedSimpArgs false

set_option maxHeartbeats 6400000 in
set_option maxRecDepth 100000 in
theorem flow_Blocks.calls (k : Nat) (A0 : Option Addr) (c0 : Nat) (l0 : List S46) (r : List S35) (w : World) (hr0 : Kd.C k46 w A0 l0.length l0) (hc0 : l0.length ≤ c0) (h : flow_Blocks.f k l0 = some r) :
    Calls Try.prog 39 #[.slice A0 l0.length c0] w fun e w' => ∃ v0_ : Value, e = .returned (v0_) ∧ Kd.S k35 35 w' w.heap.size (fun _ => True) v0_ r ∧ Below w.heap.size w w' := by
  unfold flow_Blocks.f at h
  by_cases hok : l0.length < 4398046511104 ∧ asOk l0 = true ∧ atsOk l0 = true
  case neg => rw [if_neg hok] at h; cases h
  rw [if_pos hok] at h
  obtain ⟨ob, hob, h⟩ := Option.bind_eq_some_iff.1 h
  have HOB := Aside0.mk hob
  have HR := Aside0.mk hr0
  have HCC := Aside0.mk hc0
  have HL := Aside0.mk hok.1
  have HO0 := Aside0.mk hok.2.1
  have HOA := Aside0.mk hok.2.2
  have hlen : l0.length < 4398046511104 := hok.1
  have HRES := Aside0.mk h
  clear hr0 hc0 hob hok h
  go_enter Try.func39, Try.ntmps39
  go_wp2_with fail
  refine (flow_ordered.calls k A0 c0 l0 ob _ HR.out HCC.out HOB.out).mono ?_
  rintro e w1 ⟨rfl, hd⟩
  have HB1 := Aside0.mk hd.below
  clear hd
  cases ob with
  | false =>
    have HV : Aside0 (r = []) := ⟨by have := HRES.out; rw [if_neg (by decide)] at this; exact (Option.some.inj this).symm⟩
    clear HRES
    go_wp2
    go_ret
    exact ⟨_, rfl, by rw [HV.out]; exact Kd.S_nil _ _ _ _ _, HB1.out⟩
  | true =>
    have HV : Aside0 (r = blocksL l0 0 0 l0.length) := ⟨by have := HRES.out; rw [if_pos rfl] at this; exact (Option.some.inj this).symm⟩
    clear HRES
    have HM : Aside0 (Rws w [] w1) := ⟨(Rws.nil w).step HB1.out⟩
    go_wp2_with (first | ((with_reducible refine gate_dst (N := 21) rfl ?_); refine mp_make rfl rfl HM.out ?_; intro B3 w_ hM; replace HM := Aside0.mk hM; clear hM))
    obtain ⟨htl, hti⟩ := tgts_facts l0 HO0.out
    have HTI := Aside0.mk hti
    obtain ⟨ts, hts⟩ : ∃ ts, ts = srt (tgts l0) := ⟨_, rfl⟩
    have hft : flow_Targets.f l0 = some ts := by unfold flow_Targets.f; rw [if_pos HL.out, if_pos HO0.out, hts]
    rw [← hts] at htl hti
    have HTS := Aside0.mk hts
    have HTI := Aside0.mk hti
    have HTL := Aside0.mk htl
    have HFT := Aside0.mk hft
    clear hti hts hft
    refine (flow_Targets.calls A0 c0 l0 ts _ (Kd.C_below HR.out HM.out.below) HCC.out HFT.out).mono ?_
    rintro e w2 ⟨v23, rfl, hR, hb⟩
    obtain ⟨A23, c23, rfl⟩ := Kd.R_slice hR
    have HV23 := Aside0.mk hR
    replace HM := Aside0.mk (HM.out.step hb)
    have hts9 : ts.length < 4398046511104 := by omega
    clear hR hb
    go_wp2_with fail
    go_loopw [25] (fun v25 wr => ∃ (i : Nat), v25 = .int .i64 (i : Int) ∧ i ≤ ts.length ∧ Aside0 (Mp w B3 i (mark (ts.take i)) [] wr) ∧ Aside0 (∃ bb, Kd.R (Kd.int .i64) 3 wr bb (fun _ => True) (.slice A23 ts.length c23) ts)) (fun v25 _ => ((ts.length : Int) - intOf v25).toNat)
    case atStart => exact ⟨0, rfl, Nat.zero_le _, ⟨mark_nil ▸ HM.out⟩, ⟨⟨_, HV23.out⟩⟩⟩
    case round =>
      rename_i wr
      clear HM HV23
      obtain ⟨i, rfl, hi, HM, HV23⟩ := hrel
      by_cases c1 : i < ts.length
      · have c1b : decide ((i : Int) < (ts.length : Int)) = true := decide_eq_true (by omega)
        obtain ⟨bb, hV23⟩ := HV23.out
        obtain ⟨ad, e1, hx⟩ := Kd.at_int (Kd.R_reads' hV23).2.2 (i : Int) (by omega) (by omega)
        have HV := Aside0.mk hV23
        cases e1
        simp only [Int.toNat_natCast] at hx
        have p5 : (0 ≤ (i : Int)) = True := eq_true (by omega)
        have p6 : ((i : Int) < (ts.length : Int)) = True := eq_true (by omega)
        have HK := Aside0.mk (HTI.out _ (rd_memI c1))
        have HS := Aside0.mk (take_snocI c1)
        have HW := Aside0.mk (wrap_next (show i < 4398046511104 by omega))
        generalize rd ts (i : Int) = t at hx HK HS
        clear HV23 hV23
        go_wp2_with (first | (at_mapUpdate; refine mp_map2 rfl rfl rfl HM.out (by unfold maxLen; omega) rfl rfl HK.out (by constructor <;> omega) ?_; intro w_ hM hg9; replace HV := Aside0.mk (R_beside HV.out HM.out.own hg9); replace HM := Aside0.mk hM; clear hM hx hg9))
        go_roundw
        case rel => exact ⟨i + 1, by have := HW.out; first | rfl | (simp; done), by omega, ⟨by rw [HS.out, ← mark_upd]; exact HM.out⟩, ⟨⟨_, HV.out⟩⟩⟩
        case measure => simp [intOf]; omega
      · have e9 : i = ts.length := by omega
        have c1b : decide ((i : Int) < (ts.length : Int)) = false := decide_eq_false (by omega)
        have c1c : decide (i < ts.length) = false := decide_eq_false (by omega)
        have HM : Aside0 (Mp w B3 (ts.length + 0) (mark (ts ++ follow l0 0)) [] wr) := ⟨by have := HM.out; rw [e9, List.take_of_length_le (Nat.le_refl _)] at this; show Mp w B3 ts.length (mark (ts ++ [])) [] wr; rw [List.append_nil]; exact this⟩
        clear e9 c1 hi HV23
        go_wp2
        go_loopw [34] (fun v34 wr => ∃ (i : Nat), v34 = .int .i64 (i : Int) ∧ i ≤ l0.length ∧ Aside0 (Mp w B3 (ts.length + i) (mark (ts ++ follow l0 i)) [] wr)) (fun v34 _ => ((l0.length : Int) - intOf v34).toNat)
        case atStart => exact ⟨0, rfl, Nat.zero_le _, HM⟩
        case round =>
          clear HM
          obtain ⟨i, rfl, hi, HM⟩ := hrel
          by_cases c1 : i < l0.length
          · obtain ⟨x, hx⟩ : ∃ x, x = rd_T46 l0 (i : Int) := ⟨_, rfl⟩
            obtain ⟨ad, e1, hx0, hx1, hx2, hx3⟩ := at_I HR.out HM.out.below c1 hx
            cases e1
            have HX := Aside0.mk hx
            have HI : Aside0 (i < l0.length) := ⟨c1⟩
            have c1b : decide ((i : Int) < (l0.length : Int)) = true := decide_eq_true (by omega)
            have p5 : (0 ≤ (i : Int)) = True := eq_true (by omega)
            have p6 : ((i : Int) < (l0.length : Int)) = True := eq_true (by omega)
            have HW := Aside0.mk (wrap_next (show i < 4398046511104 by omega))
            have HFO : Aside0 (follow l0 (i + 1) = follow l0 i ++ (if (decide (i + 1 < l0.length) && (jumpsB x.f1 || endsB x.f1)) = true then [(rd_T46 l0 ((i + 1 : Nat) : Int)).f0] else [])) := ⟨by rw [hx]; rfl⟩
            clear hx
            by_cases c2 : i + 1 < l0.length
            · have c2b : decide ((i : Int) + 1 < (l0.length : Int)) = true := decide_eq_true (by omega)
              have HFO : Aside0 (follow l0 (i + 1) = follow l0 i ++ (if (jumpsB x.f1 || endsB x.f1) = true then [(rd_T46 l0 ((i + 1 : Nat) : Int)).f0] else [])) := ⟨by rw [HFO.out, decide_eq_true c2, Bool.true_and]⟩
              have HC2 := Aside0.mk c2
              clear c2
              go_wp2_with (first | ((with_reducible refine gate_dst (N := 7) rfl ?_); refine mp_alloc rfl 46 rfl (cs := #[.int .i64 0, .int .u8 0, .int .i64 0, .int .i64 0]) (by kernel_rfl) HM.out ?_; intro b w_ hM; replace HM := Aside0.mk hM; clear hM) | ((with_reducible refine gate_store (t := 46) (p := 7) rfl ?_); refine mp_store rfl 46 rfl rfl (cs' := #[.int .i64 x.f0, .int .u8 x.f1, .int .i64 x.f2, .int .i64 x.f3]) rfl HM.out (by kernel_rfl) rfl (by show _ = _; kernel_rfl) ?_; intro w_ hM; have f0 := blk_cell (hM.rows.mem List.mem_cons_self) 0; have f1 := blk_cell (hM.rows.mem List.mem_cons_self) 1; have f2 := blk_cell (hM.rows.mem List.mem_cons_self) 2; have f3 := blk_cell (hM.rows.mem List.mem_cons_self) 3; replace HM := Aside0.mk hM; clear hM hx0 hx1 hx2 hx3))
              refine (code_Jumps.calls x.f1 (jumpsB x.f1) _ (jumps_is x.f1)).mono ?_
              rintro e w_ ⟨rfl, hd⟩
              clear f0 f1 f2 f3
              replace HM := Aside0.mk (HM.out.step hd.below)
              clear hd
              obtain ⟨y, hy⟩ : ∃ y, y = rd_T46 l0 ((i + 1 : Nat) : Int) := ⟨_, rfl⟩
              have HY := Aside0.mk hy
              have HKY : Aside0 (I64 y.f0) := ⟨by have := atsOk_at HOA.out HC2.out; rw [← hy] at this; exact this⟩
              rw [← hy] at HFO
              clear hy
              have p7 : (0 ≤ (i : Int) + 1) = True := eq_true (by omega)
              have p8 : ((i : Int) + 1 < (l0.length : Int)) = True := eq_true (by have := HC2.out; omega)
              have p9 : ((i : Int) + 1).toNat = i + 1 := by omega
              cases qj : jumpsB x.f1 with
              | true =>
                have HFO : Aside0 (follow l0 (i + 1) = follow l0 i ++ [y.f0]) := ⟨by rw [HFO.out, qj]; rfl⟩
                clear qj
                obtain ⟨ad', e1, hy0, hy1, hy2, hy3⟩ := at_I HR.out HM.out.below HC2.out HY.out
                cases e1
                go_wp2_with (first | (at_mapUpdate; refine mp_map rfl rfl rfl HM.out (by unfold maxLen; omega) rfl rfl HKY.out (by constructor <;> omega) ?_; intro w_ hM; replace HM := Aside0.mk hM; clear hM hy0 hy1 hy2 hy3))
                go_roundw
                case rel => exact ⟨i + 1, by have := HW.out; first | rfl | (simp; done), by omega, ⟨by have h9 := HM.out.clear; rw [mark_upd, List.append_assoc, ← HFO.out] at h9; exact h9⟩⟩
                case measure => simp [intOf]; omega
              | false =>
                have f0 := blk_cell (HM.out.rows.mem List.mem_cons_self) 0
                have f1 := blk_cell (HM.out.rows.mem List.mem_cons_self) 1
                have f2 := blk_cell (HM.out.rows.mem List.mem_cons_self) 2
                have f3 := blk_cell (HM.out.rows.mem List.mem_cons_self) 3
                go_wp2_with fail
                refine (code_Ends.calls x.f1 (endsB x.f1) _ (ends_is x.f1)).mono ?_
                rintro e w_ ⟨rfl, hd⟩
                clear f0 f1 f2 f3
                replace HM := Aside0.mk (HM.out.step hd.below)
                clear hd
                cases qe : endsB x.f1 with
                | true =>
                  have HFO : Aside0 (follow l0 (i + 1) = follow l0 i ++ [y.f0]) := ⟨by rw [HFO.out, qj, qe]; rfl⟩
                  clear qj qe
                  obtain ⟨ad', e1, hy0, hy1, hy2, hy3⟩ := at_I HR.out HM.out.below HC2.out HY.out
                  cases e1
                  go_wp2_with (first | (at_mapUpdate; refine mp_map rfl rfl rfl HM.out (by unfold maxLen; omega) rfl rfl HKY.out (by constructor <;> omega) ?_; intro w_ hM; replace HM := Aside0.mk hM; clear hM hy0 hy1 hy2 hy3))
                  go_roundw
                  case rel => exact ⟨i + 1, by have := HW.out; first | rfl | (simp; done), by omega, ⟨by have h9 := HM.out.clear; rw [mark_upd, List.append_assoc, ← HFO.out] at h9; exact h9⟩⟩
                  case measure => simp [intOf]; omega
                | false =>
                  have HFO : Aside0 (follow l0 (i + 1) = follow l0 i) := ⟨by rw [HFO.out, qj, qe]; simp⟩
                  clear qj qe
                  go_wp2
                  go_roundw
                  case rel => exact ⟨i + 1, by have := HW.out; first | rfl | (simp; done), by omega, ⟨by rw [HFO.out]; exact HM.out.clear.more⟩⟩
                  case measure => simp [intOf]; omega
            · have c2b : decide ((i : Int) + 1 < (l0.length : Int)) = false := decide_eq_false (by omega)
              have HFO : Aside0 (follow l0 (i + 1) = follow l0 i) := ⟨by rw [HFO.out, decide_eq_false c2]; simp⟩
              clear c2
              go_wp2_with (first | ((with_reducible refine gate_dst (N := 7) rfl ?_); refine mp_alloc rfl 46 rfl (cs := #[.int .i64 0, .int .u8 0, .int .i64 0, .int .i64 0]) (by kernel_rfl) HM.out ?_; intro b w_ hM; replace HM := Aside0.mk hM; clear hM) | ((with_reducible refine gate_store (t := 46) (p := 7) rfl ?_); refine mp_store rfl 46 rfl rfl (cs' := #[.int .i64 x.f0, .int .u8 x.f1, .int .i64 x.f2, .int .i64 x.f3]) rfl HM.out (by kernel_rfl) rfl (by show _ = _; kernel_rfl) ?_; intro w_ hM; have f0 := blk_cell (hM.rows.mem List.mem_cons_self) 0; have f1 := blk_cell (hM.rows.mem List.mem_cons_self) 1; have f2 := blk_cell (hM.rows.mem List.mem_cons_self) 2; have f3 := blk_cell (hM.rows.mem List.mem_cons_self) 3; replace HM := Aside0.mk hM; clear hM hx0 hx1 hx2 hx3))
              clear f0 f1 f2 f3
              go_roundw
              case rel => exact ⟨i + 1, by have := HW.out; first | rfl | (simp; done), by omega, ⟨by rw [HFO.out]; exact HM.out.clear.more⟩⟩
              case measure => simp [intOf]; omega
          · have e9 : i = l0.length := by omega
            have c1b : decide ((i : Int) < (l0.length : Int)) = false := decide_eq_false (by omega)
            have c1c : decide (i < l0.length) = false := decide_eq_false (by omega)
            have HM : Aside0 (Mp w B3 (ts.length + l0.length) (mark (leadK l0)) [] wr) := ⟨by have := HM.out; rw [e9, HTS.out] at this; rw [HTS.out]; exact this⟩
            clear e9 c1 hi
            go_wp2_with fail
            refine (addresses_calls A0 c0 l0 _ (Kd.C_below HR.out HM.out.below) HOA.out HL.out).mono ?_
            rintro e w5 ⟨B8, rfl, hM8⟩
            have hQ : Mq w B8 l0.length (firstAt l0 0) B3 (ts.length + l0.length) (mark (leadK l0)) w5 := ⟨hM8.own, HM.out.own.below hM8.below, fun e => by have := hM8.base; have := HM.out.own.lt; omega, Nat.le_trans HM.out.below.size hM8.base, HM.out.base, below_then HM.out.below HM.out.below.size hM8.below⟩
            have HQ := Aside0.mk hQ
            have HO9 : Aside0 (Kd.S k35 35 w5 w.heap.size (fun _ => True) (.slice none 0 0) []) := ⟨Kd.S_nil _ _ _ _ _⟩
            clear hM8 hQ HM
            go_wp2_with fail
            go_loopw [9, 10, 66] (fun v9 v10 v66 wr => ∃ (i fr : Nat) (bs : List S35), v66 = .int .i64 (i : Int) ∧ v10 = .int .i64 (fr : Int) ∧ i ≤ l0.length ∧ Aside0 (fr ≤ i ∧ bs.length ≤ i) ∧ Aside0 (r = bs ++ blocksL l0 fr i (l0.length - i)) ∧ Aside0 (Mq w B8 l0.length (firstAt l0 0) B3 (ts.length + l0.length) (mark (leadK l0)) wr) ∧ Aside0 (Kd.S k35 35 wr w.heap.size (fun _ => True) v9 bs)) (fun _ _ v66 _ => ((l0.length : Int) - intOf v66).toNat)
            case atStart => exact ⟨0, 0, [], rfl, rfl, Nat.zero_le _, ⟨by simp⟩, HV, HQ, HO9⟩
            case round =>
              clear HQ HO9 HV
              obtain ⟨i, fr, bs, rfl, rfl, hi, HF, HG, HQ, HO⟩ := hrel
              by_cases c1 : i < l0.length
              · obtain ⟨x, hx⟩ : ∃ x, x = rd_T46 l0 (i : Int) := ⟨_, rfl⟩
                obtain ⟨ad, e1, hx0, hx1, hx2, hx3⟩ := at_I HR.out HQ.out.below c1 hx
                cases e1
                have HX := Aside0.mk hx
                have HI : Aside0 (i < l0.length) := ⟨c1⟩
                have c1b : decide ((i : Int) < (l0.length : Int)) = true := decide_eq_true (by omega)
                have p5 : (0 ≤ (i : Int)) = True := eq_true (by omega)
                have p6 : ((i : Int) < (l0.length : Int)) = True := eq_true (by omega)
                have HW := Aside0.mk (wrap_next (show i < 4398046511104 by omega))
                have HRW : Aside0 (Rws w [] wr) := ⟨⟨fun _ h => by simp at h, by simp, HQ.out.below⟩⟩
                have HG : Aside0 (r = bs ++ (if goesOn l0 i = true then blocksL l0 fr (i + 1) (l0.length - (i + 1)) else blkOf l0 fr i :: blocksL l0 (i + 1) (i + 1) (l0.length - (i + 1)))) := ⟨by rw [HG.out, show l0.length - i = (l0.length - (i + 1)) + 1 by omega]; rfl⟩
                clear hx
                by_cases c2 : i + 1 < l0.length
                · have c2b : decide ((i : Int) + 1 < (l0.length : Int)) = true := decide_eq_true (by omega)
                  obtain ⟨y, hy⟩ : ∃ y, y = rd_T46 l0 ((i + 1 : Nat) : Int) := ⟨_, rfl⟩
                  have HY := Aside0.mk hy
                  have HC2 := Aside0.mk c2
                  have HKY : Aside0 (I64 y.f0) := ⟨by have := atsOk_at HOA.out c2; rw [← hy] at this; exact this⟩
                  have p7 : (0 ≤ (i : Int) + 1) = True := eq_true (by omega)
                  have p8 : ((i : Int) + 1 < (l0.length : Int)) = True := eq_true (by omega)
                  have p9 : ((i : Int) + 1).toNat = i + 1 := by omega
                  by_cases c3 : y.f0 ∈ leadK l0
                  · have hgo : goesOn l0 i = false := by unfold goesOn; rw [← hy, decide_eq_true c3]; simp
                    have HG : Aside0 (r = bs ++ (blkOf l0 fr i :: blocksL l0 (i + 1) (i + 1) (l0.length - (i + 1)))) := ⟨by rw [HG.out, hgo, if_neg (by decide)]⟩
                    have HMG : Aside0 ((mark (leadK l0) y.f0).getD 0 = 1) := ⟨by rw [mark_get, if_pos c3]⟩
                    clear hy c2 c3 hgo
                    go_wp2_with (first | ((with_reducible refine gate_dst (N := 12) rfl ?_); refine rw_alloc rfl 46 rfl (cs := #[.int .i64 0, .int .u8 0, .int .i64 0, .int .i64 0]) (by kernel_rfl) HRW.out ?_; intro b12 w_ hg9 hX hb9; replace HO := Aside0.mk (Kd.S_below (Kd.S_elderB HO.out b12 (by omega)) hb9); replace HQ := Aside0.mk (HQ.out.step hb9); replace HRW := Aside0.mk hX; clear hX hg9 hb9) | ((with_reducible refine gate_store (t := 46) (p := 12) rfl ?_); refine rw_store rfl 46 rfl rfl (cs' := #[.int .i64 x.f0, .int .u8 x.f1, .int .i64 x.f2, .int .i64 x.f3]) rfl [] HRW.out (by kernel_rfl) rfl (by show _ = _; kernel_rfl) ?_; intro w_ hX hk9; (try simp only [List.nil_append] at hX); replace HO := Aside0.mk (Kd.S_mono (Kd.S_step HO.out (fun j hj hlt => hk9.2 j hlt hj.2)) (fun _ _ => trivial) : Kd.S k35 35 w_ w.heap.size (fun _ => True) _ bs); replace HQ := Aside0.mk (HQ.out.kept (HRW.out.mem List.mem_cons_self) hk9 hX.below); replace HRW := Aside0.mk hX; clear hX hk9 hx0 hx1 hx2 hx3; obtain ⟨ad', e1, hy0, _, _, _⟩ := at_I HR.out HQ.out.below HC2.out HY.out; cases e1) | ((with_reducible refine gate_dst (N := 84) rfl ?_); refine gate_guard (by rfl) ?_; dsimp only; refine im_look rfl rfl rfl HQ.out.own2 rfl HKY.out ?_; rw [HMG.out]))
                    obtain ⟨z, hz⟩ : ∃ z, z = rd_T46 l0 (fr : Int) := ⟨_, rfl⟩
                    have HZ := Aside0.mk hz
                    have HFL : Aside0 (fr < l0.length) := ⟨by have := HF.out; have := HI.out; omega⟩
                    have pf5 : (0 ≤ (fr : Int)) = True := eq_true (by omega)
                    have pf6 : ((fr : Int) < (l0.length : Int)) = True := eq_true (by have := HFL.out; omega)
                    have HG : Aside0 (r = bs ++ (⟨z.f0, x.f0, (nextL x).filter fun a => (firstAt l0 0 a).isSome⟩ :: blocksL l0 (i + 1) (i + 1) (l0.length - (i + 1)))) := ⟨by rw [HG.out]; unfold blkOf; rw [← hz, ← HX.out]⟩
                    clear hz
                    (try simp only [Act.put, List.setIfInBounds_toArray, List.set_cons_zero, List.set_cons_succ])
                    refine wp_region_held_drew (S := fun w' => Rws w [(b12, 46, #[.int .i64 x.f0, .int .u8 x.f1, .int .i64 x.f2, .int .i64 x.f3])] w') (by kernel_rfl) ?_ (fun hHeld => ?_)
                    · exact HRW.out.drewN 1
                    replace HRW := Aside0.mk (HRW.out.drewN 1)
                    replace HQ := Aside0.mk (HQ.out.step (pw_below_drewN (Below.refl _ _) 1))
                    replace HO := Aside0.mk (Kd.S_drewN HO.out 1)
                    refine take_dst (i := 0) (v := ?_) 87 rfl rfl (by kernel_rfl) (by kernel_rfl) (by kernel_rfl) (fun _ _ _ h => h) (Or.inl ⟨by rfl, ?_⟩) (by assumption) ?_
                    rotate_left
                    · intro w9 hSw
                      have f0 := blk_cell (hSw.mem List.mem_cons_self) 0
                      obtain ⟨ad', e1, hz0, _⟩ := at_I HR.out hSw.below HFL.out HZ.out
                      cases e1
                      go_simp
                      try with_reducible rfl
                    (try simp only [Act.put, List.setIfInBounds_toArray, List.set_cons_zero, List.set_cons_succ])
                    refine take_dst (i := 1) (v := ?_) 88 rfl rfl (by kernel_rfl) (by kernel_rfl) (by kernel_rfl) (fun _ _ _ h => h) (Or.inl ⟨by rfl, ?_⟩) (by assumption) ?_
                    rotate_left
                    · intro w9 hSw
                      have f0 := blk_cell (hSw.mem List.mem_cons_self) 0
                      obtain ⟨ad', e1, hz0, _⟩ := at_I HR.out hSw.below HFL.out HZ.out
                      cases e1
                      go_simp
                      try with_reducible rfl
                    (try simp only [Act.put, List.setIfInBounds_toArray, List.set_cons_zero, List.set_cons_succ])
                    refine take_dst (i := 2) (v := ?_) 89 rfl rfl (by kernel_rfl) (by kernel_rfl) (by kernel_rfl) (fun _ _ _ h => h) (Or.inl ⟨by rfl, ?_⟩) (by assumption) ?_
                    rotate_left
                    · intro w9 hSw
                      have f0 := blk_cell (hSw.mem List.mem_cons_self) 0
                      obtain ⟨ad', e1, hz0, _⟩ := at_I HR.out hSw.below HFL.out HZ.out
                      cases e1
                      go_simp
                      try with_reducible rfl
                    (try simp only [Act.put, List.setIfInBounds_toArray, List.set_cons_zero, List.set_cons_succ])
                    refine take_dst (i := 3) (v := ?_) 90 rfl rfl (by kernel_rfl) (by kernel_rfl) (by kernel_rfl) (fun _ _ _ h => h) (Or.inl ⟨by rfl, ?_⟩) (by assumption) ?_
                    rotate_left
                    · intro w9 hSw
                      have f0 := blk_cell (hSw.mem List.mem_cons_self) 0
                      obtain ⟨ad', e1, hz0, _⟩ := at_I HR.out hSw.below HFL.out HZ.out
                      cases e1
                      go_simp
                      try with_reducible rfl
                    (try simp only [Act.put, List.setIfInBounds_toArray, List.set_cons_zero, List.set_cons_succ])
                    refine take_dst (i := 4) (v := ?_) 91 rfl rfl (by kernel_rfl) (by kernel_rfl) (by kernel_rfl) (fun _ _ _ h => h) (Or.inl ⟨by rfl, ?_⟩) (by assumption) ?_
                    rotate_left
                    · intro w9 hSw
                      have f0 := blk_cell (hSw.mem List.mem_cons_self) 0
                      obtain ⟨ad', e1, hz0, _⟩ := at_I HR.out hSw.below HFL.out HZ.out
                      cases e1
                      go_simp
                      try with_reducible rfl
                    (try simp only [Act.put, List.setIfInBounds_toArray, List.set_cons_zero, List.set_cons_succ])
                    refine take_dst (i := 5) (v := ?_) 92 rfl rfl (by kernel_rfl) (by kernel_rfl) (by kernel_rfl) (fun _ _ _ h => h) (Or.inl ⟨by rfl, ?_⟩) (by assumption) ?_
                    rotate_left
                    · intro w9 hSw
                      have f0 := blk_cell (hSw.mem List.mem_cons_self) 0
                      obtain ⟨ad', e1, hz0, _⟩ := at_I HR.out hSw.below HFL.out HZ.out
                      cases e1
                      go_simp
                      try with_reducible rfl
                    (try simp only [Act.put, List.setIfInBounds_toArray, List.set_cons_zero, List.set_cons_succ])
                    refine take_dst (i := 6) (v := ?_) 93 rfl rfl (by kernel_rfl) (by kernel_rfl) (by kernel_rfl) (fun _ _ _ h => h) (Or.inl ⟨by rfl, ?_⟩) (by assumption) ?_
                    rotate_left
                    · intro w9 hSw
                      have f0 := blk_cell (hSw.mem List.mem_cons_self) 0
                      obtain ⟨ad', e1, hz0, _⟩ := at_I HR.out hSw.below HFL.out HZ.out
                      cases e1
                      go_simp
                      try with_reducible rfl
                    (try simp only [Act.put, List.setIfInBounds_toArray, List.set_cons_zero, List.set_cons_succ])
                    refine take_dst (i := 7) (v := ?_) 94 rfl rfl (by kernel_rfl) (by kernel_rfl) (by kernel_rfl) (fun _ _ _ h => h) (Or.inl ⟨by rfl, ?_⟩) (by assumption) ?_
                    rotate_left
                    · intro w9 hSw
                      have f0 := blk_cell (hSw.mem List.mem_cons_self) 0
                      obtain ⟨ad', e1, hz0, _⟩ := at_I HR.out hSw.below HFL.out HZ.out
                      cases e1
                      go_simp
                      try with_reducible rfl
                    (try simp only [Act.put, List.setIfInBounds_toArray, List.set_cons_zero, List.set_cons_succ])
                    refine wpAnyH_ready (rs := [8]) (by kernel_rfl) (by simp) ?_
                    refine AllReadyH.cons rfl (fun K hK => ?_) AllReadyH.nil
                    refine Eq.mpr (if_pos (by rfl)) ?_
                    refine rw_alloc_wp 35 rfl (cs := #[.int .i64 0, .int .i64 0, .slice none 0 0]) (by kernel_rfl) HRW.out ?_
                    intro b13 w7 hg9 hX hb9
                    replace HO := Aside0.mk (Kd.S_below (Kd.S_elderB HO.out b13 (Nat.le_of_eq hg9.symm)) hb9)
                    replace HQ := Aside0.mk (HQ.out.step hb9)
                    replace HRW := Aside0.mk hX
                    refine hK.out _ _ hX.tail (fun hHeld => ?_)
                    (try simp only [Act.put, List.setIfInBounds_toArray, List.set_cons_zero, List.set_cons_succ])
                    clear hK K hX hg9 hb9
                    refine wpAnyH_ready (rs := [9]) (by kernel_rfl) (by simp) ?_
                    refine AllReadyH.cons rfl (fun K hK => ?_) AllReadyH.nil
                    refine Eq.mpr (if_pos (by rfl)) ?_
                    refine rw_store_wp 35 rfl rfl (cs' := #[.int .i64 z.f0, .int .i64 x.f0, .slice none 0 0]) rfl [] HRW.out (by kernel_rfl) rfl (by show _ = _; kernel_rfl) ?_
                    intro w8 hX hk9
                    (try simp only [List.nil_append] at hX)
                    replace HO := Aside0.mk (Kd.S_step HO.out (fun j hj hlt => hk9.2 j hlt hj.2))
                    replace HQ := Aside0.mk (HQ.out.kept (HRW.out.mem List.mem_cons_self) hk9 hX.below)
                    replace HRW := Aside0.mk hX
                    refine hK.out _ _ hX.tail (fun hHeld => ?_)
                    (try simp only [Act.put, List.setIfInBounds_toArray, List.set_cons_zero, List.set_cons_succ])
                    clear hK K hX hk9
                    refine wpAnyH_done (by kernel_rfl) ?_ _
                    go_wp2_with (first | ((with_reducible refine gate_dst (N := 95) rfl ?_); refine rw_load rfl 46 rfl rfl HRW.out (List.mem_cons_of_mem _ List.mem_cons_self) _ Try.underlying46 rfl (by kernel_rfl) ?_))
                    have hxk : I64 x.f2 := by have := asOk_at HO0.out HI.out; rw [← HX.out] at this; exact this
                    have HNK := Aside0.mk (nextL_ok hxk)
                    have hnf : flow_Next.f x.f0 x.f1 x.f2 x.f3 = some (nextL x) := by
                      unfold flow_Next.f
                      rw [if_pos (by unfold okB; rw [decide_eq_true hxk.1, decide_eq_true hxk.2]; rfl)]
                    have HNF := Aside0.mk hnf
                    clear hxk hnf
                    refine (flow_Next.calls x.f0 x.f1 x.f2 x.f3 (nextL x) _ HNF.out).mono ?_
                    rintro e w9 ⟨v96, rfl, hR, hb⟩
                    obtain ⟨A96, c96, rfl⟩ := Kd.R_slice hR
                    obtain ⟨nx, hnx⟩ : ∃ nx, nx = nextL x := ⟨_, rfl⟩
                    rw [← hnx] at hR ⊢
                    have HNX := Aside0.mk hnx
                    have HNK : Aside0 (∀ y ∈ nx, I64 y) := ⟨by rw [hnx]; exact HNK.out⟩
                    have hnl : nx.length ≤ 2 := by rw [hnx]; exact nextL_le2 x
                    have HN : Aside0 (Kd.R (Kd.int .i64) 3 w9 w.heap.size (fun j => True ∧ some j ≠ (Value.slice none 0 0).ownBlock) (.slice A96 nx.length c96) nx) := ⟨Kd.R_apart_nil (Kd.R_lower hR HRW.out.below.size)⟩
                    replace HO : Aside0 (Kd.S k35 35 w9 w.heap.size (fun j => (True ∧ j ≠ b13) ∧ some j ≠ (Value.slice none 0 0).ownBlock) _ bs) := ⟨Kd.S_apart_nil (Kd.S_below HO.out hb)⟩
                    replace HQ := Aside0.mk (HQ.out.step hb)
                    replace HRW := Aside0.mk (HRW.out.step hb)
                    have HV2 : Aside0 (Kd.R (Kd.int .i64) 3 w9 w.heap.size (fun _ => True) (.slice none 0 0) []) := ⟨Kd.R_nil _ _ _ _ _⟩
                    clear hR hb hnx
                    go_wp2_with fail
                    go_loopw [98] (fun v98 wr => ∃ (j : Nat) (v2 : Value) (ns : List Int), v98 = .int .i64 (j : Int) ∧ j ≤ nx.length ∧ Aside0 (ns = (nx.take j).filter fun a => (firstAt l0 0 a).isSome) ∧ Aside0 (Mq w B8 l0.length (firstAt l0 0) B3 (ts.length + l0.length) (mark (leadK l0)) wr) ∧ Aside0 (Rws w [(b13, 35, #[.int .i64 z.f0, .int .i64 x.f0, v2]), (b12, 46, #[.int .i64 x.f0, .int .u8 x.f1, .int .i64 x.f2, .int .i64 x.f3])] wr) ∧ Aside0 (Kd.R (Kd.int .i64) 3 wr w.heap.size (fun _ => True) v2 ns) ∧ Aside0 (Kd.S k35 35 wr w.heap.size (fun j => (True ∧ j ≠ b13) ∧ some j ≠ v2.ownBlock) u9 bs) ∧ Aside0 (Kd.R (Kd.int .i64) 3 wr w.heap.size (fun j => True ∧ some j ≠ v2.ownBlock) (.slice A96 nx.length c96) nx)) (fun v98 _ => ((nx.length : Int) - intOf v98).toNat)
                    case atStart => exact ⟨0, _, [], rfl, Nat.zero_le _, ⟨by simp⟩, HQ, HRW, HV2, HO, HN⟩
                    case round =>
                      clear HQ HRW HV2 HO HN
                      obtain ⟨j, v2, ns, rfl, hj, HNS, HQ, HRW, HV2, HO, HN⟩ := hrel
                      obtain ⟨A2, c2', e2'⟩ := Kd.R_slice HV2.out
                      have HE2 := Aside0.mk e2'
                      by_cases d1 : j < nx.length
                      · have d1b : decide ((j : Int) < (nx.length : Int)) = true := decide_eq_true (by omega)
                        obtain ⟨ad2, e1, hc⟩ := Kd.at_int (Kd.R_reads' HN.out).2.2 (j : Int) (by omega) (by omega)
                        cases e1
                        simp only [Int.toNat_natCast] at hc
                        have q5 : (0 ≤ (j : Int)) = True := eq_true (by omega)
                        have q6 : ((j : Int) < (nx.length : Int)) = True := eq_true (by omega)
                        have HKA := Aside0.mk (HNK.out _ (rd_memI d1))
                        have HNT := Aside0.mk (filter_take (fun a => (firstAt l0 0 a).isSome) d1)
                        have HWJ := Aside0.mk (wrap_next (show j < 4398046511104 by omega))
                        generalize rd nx (j : Int) = a at hc HKA HNT
                        cases hf : firstAt l0 0 a with
                        | none =>
                          have HFA := Aside0.mk hf
                          have HNS2 : Aside0 (ns = (nx.take (j + 1)).filter fun a => (firstAt l0 0 a).isSome) := ⟨by rw [HNT.out, HFA.out, HNS.out]; simp⟩
                          clear hf e2'
                          go_wp2_with (first | ((with_reducible refine gate_dst (N := 105) rfl ?_); refine im_look_ok rfl rfl rfl HQ.out.own1 rfl HKA.out ?_; rw [HFA.out]; simp only [Option.getD_none, Option.isSome_none]))
                          clear hc
                          go_roundw
                          case rel => exact ⟨j + 1, v2, ns, by have := HWJ.out; first | rfl | (simp; done), by omega, HNS2, HQ, HRW, HV2, HO, HN⟩
                          case measure => simp [intOf]; omega
                        | some iz =>
                          have HFA := Aside0.mk hf
                          have HNS2 : Aside0 (ns ++ [a] = (nx.take (j + 1)).filter fun a => (firstAt l0 0 a).isSome) := ⟨by rw [HNT.out, HFA.out, HNS.out]; simp⟩
                          have HNL : Aside0 (ns.length ≤ 2) := ⟨by rw [HNS.out]; exact Nat.le_trans (List.length_filter_le _ _) (by rw [List.length_take]; omega)⟩
                          subst e2'
                          have g2 := blk_cell (HRW.out.mem List.mem_cons_self) 2
                          clear hf
                          go_wp2_with (first | ((with_reducible refine gate_dst (N := 105) rfl ?_); refine im_look_ok rfl rfl rfl HQ.out.own1 rfl HKA.out ?_; rw [HFA.out]; simp only [Option.getD_some, Option.isSome_some]) | ((with_reducible refine gate_dst (N := 112) rfl ?_); refine Kd.R_lit (Kd.int .i64) _ 3 ?hg (N := 112) ?hd (xs := ([a] : List Int)) (inner := [.int .i64 a]) (ok := fun _ => True) (okp := fun _ => True) ?hr ?hp (fun _ hk => hk) trivial HQ.out.below HQ.out.below.size (by simp) ?_; (case hd => rfl); (case hg => rfl); (case hr => first | (go_simp; done) | (go_simp; rfl)); (case hp => exact (Reps.one (show Kd.M (Kd.int .i64) _ _ _ a [.int .i64 a] from rfl) (Reps.none _ _))); intro v112 w3 ho1 hb1 hg1 _; have hbn := below_none hg1; obtain ⟨A3, c3', e3'⟩ := Kd.R_slice ho1; subst e3'; have HL1 := Aside0.mk (Kd.R_reads' ho1).2.2; replace HQ := Aside0.mk (HQ.out.step hbn); replace HRW := Aside0.mk (HRW.out.step hbn); replace HV2 := Aside0.mk (Kd.R_below HV2.out hbn); replace HO := Aside0.mk (Kd.S_below HO.out hbn); replace HN := Aside0.mk (Kd.R_below HN.out hbn); clear ho1 hb1 hg1 hbn hc g2) | (at_builtin; refine Kd.R_append_rows (Kd.int .i64) (w0 := w) w.heap.size rfl (.tmp 110) (.tmp 112) 27 3 (.int .i64 0) 8 rfl Try.underlying27 info3 rfl (by decide) (by omega) _ ns [a] _ _ _ (fun _ => True) (fun _ => False) rfl rfl HV2.out HL1.out (fun _ _ h => h) (fun _ h => h.elim) (fun _ _ => trivial) HQ.out.below HQ.out.below.size (by have := HNL.out; simp; omega) ?_; intro v5 w4 ho hb hg hat; replace HO := Aside0.mk (Kd.S_after HO.out hg hat); replace HN := Aside0.mk (Kd.R_after HN.out hg hat); replace HRW := Aside0.mk (HRW.out.besides (Kd.R_typed HV2.out) (by intro p hp; simp at hp; rcases hp with rfl | rfl; (show (35 : Nat) ≠ 3; decide); (show (46 : Nat) ≠ 3; decide)) hg hb); replace HQ := Aside0.mk (HQ.out.grown (Kd.R_typed HV2.out) hg hb); replace HV2 := Aside0.mk ho; clear ho hb hg hat; obtain ⟨A5, c5, e5⟩ := Kd.R_slice HV2.out; subst e5) | ((with_reducible refine gate_store (t := 27) (p := 114) rfl ?_); refine rw_cell rfl 27 rfl (i := 2) rfl rfl rfl [] HRW.out (by show (_ : Nat) < 3; decide) (by kernel_rfl) ?_; intro w6 hX hk9; replace HV2 := Aside0.mk (Kd.R_mono (Kd.R_step (Kd.R_types HV2.out (HRW.out.mem List.mem_cons_self) (by intro q hq; simp [Kd.int, Kd.scalar] at hq; rw [hq]; show (_ : Nat) ≠ _; decide)) (fun j hj hlt => hk9.2 j hlt hj.2)) (fun _ _ => trivial) : Kd.R (Kd.int .i64) 3 w6 w.heap.size (fun _ => True) _ (ns ++ [a])); replace HN := Aside0.mk (Kd.R_mono (Kd.R_step (Kd.R_types HN.out (HRW.out.mem List.mem_cons_self) (by intro q hq; simp [Kd.int, Kd.scalar] at hq; rw [hq]; show (_ : Nat) ≠ _; decide)) (fun j hj hlt => hk9.2 j hlt hj.2)) (fun _ h => h.1)); replace HO := Aside0.mk (Kd.S_step HO.out (fun j hj hlt => hk9.2 j hlt hj.1.2)); replace HQ := Aside0.mk (HQ.out.kept (HRW.out.mem List.mem_cons_self) hk9 hX.below); replace HRW := Aside0.mk hX; clear hX hk9))
                          go_roundw
                          case rel => exact ⟨j + 1, .slice A5 (ns ++ [a]).length c5, ns ++ [a], by have := HWJ.out; first | rfl | (simp; done), by omega, HNS2, HQ, ⟨by rw [show (ns ++ [a]).length = ns.length + 1 from by simp]; refine Eq.mp ?_ HRW.out; kernel_rfl⟩, HV2, HO, HN⟩
                          case measure => simp [intOf]; omega
                      · have d1b : decide ((j : Int) < (nx.length : Int)) = false := decide_eq_false (by omega)
                        have d1c : decide (j < nx.length) = false := decide_eq_false (by omega)
                        have HG : Aside0 (r = bs ++ [(⟨z.f0, x.f0, ns⟩ : S35)] ++ blocksL l0 (i + 1) (i + 1) (l0.length - (i + 1))) := ⟨by rw [HG.out, HNS.out, List.take_of_length_le (by omega), HNX.out]; simp⟩
                        subst e2'
                        obtain ⟨A9, c9, e9⟩ := Kd.S_slice HO.out
                        subst e9
                        clear d1 hj
                        go_wp2_with (first | ((with_reducible refine gate_dst (N := 117) rfl ?_); refine rw_load rfl 35 rfl rfl HRW.out List.mem_cons_self _ Try.underlying35 rfl (by kernel_rfl) ?_) | (at_builtin; (refine S_append1 k35 (w0 := w) w.heap.size rfl (.tmp 116) (.tmp 118) 29 35 (.agg #[.int .i64 0, .int .i64 0, .slice none 0 0]) 40 rfl Try.underlying29 (by kernel_rfl) rfl (by show (0 : Nat) < 3; decide) (by decide) (.slice A9 bs.length c9) bs (⟨z.f0, x.f0, ns⟩ : S35) [.int .i64 z.f0, .int .i64 x.f0, .slice A2 ns.length c2'] (fun _ => True) (fun j => some j = (Value.slice A2 ns.length c2').ownBlock ∧ some j ≠ (Value.slice A9 bs.length c9).ownBlock) rfl rfl (blk_M (int_own (Kd.R_apartR HV2.out (Kd.S_R HO.out) (by intro q hq; simp [Kd.int, Kd.scalar] at hq; rw [hq]; show (3 : Nat) ≠ 35; decide)))) (fun j hj => ⟨trivial, hj.2⟩) (fun _ _ => trivial) (Kd.S_mono HO.out (fun j hj => ⟨trivial, fun h9 => hj.2 h9.1⟩)) HQ.out.below HQ.out.below.size (by have := HF.out; have := HL.out; have := HI.out; unfold maxLen; omega) (blk_fits (by have := HF.out; have := HL.out; have := HI.out; omega)) ?_; intro v7 w7 ho hb hg hat; replace HQ := Aside0.mk (HQ.out.grown (Kd.S_typed HO.out) hg hb); replace HO := Aside0.mk ho; clear ho hb hg hat)))
                        go_roundw
                        case rel => exact ⟨i + 1, i + 1, bs ++ [(⟨z.f0, x.f0, ns⟩ : S35)], by have := HW.out; first | rfl | (simp; done), by have := HW.out; first | rfl | (simp; done), by omega, ⟨⟨Nat.le_refl _, by have := HF.out; simp; omega⟩⟩, ⟨HG.out⟩, HQ, HO⟩
                        case measure => simp [intOf]; omega
                  · have hgo : goesOn l0 i = true := by unfold goesOn; rw [← hy, decide_eq_true c2, decide_eq_false c3]; rfl
                    have HG : Aside0 (r = bs ++ blocksL l0 fr (i + 1) (l0.length - (i + 1))) := ⟨by rw [HG.out, hgo, if_pos rfl]⟩
                    have HMG : Aside0 ((mark (leadK l0) y.f0).getD 0 = 0) := ⟨by rw [mark_get, if_neg c3]⟩
                    clear hy c2 c3 hgo
                    go_wp2_with (first | ((with_reducible refine gate_dst (N := 12) rfl ?_); refine rw_alloc rfl 46 rfl (cs := #[.int .i64 0, .int .u8 0, .int .i64 0, .int .i64 0]) (by kernel_rfl) HRW.out ?_; intro b12 w_ hg9 hX hb9; replace HO := Aside0.mk (Kd.S_below (Kd.S_elderB HO.out b12 (by omega)) hb9); replace HQ := Aside0.mk (HQ.out.step hb9); replace HRW := Aside0.mk hX; clear hX hg9 hb9) | ((with_reducible refine gate_store (t := 46) (p := 12) rfl ?_); refine rw_store rfl 46 rfl rfl (cs' := #[.int .i64 x.f0, .int .u8 x.f1, .int .i64 x.f2, .int .i64 x.f3]) rfl [] HRW.out (by kernel_rfl) rfl (by show _ = _; kernel_rfl) ?_; intro w_ hX hk9; (try simp only [List.nil_append] at hX); replace HO := Aside0.mk (Kd.S_mono (Kd.S_step HO.out (fun j hj hlt => hk9.2 j hlt hj.2)) (fun _ _ => trivial) : Kd.S k35 35 w_ w.heap.size (fun _ => True) _ bs); replace HQ := Aside0.mk (HQ.out.kept (HRW.out.mem List.mem_cons_self) hk9 hX.below); replace HRW := Aside0.mk hX; clear hX hk9 hx0 hx1 hx2 hx3; obtain ⟨ad', e1, hy0, _, _, _⟩ := at_I HR.out HQ.out.below HC2.out HY.out; cases e1) | ((with_reducible refine gate_dst (N := 84) rfl ?_); refine gate_guard (by rfl) ?_; dsimp only; refine im_look rfl rfl rfl HQ.out.own2 rfl HKY.out ?_; rw [HMG.out]))
                    clear hy0
                    go_roundw
                    case rel => exact ⟨i + 1, fr, bs, by have := HW.out; first | rfl | (simp; done), rfl, by omega, ⟨⟨by have := HF.out; omega, by have := HF.out; omega⟩⟩, HG, HQ, HO⟩
                    case measure => simp [intOf]; omega
                · have c2b : decide ((i : Int) + 1 < (l0.length : Int)) = false := decide_eq_false (by omega)
                  have hgo : goesOn l0 i = false := by unfold goesOn; rw [decide_eq_false c2]; rfl
                  have HG : Aside0 (r = bs ++ (blkOf l0 fr i :: blocksL l0 (i + 1) (i + 1) (l0.length - (i + 1)))) := ⟨by rw [HG.out, hgo, if_neg (by decide)]⟩
                  clear c2 hgo
                  go_wp2_with (first | ((with_reducible refine gate_dst (N := 12) rfl ?_); refine rw_alloc rfl 46 rfl (cs := #[.int .i64 0, .int .u8 0, .int .i64 0, .int .i64 0]) (by kernel_rfl) HRW.out ?_; intro b12 w_ hg9 hX hb9; replace HO := Aside0.mk (Kd.S_below (Kd.S_elderB HO.out b12 (by omega)) hb9); replace HQ := Aside0.mk (HQ.out.step hb9); replace HRW := Aside0.mk hX; clear hX hg9 hb9) | ((with_reducible refine gate_store (t := 46) (p := 12) rfl ?_); refine rw_store rfl 46 rfl rfl (cs' := #[.int .i64 x.f0, .int .u8 x.f1, .int .i64 x.f2, .int .i64 x.f3]) rfl [] HRW.out (by kernel_rfl) rfl (by show _ = _; kernel_rfl) ?_; intro w_ hX hk9; (try simp only [List.nil_append] at hX); replace HO := Aside0.mk (Kd.S_mono (Kd.S_step HO.out (fun j hj hlt => hk9.2 j hlt hj.2)) (fun _ _ => trivial) : Kd.S k35 35 w_ w.heap.size (fun _ => True) _ bs); replace HQ := Aside0.mk (HQ.out.kept (HRW.out.mem List.mem_cons_self) hk9 hX.below); replace HRW := Aside0.mk hX; clear hX hk9 hx0 hx1 hx2 hx3))
                  obtain ⟨z, hz⟩ : ∃ z, z = rd_T46 l0 (fr : Int) := ⟨_, rfl⟩
                  have HZ := Aside0.mk hz
                  have HFL : Aside0 (fr < l0.length) := ⟨by have := HF.out; have := HI.out; omega⟩
                  have pf5 : (0 ≤ (fr : Int)) = True := eq_true (by omega)
                  have pf6 : ((fr : Int) < (l0.length : Int)) = True := eq_true (by have := HFL.out; omega)
                  have HG : Aside0 (r = bs ++ (⟨z.f0, x.f0, (nextL x).filter fun a => (firstAt l0 0 a).isSome⟩ :: blocksL l0 (i + 1) (i + 1) (l0.length - (i + 1)))) := ⟨by rw [HG.out]; unfold blkOf; rw [← hz, ← HX.out]⟩
                  clear hz
                  (try simp only [Act.put, List.setIfInBounds_toArray, List.set_cons_zero, List.set_cons_succ])
                  refine wp_region_held_drew (S := fun w' => Rws w [(b12, 46, #[.int .i64 x.f0, .int .u8 x.f1, .int .i64 x.f2, .int .i64 x.f3])] w') (by kernel_rfl) ?_ (fun hHeld => ?_)
                  · exact HRW.out.drewN 1
                  replace HRW := Aside0.mk (HRW.out.drewN 1)
                  replace HQ := Aside0.mk (HQ.out.step (pw_below_drewN (Below.refl _ _) 1))
                  replace HO := Aside0.mk (Kd.S_drewN HO.out 1)
                  refine take_dst (i := 0) (v := ?_) 87 rfl rfl (by kernel_rfl) (by kernel_rfl) (by kernel_rfl) (fun _ _ _ h => h) (Or.inl ⟨by rfl, ?_⟩) (by assumption) ?_
                  rotate_left
                  · intro w9 hSw
                    have f0 := blk_cell (hSw.mem List.mem_cons_self) 0
                    obtain ⟨ad', e1, hz0, _⟩ := at_I HR.out hSw.below HFL.out HZ.out
                    cases e1
                    go_simp
                    try with_reducible rfl
                  (try simp only [Act.put, List.setIfInBounds_toArray, List.set_cons_zero, List.set_cons_succ])
                  refine take_dst (i := 1) (v := ?_) 88 rfl rfl (by kernel_rfl) (by kernel_rfl) (by kernel_rfl) (fun _ _ _ h => h) (Or.inl ⟨by rfl, ?_⟩) (by assumption) ?_
                  rotate_left
                  · intro w9 hSw
                    have f0 := blk_cell (hSw.mem List.mem_cons_self) 0
                    obtain ⟨ad', e1, hz0, _⟩ := at_I HR.out hSw.below HFL.out HZ.out
                    cases e1
                    go_simp
                    try with_reducible rfl
                  (try simp only [Act.put, List.setIfInBounds_toArray, List.set_cons_zero, List.set_cons_succ])
                  refine take_dst (i := 2) (v := ?_) 89 rfl rfl (by kernel_rfl) (by kernel_rfl) (by kernel_rfl) (fun _ _ _ h => h) (Or.inl ⟨by rfl, ?_⟩) (by assumption) ?_
                  rotate_left
                  · intro w9 hSw
                    have f0 := blk_cell (hSw.mem List.mem_cons_self) 0
                    obtain ⟨ad', e1, hz0, _⟩ := at_I HR.out hSw.below HFL.out HZ.out
                    cases e1
                    go_simp
                    try with_reducible rfl
                  (try simp only [Act.put, List.setIfInBounds_toArray, List.set_cons_zero, List.set_cons_succ])
                  refine take_dst (i := 3) (v := ?_) 90 rfl rfl (by kernel_rfl) (by kernel_rfl) (by kernel_rfl) (fun _ _ _ h => h) (Or.inl ⟨by rfl, ?_⟩) (by assumption) ?_
                  rotate_left
                  · intro w9 hSw
                    have f0 := blk_cell (hSw.mem List.mem_cons_self) 0
                    obtain ⟨ad', e1, hz0, _⟩ := at_I HR.out hSw.below HFL.out HZ.out
                    cases e1
                    go_simp
                    try with_reducible rfl
                  (try simp only [Act.put, List.setIfInBounds_toArray, List.set_cons_zero, List.set_cons_succ])
                  refine take_dst (i := 4) (v := ?_) 91 rfl rfl (by kernel_rfl) (by kernel_rfl) (by kernel_rfl) (fun _ _ _ h => h) (Or.inl ⟨by rfl, ?_⟩) (by assumption) ?_
                  rotate_left
                  · intro w9 hSw
                    have f0 := blk_cell (hSw.mem List.mem_cons_self) 0
                    obtain ⟨ad', e1, hz0, _⟩ := at_I HR.out hSw.below HFL.out HZ.out
                    cases e1
                    go_simp
                    try with_reducible rfl
                  (try simp only [Act.put, List.setIfInBounds_toArray, List.set_cons_zero, List.set_cons_succ])
                  refine take_dst (i := 5) (v := ?_) 92 rfl rfl (by kernel_rfl) (by kernel_rfl) (by kernel_rfl) (fun _ _ _ h => h) (Or.inl ⟨by rfl, ?_⟩) (by assumption) ?_
                  rotate_left
                  · intro w9 hSw
                    have f0 := blk_cell (hSw.mem List.mem_cons_self) 0
                    obtain ⟨ad', e1, hz0, _⟩ := at_I HR.out hSw.below HFL.out HZ.out
                    cases e1
                    go_simp
                    try with_reducible rfl
                  (try simp only [Act.put, List.setIfInBounds_toArray, List.set_cons_zero, List.set_cons_succ])
                  refine take_dst (i := 6) (v := ?_) 93 rfl rfl (by kernel_rfl) (by kernel_rfl) (by kernel_rfl) (fun _ _ _ h => h) (Or.inl ⟨by rfl, ?_⟩) (by assumption) ?_
                  rotate_left
                  · intro w9 hSw
                    have f0 := blk_cell (hSw.mem List.mem_cons_self) 0
                    obtain ⟨ad', e1, hz0, _⟩ := at_I HR.out hSw.below HFL.out HZ.out
                    cases e1
                    go_simp
                    try with_reducible rfl
                  (try simp only [Act.put, List.setIfInBounds_toArray, List.set_cons_zero, List.set_cons_succ])
                  refine take_dst (i := 7) (v := ?_) 94 rfl rfl (by kernel_rfl) (by kernel_rfl) (by kernel_rfl) (fun _ _ _ h => h) (Or.inl ⟨by rfl, ?_⟩) (by assumption) ?_
                  rotate_left
                  · intro w9 hSw
                    have f0 := blk_cell (hSw.mem List.mem_cons_self) 0
                    obtain ⟨ad', e1, hz0, _⟩ := at_I HR.out hSw.below HFL.out HZ.out
                    cases e1
                    go_simp
                    try with_reducible rfl
                  (try simp only [Act.put, List.setIfInBounds_toArray, List.set_cons_zero, List.set_cons_succ])
                  refine wpAnyH_ready (rs := [8]) (by kernel_rfl) (by simp) ?_
                  refine AllReadyH.cons rfl (fun K hK => ?_) AllReadyH.nil
                  refine Eq.mpr (if_pos (by rfl)) ?_
                  refine rw_alloc_wp 35 rfl (cs := #[.int .i64 0, .int .i64 0, .slice none 0 0]) (by kernel_rfl) HRW.out ?_
                  intro b13 w7 hg9 hX hb9
                  replace HO := Aside0.mk (Kd.S_below (Kd.S_elderB HO.out b13 (Nat.le_of_eq hg9.symm)) hb9)
                  replace HQ := Aside0.mk (HQ.out.step hb9)
                  replace HRW := Aside0.mk hX
                  refine hK.out _ _ hX.tail (fun hHeld => ?_)
                  (try simp only [Act.put, List.setIfInBounds_toArray, List.set_cons_zero, List.set_cons_succ])
                  clear hK K hX hg9 hb9
                  refine wpAnyH_ready (rs := [9]) (by kernel_rfl) (by simp) ?_
                  refine AllReadyH.cons rfl (fun K hK => ?_) AllReadyH.nil
                  refine Eq.mpr (if_pos (by rfl)) ?_
                  refine rw_store_wp 35 rfl rfl (cs' := #[.int .i64 z.f0, .int .i64 x.f0, .slice none 0 0]) rfl [] HRW.out (by kernel_rfl) rfl (by show _ = _; kernel_rfl) ?_
                  intro w8 hX hk9
                  (try simp only [List.nil_append] at hX)
                  replace HO := Aside0.mk (Kd.S_step HO.out (fun j hj hlt => hk9.2 j hlt hj.2))
                  replace HQ := Aside0.mk (HQ.out.kept (HRW.out.mem List.mem_cons_self) hk9 hX.below)
                  replace HRW := Aside0.mk hX
                  refine hK.out _ _ hX.tail (fun hHeld => ?_)
                  (try simp only [Act.put, List.setIfInBounds_toArray, List.set_cons_zero, List.set_cons_succ])
                  clear hK K hX hk9
                  refine wpAnyH_done (by kernel_rfl) ?_ _
                  go_wp2_with (first | ((with_reducible refine gate_dst (N := 95) rfl ?_); refine rw_load rfl 46 rfl rfl HRW.out (List.mem_cons_of_mem _ List.mem_cons_self) _ Try.underlying46 rfl (by kernel_rfl) ?_))
                  have hxk : I64 x.f2 := by have := asOk_at HO0.out HI.out; rw [← HX.out] at this; exact this
                  have HNK := Aside0.mk (nextL_ok hxk)
                  have hnf : flow_Next.f x.f0 x.f1 x.f2 x.f3 = some (nextL x) := by
                    unfold flow_Next.f
                    rw [if_pos (by unfold okB; rw [decide_eq_true hxk.1, decide_eq_true hxk.2]; rfl)]
                  have HNF := Aside0.mk hnf
                  clear hxk hnf
                  refine (flow_Next.calls x.f0 x.f1 x.f2 x.f3 (nextL x) _ HNF.out).mono ?_
                  rintro e w9 ⟨v96, rfl, hR, hb⟩
                  obtain ⟨A96, c96, rfl⟩ := Kd.R_slice hR
                  obtain ⟨nx, hnx⟩ : ∃ nx, nx = nextL x := ⟨_, rfl⟩
                  rw [← hnx] at hR ⊢
                  have HNX := Aside0.mk hnx
                  have HNK : Aside0 (∀ y ∈ nx, I64 y) := ⟨by rw [hnx]; exact HNK.out⟩
                  have hnl : nx.length ≤ 2 := by rw [hnx]; exact nextL_le2 x
                  have HN : Aside0 (Kd.R (Kd.int .i64) 3 w9 w.heap.size (fun j => True ∧ some j ≠ (Value.slice none 0 0).ownBlock) (.slice A96 nx.length c96) nx) := ⟨Kd.R_apart_nil (Kd.R_lower hR HRW.out.below.size)⟩
                  replace HO : Aside0 (Kd.S k35 35 w9 w.heap.size (fun j => (True ∧ j ≠ b13) ∧ some j ≠ (Value.slice none 0 0).ownBlock) _ bs) := ⟨Kd.S_apart_nil (Kd.S_below HO.out hb)⟩
                  replace HQ := Aside0.mk (HQ.out.step hb)
                  replace HRW := Aside0.mk (HRW.out.step hb)
                  have HV2 : Aside0 (Kd.R (Kd.int .i64) 3 w9 w.heap.size (fun _ => True) (.slice none 0 0) []) := ⟨Kd.R_nil _ _ _ _ _⟩
                  clear hR hb hnx
                  go_wp2_with fail
                  go_loopw [98] (fun v98 wr => ∃ (j : Nat) (v2 : Value) (ns : List Int), v98 = .int .i64 (j : Int) ∧ j ≤ nx.length ∧ Aside0 (ns = (nx.take j).filter fun a => (firstAt l0 0 a).isSome) ∧ Aside0 (Mq w B8 l0.length (firstAt l0 0) B3 (ts.length + l0.length) (mark (leadK l0)) wr) ∧ Aside0 (Rws w [(b13, 35, #[.int .i64 z.f0, .int .i64 x.f0, v2]), (b12, 46, #[.int .i64 x.f0, .int .u8 x.f1, .int .i64 x.f2, .int .i64 x.f3])] wr) ∧ Aside0 (Kd.R (Kd.int .i64) 3 wr w.heap.size (fun _ => True) v2 ns) ∧ Aside0 (Kd.S k35 35 wr w.heap.size (fun j => (True ∧ j ≠ b13) ∧ some j ≠ v2.ownBlock) u9 bs) ∧ Aside0 (Kd.R (Kd.int .i64) 3 wr w.heap.size (fun j => True ∧ some j ≠ v2.ownBlock) (.slice A96 nx.length c96) nx)) (fun v98 _ => ((nx.length : Int) - intOf v98).toNat)
                  case atStart => exact ⟨0, _, [], rfl, Nat.zero_le _, ⟨by simp⟩, HQ, HRW, HV2, HO, HN⟩
                  case round =>
                    clear HQ HRW HV2 HO HN
                    obtain ⟨j, v2, ns, rfl, hj, HNS, HQ, HRW, HV2, HO, HN⟩ := hrel
                    obtain ⟨A2, c2', e2'⟩ := Kd.R_slice HV2.out
                    have HE2 := Aside0.mk e2'
                    by_cases d1 : j < nx.length
                    · have d1b : decide ((j : Int) < (nx.length : Int)) = true := decide_eq_true (by omega)
                      obtain ⟨ad2, e1, hc⟩ := Kd.at_int (Kd.R_reads' HN.out).2.2 (j : Int) (by omega) (by omega)
                      cases e1
                      simp only [Int.toNat_natCast] at hc
                      have q5 : (0 ≤ (j : Int)) = True := eq_true (by omega)
                      have q6 : ((j : Int) < (nx.length : Int)) = True := eq_true (by omega)
                      have HKA := Aside0.mk (HNK.out _ (rd_memI d1))
                      have HNT := Aside0.mk (filter_take (fun a => (firstAt l0 0 a).isSome) d1)
                      have HWJ := Aside0.mk (wrap_next (show j < 4398046511104 by omega))
                      generalize rd nx (j : Int) = a at hc HKA HNT
                      cases hf : firstAt l0 0 a with
                      | none =>
                        have HFA := Aside0.mk hf
                        have HNS2 : Aside0 (ns = (nx.take (j + 1)).filter fun a => (firstAt l0 0 a).isSome) := ⟨by rw [HNT.out, HFA.out, HNS.out]; simp⟩
                        clear hf e2'
                        go_wp2_with (first | ((with_reducible refine gate_dst (N := 105) rfl ?_); refine im_look_ok rfl rfl rfl HQ.out.own1 rfl HKA.out ?_; rw [HFA.out]; simp only [Option.getD_none, Option.isSome_none]))
                        clear hc
                        go_roundw
                        case rel => exact ⟨j + 1, v2, ns, by have := HWJ.out; first | rfl | (simp; done), by omega, HNS2, HQ, HRW, HV2, HO, HN⟩
                        case measure => simp [intOf]; omega
                      | some iz =>
                        have HFA := Aside0.mk hf
                        have HNS2 : Aside0 (ns ++ [a] = (nx.take (j + 1)).filter fun a => (firstAt l0 0 a).isSome) := ⟨by rw [HNT.out, HFA.out, HNS.out]; simp⟩
                        have HNL : Aside0 (ns.length ≤ 2) := ⟨by rw [HNS.out]; exact Nat.le_trans (List.length_filter_le _ _) (by rw [List.length_take]; omega)⟩
                        subst e2'
                        have g2 := blk_cell (HRW.out.mem List.mem_cons_self) 2
                        clear hf
                        go_wp2_with (first | ((with_reducible refine gate_dst (N := 105) rfl ?_); refine im_look_ok rfl rfl rfl HQ.out.own1 rfl HKA.out ?_; rw [HFA.out]; simp only [Option.getD_some, Option.isSome_some]) | ((with_reducible refine gate_dst (N := 112) rfl ?_); refine Kd.R_lit (Kd.int .i64) _ 3 ?hg (N := 112) ?hd (xs := ([a] : List Int)) (inner := [.int .i64 a]) (ok := fun _ => True) (okp := fun _ => True) ?hr ?hp (fun _ hk => hk) trivial HQ.out.below HQ.out.below.size (by simp) ?_; (case hd => rfl); (case hg => rfl); (case hr => first | (go_simp; done) | (go_simp; rfl)); (case hp => exact (Reps.one (show Kd.M (Kd.int .i64) _ _ _ a [.int .i64 a] from rfl) (Reps.none _ _))); intro v112 w3 ho1 hb1 hg1 _; have hbn := below_none hg1; obtain ⟨A3, c3', e3'⟩ := Kd.R_slice ho1; subst e3'; have HL1 := Aside0.mk (Kd.R_reads' ho1).2.2; replace HQ := Aside0.mk (HQ.out.step hbn); replace HRW := Aside0.mk (HRW.out.step hbn); replace HV2 := Aside0.mk (Kd.R_below HV2.out hbn); replace HO := Aside0.mk (Kd.S_below HO.out hbn); replace HN := Aside0.mk (Kd.R_below HN.out hbn); clear ho1 hb1 hg1 hbn hc g2) | (at_builtin; refine Kd.R_append_rows (Kd.int .i64) (w0 := w) w.heap.size rfl (.tmp 110) (.tmp 112) 27 3 (.int .i64 0) 8 rfl Try.underlying27 info3 rfl (by decide) (by omega) _ ns [a] _ _ _ (fun _ => True) (fun _ => False) rfl rfl HV2.out HL1.out (fun _ _ h => h) (fun _ h => h.elim) (fun _ _ => trivial) HQ.out.below HQ.out.below.size (by have := HNL.out; simp; omega) ?_; intro v5 w4 ho hb hg hat; replace HO := Aside0.mk (Kd.S_after HO.out hg hat); replace HN := Aside0.mk (Kd.R_after HN.out hg hat); replace HRW := Aside0.mk (HRW.out.besides (Kd.R_typed HV2.out) (by intro p hp; simp at hp; rcases hp with rfl | rfl; (show (35 : Nat) ≠ 3; decide); (show (46 : Nat) ≠ 3; decide)) hg hb); replace HQ := Aside0.mk (HQ.out.grown (Kd.R_typed HV2.out) hg hb); replace HV2 := Aside0.mk ho; clear ho hb hg hat; obtain ⟨A5, c5, e5⟩ := Kd.R_slice HV2.out; subst e5) | ((with_reducible refine gate_store (t := 27) (p := 114) rfl ?_); refine rw_cell rfl 27 rfl (i := 2) rfl rfl rfl [] HRW.out (by show (_ : Nat) < 3; decide) (by kernel_rfl) ?_; intro w6 hX hk9; replace HV2 := Aside0.mk (Kd.R_mono (Kd.R_step (Kd.R_types HV2.out (HRW.out.mem List.mem_cons_self) (by intro q hq; simp [Kd.int, Kd.scalar] at hq; rw [hq]; show (_ : Nat) ≠ _; decide)) (fun j hj hlt => hk9.2 j hlt hj.2)) (fun _ _ => trivial) : Kd.R (Kd.int .i64) 3 w6 w.heap.size (fun _ => True) _ (ns ++ [a])); replace HN := Aside0.mk (Kd.R_mono (Kd.R_step (Kd.R_types HN.out (HRW.out.mem List.mem_cons_self) (by intro q hq; simp [Kd.int, Kd.scalar] at hq; rw [hq]; show (_ : Nat) ≠ _; decide)) (fun j hj hlt => hk9.2 j hlt hj.2)) (fun _ h => h.1)); replace HO := Aside0.mk (Kd.S_step HO.out (fun j hj hlt => hk9.2 j hlt hj.1.2)); replace HQ := Aside0.mk (HQ.out.kept (HRW.out.mem List.mem_cons_self) hk9 hX.below); replace HRW := Aside0.mk hX; clear hX hk9))
                        go_roundw
                        case rel => exact ⟨j + 1, .slice A5 (ns ++ [a]).length c5, ns ++ [a], by have := HWJ.out; first | rfl | (simp; done), by omega, HNS2, HQ, ⟨by rw [show (ns ++ [a]).length = ns.length + 1 from by simp]; refine Eq.mp ?_ HRW.out; kernel_rfl⟩, HV2, HO, HN⟩
                        case measure => simp [intOf]; omega
                    · have d1b : decide ((j : Int) < (nx.length : Int)) = false := decide_eq_false (by omega)
                      have d1c : decide (j < nx.length) = false := decide_eq_false (by omega)
                      have HG : Aside0 (r = bs ++ [(⟨z.f0, x.f0, ns⟩ : S35)] ++ blocksL l0 (i + 1) (i + 1) (l0.length - (i + 1))) := ⟨by rw [HG.out, HNS.out, List.take_of_length_le (by omega), HNX.out]; simp⟩
                      subst e2'
                      obtain ⟨A9, c9, e9⟩ := Kd.S_slice HO.out
                      subst e9
                      clear d1 hj
                      go_wp2_with (first | ((with_reducible refine gate_dst (N := 117) rfl ?_); refine rw_load rfl 35 rfl rfl HRW.out List.mem_cons_self _ Try.underlying35 rfl (by kernel_rfl) ?_) | (at_builtin; (refine S_append1 k35 (w0 := w) w.heap.size rfl (.tmp 116) (.tmp 118) 29 35 (.agg #[.int .i64 0, .int .i64 0, .slice none 0 0]) 40 rfl Try.underlying29 (by kernel_rfl) rfl (by show (0 : Nat) < 3; decide) (by decide) (.slice A9 bs.length c9) bs (⟨z.f0, x.f0, ns⟩ : S35) [.int .i64 z.f0, .int .i64 x.f0, .slice A2 ns.length c2'] (fun _ => True) (fun j => some j = (Value.slice A2 ns.length c2').ownBlock ∧ some j ≠ (Value.slice A9 bs.length c9).ownBlock) rfl rfl (blk_M (int_own (Kd.R_apartR HV2.out (Kd.S_R HO.out) (by intro q hq; simp [Kd.int, Kd.scalar] at hq; rw [hq]; show (3 : Nat) ≠ 35; decide)))) (fun j hj => ⟨trivial, hj.2⟩) (fun _ _ => trivial) (Kd.S_mono HO.out (fun j hj => ⟨trivial, fun h9 => hj.2 h9.1⟩)) HQ.out.below HQ.out.below.size (by have := HF.out; have := HL.out; have := HI.out; unfold maxLen; omega) (blk_fits (by have := HF.out; have := HL.out; have := HI.out; omega)) ?_; intro v7 w7 ho hb hg hat; replace HQ := Aside0.mk (HQ.out.grown (Kd.S_typed HO.out) hg hb); replace HO := Aside0.mk ho; clear ho hb hg hat)))
                      go_roundw
                      case rel => exact ⟨i + 1, i + 1, bs ++ [(⟨z.f0, x.f0, ns⟩ : S35)], by have := HW.out; first | rfl | (simp; done), by have := HW.out; first | rfl | (simp; done), by omega, ⟨⟨Nat.le_refl _, by have := HF.out; simp; omega⟩⟩, ⟨HG.out⟩, HQ, HO⟩
                      case measure => simp [intOf]; omega
              · have c1b : decide ((i : Int) < (l0.length : Int)) = false := decide_eq_false (by omega)
                have c1c : decide (i < l0.length) = false := decide_eq_false (by omega)
                have HG : Aside0 (r = bs) := ⟨by rw [HG.out, show l0.length - i = 0 by omega]; exact List.append_nil _⟩
                clear c1 hi
                go_wp2
                go_ret
                exact ⟨_, rfl, by rw [HG.out]; exact HO.out, HQ.out.below⟩

end Go.Proofs.Ytcffniaieegbgaa.P

end

section
namespace Go.Proofs.Ytcffniaieegbgaa.P
open Go.RowKit Go.Proofs.YtcffniaieegbgaaW.PrintWords Go.Proofs.YtcffniaieegbgaaW.PrintLast Go.Proofs.YtcffniaieegbgaaW.PrintMore
attribute [local go_sem] max2_int min2_int max_two min_two max_three min_three max_four min_four   -- for this text's walks alone
set_option linter.unusedVariables false
set_option linter.unusedSimpArgs false

mutual
def provisolaw05_FlowParts.l0 : Nat → List (S46) → List (S35) → Int → List (S35) → Int → Int → Option (Bool)
  | 0, _, _, _, _, _, _ => none
  | k + 1, x3, x6, x7, x32, x33, x34 => if x34 < x33 then (if 0 ≤ x34 then (if x34 < (x32.length : Int) then (if x7 ≥ (x3.length : Int) then (some false) else (if 0 ≤ x7 then (if x7 < (x3.length : Int) then (if ((rd_T35 x32 x34).f0) = ((rd_T46 x3 x7).f0) then (provisolaw05_FlowParts.l1 k x3 x6 x7 x32 x33 x34 ((rd_T35 x32 x34).f0) ((rd_T35 x32 x34).f1) ((rd_T35 x32 x34).f2)) else (some false)) else (none)) else (none))) else (none)) else (none)) else (some (x7 == (x3.length : Int)))
def provisolaw05_FlowParts.l1 : Nat → List (S46) → List (S35) → Int → List (S35) → Int → Int → Int → Int → List Int → Option (Bool)
  | 0, _, _, _, _, _, _, _, _, _ => none
  | k + 1, x3, x6, x7, x32, x33, x34, x360000, x360001, x360002 => if 0 ≤ x7 then (if x7 < (x3.length : Int) then (if ((rd_T46 x3 x7).f0) = x360001 then (provisolaw05_FlowParts.l2 k x3 x6 (wrap64 (x7 + 1)) x32 x33 x34 x360002 (x360002.length : Int) 0) else ((flow_Next.f ((rd_T46 x3 x7).f0) ((rd_T46 x3 x7).f1) ((rd_T46 x3 x7).f2) ((rd_T46 x3 x7).f3)).bind fun t365 => (if (t365.length : Int) = 1 then (if (wrap64 (x7 + 1)) = (x3.length : Int) then (some false) else (if 0 < (t365.length : Int) then (if 0 ≤ (wrap64 (x7 + 1)) then (if (wrap64 (x7 + 1)) < (x3.length : Int) then (if (rd t365 0) = ((rd_T46 x3 (wrap64 (x7 + 1))).f0) then (provisolaw05_FlowParts.l1 k x3 x6 (wrap64 (x7 + 1)) x32 x33 x34 x360000 x360001 x360002) else (some false)) else (none)) else (none)) else (none))) else (some false)))) else (none)) else (none)
def provisolaw05_FlowParts.l2 : Nat → List (S46) → List (S35) → Int → List (S35) → Int → Int → List Int → Int → Int → Option (Bool)
  | 0, _, _, _, _, _, _, _, _, _ => none
  | k + 1, x3, x6, x7, x32, x33, x34, x92, x93, x94 => if x94 < x93 then (if 0 ≤ x94 then (if x94 < (x92.length : Int) then ((provisolaw05_from.f k x6 (rd x92 x94)).bind fun t363 => (if t363 < 0 then (some false) else (provisolaw05_FlowParts.l2 k x3 x6 x7 x32 x33 x34 x92 x93 (wrap64 (x94 + 1))))) else (none)) else (none)) else (provisolaw05_FlowParts.l0 k x3 x6 x7 x32 x33 (wrap64 (x34 + 1)))
end
def provisolaw05_FlowParts.f (k : Nat) (l0 : List Int) : Option (Bool) := (provisoref05_Scan.f k l0).bind fun bt344 => (if bt344.2.2 = 0 then (if (bt344.1.length : Int) = 0 then ((flow_Blocks.f k ([] : List (S46))).bind fun t349 => (some ((t349.length : Int) == 0))) else ((api_Instr_33.f bt344.1).bind fun t352 => ((flow_Blocks.f k t352).bind fun t355 => (provisolaw05_FlowParts.l0 k bt344.1 t355 0 t355 (t355.length : Int) 0)))) else ((flow_Blocks.f k ([] : List (S46))).bind fun t370 => (some ((t370.length : Int) == 0))))
set_option maxHeartbeats 8000000 in
set_option maxRecDepth 100000 in
theorem provisolaw05_FlowParts.calls (k : Nat) (A0 : Option Addr) (c0 : Nat) (l0 : List Int) (r : Bool) (w : World) (hr0 : Kd.C (Kd.int .u8) w A0 l0.length l0) (hc0 : l0.length ≤ c0) (h : provisolaw05_FlowParts.f k l0 = some r) :
    Calls Try.prog 9 #[.slice A0 l0.length c0] w fun e w' => e = .returned (.bool r) ∧ Below w.heap.size w w' := by
  have hu35 := Try.underlying35
  have hu46 := Try.underlying46
  have HR0 := Aside0.mk hr0
  have HC0 := Aside0.mk hc0
  clear hr0 hc0
  have HB := Aside0.mk (Below.refl w.heap.size w)
  have H : ((provisoref05_Scan.f k l0).bind fun bt344 => (if bt344.2.2 = 0 then (if (bt344.1.length : Int) = 0 then ((flow_Blocks.f k ([] : List (S46))).bind fun t349 => (some ((t349.length : Int) == 0))) else ((api_Instr_33.f bt344.1).bind fun t352 => ((flow_Blocks.f k t352).bind fun t355 => (provisolaw05_FlowParts.l0 k bt344.1 t355 0 t355 (t355.length : Int) 0)))) else ((flow_Blocks.f k ([] : List (S46))).bind fun t370 => (some ((t370.length : Int) == 0))))) = some r := h
  clear h
  replace H := Option.bind_eq_some_iff.mp H
  obtain ⟨⟨t344, t345, t346⟩, A20, H⟩ := H
  replace H : (if t346 = 0 then (if (t344.length : Int) = 0 then ((flow_Blocks.f k ([] : List (S46))).bind fun t349 => (some ((t349.length : Int) == 0))) else ((api_Instr_33.f t344).bind fun t352 => ((flow_Blocks.f k t352).bind fun t355 => (provisolaw05_FlowParts.l0 k t344 t355 0 t355 (t355.length : Int) 0)))) else ((flow_Blocks.f k ([] : List (S46))).bind fun t370 => (some ((t370.length : Int) == 0)))) = some r := H
  have A2 := Aside0.mk A20
  clear A20
  by_cases c3 : t346 = 0
  · rw [if_pos c3] at H
    have c3b0 : (t346 == 0) = true := beq_iff_eq.mpr c3
    have c3b1 : (t346 != 0) = false := bne_eq_false_iff_eq.mpr c3
    clear c3
    by_cases c4 : (t344.length : Int) = 0
    · rw [if_pos c4] at H
      have c4b0 : ((t344.length : Int) == 0) = true := beq_iff_eq.mpr c4
      have c4b1 : ((t344.length : Int) != 0) = false := bne_eq_false_iff_eq.mpr c4
      clear c4
      replace H := Option.bind_eq_some_iff.mp H
      obtain ⟨t349, A50, H⟩ := H
      replace H : (some ((t349.length : Int) == 0)) = some r := H
      have A5 := Aside0.mk A50
      clear A50
      obtain rfl := Option.some.inj H
      go_enter Try.func9, Try.ntmps9
      go_wp2_with (first | (go_at_call 13; (with_reducible refine (provisoref05_Scan.calls k _ _ l0 t344 t345 t346 _ ?side1 ?side2 A2.out).mono ?_); (case side1 => repeat (first | exact HR0.out | (with_reducible refine Kd.C_alloc ?_ _) | (with_reducible refine Kd.C_drewN ?_ _) | (with_reducible refine Kd.C_drew ?_))); (case side2 => exact HC0.out); rintro e w6 ⟨v347, rfl, ho0, hb⟩; have n0_ := Aside0.mk (Kd.R_lower ho0 (below_size (by repeat (first | (with_reducible first | exact HB.out | apply below_alloc | apply pw_below_drewN | apply below_drew1) | exact HB.out)))); have n1_ := Aside0.mk (below_step (by repeat (first | (with_reducible first | exact HB.out | apply below_alloc | apply pw_below_drewN | apply below_drew1) | exact HB.out)) hb); clear HB; have HO348 := n0_; have HB := n1_; clear n0_ n1_; (try clear hb); (try clear hb2); (try clear hk); (try clear hi); (try clear ho0); obtain ⟨Ao7, co7, eo7⟩ := Kd.R_slice HO348.out; subst eo7) | (go_at_call 39; (refine (flow_Blocks.calls k _ _ ([] : List (S46)) t349 _ ?side1 ?side2 A5.out).mono ?_); (case side1 => exact Kd.C_nil _ _); (case side2 => exact Nat.le_refl _); rintro e w8 ⟨v350, rfl, ho0, hb⟩; have n0_ := Aside0.mk (Kd.R_below (by (with_reducible repeat (first | apply Kd.R_alloc | apply Kd.R_drewN | apply Kd.R_drew)); exact HO348.out) hb); have n1_ := Aside0.mk (Kd.S_lower ho0 (below_size (by repeat (first | (with_reducible first | exact HB.out | apply below_alloc | apply pw_below_drewN | apply below_drew1) | exact HB.out)))); have n2_ := Aside0.mk (below_step (by repeat (first | (with_reducible first | exact HB.out | apply below_alloc | apply pw_below_drewN | apply below_drew1) | exact HB.out)) hb); clear HO348; clear HB; have HO348 := n0_; have HO351 := n1_; have HB := n2_; clear n0_ n1_ n2_; (try clear hb); (try clear hb2); (try clear hk); (try clear hi); (try clear ho0); obtain ⟨Ao9, co9, eo9⟩ := Kd.S_slice HO351.out; subst eo9))
      repeat (go_quiet (first | (go_at_call 13; (with_reducible refine (provisoref05_Scan.calls k _ _ l0 t344 t345 t346 _ ?side1 ?side2 A2.out).mono ?_); (case side1 => repeat (first | exact HR0.out | (with_reducible refine Kd.C_alloc ?_ _) | (with_reducible refine Kd.C_drewN ?_ _) | (with_reducible refine Kd.C_drew ?_))); (case side2 => exact HC0.out); rintro e w6 ⟨v347, rfl, ho0, hb⟩; have n0_ := Aside0.mk (Kd.R_lower ho0 (below_size (by repeat (first | (with_reducible first | exact HB.out | apply below_alloc | apply pw_below_drewN | apply below_drew1) | exact HB.out)))); have n1_ := Aside0.mk (below_step (by repeat (first | (with_reducible first | exact HB.out | apply below_alloc | apply pw_below_drewN | apply below_drew1) | exact HB.out)) hb); clear HB; have HO348 := n0_; have HB := n1_; clear n0_ n1_; (try clear hb); (try clear hb2); (try clear hk); (try clear hi); (try clear ho0); obtain ⟨Ao7, co7, eo7⟩ := Kd.R_slice HO348.out; subst eo7) | (go_at_call 39; (refine (flow_Blocks.calls k _ _ ([] : List (S46)) t349 _ ?side1 ?side2 A5.out).mono ?_); (case side1 => exact Kd.C_nil _ _); (case side2 => exact Nat.le_refl _); rintro e w8 ⟨v350, rfl, ho0, hb⟩; have n0_ := Aside0.mk (Kd.R_below (by (with_reducible repeat (first | apply Kd.R_alloc | apply Kd.R_drewN | apply Kd.R_drew)); exact HO348.out) hb); have n1_ := Aside0.mk (Kd.S_lower ho0 (below_size (by repeat (first | (with_reducible first | exact HB.out | apply below_alloc | apply pw_below_drewN | apply below_drew1) | exact HB.out)))); have n2_ := Aside0.mk (below_step (by repeat (first | (with_reducible first | exact HB.out | apply below_alloc | apply pw_below_drewN | apply below_drew1) | exact HB.out)) hb); clear HO348; clear HB; have HO348 := n0_; have HO351 := n1_; have HB := n2_; clear n0_ n1_ n2_; (try clear hb); (try clear hb2); (try clear hk); (try clear hi); (try clear ho0); obtain ⟨Ao9, co9, eo9⟩ := Kd.S_slice HO351.out; subst eo9)); try go_wp2_with (first | (go_at_call 13; (with_reducible refine (provisoref05_Scan.calls k _ _ l0 t344 t345 t346 _ ?side1 ?side2 A2.out).mono ?_); (case side1 => repeat (first | exact HR0.out | (with_reducible refine Kd.C_alloc ?_ _) | (with_reducible refine Kd.C_drewN ?_ _) | (with_reducible refine Kd.C_drew ?_))); (case side2 => exact HC0.out); rintro e w6 ⟨v347, rfl, ho0, hb⟩; have n0_ := Aside0.mk (Kd.R_lower ho0 (below_size (by repeat (first | (with_reducible first | exact HB.out | apply below_alloc | apply pw_below_drewN | apply below_drew1) | exact HB.out)))); have n1_ := Aside0.mk (below_step (by repeat (first | (with_reducible first | exact HB.out | apply below_alloc | apply pw_below_drewN | apply below_drew1) | exact HB.out)) hb); clear HB; have HO348 := n0_; have HB := n1_; clear n0_ n1_; (try clear hb); (try clear hb2); (try clear hk); (try clear hi); (try clear ho0); obtain ⟨Ao7, co7, eo7⟩ := Kd.R_slice HO348.out; subst eo7) | (go_at_call 39; (refine (flow_Blocks.calls k _ _ ([] : List (S46)) t349 _ ?side1 ?side2 A5.out).mono ?_); (case side1 => exact Kd.C_nil _ _); (case side2 => exact Nat.le_refl _); rintro e w8 ⟨v350, rfl, ho0, hb⟩; have n0_ := Aside0.mk (Kd.R_below (by (with_reducible repeat (first | apply Kd.R_alloc | apply Kd.R_drewN | apply Kd.R_drew)); exact HO348.out) hb); have n1_ := Aside0.mk (Kd.S_lower ho0 (below_size (by repeat (first | (with_reducible first | exact HB.out | apply below_alloc | apply pw_below_drewN | apply below_drew1) | exact HB.out)))); have n2_ := Aside0.mk (below_step (by repeat (first | (with_reducible first | exact HB.out | apply below_alloc | apply pw_below_drewN | apply below_drew1) | exact HB.out)) hb); clear HO348; clear HB; have HO348 := n0_; have HO351 := n1_; have HB := n2_; clear n0_ n1_ n2_; (try clear hb); (try clear hb2); (try clear hk); (try clear hi); (try clear ho0); obtain ⟨Ao9, co9, eo9⟩ := Kd.S_slice HO351.out; subst eo9)))
      go_ret
      exact ⟨by first | rfl | (simp [errW_none, errW_some] <;> rfl) | (simp [*, errW_none, errW_some] <;> rfl), by repeat (first | (with_reducible first | exact HB.out | apply below_alloc | apply pw_below_drewN | apply below_drew1) | exact HB.out)⟩
    · rw [if_neg c4] at H
      have c4b0 : ((t344.length : Int) == 0) = false := beq_eq_false_iff_ne.mpr c4
      have c4b1 : ((t344.length : Int) != 0) = true := bne_iff_ne.mpr c4
      have c4b2 : ¬ (t344 = []) := fun h_ => c4 (by rw [h_]; rfl)
      replace H := Option.bind_eq_some_iff.mp H
      obtain ⟨t352, A100, H⟩ := H
      replace H : ((flow_Blocks.f k t352).bind fun t355 => (provisolaw05_FlowParts.l0 k t344 t355 0 t355 (t355.length : Int) 0)) = some r := H
      have A10 := Aside0.mk A100
      clear A100
      replace H := Option.bind_eq_some_iff.mp H
      obtain ⟨t355, A110, H⟩ := H
      replace H : (provisolaw05_FlowParts.l0 k t344 t355 0 t355 (t355.length : Int) 0) = some r := H
      have A11 := Aside0.mk A110
      clear A110
      have H' := Aside0.mk H
      clear H
      go_enter Try.func9, Try.ntmps9
      go_wp2_with (first | (go_at_call 13; (with_reducible refine (provisoref05_Scan.calls k _ _ l0 t344 t345 t346 _ ?side1 ?side2 A2.out).mono ?_); (case side1 => repeat (first | exact HR0.out | (with_reducible refine Kd.C_alloc ?_ _) | (with_reducible refine Kd.C_drewN ?_ _) | (with_reducible refine Kd.C_drew ?_))); (case side2 => exact HC0.out); rintro e w12 ⟨v347, rfl, ho0, hb⟩; have n0_ := Aside0.mk (Kd.R_lower ho0 (below_size (by repeat (first | (with_reducible first | exact HB.out | apply below_alloc | apply pw_below_drewN | apply below_drew1) | exact HB.out)))); have n1_ := Aside0.mk (below_step (by repeat (first | (with_reducible first | exact HB.out | apply below_alloc | apply pw_below_drewN | apply below_drew1) | exact HB.out)) hb); clear HB; have HO348 := n0_; have HB := n1_; clear n0_ n1_; (try clear hb); (try clear hb2); (try clear hk); (try clear hi); (try clear ho0); obtain ⟨Ao13, co13, eo13⟩ := Kd.R_slice HO348.out; subst eo13) | (go_at_call 33; (with_reducible refine (api_Instr_33.calls _ _ t344 t352 _ ?side1 ?side2 A10.out).mono ?_); (case side1 => repeat (first | exact (Kd.R_reads' HO348.out).2.2 | (with_reducible refine Kd.C_alloc ?_ _) | (with_reducible refine Kd.C_drewN ?_ _) | (with_reducible refine Kd.C_drew ?_))); (case side2 => exact (Kd.R_reads' HO348.out).2.1); rintro e w14 ⟨v353, rfl, ho0, hb⟩; have n0_ := Aside0.mk (Kd.R_elder' (by (with_reducible repeat (first | apply Kd.R_alloc | apply Kd.R_drewN | apply Kd.R_drew)); exact HO348.out) (Kd.R_base ho0) hb); have n1_ := Aside0.mk (Kd.R_lower (Kd.R_new' ho0 (Kd.R_lt (by (with_reducible repeat (first | apply Kd.R_alloc | apply Kd.R_drewN | apply Kd.R_drew)); exact HO348.out))) (below_size (by repeat (first | (with_reducible first | exact HB.out | apply below_alloc | apply pw_below_drewN | apply below_drew1) | exact HB.out)))); have n2_ := Aside0.mk (below_step (by repeat (first | (with_reducible first | exact HB.out | apply below_alloc | apply pw_below_drewN | apply below_drew1) | exact HB.out)) hb); clear HO348; clear HB; have HO348 := n0_; have HO354 := n1_; have HB := n2_; clear n0_ n1_ n2_; (try clear hb); (try clear hb2); (try clear hk); (try clear hi); (try clear ho0); obtain ⟨Ao15, co15, eo15⟩ := Kd.R_slice HO354.out; subst eo15) | (go_at_call 39; (with_reducible refine (flow_Blocks.calls k _ _ t352 t355 _ ?side1 ?side2 A11.out).mono ?_); (case side1 => repeat (first | exact (Kd.R_reads' HO354.out).2.2 | (with_reducible refine Kd.C_alloc ?_ _) | (with_reducible refine Kd.C_drewN ?_ _) | (with_reducible refine Kd.C_drew ?_))); (case side2 => exact (Kd.R_reads' HO354.out).2.1); rintro e w16 ⟨v356, rfl, ho0, hb⟩; have n0_ := Aside0.mk (Kd.R_below (by (with_reducible repeat (first | apply Kd.R_alloc | apply Kd.R_drewN | apply Kd.R_drew)); exact HO348.out) hb); have n1_ := Aside0.mk (Kd.R_below (by (with_reducible repeat (first | apply Kd.R_alloc | apply Kd.R_drewN | apply Kd.R_drew)); exact HO354.out) hb); have n2_ := Aside0.mk (Kd.S_lower ho0 (below_size (by repeat (first | (with_reducible first | exact HB.out | apply below_alloc | apply pw_below_drewN | apply below_drew1) | exact HB.out)))); have n3_ := Aside0.mk (below_step (by repeat (first | (with_reducible first | exact HB.out | apply below_alloc | apply pw_below_drewN | apply below_drew1) | exact HB.out)) hb); clear HO348; clear HO354; clear HB; have HO348 := n0_; have HO354 := n1_; have HO357 := n2_; have HB := n3_; clear n0_ n1_ n2_ n3_; (try clear hb); (try clear hb2); (try clear hk); (try clear hi); (try clear ho0); obtain ⟨Ao17, co17, eo17⟩ := Kd.S_slice HO357.out; subst eo17))
      repeat (go_quiet (first | (go_at_call 13; (with_reducible refine (provisoref05_Scan.calls k _ _ l0 t344 t345 t346 _ ?side1 ?side2 A2.out).mono ?_); (case side1 => repeat (first | exact HR0.out | (with_reducible refine Kd.C_alloc ?_ _) | (with_reducible refine Kd.C_drewN ?_ _) | (with_reducible refine Kd.C_drew ?_))); (case side2 => exact HC0.out); rintro e w12 ⟨v347, rfl, ho0, hb⟩; have n0_ := Aside0.mk (Kd.R_lower ho0 (below_size (by repeat (first | (with_reducible first | exact HB.out | apply below_alloc | apply pw_below_drewN | apply below_drew1) | exact HB.out)))); have n1_ := Aside0.mk (below_step (by repeat (first | (with_reducible first | exact HB.out | apply below_alloc | apply pw_below_drewN | apply below_drew1) | exact HB.out)) hb); clear HB; have HO348 := n0_; have HB := n1_; clear n0_ n1_; (try clear hb); (try clear hb2); (try clear hk); (try clear hi); (try clear ho0); obtain ⟨Ao13, co13, eo13⟩ := Kd.R_slice HO348.out; subst eo13) | (go_at_call 33; (with_reducible refine (api_Instr_33.calls _ _ t344 t352 _ ?side1 ?side2 A10.out).mono ?_); (case side1 => repeat (first | exact (Kd.R_reads' HO348.out).2.2 | (with_reducible refine Kd.C_alloc ?_ _) | (with_reducible refine Kd.C_drewN ?_ _) | (with_reducible refine Kd.C_drew ?_))); (case side2 => exact (Kd.R_reads' HO348.out).2.1); rintro e w14 ⟨v353, rfl, ho0, hb⟩; have n0_ := Aside0.mk (Kd.R_elder' (by (with_reducible repeat (first | apply Kd.R_alloc | apply Kd.R_drewN | apply Kd.R_drew)); exact HO348.out) (Kd.R_base ho0) hb); have n1_ := Aside0.mk (Kd.R_lower (Kd.R_new' ho0 (Kd.R_lt (by (with_reducible repeat (first | apply Kd.R_alloc | apply Kd.R_drewN | apply Kd.R_drew)); exact HO348.out))) (below_size (by repeat (first | (with_reducible first | exact HB.out | apply below_alloc | apply pw_below_drewN | apply below_drew1) | exact HB.out)))); have n2_ := Aside0.mk (below_step (by repeat (first | (with_reducible first | exact HB.out | apply below_alloc | apply pw_below_drewN | apply below_drew1) | exact HB.out)) hb); clear HO348; clear HB; have HO348 := n0_; have HO354 := n1_; have HB := n2_; clear n0_ n1_ n2_; (try clear hb); (try clear hb2); (try clear hk); (try clear hi); (try clear ho0); obtain ⟨Ao15, co15, eo15⟩ := Kd.R_slice HO354.out; subst eo15) | (go_at_call 39; (with_reducible refine (flow_Blocks.calls k _ _ t352 t355 _ ?side1 ?side2 A11.out).mono ?_); (case side1 => repeat (first | exact (Kd.R_reads' HO354.out).2.2 | (with_reducible refine Kd.C_alloc ?_ _) | (with_reducible refine Kd.C_drewN ?_ _) | (with_reducible refine Kd.C_drew ?_))); (case side2 => exact (Kd.R_reads' HO354.out).2.1); rintro e w16 ⟨v356, rfl, ho0, hb⟩; have n0_ := Aside0.mk (Kd.R_below (by (with_reducible repeat (first | apply Kd.R_alloc | apply Kd.R_drewN | apply Kd.R_drew)); exact HO348.out) hb); have n1_ := Aside0.mk (Kd.R_below (by (with_reducible repeat (first | apply Kd.R_alloc | apply Kd.R_drewN | apply Kd.R_drew)); exact HO354.out) hb); have n2_ := Aside0.mk (Kd.S_lower ho0 (below_size (by repeat (first | (with_reducible first | exact HB.out | apply below_alloc | apply pw_below_drewN | apply below_drew1) | exact HB.out)))); have n3_ := Aside0.mk (below_step (by repeat (first | (with_reducible first | exact HB.out | apply below_alloc | apply pw_below_drewN | apply below_drew1) | exact HB.out)) hb); clear HO348; clear HO354; clear HB; have HO348 := n0_; have HO354 := n1_; have HO357 := n2_; have HB := n3_; clear n0_ n1_ n2_ n3_; (try clear hb); (try clear hb2); (try clear hk); (try clear hi); (try clear ho0); obtain ⟨Ao17, co17, eo17⟩ := Kd.S_slice HO357.out; subst eo17)); try go_wp2_with (first | (go_at_call 13; (with_reducible refine (provisoref05_Scan.calls k _ _ l0 t344 t345 t346 _ ?side1 ?side2 A2.out).mono ?_); (case side1 => repeat (first | exact HR0.out | (with_reducible refine Kd.C_alloc ?_ _) | (with_reducible refine Kd.C_drewN ?_ _) | (with_reducible refine Kd.C_drew ?_))); (case side2 => exact HC0.out); rintro e w12 ⟨v347, rfl, ho0, hb⟩; have n0_ := Aside0.mk (Kd.R_lower ho0 (below_size (by repeat (first | (with_reducible first | exact HB.out | apply below_alloc | apply pw_below_drewN | apply below_drew1) | exact HB.out)))); have n1_ := Aside0.mk (below_step (by repeat (first | (with_reducible first | exact HB.out | apply below_alloc | apply pw_below_drewN | apply below_drew1) | exact HB.out)) hb); clear HB; have HO348 := n0_; have HB := n1_; clear n0_ n1_; (try clear hb); (try clear hb2); (try clear hk); (try clear hi); (try clear ho0); obtain ⟨Ao13, co13, eo13⟩ := Kd.R_slice HO348.out; subst eo13) | (go_at_call 33; (with_reducible refine (api_Instr_33.calls _ _ t344 t352 _ ?side1 ?side2 A10.out).mono ?_); (case side1 => repeat (first | exact (Kd.R_reads' HO348.out).2.2 | (with_reducible refine Kd.C_alloc ?_ _) | (with_reducible refine Kd.C_drewN ?_ _) | (with_reducible refine Kd.C_drew ?_))); (case side2 => exact (Kd.R_reads' HO348.out).2.1); rintro e w14 ⟨v353, rfl, ho0, hb⟩; have n0_ := Aside0.mk (Kd.R_elder' (by (with_reducible repeat (first | apply Kd.R_alloc | apply Kd.R_drewN | apply Kd.R_drew)); exact HO348.out) (Kd.R_base ho0) hb); have n1_ := Aside0.mk (Kd.R_lower (Kd.R_new' ho0 (Kd.R_lt (by (with_reducible repeat (first | apply Kd.R_alloc | apply Kd.R_drewN | apply Kd.R_drew)); exact HO348.out))) (below_size (by repeat (first | (with_reducible first | exact HB.out | apply below_alloc | apply pw_below_drewN | apply below_drew1) | exact HB.out)))); have n2_ := Aside0.mk (below_step (by repeat (first | (with_reducible first | exact HB.out | apply below_alloc | apply pw_below_drewN | apply below_drew1) | exact HB.out)) hb); clear HO348; clear HB; have HO348 := n0_; have HO354 := n1_; have HB := n2_; clear n0_ n1_ n2_; (try clear hb); (try clear hb2); (try clear hk); (try clear hi); (try clear ho0); obtain ⟨Ao15, co15, eo15⟩ := Kd.R_slice HO354.out; subst eo15) | (go_at_call 39; (with_reducible refine (flow_Blocks.calls k _ _ t352 t355 _ ?side1 ?side2 A11.out).mono ?_); (case side1 => repeat (first | exact (Kd.R_reads' HO354.out).2.2 | (with_reducible refine Kd.C_alloc ?_ _) | (with_reducible refine Kd.C_drewN ?_ _) | (with_reducible refine Kd.C_drew ?_))); (case side2 => exact (Kd.R_reads' HO354.out).2.1); rintro e w16 ⟨v356, rfl, ho0, hb⟩; have n0_ := Aside0.mk (Kd.R_below (by (with_reducible repeat (first | apply Kd.R_alloc | apply Kd.R_drewN | apply Kd.R_drew)); exact HO348.out) hb); have n1_ := Aside0.mk (Kd.R_below (by (with_reducible repeat (first | apply Kd.R_alloc | apply Kd.R_drewN | apply Kd.R_drew)); exact HO354.out) hb); have n2_ := Aside0.mk (Kd.S_lower ho0 (below_size (by repeat (first | (with_reducible first | exact HB.out | apply below_alloc | apply pw_below_drewN | apply below_drew1) | exact HB.out)))); have n3_ := Aside0.mk (below_step (by repeat (first | (with_reducible first | exact HB.out | apply below_alloc | apply pw_below_drewN | apply below_drew1) | exact HB.out)) hb); clear HO348; clear HO354; clear HB; have HO348 := n0_; have HO354 := n1_; have HO357 := n2_; have HB := n3_; clear n0_ n1_ n2_ n3_; (try clear hb); (try clear hb2); (try clear hk); (try clear hi); (try clear ho0); obtain ⟨Ao17, co17, eo17⟩ := Kd.S_slice HO357.out; subst eo17)))
      go_loopg [7, 34] k (fun kq v7 v34 w' => ∃ (x7_1 : Int) (x34_1 : Int), v7 = .int .i64 x7_1 ∧ v34 = .int .i64 x34_1 ∧ Aside0 (provisolaw05_FlowParts.l0 kq t344 t355 x7_1 t355 (t355.length : Int) x34_1 = some r) ∧ Aside0 (kq ≤ k) ∧ Aside0 (Kd.R k46 46 w' w.heap.size (fun _ => True) (.slice Ao13 t344.length co13) t344) ∧ Aside0 (Kd.S k35 35 w' w.heap.size (fun _ => True) (.slice Ao17 t355.length co17) t355) ∧ Aside0 (Kd.S k35 35 w' w.heap.size (fun _ => True) (.slice Ao17 t355.length co17) t355) ∧ Aside0 (Below w.heap.size w w'))
      case atStart => exact ⟨(0), (0), (by first | rfl | (simp; done) | (simp [*]; done)), (by first | rfl | (simp; done) | (simp [*]; done)), H', ⟨Nat.le_refl _⟩, ⟨by (with_reducible repeat (first | apply Kd.R_alloc | apply Kd.R_drewN | apply Kd.R_drew)); exact Kd.R_mono HO348.out (fun _ hk => trivial)⟩, ⟨by (with_reducible repeat (first | apply Kd.S_alloc | apply Kd.S_drewN | apply Kd.S_drew)); exact HO357.out⟩, ⟨by (with_reducible repeat (first | apply Kd.S_alloc | apply Kd.S_drewN | apply Kd.S_drew)); exact HO357.out⟩, ⟨by repeat (first | (with_reducible first | exact HB.out | apply below_alloc | apply pw_below_drewN | apply below_drew1) | exact HB.out)⟩⟩
      case round =>
        clear H'
        try clear p2
        try clear c3
        try clear c3b0
        try clear c3b1
        try clear c4
        try clear c4b0
        try clear c4b1
        try clear c4b2
        try clear c9
        obtain ⟨x7_1, x34_1, rfl, rfl, HA, HK1, HO_3, HO_6, HO_32, HB⟩ := hrel
        cases gk with
        | zero => exact absurd HA.out (by simp [provisolaw05_FlowParts.l0])
        | succ k1 =>
          have H := HA.out
          clear HA
          simp only [provisolaw05_FlowParts.l0] at H
          by_cases c18 : x34_1 < (t355.length : Int)
          · rw [if_pos c18] at H
            have c18b0 : decide (x34_1 < (t355.length : Int)) = true := decide_eq_true c18
            clear c18
            by_cases c19 : 0 ≤ x34_1
            · rw [if_pos c19] at H
              have c19b0 : decide (0 ≤ x34_1) = true := decide_eq_true c19
              clear c19
              by_cases c20 : x34_1 < (t355.length : Int)
              · rw [if_pos c20] at H
                have c20b0 : decide (x34_1 < (t355.length : Int)) = true := decide_eq_true c20
                clear c20
                by_cases c21 : x7_1 ≥ (t344.length : Int)
                · rw [if_pos c21] at H
                  have c21b0 : decide ((t344.length : Int) ≤ x7_1) = true := decide_eq_true c21
                  clear c21
                  obtain rfl := Option.some.inj H
                  have p358 : 0 ≤ (x34_1 : Int) := of_decide_eq_true (by first | (with_reducible assumption) | assumption)
                  have q358 : x34_1 < (t355.length : Int) := of_decide_eq_true (by first | (with_reducible assumption) | assumption)
                  obtain ⟨ad358, A358_2, c358_2, e358, hx358_0, hx358_1, hx358_2, hl358_2, hi358_2⟩ := at_T35 (Kd.S_reads' HO_32.out).2.2 x34_1 p358 q358
                  cases e358
                  obtain ⟨ce358, hce358, hMe358, hcc358⟩ := Kd.S_get HO_32.out z35 x34_1 p358 (by first | exact q358 | exact of_decide_eq_true (by first | (with_reducible assumption) | assumption) | (have e_ := (Kd.S_reads' HO_32.out).1; omega))
                  obtain ⟨ve358_2, rfl, ge358_2⟩ := k35_openM hMe358
                  have hv358_2 := hcc358 2 _ rfl
                  rw [add_field _ _ 2 (by omega)] at hv358_2
                  replace hv358_2 := Option.some.inj (hv358_2.symm.trans hx358_2)
                  rw [hv358_2] at ge358_2
                  have HL358_2 := Aside0.mk (show Kd.R (Kd.int .i64) 3 _ _ _ _ ((rd_T35 t355 x34_1).f2) from ge358_2)
                  clear hv358_2 ge358_2
                  clear hcc358 hce358
                  have HR358_2 := Aside0.mk hi358_2
                  have HC358_2 := Aside0.mk hl358_2
                  clear hi358_2 hl358_2
                  replace p358 := eq_true p358
                  replace q358 := eq_true q358
                  go_wp2_with (first | ((with_reducible refine gate_dst (N := 9) rfl ?_); (try (refine gate_guard (by rfl) ?_; dsimp only)); refine box_event ?hg (N := 9) ?hd (cs := #[.int .i64 0, .int .i64 0, .slice none 0 0]) (t := 35) ?hr ?_; (case hd => rfl); (case hg => rfl); (case hr => first | (go_simp; done) | (go_simp; rfl)); intro gb359 hg w22 hbox hb; have n0_ := Aside0.mk (Kd.R_below (by (with_reducible repeat (first | apply Kd.R_alloc | apply Kd.R_drewN | apply Kd.R_drew)); exact HO_3.out) hb); have n1_ := Aside0.mk (Kd.S_below (Kd.S_elderB (by (with_reducible repeat (first | apply Kd.S_alloc | apply Kd.S_drewN | apply Kd.S_drew)); exact HO_6.out) gb359 (Nat.le_of_eq hg.symm)) hb); have n2_ := Aside0.mk (Kd.S_below (Kd.S_elderB (by (with_reducible repeat (first | apply Kd.S_alloc | apply Kd.S_drewN | apply Kd.S_drew)); exact HO_32.out) gb359 (Nat.le_of_eq hg.symm)) hb); have n3_ := Aside0.mk (Kd.R_below (by (with_reducible repeat (first | apply Kd.R_alloc | apply Kd.R_drewN | apply Kd.R_drew)); exact HL358_2.out) hb); have n4_ := Aside0.mk (Kd.C_below (by repeat (first | (with_reducible exact HR358_2.out) | (with_reducible refine Kd.C_alloc ?_ _) | (with_reducible refine Kd.C_drewN ?_ _) | (with_reducible refine Kd.C_drew ?_) | exact HR358_2.out)) hb); have n5_ := Aside0.mk (below_step (by repeat (first | (with_reducible first | exact HB.out | apply below_alloc | apply pw_below_drewN | apply below_drew1) | exact HB.out)) hb); have n6_ := Aside0.mk (hbox); have n7_ := Aside0.mk ((by rw [hg]; exact (below_size (by repeat (first | (with_reducible first | exact HB.out | apply below_alloc | apply pw_below_drewN | apply below_drew1) | exact HB.out))) : w.heap.size ≤ gb359)); have n8_ := Aside0.mk ((by rw [hg]; exact (below_size (by repeat (first | (with_reducible first | exact HB.out | apply below_alloc | apply pw_below_drewN | apply below_drew1) | exact HB.out))) : w.heap.size ≤ gb359)); clear HO_3; clear HO_6; clear HO_32; clear HL358_2; clear HR358_2; clear HB; have HO_3 := n0_; have HO_6 := n1_; have HO_32 := n2_; have HL358_2 := n3_; have HR358_2 := n4_; have HB := n5_; have BK359 := n6_; have GW359 := n7_; have GE359 := n8_; clear n0_ n1_ n2_ n3_ n4_ n5_ n6_ n7_ n8_; clear hb hbox hg; have hcz23_0 : w22.cell? ⟨gb359, 0, none⟩ = some (.int .i64 0) := (blk_cell BK359.out 0).trans rfl; have hcz23_1 : w22.cell? ⟨gb359, 1, none⟩ = some (.int .i64 0) := (blk_cell BK359.out 1).trans rfl; have hcz23_2 : w22.cell? ⟨gb359, 2, none⟩ = some (.slice none 0 0) := (blk_cell BK359.out 2).trans rfl; have hfz23_0 := blk_frozen BK359.out 0; have hfz23_1 := blk_frozen BK359.out 1; have hfz23_2 := blk_frozen BK359.out 2))
                  repeat (go_quiet (first | ((with_reducible refine gate_dst (N := 9) rfl ?_); (try (refine gate_guard (by rfl) ?_; dsimp only)); refine box_event ?hg (N := 9) ?hd (cs := #[.int .i64 0, .int .i64 0, .slice none 0 0]) (t := 35) ?hr ?_; (case hd => rfl); (case hg => rfl); (case hr => first | (go_simp; done) | (go_simp; rfl)); intro gb359 hg w22 hbox hb; have n0_ := Aside0.mk (Kd.R_below (by (with_reducible repeat (first | apply Kd.R_alloc | apply Kd.R_drewN | apply Kd.R_drew)); exact HO_3.out) hb); have n1_ := Aside0.mk (Kd.S_below (Kd.S_elderB (by (with_reducible repeat (first | apply Kd.S_alloc | apply Kd.S_drewN | apply Kd.S_drew)); exact HO_6.out) gb359 (Nat.le_of_eq hg.symm)) hb); have n2_ := Aside0.mk (Kd.S_below (Kd.S_elderB (by (with_reducible repeat (first | apply Kd.S_alloc | apply Kd.S_drewN | apply Kd.S_drew)); exact HO_32.out) gb359 (Nat.le_of_eq hg.symm)) hb); have n3_ := Aside0.mk (Kd.R_below (by (with_reducible repeat (first | apply Kd.R_alloc | apply Kd.R_drewN | apply Kd.R_drew)); exact HL358_2.out) hb); have n4_ := Aside0.mk (Kd.C_below (by repeat (first | (with_reducible exact HR358_2.out) | (with_reducible refine Kd.C_alloc ?_ _) | (with_reducible refine Kd.C_drewN ?_ _) | (with_reducible refine Kd.C_drew ?_) | exact HR358_2.out)) hb); have n5_ := Aside0.mk (below_step (by repeat (first | (with_reducible first | exact HB.out | apply below_alloc | apply pw_below_drewN | apply below_drew1) | exact HB.out)) hb); have n6_ := Aside0.mk (hbox); have n7_ := Aside0.mk ((by rw [hg]; exact (below_size (by repeat (first | (with_reducible first | exact HB.out | apply below_alloc | apply pw_below_drewN | apply below_drew1) | exact HB.out))) : w.heap.size ≤ gb359)); have n8_ := Aside0.mk ((by rw [hg]; exact (below_size (by repeat (first | (with_reducible first | exact HB.out | apply below_alloc | apply pw_below_drewN | apply below_drew1) | exact HB.out))) : w.heap.size ≤ gb359)); clear HO_3; clear HO_6; clear HO_32; clear HL358_2; clear HR358_2; clear HB; have HO_3 := n0_; have HO_6 := n1_; have HO_32 := n2_; have HL358_2 := n3_; have HR358_2 := n4_; have HB := n5_; have BK359 := n6_; have GW359 := n7_; have GE359 := n8_; clear n0_ n1_ n2_ n3_ n4_ n5_ n6_ n7_ n8_; clear hb hbox hg; have hcz23_0 : w22.cell? ⟨gb359, 0, none⟩ = some (.int .i64 0) := (blk_cell BK359.out 0).trans rfl; have hcz23_1 : w22.cell? ⟨gb359, 1, none⟩ = some (.int .i64 0) := (blk_cell BK359.out 1).trans rfl; have hcz23_2 : w22.cell? ⟨gb359, 2, none⟩ = some (.slice none 0 0) := (blk_cell BK359.out 2).trans rfl; have hfz23_0 := blk_frozen BK359.out 0; have hfz23_1 := blk_frozen BK359.out 1; have hfz23_2 := blk_frozen BK359.out 2)); try go_wp2_with (first | ((with_reducible refine gate_dst (N := 9) rfl ?_); (try (refine gate_guard (by rfl) ?_; dsimp only)); refine box_event ?hg (N := 9) ?hd (cs := #[.int .i64 0, .int .i64 0, .slice none 0 0]) (t := 35) ?hr ?_; (case hd => rfl); (case hg => rfl); (case hr => first | (go_simp; done) | (go_simp; rfl)); intro gb359 hg w22 hbox hb; have n0_ := Aside0.mk (Kd.R_below (by (with_reducible repeat (first | apply Kd.R_alloc | apply Kd.R_drewN | apply Kd.R_drew)); exact HO_3.out) hb); have n1_ := Aside0.mk (Kd.S_below (Kd.S_elderB (by (with_reducible repeat (first | apply Kd.S_alloc | apply Kd.S_drewN | apply Kd.S_drew)); exact HO_6.out) gb359 (Nat.le_of_eq hg.symm)) hb); have n2_ := Aside0.mk (Kd.S_below (Kd.S_elderB (by (with_reducible repeat (first | apply Kd.S_alloc | apply Kd.S_drewN | apply Kd.S_drew)); exact HO_32.out) gb359 (Nat.le_of_eq hg.symm)) hb); have n3_ := Aside0.mk (Kd.R_below (by (with_reducible repeat (first | apply Kd.R_alloc | apply Kd.R_drewN | apply Kd.R_drew)); exact HL358_2.out) hb); have n4_ := Aside0.mk (Kd.C_below (by repeat (first | (with_reducible exact HR358_2.out) | (with_reducible refine Kd.C_alloc ?_ _) | (with_reducible refine Kd.C_drewN ?_ _) | (with_reducible refine Kd.C_drew ?_) | exact HR358_2.out)) hb); have n5_ := Aside0.mk (below_step (by repeat (first | (with_reducible first | exact HB.out | apply below_alloc | apply pw_below_drewN | apply below_drew1) | exact HB.out)) hb); have n6_ := Aside0.mk (hbox); have n7_ := Aside0.mk ((by rw [hg]; exact (below_size (by repeat (first | (with_reducible first | exact HB.out | apply below_alloc | apply pw_below_drewN | apply below_drew1) | exact HB.out))) : w.heap.size ≤ gb359)); have n8_ := Aside0.mk ((by rw [hg]; exact (below_size (by repeat (first | (with_reducible first | exact HB.out | apply below_alloc | apply pw_below_drewN | apply below_drew1) | exact HB.out))) : w.heap.size ≤ gb359)); clear HO_3; clear HO_6; clear HO_32; clear HL358_2; clear HR358_2; clear HB; have HO_3 := n0_; have HO_6 := n1_; have HO_32 := n2_; have HL358_2 := n3_; have HR358_2 := n4_; have HB := n5_; have BK359 := n6_; have GW359 := n7_; have GE359 := n8_; clear n0_ n1_ n2_ n3_ n4_ n5_ n6_ n7_ n8_; clear hb hbox hg; have hcz23_0 : w22.cell? ⟨gb359, 0, none⟩ = some (.int .i64 0) := (blk_cell BK359.out 0).trans rfl; have hcz23_1 : w22.cell? ⟨gb359, 1, none⟩ = some (.int .i64 0) := (blk_cell BK359.out 1).trans rfl; have hcz23_2 : w22.cell? ⟨gb359, 2, none⟩ = some (.slice none 0 0) := (blk_cell BK359.out 2).trans rfl; have hfz23_0 := blk_frozen BK359.out 0; have hfz23_1 := blk_frozen BK359.out 1; have hfz23_2 := blk_frozen BK359.out 2)))
                  go_ret
                  exact ⟨by first | rfl | (simp [errW_none, errW_some] <;> rfl) | (simp [*, errW_none, errW_some] <;> rfl), by repeat (first | (with_reducible first | exact HB.out | apply below_alloc | apply pw_below_drewN | apply below_drew1 | refine below_set ?_ GE359.out) | exact HB.out)⟩
                · rw [if_neg c21] at H
                  have c21b0 : decide ((t344.length : Int) ≤ x7_1) = false := decide_eq_false c21
                  clear c21
                  by_cases c24 : 0 ≤ x7_1
                  · rw [if_pos c24] at H
                    have c24b0 : decide (0 ≤ x7_1) = true := decide_eq_true c24
                    clear c24
                    by_cases c25 : x7_1 < (t344.length : Int)
                    · rw [if_pos c25] at H
                      have c25b0 : decide (x7_1 < (t344.length : Int)) = true := decide_eq_true c25
                      clear c25
                      by_cases c26 : ((rd_T35 t355 x34_1).f0) = ((rd_T46 t344 x7_1).f0)
                      · rw [if_pos c26] at H
                        have c26b0 : (((rd_T35 t355 x34_1).f0) == ((rd_T46 t344 x7_1).f0)) = true := beq_iff_eq.mpr c26
                        have c26b1 : (((rd_T35 t355 x34_1).f0) != ((rd_T46 t344 x7_1).f0)) = false := bne_eq_false_iff_eq.mpr c26
                        clear c26
                        have H' := Aside0.mk H
                        clear H
                        have p358 : 0 ≤ (x34_1 : Int) := of_decide_eq_true (by first | (with_reducible assumption) | assumption)
                        have q358 : x34_1 < (t355.length : Int) := of_decide_eq_true (by first | (with_reducible assumption) | assumption)
                        obtain ⟨ad358, A358_2, c358_2, e358, hx358_0, hx358_1, hx358_2, hl358_2, hi358_2⟩ := at_T35 (Kd.S_reads' HO_32.out).2.2 x34_1 p358 q358
                        cases e358
                        obtain ⟨ce358, hce358, hMe358, hcc358⟩ := Kd.S_get HO_32.out z35 x34_1 p358 (by first | exact q358 | exact of_decide_eq_true (by first | (with_reducible assumption) | assumption) | (have e_ := (Kd.S_reads' HO_32.out).1; omega))
                        obtain ⟨ve358_2, rfl, ge358_2⟩ := k35_openM hMe358
                        have hv358_2 := hcc358 2 _ rfl
                        rw [add_field _ _ 2 (by omega)] at hv358_2
                        replace hv358_2 := Option.some.inj (hv358_2.symm.trans hx358_2)
                        rw [hv358_2] at ge358_2
                        have HL358_2 := Aside0.mk (show Kd.R (Kd.int .i64) 3 _ _ _ _ ((rd_T35 t355 x34_1).f2) from ge358_2)
                        clear hv358_2 ge358_2
                        clear hcc358 hce358
                        have HR358_2 := Aside0.mk hi358_2
                        have HC358_2 := Aside0.mk hl358_2
                        clear hi358_2 hl358_2
                        replace p358 := eq_true p358
                        replace q358 := eq_true q358
                        go_wp2_with (first | ((with_reducible refine gate_dst (N := 9) rfl ?_); (try (refine gate_guard (by rfl) ?_; dsimp only)); refine box_event ?hg (N := 9) ?hd (cs := #[.int .i64 0, .int .i64 0, .slice none 0 0]) (t := 35) ?hr ?_; (case hd => rfl); (case hg => rfl); (case hr => first | (go_simp; done) | (go_simp; rfl)); intro gb359 hg w27 hbox hb; have n0_ := Aside0.mk (Kd.R_below (by (with_reducible repeat (first | apply Kd.R_alloc | apply Kd.R_drewN | apply Kd.R_drew)); exact HO_3.out) hb); have n1_ := Aside0.mk (Kd.S_below (Kd.S_elderB (by (with_reducible repeat (first | apply Kd.S_alloc | apply Kd.S_drewN | apply Kd.S_drew)); exact HO_6.out) gb359 (Nat.le_of_eq hg.symm)) hb); have n2_ := Aside0.mk (Kd.S_below (Kd.S_elderB (by (with_reducible repeat (first | apply Kd.S_alloc | apply Kd.S_drewN | apply Kd.S_drew)); exact HO_32.out) gb359 (Nat.le_of_eq hg.symm)) hb); have n3_ := Aside0.mk (Kd.R_below (by (with_reducible repeat (first | apply Kd.R_alloc | apply Kd.R_drewN | apply Kd.R_drew)); exact HL358_2.out) hb); have n4_ := Aside0.mk (Kd.C_below (by repeat (first | (with_reducible exact HR358_2.out) | (with_reducible refine Kd.C_alloc ?_ _) | (with_reducible refine Kd.C_drewN ?_ _) | (with_reducible refine Kd.C_drew ?_) | exact HR358_2.out)) hb); have n5_ := Aside0.mk (below_step (by repeat (first | (with_reducible first | exact HB.out | apply below_alloc | apply pw_below_drewN | apply below_drew1) | exact HB.out)) hb); have n6_ := Aside0.mk (hbox); have n7_ := Aside0.mk ((by rw [hg]; exact (below_size (by repeat (first | (with_reducible first | exact HB.out | apply below_alloc | apply pw_below_drewN | apply below_drew1) | exact HB.out))) : w.heap.size ≤ gb359)); have n8_ := Aside0.mk ((by rw [hg]; exact (below_size (by repeat (first | (with_reducible first | exact HB.out | apply below_alloc | apply pw_below_drewN | apply below_drew1) | exact HB.out))) : w.heap.size ≤ gb359)); clear HO_3; clear HO_6; clear HO_32; clear HL358_2; clear HR358_2; clear HB; have HO_3 := n0_; have HO_6 := n1_; have HO_32 := n2_; have HL358_2 := n3_; have HR358_2 := n4_; have HB := n5_; have BK359 := n6_; have GW359 := n7_; have GE359 := n8_; clear n0_ n1_ n2_ n3_ n4_ n5_ n6_ n7_ n8_; clear hb hbox hg; have hcz28_0 : w27.cell? ⟨gb359, 0, none⟩ = some (.int .i64 0) := (blk_cell BK359.out 0).trans rfl; have hcz28_1 : w27.cell? ⟨gb359, 1, none⟩ = some (.int .i64 0) := (blk_cell BK359.out 1).trans rfl; have hcz28_2 : w27.cell? ⟨gb359, 2, none⟩ = some (.slice none 0 0) := (blk_cell BK359.out 2).trans rfl; have hfz28_0 := blk_frozen BK359.out 0; have hfz28_1 := blk_frozen BK359.out 1; have hfz28_2 := blk_frozen BK359.out 2; have p360 : 0 ≤ (x7_1 : Int) := of_decide_eq_true (by first | (with_reducible assumption) | assumption); have q360 : x7_1 < (t344.length : Int) := of_decide_eq_true (by first | (with_reducible assumption) | assumption); obtain ⟨ad360, e360, hx360_0, hx360_1, hx360_2, hx360_3⟩ := at_T46 (Kd.R_reads' HO_3.out).2.2 x7_1 p360 q360; cases e360; have hn360_0 : ad360.block ≠ gb359 := Kd.own_blk (Kd.R_ne HO_3.out BK359.out (by decide)); have hn360_1 : ad360.block ≠ gb359 := Kd.own_blk (Kd.R_ne HO_3.out BK359.out (by decide)); have hn360_2 : ad360.block ≠ gb359 := Kd.own_blk (Kd.R_ne HO_3.out BK359.out (by decide)); replace hx360_0 := (cell_far (p := ⟨gb359, 0, none⟩) (by first | (rw [add_block]; exact hn360_0) | (show (Addr.add _ _).block ≠ _; rw [add_block]; exact hn360_0) | exact hn360_0) (.int .i64 ((rd_T35 t355 x34_1).f0))).trans hx360_0; replace hx360_1 := (cell_far (p := ⟨gb359, 0, none⟩) (by first | (rw [add_block]; exact hn360_0) | (show (Addr.add _ _).block ≠ _; rw [add_block]; exact hn360_0) | exact hn360_0) (.int .i64 ((rd_T35 t355 x34_1).f0))).trans hx360_1; replace hx360_2 := (cell_far (p := ⟨gb359, 0, none⟩) (by first | (rw [add_block]; exact hn360_0) | (show (Addr.add _ _).block ≠ _; rw [add_block]; exact hn360_0) | exact hn360_0) (.int .i64 ((rd_T35 t355 x34_1).f0))).trans hx360_2; replace hx360_3 := (cell_far (p := ⟨gb359, 0, none⟩) (by first | (rw [add_block]; exact hn360_0) | (show (Addr.add _ _).block ≠ _; rw [add_block]; exact hn360_0) | exact hn360_0) (.int .i64 ((rd_T35 t355 x34_1).f0))).trans hx360_3; replace hx360_0 := (cell_far (p := ⟨gb359, 1, none⟩) (by first | (rw [add_block]; exact hn360_1) | (show (Addr.add _ _).block ≠ _; rw [add_block]; exact hn360_1) | exact hn360_1) (.int .i64 ((rd_T35 t355 x34_1).f1))).trans hx360_0; replace hx360_1 := (cell_far (p := ⟨gb359, 1, none⟩) (by first | (rw [add_block]; exact hn360_1) | (show (Addr.add _ _).block ≠ _; rw [add_block]; exact hn360_1) | exact hn360_1) (.int .i64 ((rd_T35 t355 x34_1).f1))).trans hx360_1; replace hx360_2 := (cell_far (p := ⟨gb359, 1, none⟩) (by first | (rw [add_block]; exact hn360_1) | (show (Addr.add _ _).block ≠ _; rw [add_block]; exact hn360_1) | exact hn360_1) (.int .i64 ((rd_T35 t355 x34_1).f1))).trans hx360_2; replace hx360_3 := (cell_far (p := ⟨gb359, 1, none⟩) (by first | (rw [add_block]; exact hn360_1) | (show (Addr.add _ _).block ≠ _; rw [add_block]; exact hn360_1) | exact hn360_1) (.int .i64 ((rd_T35 t355 x34_1).f1))).trans hx360_3; replace hx360_0 := (cell_far (p := ⟨gb359, 2, none⟩) (by first | (rw [add_block]; exact hn360_2) | (show (Addr.add _ _).block ≠ _; rw [add_block]; exact hn360_2) | exact hn360_2) (.slice A358_2 ((rd_T35 t355 x34_1).f2).length c358_2)).trans hx360_0; replace hx360_1 := (cell_far (p := ⟨gb359, 2, none⟩) (by first | (rw [add_block]; exact hn360_2) | (show (Addr.add _ _).block ≠ _; rw [add_block]; exact hn360_2) | exact hn360_2) (.slice A358_2 ((rd_T35 t355 x34_1).f2).length c358_2)).trans hx360_1; replace hx360_2 := (cell_far (p := ⟨gb359, 2, none⟩) (by first | (rw [add_block]; exact hn360_2) | (show (Addr.add _ _).block ≠ _; rw [add_block]; exact hn360_2) | exact hn360_2) (.slice A358_2 ((rd_T35 t355 x34_1).f2).length c358_2)).trans hx360_2; replace hx360_3 := (cell_far (p := ⟨gb359, 2, none⟩) (by first | (rw [add_block]; exact hn360_2) | (show (Addr.add _ _).block ≠ _; rw [add_block]; exact hn360_2) | exact hn360_2) (.slice A358_2 ((rd_T35 t355 x34_1).f2).length c358_2)).trans hx360_3; (try have hy360_0 := fun (n_ : Nat) => (show (((((w27.drewN n_).setCell ⟨gb359, 0, none⟩ (.int .i64 ((rd_T35 t355 x34_1).f0))).setCell ⟨gb359, 1, none⟩ (.int .i64 ((rd_T35 t355 x34_1).f1))).setCell ⟨gb359, 2, none⟩ (.slice A358_2 ((rd_T35 t355 x34_1).f2).length c358_2))).cell? _ = some _ from hx360_0)); (try have hy360_1 := fun (n_ : Nat) => (show (((((w27.drewN n_).setCell ⟨gb359, 0, none⟩ (.int .i64 ((rd_T35 t355 x34_1).f0))).setCell ⟨gb359, 1, none⟩ (.int .i64 ((rd_T35 t355 x34_1).f1))).setCell ⟨gb359, 2, none⟩ (.slice A358_2 ((rd_T35 t355 x34_1).f2).length c358_2))).cell? _ = some _ from hx360_1)); (try have hy360_2 := fun (n_ : Nat) => (show (((((w27.drewN n_).setCell ⟨gb359, 0, none⟩ (.int .i64 ((rd_T35 t355 x34_1).f0))).setCell ⟨gb359, 1, none⟩ (.int .i64 ((rd_T35 t355 x34_1).f1))).setCell ⟨gb359, 2, none⟩ (.slice A358_2 ((rd_T35 t355 x34_1).f2).length c358_2))).cell? _ = some _ from hx360_2)); (try have hy360_3 := fun (n_ : Nat) => (show (((((w27.drewN n_).setCell ⟨gb359, 0, none⟩ (.int .i64 ((rd_T35 t355 x34_1).f0))).setCell ⟨gb359, 1, none⟩ (.int .i64 ((rd_T35 t355 x34_1).f1))).setCell ⟨gb359, 2, none⟩ (.slice A358_2 ((rd_T35 t355 x34_1).f2).length c358_2))).cell? _ = some _ from hx360_3)); clear hn360_0; clear hn360_1; clear hn360_2; replace p360 := eq_true p360; replace q360 := eq_true q360))
                        repeat (go_quiet (first | ((with_reducible refine gate_dst (N := 9) rfl ?_); (try (refine gate_guard (by rfl) ?_; dsimp only)); refine box_event ?hg (N := 9) ?hd (cs := #[.int .i64 0, .int .i64 0, .slice none 0 0]) (t := 35) ?hr ?_; (case hd => rfl); (case hg => rfl); (case hr => first | (go_simp; done) | (go_simp; rfl)); intro gb359 hg w27 hbox hb; have n0_ := Aside0.mk (Kd.R_below (by (with_reducible repeat (first | apply Kd.R_alloc | apply Kd.R_drewN | apply Kd.R_drew)); exact HO_3.out) hb); have n1_ := Aside0.mk (Kd.S_below (Kd.S_elderB (by (with_reducible repeat (first | apply Kd.S_alloc | apply Kd.S_drewN | apply Kd.S_drew)); exact HO_6.out) gb359 (Nat.le_of_eq hg.symm)) hb); have n2_ := Aside0.mk (Kd.S_below (Kd.S_elderB (by (with_reducible repeat (first | apply Kd.S_alloc | apply Kd.S_drewN | apply Kd.S_drew)); exact HO_32.out) gb359 (Nat.le_of_eq hg.symm)) hb); have n3_ := Aside0.mk (Kd.R_below (by (with_reducible repeat (first | apply Kd.R_alloc | apply Kd.R_drewN | apply Kd.R_drew)); exact HL358_2.out) hb); have n4_ := Aside0.mk (Kd.C_below (by repeat (first | (with_reducible exact HR358_2.out) | (with_reducible refine Kd.C_alloc ?_ _) | (with_reducible refine Kd.C_drewN ?_ _) | (with_reducible refine Kd.C_drew ?_) | exact HR358_2.out)) hb); have n5_ := Aside0.mk (below_step (by repeat (first | (with_reducible first | exact HB.out | apply below_alloc | apply pw_below_drewN | apply below_drew1) | exact HB.out)) hb); have n6_ := Aside0.mk (hbox); have n7_ := Aside0.mk ((by rw [hg]; exact (below_size (by repeat (first | (with_reducible first | exact HB.out | apply below_alloc | apply pw_below_drewN | apply below_drew1) | exact HB.out))) : w.heap.size ≤ gb359)); have n8_ := Aside0.mk ((by rw [hg]; exact (below_size (by repeat (first | (with_reducible first | exact HB.out | apply below_alloc | apply pw_below_drewN | apply below_drew1) | exact HB.out))) : w.heap.size ≤ gb359)); clear HO_3; clear HO_6; clear HO_32; clear HL358_2; clear HR358_2; clear HB; have HO_3 := n0_; have HO_6 := n1_; have HO_32 := n2_; have HL358_2 := n3_; have HR358_2 := n4_; have HB := n5_; have BK359 := n6_; have GW359 := n7_; have GE359 := n8_; clear n0_ n1_ n2_ n3_ n4_ n5_ n6_ n7_ n8_; clear hb hbox hg; have hcz28_0 : w27.cell? ⟨gb359, 0, none⟩ = some (.int .i64 0) := (blk_cell BK359.out 0).trans rfl; have hcz28_1 : w27.cell? ⟨gb359, 1, none⟩ = some (.int .i64 0) := (blk_cell BK359.out 1).trans rfl; have hcz28_2 : w27.cell? ⟨gb359, 2, none⟩ = some (.slice none 0 0) := (blk_cell BK359.out 2).trans rfl; have hfz28_0 := blk_frozen BK359.out 0; have hfz28_1 := blk_frozen BK359.out 1; have hfz28_2 := blk_frozen BK359.out 2; have p360 : 0 ≤ (x7_1 : Int) := of_decide_eq_true (by first | (with_reducible assumption) | assumption); have q360 : x7_1 < (t344.length : Int) := of_decide_eq_true (by first | (with_reducible assumption) | assumption); obtain ⟨ad360, e360, hx360_0, hx360_1, hx360_2, hx360_3⟩ := at_T46 (Kd.R_reads' HO_3.out).2.2 x7_1 p360 q360; cases e360; have hn360_0 : ad360.block ≠ gb359 := Kd.own_blk (Kd.R_ne HO_3.out BK359.out (by decide)); have hn360_1 : ad360.block ≠ gb359 := Kd.own_blk (Kd.R_ne HO_3.out BK359.out (by decide)); have hn360_2 : ad360.block ≠ gb359 := Kd.own_blk (Kd.R_ne HO_3.out BK359.out (by decide)); replace hx360_0 := (cell_far (p := ⟨gb359, 0, none⟩) (by first | (rw [add_block]; exact hn360_0) | (show (Addr.add _ _).block ≠ _; rw [add_block]; exact hn360_0) | exact hn360_0) (.int .i64 ((rd_T35 t355 x34_1).f0))).trans hx360_0; replace hx360_1 := (cell_far (p := ⟨gb359, 0, none⟩) (by first | (rw [add_block]; exact hn360_0) | (show (Addr.add _ _).block ≠ _; rw [add_block]; exact hn360_0) | exact hn360_0) (.int .i64 ((rd_T35 t355 x34_1).f0))).trans hx360_1; replace hx360_2 := (cell_far (p := ⟨gb359, 0, none⟩) (by first | (rw [add_block]; exact hn360_0) | (show (Addr.add _ _).block ≠ _; rw [add_block]; exact hn360_0) | exact hn360_0) (.int .i64 ((rd_T35 t355 x34_1).f0))).trans hx360_2; replace hx360_3 := (cell_far (p := ⟨gb359, 0, none⟩) (by first | (rw [add_block]; exact hn360_0) | (show (Addr.add _ _).block ≠ _; rw [add_block]; exact hn360_0) | exact hn360_0) (.int .i64 ((rd_T35 t355 x34_1).f0))).trans hx360_3; replace hx360_0 := (cell_far (p := ⟨gb359, 1, none⟩) (by first | (rw [add_block]; exact hn360_1) | (show (Addr.add _ _).block ≠ _; rw [add_block]; exact hn360_1) | exact hn360_1) (.int .i64 ((rd_T35 t355 x34_1).f1))).trans hx360_0; replace hx360_1 := (cell_far (p := ⟨gb359, 1, none⟩) (by first | (rw [add_block]; exact hn360_1) | (show (Addr.add _ _).block ≠ _; rw [add_block]; exact hn360_1) | exact hn360_1) (.int .i64 ((rd_T35 t355 x34_1).f1))).trans hx360_1; replace hx360_2 := (cell_far (p := ⟨gb359, 1, none⟩) (by first | (rw [add_block]; exact hn360_1) | (show (Addr.add _ _).block ≠ _; rw [add_block]; exact hn360_1) | exact hn360_1) (.int .i64 ((rd_T35 t355 x34_1).f1))).trans hx360_2; replace hx360_3 := (cell_far (p := ⟨gb359, 1, none⟩) (by first | (rw [add_block]; exact hn360_1) | (show (Addr.add _ _).block ≠ _; rw [add_block]; exact hn360_1) | exact hn360_1) (.int .i64 ((rd_T35 t355 x34_1).f1))).trans hx360_3; replace hx360_0 := (cell_far (p := ⟨gb359, 2, none⟩) (by first | (rw [add_block]; exact hn360_2) | (show (Addr.add _ _).block ≠ _; rw [add_block]; exact hn360_2) | exact hn360_2) (.slice A358_2 ((rd_T35 t355 x34_1).f2).length c358_2)).trans hx360_0; replace hx360_1 := (cell_far (p := ⟨gb359, 2, none⟩) (by first | (rw [add_block]; exact hn360_2) | (show (Addr.add _ _).block ≠ _; rw [add_block]; exact hn360_2) | exact hn360_2) (.slice A358_2 ((rd_T35 t355 x34_1).f2).length c358_2)).trans hx360_1; replace hx360_2 := (cell_far (p := ⟨gb359, 2, none⟩) (by first | (rw [add_block]; exact hn360_2) | (show (Addr.add _ _).block ≠ _; rw [add_block]; exact hn360_2) | exact hn360_2) (.slice A358_2 ((rd_T35 t355 x34_1).f2).length c358_2)).trans hx360_2; replace hx360_3 := (cell_far (p := ⟨gb359, 2, none⟩) (by first | (rw [add_block]; exact hn360_2) | (show (Addr.add _ _).block ≠ _; rw [add_block]; exact hn360_2) | exact hn360_2) (.slice A358_2 ((rd_T35 t355 x34_1).f2).length c358_2)).trans hx360_3; (try have hy360_0 := fun (n_ : Nat) => (show (((((w27.drewN n_).setCell ⟨gb359, 0, none⟩ (.int .i64 ((rd_T35 t355 x34_1).f0))).setCell ⟨gb359, 1, none⟩ (.int .i64 ((rd_T35 t355 x34_1).f1))).setCell ⟨gb359, 2, none⟩ (.slice A358_2 ((rd_T35 t355 x34_1).f2).length c358_2))).cell? _ = some _ from hx360_0)); (try have hy360_1 := fun (n_ : Nat) => (show (((((w27.drewN n_).setCell ⟨gb359, 0, none⟩ (.int .i64 ((rd_T35 t355 x34_1).f0))).setCell ⟨gb359, 1, none⟩ (.int .i64 ((rd_T35 t355 x34_1).f1))).setCell ⟨gb359, 2, none⟩ (.slice A358_2 ((rd_T35 t355 x34_1).f2).length c358_2))).cell? _ = some _ from hx360_1)); (try have hy360_2 := fun (n_ : Nat) => (show (((((w27.drewN n_).setCell ⟨gb359, 0, none⟩ (.int .i64 ((rd_T35 t355 x34_1).f0))).setCell ⟨gb359, 1, none⟩ (.int .i64 ((rd_T35 t355 x34_1).f1))).setCell ⟨gb359, 2, none⟩ (.slice A358_2 ((rd_T35 t355 x34_1).f2).length c358_2))).cell? _ = some _ from hx360_2)); (try have hy360_3 := fun (n_ : Nat) => (show (((((w27.drewN n_).setCell ⟨gb359, 0, none⟩ (.int .i64 ((rd_T35 t355 x34_1).f0))).setCell ⟨gb359, 1, none⟩ (.int .i64 ((rd_T35 t355 x34_1).f1))).setCell ⟨gb359, 2, none⟩ (.slice A358_2 ((rd_T35 t355 x34_1).f2).length c358_2))).cell? _ = some _ from hx360_3)); clear hn360_0; clear hn360_1; clear hn360_2; replace p360 := eq_true p360; replace q360 := eq_true q360)); try go_wp2_with (first | ((with_reducible refine gate_dst (N := 9) rfl ?_); (try (refine gate_guard (by rfl) ?_; dsimp only)); refine box_event ?hg (N := 9) ?hd (cs := #[.int .i64 0, .int .i64 0, .slice none 0 0]) (t := 35) ?hr ?_; (case hd => rfl); (case hg => rfl); (case hr => first | (go_simp; done) | (go_simp; rfl)); intro gb359 hg w27 hbox hb; have n0_ := Aside0.mk (Kd.R_below (by (with_reducible repeat (first | apply Kd.R_alloc | apply Kd.R_drewN | apply Kd.R_drew)); exact HO_3.out) hb); have n1_ := Aside0.mk (Kd.S_below (Kd.S_elderB (by (with_reducible repeat (first | apply Kd.S_alloc | apply Kd.S_drewN | apply Kd.S_drew)); exact HO_6.out) gb359 (Nat.le_of_eq hg.symm)) hb); have n2_ := Aside0.mk (Kd.S_below (Kd.S_elderB (by (with_reducible repeat (first | apply Kd.S_alloc | apply Kd.S_drewN | apply Kd.S_drew)); exact HO_32.out) gb359 (Nat.le_of_eq hg.symm)) hb); have n3_ := Aside0.mk (Kd.R_below (by (with_reducible repeat (first | apply Kd.R_alloc | apply Kd.R_drewN | apply Kd.R_drew)); exact HL358_2.out) hb); have n4_ := Aside0.mk (Kd.C_below (by repeat (first | (with_reducible exact HR358_2.out) | (with_reducible refine Kd.C_alloc ?_ _) | (with_reducible refine Kd.C_drewN ?_ _) | (with_reducible refine Kd.C_drew ?_) | exact HR358_2.out)) hb); have n5_ := Aside0.mk (below_step (by repeat (first | (with_reducible first | exact HB.out | apply below_alloc | apply pw_below_drewN | apply below_drew1) | exact HB.out)) hb); have n6_ := Aside0.mk (hbox); have n7_ := Aside0.mk ((by rw [hg]; exact (below_size (by repeat (first | (with_reducible first | exact HB.out | apply below_alloc | apply pw_below_drewN | apply below_drew1) | exact HB.out))) : w.heap.size ≤ gb359)); have n8_ := Aside0.mk ((by rw [hg]; exact (below_size (by repeat (first | (with_reducible first | exact HB.out | apply below_alloc | apply pw_below_drewN | apply below_drew1) | exact HB.out))) : w.heap.size ≤ gb359)); clear HO_3; clear HO_6; clear HO_32; clear HL358_2; clear HR358_2; clear HB; have HO_3 := n0_; have HO_6 := n1_; have HO_32 := n2_; have HL358_2 := n3_; have HR358_2 := n4_; have HB := n5_; have BK359 := n6_; have GW359 := n7_; have GE359 := n8_; clear n0_ n1_ n2_ n3_ n4_ n5_ n6_ n7_ n8_; clear hb hbox hg; have hcz28_0 : w27.cell? ⟨gb359, 0, none⟩ = some (.int .i64 0) := (blk_cell BK359.out 0).trans rfl; have hcz28_1 : w27.cell? ⟨gb359, 1, none⟩ = some (.int .i64 0) := (blk_cell BK359.out 1).trans rfl; have hcz28_2 : w27.cell? ⟨gb359, 2, none⟩ = some (.slice none 0 0) := (blk_cell BK359.out 2).trans rfl; have hfz28_0 := blk_frozen BK359.out 0; have hfz28_1 := blk_frozen BK359.out 1; have hfz28_2 := blk_frozen BK359.out 2; have p360 : 0 ≤ (x7_1 : Int) := of_decide_eq_true (by first | (with_reducible assumption) | assumption); have q360 : x7_1 < (t344.length : Int) := of_decide_eq_true (by first | (with_reducible assumption) | assumption); obtain ⟨ad360, e360, hx360_0, hx360_1, hx360_2, hx360_3⟩ := at_T46 (Kd.R_reads' HO_3.out).2.2 x7_1 p360 q360; cases e360; have hn360_0 : ad360.block ≠ gb359 := Kd.own_blk (Kd.R_ne HO_3.out BK359.out (by decide)); have hn360_1 : ad360.block ≠ gb359 := Kd.own_blk (Kd.R_ne HO_3.out BK359.out (by decide)); have hn360_2 : ad360.block ≠ gb359 := Kd.own_blk (Kd.R_ne HO_3.out BK359.out (by decide)); replace hx360_0 := (cell_far (p := ⟨gb359, 0, none⟩) (by first | (rw [add_block]; exact hn360_0) | (show (Addr.add _ _).block ≠ _; rw [add_block]; exact hn360_0) | exact hn360_0) (.int .i64 ((rd_T35 t355 x34_1).f0))).trans hx360_0; replace hx360_1 := (cell_far (p := ⟨gb359, 0, none⟩) (by first | (rw [add_block]; exact hn360_0) | (show (Addr.add _ _).block ≠ _; rw [add_block]; exact hn360_0) | exact hn360_0) (.int .i64 ((rd_T35 t355 x34_1).f0))).trans hx360_1; replace hx360_2 := (cell_far (p := ⟨gb359, 0, none⟩) (by first | (rw [add_block]; exact hn360_0) | (show (Addr.add _ _).block ≠ _; rw [add_block]; exact hn360_0) | exact hn360_0) (.int .i64 ((rd_T35 t355 x34_1).f0))).trans hx360_2; replace hx360_3 := (cell_far (p := ⟨gb359, 0, none⟩) (by first | (rw [add_block]; exact hn360_0) | (show (Addr.add _ _).block ≠ _; rw [add_block]; exact hn360_0) | exact hn360_0) (.int .i64 ((rd_T35 t355 x34_1).f0))).trans hx360_3; replace hx360_0 := (cell_far (p := ⟨gb359, 1, none⟩) (by first | (rw [add_block]; exact hn360_1) | (show (Addr.add _ _).block ≠ _; rw [add_block]; exact hn360_1) | exact hn360_1) (.int .i64 ((rd_T35 t355 x34_1).f1))).trans hx360_0; replace hx360_1 := (cell_far (p := ⟨gb359, 1, none⟩) (by first | (rw [add_block]; exact hn360_1) | (show (Addr.add _ _).block ≠ _; rw [add_block]; exact hn360_1) | exact hn360_1) (.int .i64 ((rd_T35 t355 x34_1).f1))).trans hx360_1; replace hx360_2 := (cell_far (p := ⟨gb359, 1, none⟩) (by first | (rw [add_block]; exact hn360_1) | (show (Addr.add _ _).block ≠ _; rw [add_block]; exact hn360_1) | exact hn360_1) (.int .i64 ((rd_T35 t355 x34_1).f1))).trans hx360_2; replace hx360_3 := (cell_far (p := ⟨gb359, 1, none⟩) (by first | (rw [add_block]; exact hn360_1) | (show (Addr.add _ _).block ≠ _; rw [add_block]; exact hn360_1) | exact hn360_1) (.int .i64 ((rd_T35 t355 x34_1).f1))).trans hx360_3; replace hx360_0 := (cell_far (p := ⟨gb359, 2, none⟩) (by first | (rw [add_block]; exact hn360_2) | (show (Addr.add _ _).block ≠ _; rw [add_block]; exact hn360_2) | exact hn360_2) (.slice A358_2 ((rd_T35 t355 x34_1).f2).length c358_2)).trans hx360_0; replace hx360_1 := (cell_far (p := ⟨gb359, 2, none⟩) (by first | (rw [add_block]; exact hn360_2) | (show (Addr.add _ _).block ≠ _; rw [add_block]; exact hn360_2) | exact hn360_2) (.slice A358_2 ((rd_T35 t355 x34_1).f2).length c358_2)).trans hx360_1; replace hx360_2 := (cell_far (p := ⟨gb359, 2, none⟩) (by first | (rw [add_block]; exact hn360_2) | (show (Addr.add _ _).block ≠ _; rw [add_block]; exact hn360_2) | exact hn360_2) (.slice A358_2 ((rd_T35 t355 x34_1).f2).length c358_2)).trans hx360_2; replace hx360_3 := (cell_far (p := ⟨gb359, 2, none⟩) (by first | (rw [add_block]; exact hn360_2) | (show (Addr.add _ _).block ≠ _; rw [add_block]; exact hn360_2) | exact hn360_2) (.slice A358_2 ((rd_T35 t355 x34_1).f2).length c358_2)).trans hx360_3; (try have hy360_0 := fun (n_ : Nat) => (show (((((w27.drewN n_).setCell ⟨gb359, 0, none⟩ (.int .i64 ((rd_T35 t355 x34_1).f0))).setCell ⟨gb359, 1, none⟩ (.int .i64 ((rd_T35 t355 x34_1).f1))).setCell ⟨gb359, 2, none⟩ (.slice A358_2 ((rd_T35 t355 x34_1).f2).length c358_2))).cell? _ = some _ from hx360_0)); (try have hy360_1 := fun (n_ : Nat) => (show (((((w27.drewN n_).setCell ⟨gb359, 0, none⟩ (.int .i64 ((rd_T35 t355 x34_1).f0))).setCell ⟨gb359, 1, none⟩ (.int .i64 ((rd_T35 t355 x34_1).f1))).setCell ⟨gb359, 2, none⟩ (.slice A358_2 ((rd_T35 t355 x34_1).f2).length c358_2))).cell? _ = some _ from hx360_1)); (try have hy360_2 := fun (n_ : Nat) => (show (((((w27.drewN n_).setCell ⟨gb359, 0, none⟩ (.int .i64 ((rd_T35 t355 x34_1).f0))).setCell ⟨gb359, 1, none⟩ (.int .i64 ((rd_T35 t355 x34_1).f1))).setCell ⟨gb359, 2, none⟩ (.slice A358_2 ((rd_T35 t355 x34_1).f2).length c358_2))).cell? _ = some _ from hx360_2)); (try have hy360_3 := fun (n_ : Nat) => (show (((((w27.drewN n_).setCell ⟨gb359, 0, none⟩ (.int .i64 ((rd_T35 t355 x34_1).f0))).setCell ⟨gb359, 1, none⟩ (.int .i64 ((rd_T35 t355 x34_1).f1))).setCell ⟨gb359, 2, none⟩ (.slice A358_2 ((rd_T35 t355 x34_1).f2).length c358_2))).cell? _ = some _ from hx360_3)); clear hn360_0; clear hn360_1; clear hn360_2; replace p360 := eq_true p360; replace q360 := eq_true q360)))
                        go_loopg [7] k1 (fun kq v7 w' => ∃ (x7_2 : Int), v7 = .int .i64 x7_2 ∧ Aside0 (provisolaw05_FlowParts.l1 kq t344 t355 x7_2 t355 (t355.length : Int) x34_1 ((rd_T35 t355 x34_1).f0) ((rd_T35 t355 x34_1).f1) ((rd_T35 t355 x34_1).f2) = some r) ∧ Aside0 (kq ≤ k1) ∧ Aside0 (Kd.R k46 46 w' w.heap.size (fun _ => True) (.slice (some ad360) t344.length co13) t344) ∧ Aside0 (Kd.S k35 35 w' w.heap.size (fun k_ => k_ ≠ gb359) (.slice (some ad358) t355.length co17) t355) ∧ Aside0 (Kd.S k35 35 w' w.heap.size (fun k_ => k_ ≠ gb359) (.slice (some ad358) t355.length co17) t355) ∧ Aside0 (w'.heap[gb359]? = some (.cells #[.int .i64 ((rd_T35 t355 x34_1).f0), .int .i64 ((rd_T35 t355 x34_1).f1), (.slice A358_2 ((rd_T35 t355 x34_1).f2).length c358_2)] 35 (0, 0))) ∧ Aside0 (Kd.C (Kd.int .i64) w' A358_2 ((rd_T35 t355 x34_1).f2).length ((rd_T35 t355 x34_1).f2)) ∧ Aside0 (Below w.heap.size w w'))
                        case atStart => exact ⟨(x7_1), (by first | rfl | (simp; done) | (simp [*]; done)), H', ⟨Nat.le_refl _⟩, ⟨by (with_reducible repeat (first | apply Kd.R_alloc | apply Kd.R_drewN | apply Kd.R_drew)); exact Kd.R_mono (Kd.R_far (p := ⟨gb359, 2, none⟩) (Kd.R_far (p := ⟨gb359, 1, none⟩) (Kd.R_far (p := ⟨gb359, 0, none⟩) (Kd.R_types HO_3.out BK359.out (by decide)) (fun _ hk => hk.2) (.int .i64 ((rd_T35 t355 x34_1).f0))) (fun _ hk => hk.2) (.int .i64 ((rd_T35 t355 x34_1).f1))) (fun _ hk => hk.2) (.slice A358_2 ((rd_T35 t355 x34_1).f2).length c358_2)) (fun _ hk => trivial)⟩, ⟨by (with_reducible repeat (first | apply Kd.S_alloc | apply Kd.S_drewN | apply Kd.S_drew)); exact Kd.S_mono (Kd.S_far (p := ⟨gb359, 2, none⟩) (Kd.S_far (p := ⟨gb359, 1, none⟩) (Kd.S_far (p := ⟨gb359, 0, none⟩) (Kd.S_mono HO_6.out (fun k_ hk => (⟨hk, hk.2⟩ : _ ∧ k_ ≠ gb359))) (fun _ hk => hk.2) (.int .i64 ((rd_T35 t355 x34_1).f0))) (fun _ hk => hk.2) (.int .i64 ((rd_T35 t355 x34_1).f1))) (fun _ hk => hk.2) (.slice A358_2 ((rd_T35 t355 x34_1).f2).length c358_2)) (fun _ hk => hk.1.2)⟩, ⟨by (with_reducible repeat (first | apply Kd.S_alloc | apply Kd.S_drewN | apply Kd.S_drew)); exact Kd.S_mono (Kd.S_far (p := ⟨gb359, 2, none⟩) (Kd.S_far (p := ⟨gb359, 1, none⟩) (Kd.S_far (p := ⟨gb359, 0, none⟩) (Kd.S_mono HO_32.out (fun k_ hk => (⟨hk, hk.2⟩ : _ ∧ k_ ≠ gb359))) (fun _ hk => hk.2) (.int .i64 ((rd_T35 t355 x34_1).f0))) (fun _ hk => hk.2) (.int .i64 ((rd_T35 t355 x34_1).f1))) (fun _ hk => hk.2) (.slice A358_2 ((rd_T35 t355 x34_1).f2).length c358_2)) (fun _ hk => hk.1.2)⟩, ⟨by (with_reducible repeat (first | refine blk_drewN ?_ _ | refine blk_drew ?_ | refine blk_alloc ?_ _)); refine blk_put (cs := #[.int .i64 ((rd_T35 t355 x34_1).f0), .int .i64 ((rd_T35 t355 x34_1).f1), .slice none 0 0]) ?_ 2 _ rfl; (with_reducible repeat (first | refine blk_drewN ?_ _ | refine blk_drew ?_ | refine blk_alloc ?_ _)); refine blk_put (cs := #[.int .i64 ((rd_T35 t355 x34_1).f0), .int .i64 0, .slice none 0 0]) ?_ 1 _ rfl; (with_reducible repeat (first | refine blk_drewN ?_ _ | refine blk_drew ?_ | refine blk_alloc ?_ _)); refine blk_put (cs := #[.int .i64 0, .int .i64 0, .slice none 0 0]) ?_ 0 _ rfl; (with_reducible repeat (first | refine blk_drewN ?_ _ | refine blk_drew ?_ | refine blk_alloc ?_ _)); exact BK359.out⟩, ⟨(Kd.R_reads' (by (with_reducible repeat (first | apply Kd.R_alloc | apply Kd.R_drewN | apply Kd.R_drew)); exact (Kd.R_mono (Kd.R_far (p := ⟨gb359, 2, none⟩) (Kd.R_far (p := ⟨gb359, 1, none⟩) (Kd.R_far (p := ⟨gb359, 0, none⟩) (Kd.R_types HL358_2.out BK359.out (by decide)) (fun _ hk => hk.2) (.int .i64 ((rd_T35 t355 x34_1).f0))) (fun _ hk => hk.2) (.int .i64 ((rd_T35 t355 x34_1).f1))) (fun _ hk => hk.2) (.slice A358_2 ((rd_T35 t355 x34_1).f2).length c358_2)) (fun _ h_ => h_.1)))).2.2⟩, ⟨by repeat (first | (with_reducible first | exact HB.out | apply below_alloc | apply pw_below_drewN | apply below_drew1 | refine below_set ?_ GE359.out) | exact HB.out)⟩⟩
                        case round =>
                          clear H'
                          try clear c1
                          try clear c2
                          try clear p2
                          try clear c3
                          try clear c3b0
                          try clear c3b1
                          try clear p3
                          try clear q3
                          try clear hx3
                          try clear c4
                          try clear c4b0
                          try clear c4b1
                          try clear c4b2
                          try clear c9
                          try clear c18
                          try clear c18b0
                          try clear c19
                          try clear c19b0
                          try clear c20
                          try clear c20b0
                          try clear c21
                          try clear c21b0
                          try clear c24
                          try clear c24b0
                          try clear c25
                          try clear c25b0
                          try clear c26
                          try clear c26b0
                          try clear c26b1
                          try clear hcz23_0
                          try clear hcz23_1
                          try clear hcz23_2
                          try clear hcz28_0
                          try clear hcz28_1
                          try clear hcz28_2
                          try clear hfz23_0
                          try clear hfz23_1
                          try clear hfz23_2
                          try clear hfz28_0
                          try clear hfz28_1
                          try clear hfz28_2
                          try clear hx358_0
                          try clear hx358_1
                          try clear hx358_2
                          try clear hx360_0
                          try clear hx360_1
                          try clear hx360_2
                          try clear hx360_3
                          try clear p2
                          try clear p358
                          try clear p360
                          try clear q358
                          try clear q360
                          obtain ⟨x7_2, rfl, HA, HK2, HO_3, HO_6, HO_32, BK359, HR358_2, HB⟩ := hrel
                          cases gk with
                          | zero => exact absurd HA.out (by simp [provisolaw05_FlowParts.l1])
                          | succ k2 =>
                            have H := HA.out
                            clear HA
                            simp only [provisolaw05_FlowParts.l1] at H
                            by_cases c29 : 0 ≤ x7_2
                            · rw [if_pos c29] at H
                              have c29b0 : decide (0 ≤ x7_2) = true := decide_eq_true c29
                              clear c29
                              by_cases c30 : x7_2 < (t344.length : Int)
                              · rw [if_pos c30] at H
                                have c30b0 : decide (x7_2 < (t344.length : Int)) = true := decide_eq_true c30
                                clear c30
                                by_cases c31 : ((rd_T46 t344 x7_2).f0) = ((rd_T35 t355 x34_1).f1)
                                · rw [if_pos c31] at H
                                  have c31b0 : (((rd_T46 t344 x7_2).f0) == ((rd_T35 t355 x34_1).f1)) = true := beq_iff_eq.mpr c31
                                  have c31b1 : (((rd_T46 t344 x7_2).f0) != ((rd_T35 t355 x34_1).f1)) = false := bne_eq_false_iff_eq.mpr c31
                                  clear c31
                                  have H' := Aside0.mk H
                                  clear H
                                  have p361 : 0 ≤ (x7_2 : Int) := of_decide_eq_true (by first | (with_reducible assumption) | assumption)
                                  have q361 : x7_2 < (t344.length : Int) := of_decide_eq_true (by first | (with_reducible assumption) | assumption)
                                  obtain ⟨ad361, e361, hx361_0, hx361_1, hx361_2, hx361_3⟩ := at_T46 (Kd.R_reads' HO_3.out).2.2 x7_2 p361 q361
                                  obtain rfl : ad360 = ad361 := (by injection e361)
                                  replace p361 := eq_true p361
                                  replace q361 := eq_true q361
                                  have hcz32_0 : wr.cell? ⟨gb359, 0, none⟩ = some (.int .i64 ((rd_T35 t355 x34_1).f0)) := (blk_cell BK359.out 0).trans rfl
                                  have hcz32_1 : wr.cell? ⟨gb359, 1, none⟩ = some (.int .i64 ((rd_T35 t355 x34_1).f1)) := (blk_cell BK359.out 1).trans rfl
                                  have hcz32_2 : wr.cell? ⟨gb359, 2, none⟩ = some (.slice A358_2 ((rd_T35 t355 x34_1).f2).length c358_2) := (blk_cell BK359.out 2).trans rfl
                                  have hfz32_0 := blk_frozen BK359.out 0
                                  have hfz32_1 := blk_frozen BK359.out 1
                                  have hfz32_2 := blk_frozen BK359.out 2
                                  go_wp2
                                  repeat (go_quiet (fail); try go_wp2)
                                  go_loopg [94] k2 (fun kq v94 w' => ∃ (x94_3 : Int), v94 = .int .i64 x94_3 ∧ Aside0 (provisolaw05_FlowParts.l2 kq t344 t355 (wrap64 (x7_2 + 1)) t355 (t355.length : Int) x34_1 ((rd_T35 t355 x34_1).f2) (((rd_T35 t355 x34_1).f2).length : Int) x94_3 = some r) ∧ Aside0 (kq ≤ k2) ∧ Aside0 (Kd.R k46 46 w' w.heap.size (fun _ => True) (.slice (some ad360) t344.length co13) t344) ∧ Aside0 (Kd.S k35 35 w' w.heap.size (fun k_ => k_ ≠ gb359) (.slice (some ad358) t355.length co17) t355) ∧ Aside0 (Kd.S k35 35 w' w.heap.size (fun k_ => k_ ≠ gb359) (.slice (some ad358) t355.length co17) t355) ∧ Aside0 (w'.heap[gb359]? = some (.cells #[.int .i64 ((rd_T35 t355 x34_1).f0), .int .i64 ((rd_T35 t355 x34_1).f1), (.slice A358_2 ((rd_T35 t355 x34_1).f2).length c358_2)] 35 (0, 0))) ∧ Aside0 (Kd.C (Kd.int .i64) w' A358_2 ((rd_T35 t355 x34_1).f2).length ((rd_T35 t355 x34_1).f2)) ∧ Aside0 (Below w.heap.size w w'))
                                  case atStart => exact ⟨(0), (by first | rfl | (simp; done) | (simp [*]; done)), H', ⟨Nat.le_refl _⟩, ⟨by (with_reducible repeat (first | apply Kd.R_alloc | apply Kd.R_drewN | apply Kd.R_drew)); exact HO_3.out⟩, ⟨by (with_reducible repeat (first | apply Kd.S_alloc | apply Kd.S_drewN | apply Kd.S_drew)); exact HO_6.out⟩, ⟨by (with_reducible repeat (first | apply Kd.S_alloc | apply Kd.S_drewN | apply Kd.S_drew)); exact HO_32.out⟩, ⟨by (with_reducible repeat (first | refine blk_drewN ?_ _ | refine blk_drew ?_ | refine blk_alloc ?_ _)); exact BK359.out⟩, ⟨by repeat (first | (with_reducible exact HR358_2.out) | (with_reducible refine Kd.C_alloc ?_ _) | (with_reducible refine Kd.C_drewN ?_ _) | (with_reducible refine Kd.C_drew ?_) | exact HR358_2.out)⟩, ⟨by repeat (first | (with_reducible first | exact HB.out | apply below_alloc | apply pw_below_drewN | apply below_drew1 | refine below_set ?_ GE359.out) | exact HB.out)⟩⟩
                                  case round =>
                                    clear H'
                                    try clear c1
                                    try clear c2
                                    try clear p2
                                    try clear c3
                                    try clear c3b0
                                    try clear c3b1
                                    try clear p3
                                    try clear q3
                                    try clear hx3
                                    try clear c4
                                    try clear c4b0
                                    try clear c4b1
                                    try clear c4b2
                                    try clear p6
                                    try clear c9
                                    try clear c18
                                    try clear c18b0
                                    try clear c19
                                    try clear c19b0
                                    try clear c20
                                    try clear c20b0
                                    try clear c21
                                    try clear c21b0
                                    try clear c24
                                    try clear c24b0
                                    try clear c25
                                    try clear c25b0
                                    try clear c26
                                    try clear c26b0
                                    try clear c26b1
                                    try clear c29
                                    try clear c29b0
                                    try clear c30
                                    try clear c30b0
                                    try clear c31
                                    try clear c31b0
                                    try clear c31b1
                                    try clear hcz23_0
                                    try clear hcz23_1
                                    try clear hcz23_2
                                    try clear hcz28_0
                                    try clear hcz28_1
                                    try clear hcz28_2
                                    try clear hcz32_0
                                    try clear hcz32_1
                                    try clear hcz32_2
                                    try clear hfz23_0
                                    try clear hfz23_1
                                    try clear hfz23_2
                                    try clear hfz28_0
                                    try clear hfz28_1
                                    try clear hfz28_2
                                    try clear hfz32_0
                                    try clear hfz32_1
                                    try clear hfz32_2
                                    try clear hx358_0
                                    try clear hx358_1
                                    try clear hx358_2
                                    try clear hx360_0
                                    try clear hx360_1
                                    try clear hx360_2
                                    try clear hx360_3
                                    try clear hx361_0
                                    try clear hx361_1
                                    try clear hx361_2
                                    try clear hx361_3
                                    try clear p2
                                    try clear p3
                                    try clear p358
                                    try clear p360
                                    try clear p361
                                    try clear q3
                                    try clear q358
                                    try clear q360
                                    try clear q361
                                    obtain ⟨x94_3, rfl, HA, HK3, HO_3, HO_6, HO_32, BK359, HR358_2, HB⟩ := hrel
                                    cases gk with
                                    | zero => exact absurd HA.out (by simp [provisolaw05_FlowParts.l2])
                                    | succ k3 =>
                                      have H := HA.out
                                      clear HA
                                      simp only [provisolaw05_FlowParts.l2] at H
                                      by_cases c33 : x94_3 < (((rd_T35 t355 x34_1).f2).length : Int)
                                      · rw [if_pos c33] at H
                                        have c33b0 : decide (x94_3 < (((rd_T35 t355 x34_1).f2).length : Int)) = true := decide_eq_true c33
                                        clear c33
                                        by_cases c34 : 0 ≤ x94_3
                                        · rw [if_pos c34] at H
                                          have c34b0 : decide (0 ≤ x94_3) = true := decide_eq_true c34
                                          clear c34
                                          by_cases c35 : x94_3 < (((rd_T35 t355 x34_1).f2).length : Int)
                                          · rw [if_pos c35] at H
                                            have c35b0 : decide (x94_3 < (((rd_T35 t355 x34_1).f2).length : Int)) = true := decide_eq_true c35
                                            clear c35
                                            replace H := Option.bind_eq_some_iff.mp H
                                            obtain ⟨t363, A360, H⟩ := H
                                            replace H : (if t363 < 0 then (some false) else (provisolaw05_FlowParts.l2 k3 t344 t355 (wrap64 (x7_2 + 1)) t355 (t355.length : Int) x34_1 ((rd_T35 t355 x34_1).f2) (((rd_T35 t355 x34_1).f2).length : Int) (wrap64 (x94_3 + 1)))) = some r := H
                                            have A36 := Aside0.mk A360
                                            clear A360
                                            by_cases c37 : t363 < 0
                                            · rw [if_pos c37] at H
                                              have c37b0 : decide (t363 < 0) = true := decide_eq_true c37
                                              clear c37
                                              obtain rfl := Option.some.inj H
                                              have p362 : 0 ≤ (x94_3 : Int) := of_decide_eq_true (by first | (with_reducible assumption) | assumption)
                                              have q362 : x94_3 < (((rd_T35 t355 x34_1).f2).length : Int) := of_decide_eq_true (by first | (with_reducible assumption) | assumption)
                                              obtain ⟨ad362, e362, hx362_0⟩ := Kd.at_int HR358_2.out x94_3 p362 q362
                                              cases e362
                                              first | replace hx362_0 := (HB.out.cell (World.block_lt_of_cell? w _ hx362_0)).trans hx362_0 | skip
                                              replace p362 := eq_true p362
                                              replace q362 := eq_true q362
                                              go_wp2_with (first | (go_at_call 19; (with_reducible refine (provisolaw05_from.calls k3 _ _ t355 (rd ((rd_T35 t355 x34_1).f2) x94_3) t363 _ ?side1 ?side2 A36.out).mono ?_); (case side1 => repeat (first | exact (Kd.S_reads' HO_6.out).2.2 | (with_reducible refine Kd.C_alloc ?_ _) | (with_reducible refine Kd.C_drewN ?_ _) | (with_reducible refine Kd.C_drew ?_))); (case side2 => exact (Kd.S_reads' HO_6.out).2.1); rintro e w38 ⟨rfl, hb⟩; have n0_ := Aside0.mk (Kd.R_below (by (with_reducible repeat (first | apply Kd.R_alloc | apply Kd.R_drewN | apply Kd.R_drew)); exact HO_3.out) hb); have n1_ := Aside0.mk (Kd.S_below (by (with_reducible repeat (first | apply Kd.S_alloc | apply Kd.S_drewN | apply Kd.S_drew)); exact HO_6.out) hb); have n2_ := Aside0.mk (Kd.S_below (by (with_reducible repeat (first | apply Kd.S_alloc | apply Kd.S_drewN | apply Kd.S_drew)); exact HO_32.out) hb); have n3_ := Aside0.mk (blk_below (g := gb359) (o := .cells #[.int .i64 ((rd_T35 t355 x34_1).f0), .int .i64 ((rd_T35 t355 x34_1).f1), .slice (some ad362) ((rd_T35 t355 x34_1).f2).length c358_2] 35 (0, 0)) (by (with_reducible repeat (first | refine blk_drewN ?_ _ | refine blk_drew ?_ | refine blk_alloc ?_ _)); exact BK359.out) hb); have n4_ := Aside0.mk (Kd.C_below (by repeat (first | (with_reducible exact HR358_2.out) | (with_reducible refine Kd.C_alloc ?_ _) | (with_reducible refine Kd.C_drewN ?_ _) | (with_reducible refine Kd.C_drew ?_) | exact HR358_2.out)) hb); have n5_ := Aside0.mk (below_step (by repeat (first | (with_reducible first | exact HB.out | apply below_alloc | apply pw_below_drewN | apply below_drew1 | refine below_set ?_ GE359.out) | exact HB.out)) hb); clear HO_3; clear HO_6; clear HO_32; clear BK359; clear HR358_2; clear HB; have HO_3 := n0_; have HO_6 := n1_; have HO_32 := n2_; have BK359 := n3_; have HR358_2 := n4_; have HB := n5_; clear n0_ n1_ n2_ n3_ n4_ n5_; (try clear hb); (try clear hb2); (try clear hk); (try clear hi)))
                                              repeat (go_quiet (first | (go_at_call 19; (with_reducible refine (provisolaw05_from.calls k3 _ _ t355 (rd ((rd_T35 t355 x34_1).f2) x94_3) t363 _ ?side1 ?side2 A36.out).mono ?_); (case side1 => repeat (first | exact (Kd.S_reads' HO_6.out).2.2 | (with_reducible refine Kd.C_alloc ?_ _) | (with_reducible refine Kd.C_drewN ?_ _) | (with_reducible refine Kd.C_drew ?_))); (case side2 => exact (Kd.S_reads' HO_6.out).2.1); rintro e w38 ⟨rfl, hb⟩; have n0_ := Aside0.mk (Kd.R_below (by (with_reducible repeat (first | apply Kd.R_alloc | apply Kd.R_drewN | apply Kd.R_drew)); exact HO_3.out) hb); have n1_ := Aside0.mk (Kd.S_below (by (with_reducible repeat (first | apply Kd.S_alloc | apply Kd.S_drewN | apply Kd.S_drew)); exact HO_6.out) hb); have n2_ := Aside0.mk (Kd.S_below (by (with_reducible repeat (first | apply Kd.S_alloc | apply Kd.S_drewN | apply Kd.S_drew)); exact HO_32.out) hb); have n3_ := Aside0.mk (blk_below (g := gb359) (o := .cells #[.int .i64 ((rd_T35 t355 x34_1).f0), .int .i64 ((rd_T35 t355 x34_1).f1), .slice (some ad362) ((rd_T35 t355 x34_1).f2).length c358_2] 35 (0, 0)) (by (with_reducible repeat (first | refine blk_drewN ?_ _ | refine blk_drew ?_ | refine blk_alloc ?_ _)); exact BK359.out) hb); have n4_ := Aside0.mk (Kd.C_below (by repeat (first | (with_reducible exact HR358_2.out) | (with_reducible refine Kd.C_alloc ?_ _) | (with_reducible refine Kd.C_drewN ?_ _) | (with_reducible refine Kd.C_drew ?_) | exact HR358_2.out)) hb); have n5_ := Aside0.mk (below_step (by repeat (first | (with_reducible first | exact HB.out | apply below_alloc | apply pw_below_drewN | apply below_drew1 | refine below_set ?_ GE359.out) | exact HB.out)) hb); clear HO_3; clear HO_6; clear HO_32; clear BK359; clear HR358_2; clear HB; have HO_3 := n0_; have HO_6 := n1_; have HO_32 := n2_; have BK359 := n3_; have HR358_2 := n4_; have HB := n5_; clear n0_ n1_ n2_ n3_ n4_ n5_; (try clear hb); (try clear hb2); (try clear hk); (try clear hi))); try go_wp2_with (first | (go_at_call 19; (with_reducible refine (provisolaw05_from.calls k3 _ _ t355 (rd ((rd_T35 t355 x34_1).f2) x94_3) t363 _ ?side1 ?side2 A36.out).mono ?_); (case side1 => repeat (first | exact (Kd.S_reads' HO_6.out).2.2 | (with_reducible refine Kd.C_alloc ?_ _) | (with_reducible refine Kd.C_drewN ?_ _) | (with_reducible refine Kd.C_drew ?_))); (case side2 => exact (Kd.S_reads' HO_6.out).2.1); rintro e w38 ⟨rfl, hb⟩; have n0_ := Aside0.mk (Kd.R_below (by (with_reducible repeat (first | apply Kd.R_alloc | apply Kd.R_drewN | apply Kd.R_drew)); exact HO_3.out) hb); have n1_ := Aside0.mk (Kd.S_below (by (with_reducible repeat (first | apply Kd.S_alloc | apply Kd.S_drewN | apply Kd.S_drew)); exact HO_6.out) hb); have n2_ := Aside0.mk (Kd.S_below (by (with_reducible repeat (first | apply Kd.S_alloc | apply Kd.S_drewN | apply Kd.S_drew)); exact HO_32.out) hb); have n3_ := Aside0.mk (blk_below (g := gb359) (o := .cells #[.int .i64 ((rd_T35 t355 x34_1).f0), .int .i64 ((rd_T35 t355 x34_1).f1), .slice (some ad362) ((rd_T35 t355 x34_1).f2).length c358_2] 35 (0, 0)) (by (with_reducible repeat (first | refine blk_drewN ?_ _ | refine blk_drew ?_ | refine blk_alloc ?_ _)); exact BK359.out) hb); have n4_ := Aside0.mk (Kd.C_below (by repeat (first | (with_reducible exact HR358_2.out) | (with_reducible refine Kd.C_alloc ?_ _) | (with_reducible refine Kd.C_drewN ?_ _) | (with_reducible refine Kd.C_drew ?_) | exact HR358_2.out)) hb); have n5_ := Aside0.mk (below_step (by repeat (first | (with_reducible first | exact HB.out | apply below_alloc | apply pw_below_drewN | apply below_drew1 | refine below_set ?_ GE359.out) | exact HB.out)) hb); clear HO_3; clear HO_6; clear HO_32; clear BK359; clear HR358_2; clear HB; have HO_3 := n0_; have HO_6 := n1_; have HO_32 := n2_; have BK359 := n3_; have HR358_2 := n4_; have HB := n5_; clear n0_ n1_ n2_ n3_ n4_ n5_; (try clear hb); (try clear hb2); (try clear hk); (try clear hi))))
                                              go_ret
                                              exact ⟨by first | rfl | (simp [errW_none, errW_some] <;> rfl) | (simp [*, errW_none, errW_some] <;> rfl), by repeat (first | (with_reducible first | exact HB.out | apply below_alloc | apply pw_below_drewN | apply below_drew1 | refine below_set ?_ GE359.out) | exact HB.out)⟩
                                            · rw [if_neg c37] at H
                                              have c37b0 : decide (t363 < 0) = false := decide_eq_false c37
                                              clear c37
                                              have H' := Aside0.mk H
                                              clear H
                                              have p362 : 0 ≤ (x94_3 : Int) := of_decide_eq_true (by first | (with_reducible assumption) | assumption)
                                              have q362 : x94_3 < (((rd_T35 t355 x34_1).f2).length : Int) := of_decide_eq_true (by first | (with_reducible assumption) | assumption)
                                              obtain ⟨ad362, e362, hx362_0⟩ := Kd.at_int HR358_2.out x94_3 p362 q362
                                              cases e362
                                              first | replace hx362_0 := (HB.out.cell (World.block_lt_of_cell? w _ hx362_0)).trans hx362_0 | skip
                                              replace p362 := eq_true p362
                                              replace q362 := eq_true q362
                                              go_wp2_with (first | (go_at_call 19; (with_reducible refine (provisolaw05_from.calls k3 _ _ t355 (rd ((rd_T35 t355 x34_1).f2) x94_3) t363 _ ?side1 ?side2 A36.out).mono ?_); (case side1 => repeat (first | exact (Kd.S_reads' HO_6.out).2.2 | (with_reducible refine Kd.C_alloc ?_ _) | (with_reducible refine Kd.C_drewN ?_ _) | (with_reducible refine Kd.C_drew ?_))); (case side2 => exact (Kd.S_reads' HO_6.out).2.1); rintro e w39 ⟨rfl, hb⟩; have n0_ := Aside0.mk (Kd.R_below (by (with_reducible repeat (first | apply Kd.R_alloc | apply Kd.R_drewN | apply Kd.R_drew)); exact HO_3.out) hb); have n1_ := Aside0.mk (Kd.S_below (by (with_reducible repeat (first | apply Kd.S_alloc | apply Kd.S_drewN | apply Kd.S_drew)); exact HO_6.out) hb); have n2_ := Aside0.mk (Kd.S_below (by (with_reducible repeat (first | apply Kd.S_alloc | apply Kd.S_drewN | apply Kd.S_drew)); exact HO_32.out) hb); have n3_ := Aside0.mk (blk_below (g := gb359) (o := .cells #[.int .i64 ((rd_T35 t355 x34_1).f0), .int .i64 ((rd_T35 t355 x34_1).f1), .slice (some ad362) ((rd_T35 t355 x34_1).f2).length c358_2] 35 (0, 0)) (by (with_reducible repeat (first | refine blk_drewN ?_ _ | refine blk_drew ?_ | refine blk_alloc ?_ _)); exact BK359.out) hb); have n4_ := Aside0.mk (Kd.C_below (by repeat (first | (with_reducible exact HR358_2.out) | (with_reducible refine Kd.C_alloc ?_ _) | (with_reducible refine Kd.C_drewN ?_ _) | (with_reducible refine Kd.C_drew ?_) | exact HR358_2.out)) hb); have n5_ := Aside0.mk (below_step (by repeat (first | (with_reducible first | exact HB.out | apply below_alloc | apply pw_below_drewN | apply below_drew1 | refine below_set ?_ GE359.out) | exact HB.out)) hb); clear HO_3; clear HO_6; clear HO_32; clear BK359; clear HR358_2; clear HB; have HO_3 := n0_; have HO_6 := n1_; have HO_32 := n2_; have BK359 := n3_; have HR358_2 := n4_; have HB := n5_; clear n0_ n1_ n2_ n3_ n4_ n5_; (try clear hb); (try clear hb2); (try clear hk); (try clear hi)))
                                              repeat (go_quiet (first | (go_at_call 19; (with_reducible refine (provisolaw05_from.calls k3 _ _ t355 (rd ((rd_T35 t355 x34_1).f2) x94_3) t363 _ ?side1 ?side2 A36.out).mono ?_); (case side1 => repeat (first | exact (Kd.S_reads' HO_6.out).2.2 | (with_reducible refine Kd.C_alloc ?_ _) | (with_reducible refine Kd.C_drewN ?_ _) | (with_reducible refine Kd.C_drew ?_))); (case side2 => exact (Kd.S_reads' HO_6.out).2.1); rintro e w39 ⟨rfl, hb⟩; have n0_ := Aside0.mk (Kd.R_below (by (with_reducible repeat (first | apply Kd.R_alloc | apply Kd.R_drewN | apply Kd.R_drew)); exact HO_3.out) hb); have n1_ := Aside0.mk (Kd.S_below (by (with_reducible repeat (first | apply Kd.S_alloc | apply Kd.S_drewN | apply Kd.S_drew)); exact HO_6.out) hb); have n2_ := Aside0.mk (Kd.S_below (by (with_reducible repeat (first | apply Kd.S_alloc | apply Kd.S_drewN | apply Kd.S_drew)); exact HO_32.out) hb); have n3_ := Aside0.mk (blk_below (g := gb359) (o := .cells #[.int .i64 ((rd_T35 t355 x34_1).f0), .int .i64 ((rd_T35 t355 x34_1).f1), .slice (some ad362) ((rd_T35 t355 x34_1).f2).length c358_2] 35 (0, 0)) (by (with_reducible repeat (first | refine blk_drewN ?_ _ | refine blk_drew ?_ | refine blk_alloc ?_ _)); exact BK359.out) hb); have n4_ := Aside0.mk (Kd.C_below (by repeat (first | (with_reducible exact HR358_2.out) | (with_reducible refine Kd.C_alloc ?_ _) | (with_reducible refine Kd.C_drewN ?_ _) | (with_reducible refine Kd.C_drew ?_) | exact HR358_2.out)) hb); have n5_ := Aside0.mk (below_step (by repeat (first | (with_reducible first | exact HB.out | apply below_alloc | apply pw_below_drewN | apply below_drew1 | refine below_set ?_ GE359.out) | exact HB.out)) hb); clear HO_3; clear HO_6; clear HO_32; clear BK359; clear HR358_2; clear HB; have HO_3 := n0_; have HO_6 := n1_; have HO_32 := n2_; have BK359 := n3_; have HR358_2 := n4_; have HB := n5_; clear n0_ n1_ n2_ n3_ n4_ n5_; (try clear hb); (try clear hb2); (try clear hk); (try clear hi))); try go_wp2_with (first | (go_at_call 19; (with_reducible refine (provisolaw05_from.calls k3 _ _ t355 (rd ((rd_T35 t355 x34_1).f2) x94_3) t363 _ ?side1 ?side2 A36.out).mono ?_); (case side1 => repeat (first | exact (Kd.S_reads' HO_6.out).2.2 | (with_reducible refine Kd.C_alloc ?_ _) | (with_reducible refine Kd.C_drewN ?_ _) | (with_reducible refine Kd.C_drew ?_))); (case side2 => exact (Kd.S_reads' HO_6.out).2.1); rintro e w39 ⟨rfl, hb⟩; have n0_ := Aside0.mk (Kd.R_below (by (with_reducible repeat (first | apply Kd.R_alloc | apply Kd.R_drewN | apply Kd.R_drew)); exact HO_3.out) hb); have n1_ := Aside0.mk (Kd.S_below (by (with_reducible repeat (first | apply Kd.S_alloc | apply Kd.S_drewN | apply Kd.S_drew)); exact HO_6.out) hb); have n2_ := Aside0.mk (Kd.S_below (by (with_reducible repeat (first | apply Kd.S_alloc | apply Kd.S_drewN | apply Kd.S_drew)); exact HO_32.out) hb); have n3_ := Aside0.mk (blk_below (g := gb359) (o := .cells #[.int .i64 ((rd_T35 t355 x34_1).f0), .int .i64 ((rd_T35 t355 x34_1).f1), .slice (some ad362) ((rd_T35 t355 x34_1).f2).length c358_2] 35 (0, 0)) (by (with_reducible repeat (first | refine blk_drewN ?_ _ | refine blk_drew ?_ | refine blk_alloc ?_ _)); exact BK359.out) hb); have n4_ := Aside0.mk (Kd.C_below (by repeat (first | (with_reducible exact HR358_2.out) | (with_reducible refine Kd.C_alloc ?_ _) | (with_reducible refine Kd.C_drewN ?_ _) | (with_reducible refine Kd.C_drew ?_) | exact HR358_2.out)) hb); have n5_ := Aside0.mk (below_step (by repeat (first | (with_reducible first | exact HB.out | apply below_alloc | apply pw_below_drewN | apply below_drew1 | refine below_set ?_ GE359.out) | exact HB.out)) hb); clear HO_3; clear HO_6; clear HO_32; clear BK359; clear HR358_2; clear HB; have HO_3 := n0_; have HO_6 := n1_; have HO_32 := n2_; have BK359 := n3_; have HR358_2 := n4_; have HB := n5_; clear n0_ n1_ n2_ n3_ n4_ n5_; (try clear hb); (try clear hb2); (try clear hk); (try clear hi))))
                                              go_roundg k3
                                              case measure => have := HK1.out; have := HK2.out; have := HK3.out; omega
                                              case rel => exact ⟨(wrap64 (x94_3 + 1)), (by first | rfl | (simp; done) | (simp [*]; done)), H', ⟨by have := HK1.out; have := HK2.out; have := HK3.out; omega⟩, ⟨by (with_reducible repeat (first | apply Kd.R_alloc | apply Kd.R_drewN | apply Kd.R_drew)); exact HO_3.out⟩, ⟨by (with_reducible repeat (first | apply Kd.S_alloc | apply Kd.S_drewN | apply Kd.S_drew)); exact HO_6.out⟩, ⟨by (with_reducible repeat (first | apply Kd.S_alloc | apply Kd.S_drewN | apply Kd.S_drew)); exact HO_32.out⟩, ⟨by (with_reducible repeat (first | refine blk_drewN ?_ _ | refine blk_drew ?_ | refine blk_alloc ?_ _)); exact BK359.out⟩, ⟨by repeat (first | (with_reducible exact HR358_2.out) | (with_reducible refine Kd.C_alloc ?_ _) | (with_reducible refine Kd.C_drewN ?_ _) | (with_reducible refine Kd.C_drew ?_) | exact HR358_2.out)⟩, ⟨by repeat (first | (with_reducible first | exact HB.out | apply below_alloc | apply pw_below_drewN | apply below_drew1 | refine below_set ?_ GE359.out) | exact HB.out)⟩⟩
                                          · rw [if_neg c35] at H
                                            exact absurd H (by simp)
                                        · rw [if_neg c34] at H
                                          exact absurd H (by simp)
                                      · rw [if_neg c33] at H
                                        have c33b0 : decide (x94_3 < (((rd_T35 t355 x34_1).f2).length : Int)) = false := decide_eq_false c33
                                        clear c33
                                        have H' := Aside0.mk H
                                        clear H
                                        go_wp2
                                        repeat (go_quiet (fail); try go_wp2)
                                        go_roundg k3
                                        case measure => have := HK1.out; have := HK2.out; have := HK3.out; omega
                                        case rel => exact ⟨((wrap64 (x7_2 + 1))), (wrap64 (x34_1 + 1)), (by first | rfl | (simp; done) | (simp [*]; done)), (by first | rfl | (simp; done) | (simp [*]; done)), H', ⟨by have := HK1.out; have := HK2.out; have := HK3.out; omega⟩, ⟨by (with_reducible repeat (first | apply Kd.R_alloc | apply Kd.R_drewN | apply Kd.R_drew)); exact HO_3.out⟩, ⟨by (with_reducible repeat (first | apply Kd.S_alloc | apply Kd.S_drewN | apply Kd.S_drew)); exact Kd.S_mono HO_6.out (fun _ hk => trivial)⟩, ⟨by (with_reducible repeat (first | apply Kd.S_alloc | apply Kd.S_drewN | apply Kd.S_drew)); exact Kd.S_mono HO_32.out (fun _ hk => trivial)⟩, ⟨by repeat (first | (with_reducible first | exact HB.out | apply below_alloc | apply pw_below_drewN | apply below_drew1 | refine below_set ?_ GE359.out) | exact HB.out)⟩⟩
                                · rw [if_neg c31] at H
                                  have c31b0 : (((rd_T46 t344 x7_2).f0) == ((rd_T35 t355 x34_1).f1)) = false := beq_eq_false_iff_ne.mpr c31
                                  have c31b1 : (((rd_T46 t344 x7_2).f0) != ((rd_T35 t355 x34_1).f1)) = true := bne_iff_ne.mpr c31
                                  replace H := Option.bind_eq_some_iff.mp H
                                  obtain ⟨t365, A400, H⟩ := H
                                  replace H : (if (t365.length : Int) = 1 then (if (wrap64 (x7_2 + 1)) = (t344.length : Int) then (some false) else (if 0 < (t365.length : Int) then (if 0 ≤ (wrap64 (x7_2 + 1)) then (if (wrap64 (x7_2 + 1)) < (t344.length : Int) then (if (rd t365 0) = ((rd_T46 t344 (wrap64 (x7_2 + 1))).f0) then (provisolaw05_FlowParts.l1 k2 t344 t355 (wrap64 (x7_2 + 1)) t355 (t355.length : Int) x34_1 ((rd_T35 t355 x34_1).f0) ((rd_T35 t355 x34_1).f1) ((rd_T35 t355 x34_1).f2)) else (some false)) else (none)) else (none)) else (none))) else (some false)) = some r := H
                                  have A40 := Aside0.mk A400
                                  clear A400
                                  by_cases c41 : (t365.length : Int) = 1
                                  · rw [if_pos c41] at H
                                    have c41b0 : ((t365.length : Int) == 1) = true := beq_iff_eq.mpr c41
                                    have c41b1 : ((t365.length : Int) != 1) = false := bne_eq_false_iff_eq.mpr c41
                                    clear c41
                                    by_cases c42 : (wrap64 (x7_2 + 1)) = (t344.length : Int)
                                    · rw [if_pos c42] at H
                                      have c42b0 : ((wrap64 (x7_2 + 1)) == (t344.length : Int)) = true := beq_iff_eq.mpr c42
                                      have c42b1 : ((wrap64 (x7_2 + 1)) != (t344.length : Int)) = false := bne_eq_false_iff_eq.mpr c42
                                      clear c42
                                      obtain rfl := Option.some.inj H
                                      have p361 : 0 ≤ (x7_2 : Int) := of_decide_eq_true (by first | (with_reducible assumption) | assumption)
                                      have q361 : x7_2 < (t344.length : Int) := of_decide_eq_true (by first | (with_reducible assumption) | assumption)
                                      obtain ⟨ad361, e361, hx361_0, hx361_1, hx361_2, hx361_3⟩ := at_T46 (Kd.R_reads' HO_3.out).2.2 x7_2 p361 q361
                                      obtain rfl : ad360 = ad361 := (by injection e361)
                                      replace p361 := eq_true p361
                                      replace q361 := eq_true q361
                                      have hcz43_0 : wr.cell? ⟨gb359, 0, none⟩ = some (.int .i64 ((rd_T35 t355 x34_1).f0)) := (blk_cell BK359.out 0).trans rfl
                                      have hcz43_1 : wr.cell? ⟨gb359, 1, none⟩ = some (.int .i64 ((rd_T35 t355 x34_1).f1)) := (blk_cell BK359.out 1).trans rfl
                                      have hcz43_2 : wr.cell? ⟨gb359, 2, none⟩ = some (.slice A358_2 ((rd_T35 t355 x34_1).f2).length c358_2) := (blk_cell BK359.out 2).trans rfl
                                      have hfz43_0 := blk_frozen BK359.out 0
                                      have hfz43_1 := blk_frozen BK359.out 1
                                      have hfz43_2 := blk_frozen BK359.out 2
                                      have p364 : 0 ≤ (x7_2 : Int) := of_decide_eq_true (by first | (with_reducible assumption) | assumption)
                                      have q364 : x7_2 < (t344.length : Int) := of_decide_eq_true (by first | (with_reducible assumption) | assumption)
                                      obtain ⟨ad364, e364, hx364_0, hx364_1, hx364_2, hx364_3⟩ := at_T46 (Kd.R_reads' HO_3.out).2.2 x7_2 p364 q364
                                      obtain rfl : ad360 = ad364 := (by injection e364)
                                      replace p364 := eq_true p364
                                      replace q364 := eq_true q364
                                      go_wp2_with (first | (go_at_call 31; (with_reducible refine (flow_Next.calls ((rd_T46 t344 x7_2).f0) ((rd_T46 t344 x7_2).f1) ((rd_T46 t344 x7_2).f2) ((rd_T46 t344 x7_2).f3) t365 _ A40.out).mono ?_); rintro e w44 ⟨v366, rfl, ho0, hb⟩; have n0_ := Aside0.mk (Kd.R_below (by (with_reducible repeat (first | apply Kd.R_alloc | apply Kd.R_drewN | apply Kd.R_drew)); exact HO_3.out) hb); have n1_ := Aside0.mk (Kd.S_elder' (by (with_reducible repeat (first | apply Kd.S_alloc | apply Kd.S_drewN | apply Kd.S_drew)); exact HO_6.out) (Kd.R_base ho0) hb); have n2_ := Aside0.mk (Kd.S_elder' (by (with_reducible repeat (first | apply Kd.S_alloc | apply Kd.S_drewN | apply Kd.S_drew)); exact HO_32.out) (Kd.R_base ho0) hb); have n3_ := Aside0.mk (Kd.R_lower ho0 (below_size (by repeat (first | (with_reducible first | exact HB.out | apply below_alloc | apply pw_below_drewN | apply below_drew1 | refine below_set ?_ GE359.out) | exact HB.out)))); have n4_ := Aside0.mk (blk_below (g := gb359) (o := .cells #[.int .i64 ((rd_T35 t355 x34_1).f0), .int .i64 ((rd_T35 t355 x34_1).f1), .slice A358_2 ((rd_T35 t355 x34_1).f2).length c358_2] 35 (0, 0)) (by (with_reducible repeat (first | refine blk_drewN ?_ _ | refine blk_drew ?_ | refine blk_alloc ?_ _)); exact BK359.out) hb); have n5_ := Aside0.mk (Kd.C_below (by repeat (first | (with_reducible exact HR358_2.out) | (with_reducible refine Kd.C_alloc ?_ _) | (with_reducible refine Kd.C_drewN ?_ _) | (with_reducible refine Kd.C_drew ?_) | exact HR358_2.out)) hb); have n6_ := Aside0.mk (below_step (by repeat (first | (with_reducible first | exact HB.out | apply below_alloc | apply pw_below_drewN | apply below_drew1 | refine below_set ?_ GE359.out) | exact HB.out)) hb); clear HO_3; clear HO_6; clear HO_32; clear BK359; clear HR358_2; clear HB; have HO_3 := n0_; have HO_6 := n1_; have HO_32 := n2_; have HO367 := n3_; have BK359 := n4_; have HR358_2 := n5_; have HB := n6_; clear n0_ n1_ n2_ n3_ n4_ n5_ n6_; (try clear hb); (try clear hb2); (try clear hk); (try clear hi); (try clear ho0); obtain ⟨Ao45, co45, eo45⟩ := Kd.R_slice HO367.out; subst eo45))
                                      repeat (go_quiet (first | (go_at_call 31; (with_reducible refine (flow_Next.calls ((rd_T46 t344 x7_2).f0) ((rd_T46 t344 x7_2).f1) ((rd_T46 t344 x7_2).f2) ((rd_T46 t344 x7_2).f3) t365 _ A40.out).mono ?_); rintro e w44 ⟨v366, rfl, ho0, hb⟩; have n0_ := Aside0.mk (Kd.R_below (by (with_reducible repeat (first | apply Kd.R_alloc | apply Kd.R_drewN | apply Kd.R_drew)); exact HO_3.out) hb); have n1_ := Aside0.mk (Kd.S_elder' (by (with_reducible repeat (first | apply Kd.S_alloc | apply Kd.S_drewN | apply Kd.S_drew)); exact HO_6.out) (Kd.R_base ho0) hb); have n2_ := Aside0.mk (Kd.S_elder' (by (with_reducible repeat (first | apply Kd.S_alloc | apply Kd.S_drewN | apply Kd.S_drew)); exact HO_32.out) (Kd.R_base ho0) hb); have n3_ := Aside0.mk (Kd.R_lower ho0 (below_size (by repeat (first | (with_reducible first | exact HB.out | apply below_alloc | apply pw_below_drewN | apply below_drew1 | refine below_set ?_ GE359.out) | exact HB.out)))); have n4_ := Aside0.mk (blk_below (g := gb359) (o := .cells #[.int .i64 ((rd_T35 t355 x34_1).f0), .int .i64 ((rd_T35 t355 x34_1).f1), .slice A358_2 ((rd_T35 t355 x34_1).f2).length c358_2] 35 (0, 0)) (by (with_reducible repeat (first | refine blk_drewN ?_ _ | refine blk_drew ?_ | refine blk_alloc ?_ _)); exact BK359.out) hb); have n5_ := Aside0.mk (Kd.C_below (by repeat (first | (with_reducible exact HR358_2.out) | (with_reducible refine Kd.C_alloc ?_ _) | (with_reducible refine Kd.C_drewN ?_ _) | (with_reducible refine Kd.C_drew ?_) | exact HR358_2.out)) hb); have n6_ := Aside0.mk (below_step (by repeat (first | (with_reducible first | exact HB.out | apply below_alloc | apply pw_below_drewN | apply below_drew1 | refine below_set ?_ GE359.out) | exact HB.out)) hb); clear HO_3; clear HO_6; clear HO_32; clear BK359; clear HR358_2; clear HB; have HO_3 := n0_; have HO_6 := n1_; have HO_32 := n2_; have HO367 := n3_; have BK359 := n4_; have HR358_2 := n5_; have HB := n6_; clear n0_ n1_ n2_ n3_ n4_ n5_ n6_; (try clear hb); (try clear hb2); (try clear hk); (try clear hi); (try clear ho0); obtain ⟨Ao45, co45, eo45⟩ := Kd.R_slice HO367.out; subst eo45)); try go_wp2_with (first | (go_at_call 31; (with_reducible refine (flow_Next.calls ((rd_T46 t344 x7_2).f0) ((rd_T46 t344 x7_2).f1) ((rd_T46 t344 x7_2).f2) ((rd_T46 t344 x7_2).f3) t365 _ A40.out).mono ?_); rintro e w44 ⟨v366, rfl, ho0, hb⟩; have n0_ := Aside0.mk (Kd.R_below (by (with_reducible repeat (first | apply Kd.R_alloc | apply Kd.R_drewN | apply Kd.R_drew)); exact HO_3.out) hb); have n1_ := Aside0.mk (Kd.S_elder' (by (with_reducible repeat (first | apply Kd.S_alloc | apply Kd.S_drewN | apply Kd.S_drew)); exact HO_6.out) (Kd.R_base ho0) hb); have n2_ := Aside0.mk (Kd.S_elder' (by (with_reducible repeat (first | apply Kd.S_alloc | apply Kd.S_drewN | apply Kd.S_drew)); exact HO_32.out) (Kd.R_base ho0) hb); have n3_ := Aside0.mk (Kd.R_lower ho0 (below_size (by repeat (first | (with_reducible first | exact HB.out | apply below_alloc | apply pw_below_drewN | apply below_drew1 | refine below_set ?_ GE359.out) | exact HB.out)))); have n4_ := Aside0.mk (blk_below (g := gb359) (o := .cells #[.int .i64 ((rd_T35 t355 x34_1).f0), .int .i64 ((rd_T35 t355 x34_1).f1), .slice A358_2 ((rd_T35 t355 x34_1).f2).length c358_2] 35 (0, 0)) (by (with_reducible repeat (first | refine blk_drewN ?_ _ | refine blk_drew ?_ | refine blk_alloc ?_ _)); exact BK359.out) hb); have n5_ := Aside0.mk (Kd.C_below (by repeat (first | (with_reducible exact HR358_2.out) | (with_reducible refine Kd.C_alloc ?_ _) | (with_reducible refine Kd.C_drewN ?_ _) | (with_reducible refine Kd.C_drew ?_) | exact HR358_2.out)) hb); have n6_ := Aside0.mk (below_step (by repeat (first | (with_reducible first | exact HB.out | apply below_alloc | apply pw_below_drewN | apply below_drew1 | refine below_set ?_ GE359.out) | exact HB.out)) hb); clear HO_3; clear HO_6; clear HO_32; clear BK359; clear HR358_2; clear HB; have HO_3 := n0_; have HO_6 := n1_; have HO_32 := n2_; have HO367 := n3_; have BK359 := n4_; have HR358_2 := n5_; have HB := n6_; clear n0_ n1_ n2_ n3_ n4_ n5_ n6_; (try clear hb); (try clear hb2); (try clear hk); (try clear hi); (try clear ho0); obtain ⟨Ao45, co45, eo45⟩ := Kd.R_slice HO367.out; subst eo45)))
                                      go_ret
                                      exact ⟨by first | rfl | (simp [errW_none, errW_some] <;> rfl) | (simp [*, errW_none, errW_some] <;> rfl), by repeat (first | (with_reducible first | exact HB.out | apply below_alloc | apply pw_below_drewN | apply below_drew1 | refine below_set ?_ GE359.out) | exact HB.out)⟩
                                    · rw [if_neg c42] at H
                                      have c42b0 : ((wrap64 (x7_2 + 1)) == (t344.length : Int)) = false := beq_eq_false_iff_ne.mpr c42
                                      have c42b1 : ((wrap64 (x7_2 + 1)) != (t344.length : Int)) = true := bne_iff_ne.mpr c42
                                      by_cases c46 : 0 < (t365.length : Int)
                                      · rw [if_pos c46] at H
                                        have c46b0 : decide (0 < (t365.length : Int)) = true := decide_eq_true c46
                                        have c46b1 : decide (0 < t365.length) = true := decide_eq_true (by omega)
                                        clear c46
                                        obtain ⟨ji47, hji47⟩ : ∃ j_ : Int, (wrap64 (x7_2 + 1)) = j_ := ⟨_, rfl⟩
                                        replace H : (if 0 ≤ (ji47) then (if (ji47) < (t344.length : Int) then (if (rd t365 0) = ((rd_T46 t344 (ji47)).f0) then (provisolaw05_FlowParts.l1 k2 t344 t355 ji47 t355 (t355.length : Int) x34_1 ((rd_T35 t355 x34_1).f0) ((rd_T35 t355 x34_1).f1) ((rd_T35 t355 x34_1).f2)) else (some false)) else (none)) else (none)) = some r := by first | (rw [hji47] at H; exact H) | (simp only [hji47] at H ⊢; exact H)
                                        (try rw [hji47] at c42b0)
                                        (try rw [hji47] at c42b1)
                                        (try rw [hji47] at A40)
                                        have hji47w : (IntKind.i64.wrap (x7_2 + 1)) = ji47 := (i64_w _).trans hji47
                                        by_cases c48 : 0 ≤ (ji47)
                                        · rw [if_pos c48] at H
                                          have c48b0 : decide (0 ≤ (ji47)) = true := decide_eq_true c48
                                          clear c48
                                          by_cases c49 : (ji47) < (t344.length : Int)
                                          · rw [if_pos c49] at H
                                            have c49b0 : decide ((ji47) < (t344.length : Int)) = true := decide_eq_true c49
                                            clear c49
                                            by_cases c50 : (rd t365 0) = ((rd_T46 t344 (ji47)).f0)
                                            · rw [if_pos c50] at H
                                              have c50b0 : ((rd t365 0) == ((rd_T46 t344 (ji47)).f0)) = true := beq_iff_eq.mpr c50
                                              have c50b1 : ((rd t365 0) != ((rd_T46 t344 (ji47)).f0)) = false := bne_eq_false_iff_eq.mpr c50
                                              clear c50
                                              have H' := Aside0.mk H
                                              clear H
                                              have p361 : 0 ≤ (x7_2 : Int) := of_decide_eq_true (by first | (with_reducible assumption) | assumption)
                                              have q361 : x7_2 < (t344.length : Int) := of_decide_eq_true (by first | (with_reducible assumption) | assumption)
                                              obtain ⟨ad361, e361, hx361_0, hx361_1, hx361_2, hx361_3⟩ := at_T46 (Kd.R_reads' HO_3.out).2.2 x7_2 p361 q361
                                              obtain rfl : ad360 = ad361 := (by injection e361)
                                              replace p361 := eq_true p361
                                              replace q361 := eq_true q361
                                              have hcz51_0 : wr.cell? ⟨gb359, 0, none⟩ = some (.int .i64 ((rd_T35 t355 x34_1).f0)) := (blk_cell BK359.out 0).trans rfl
                                              have hcz51_1 : wr.cell? ⟨gb359, 1, none⟩ = some (.int .i64 ((rd_T35 t355 x34_1).f1)) := (blk_cell BK359.out 1).trans rfl
                                              have hcz51_2 : wr.cell? ⟨gb359, 2, none⟩ = some (.slice A358_2 ((rd_T35 t355 x34_1).f2).length c358_2) := (blk_cell BK359.out 2).trans rfl
                                              have hfz51_0 := blk_frozen BK359.out 0
                                              have hfz51_1 := blk_frozen BK359.out 1
                                              have hfz51_2 := blk_frozen BK359.out 2
                                              have p364 : 0 ≤ (x7_2 : Int) := of_decide_eq_true (by first | (with_reducible assumption) | assumption)
                                              have q364 : x7_2 < (t344.length : Int) := of_decide_eq_true (by first | (with_reducible assumption) | assumption)
                                              obtain ⟨ad364, e364, hx364_0, hx364_1, hx364_2, hx364_3⟩ := at_T46 (Kd.R_reads' HO_3.out).2.2 x7_2 p364 q364
                                              obtain rfl : ad360 = ad364 := (by injection e364)
                                              replace p364 := eq_true p364
                                              replace q364 := eq_true q364
                                              go_wp2_with (first | (go_at_call 31; (with_reducible refine (flow_Next.calls ((rd_T46 t344 x7_2).f0) ((rd_T46 t344 x7_2).f1) ((rd_T46 t344 x7_2).f2) ((rd_T46 t344 x7_2).f3) t365 _ A40.out).mono ?_); rintro e w52 ⟨v366, rfl, ho0, hb⟩; have n0_ := Aside0.mk (Kd.R_below (by (with_reducible repeat (first | apply Kd.R_alloc | apply Kd.R_drewN | apply Kd.R_drew)); exact HO_3.out) hb); have n1_ := Aside0.mk (Kd.S_elder' (by (with_reducible repeat (first | apply Kd.S_alloc | apply Kd.S_drewN | apply Kd.S_drew)); exact HO_6.out) (Kd.R_base ho0) hb); have n2_ := Aside0.mk (Kd.S_elder' (by (with_reducible repeat (first | apply Kd.S_alloc | apply Kd.S_drewN | apply Kd.S_drew)); exact HO_32.out) (Kd.R_base ho0) hb); have n3_ := Aside0.mk (Kd.R_lower ho0 (below_size (by repeat (first | (with_reducible first | exact HB.out | apply below_alloc | apply pw_below_drewN | apply below_drew1 | refine below_set ?_ GE359.out) | exact HB.out)))); have n4_ := Aside0.mk (blk_below (g := gb359) (o := .cells #[.int .i64 ((rd_T35 t355 x34_1).f0), .int .i64 ((rd_T35 t355 x34_1).f1), .slice A358_2 ((rd_T35 t355 x34_1).f2).length c358_2] 35 (0, 0)) (by (with_reducible repeat (first | refine blk_drewN ?_ _ | refine blk_drew ?_ | refine blk_alloc ?_ _)); exact BK359.out) hb); have n5_ := Aside0.mk (Kd.C_below (by repeat (first | (with_reducible exact HR358_2.out) | (with_reducible refine Kd.C_alloc ?_ _) | (with_reducible refine Kd.C_drewN ?_ _) | (with_reducible refine Kd.C_drew ?_) | exact HR358_2.out)) hb); have n6_ := Aside0.mk (below_step (by repeat (first | (with_reducible first | exact HB.out | apply below_alloc | apply pw_below_drewN | apply below_drew1 | refine below_set ?_ GE359.out) | exact HB.out)) hb); clear HO_3; clear HO_6; clear HO_32; clear BK359; clear HR358_2; clear HB; have HO_3 := n0_; have HO_6 := n1_; have HO_32 := n2_; have HO367 := n3_; have BK359 := n4_; have HR358_2 := n5_; have HB := n6_; clear n0_ n1_ n2_ n3_ n4_ n5_ n6_; (try clear hb); (try clear hb2); (try clear hk); (try clear hi); (try clear ho0); obtain ⟨Ao53, co53, eo53⟩ := Kd.R_slice HO367.out; subst eo53; have p368 : 0 ≤ (0 : Int) := (by omega); have q368 : 0 < (t365.length : Int) := of_decide_eq_true (by first | (with_reducible assumption) | assumption); obtain ⟨ad368, e368, hx368_0⟩ := Kd.at_int (Kd.R_reads' HO367.out).2.2 0 p368 q368; cases e368; have qi368 : (0 < t365.length) = True := eq_true (by omega); (try rw [show ((0 : Int)).toNat = 0 from rfl] at hx368_0); (try rw [Addr.add_zero'] at hx368_0); replace p368 := eq_true p368; replace q368 := eq_true q368; have p369 : 0 ≤ ((ji47) : Int) := of_decide_eq_true (by first | (with_reducible assumption) | assumption); have q369 : (ji47) < (t344.length : Int) := of_decide_eq_true (by first | (with_reducible assumption) | assumption); obtain ⟨ad369, e369, hx369_0, hx369_1, hx369_2, hx369_3⟩ := at_T46 (Kd.R_reads' HO_3.out).2.2 (ji47) p369 q369; obtain rfl : ad360 = ad369 := (by injection e369); replace p369 := eq_true p369; replace q369 := eq_true q369))
                                              repeat (go_quiet (first | (go_at_call 31; (with_reducible refine (flow_Next.calls ((rd_T46 t344 x7_2).f0) ((rd_T46 t344 x7_2).f1) ((rd_T46 t344 x7_2).f2) ((rd_T46 t344 x7_2).f3) t365 _ A40.out).mono ?_); rintro e w52 ⟨v366, rfl, ho0, hb⟩; have n0_ := Aside0.mk (Kd.R_below (by (with_reducible repeat (first | apply Kd.R_alloc | apply Kd.R_drewN | apply Kd.R_drew)); exact HO_3.out) hb); have n1_ := Aside0.mk (Kd.S_elder' (by (with_reducible repeat (first | apply Kd.S_alloc | apply Kd.S_drewN | apply Kd.S_drew)); exact HO_6.out) (Kd.R_base ho0) hb); have n2_ := Aside0.mk (Kd.S_elder' (by (with_reducible repeat (first | apply Kd.S_alloc | apply Kd.S_drewN | apply Kd.S_drew)); exact HO_32.out) (Kd.R_base ho0) hb); have n3_ := Aside0.mk (Kd.R_lower ho0 (below_size (by repeat (first | (with_reducible first | exact HB.out | apply below_alloc | apply pw_below_drewN | apply below_drew1 | refine below_set ?_ GE359.out) | exact HB.out)))); have n4_ := Aside0.mk (blk_below (g := gb359) (o := .cells #[.int .i64 ((rd_T35 t355 x34_1).f0), .int .i64 ((rd_T35 t355 x34_1).f1), .slice A358_2 ((rd_T35 t355 x34_1).f2).length c358_2] 35 (0, 0)) (by (with_reducible repeat (first | refine blk_drewN ?_ _ | refine blk_drew ?_ | refine blk_alloc ?_ _)); exact BK359.out) hb); have n5_ := Aside0.mk (Kd.C_below (by repeat (first | (with_reducible exact HR358_2.out) | (with_reducible refine Kd.C_alloc ?_ _) | (with_reducible refine Kd.C_drewN ?_ _) | (with_reducible refine Kd.C_drew ?_) | exact HR358_2.out)) hb); have n6_ := Aside0.mk (below_step (by repeat (first | (with_reducible first | exact HB.out | apply below_alloc | apply pw_below_drewN | apply below_drew1 | refine below_set ?_ GE359.out) | exact HB.out)) hb); clear HO_3; clear HO_6; clear HO_32; clear BK359; clear HR358_2; clear HB; have HO_3 := n0_; have HO_6 := n1_; have HO_32 := n2_; have HO367 := n3_; have BK359 := n4_; have HR358_2 := n5_; have HB := n6_; clear n0_ n1_ n2_ n3_ n4_ n5_ n6_; (try clear hb); (try clear hb2); (try clear hk); (try clear hi); (try clear ho0); obtain ⟨Ao53, co53, eo53⟩ := Kd.R_slice HO367.out; subst eo53; have p368 : 0 ≤ (0 : Int) := (by omega); have q368 : 0 < (t365.length : Int) := of_decide_eq_true (by first | (with_reducible assumption) | assumption); obtain ⟨ad368, e368, hx368_0⟩ := Kd.at_int (Kd.R_reads' HO367.out).2.2 0 p368 q368; cases e368; have qi368 : (0 < t365.length) = True := eq_true (by omega); (try rw [show ((0 : Int)).toNat = 0 from rfl] at hx368_0); (try rw [Addr.add_zero'] at hx368_0); replace p368 := eq_true p368; replace q368 := eq_true q368; have p369 : 0 ≤ ((ji47) : Int) := of_decide_eq_true (by first | (with_reducible assumption) | assumption); have q369 : (ji47) < (t344.length : Int) := of_decide_eq_true (by first | (with_reducible assumption) | assumption); obtain ⟨ad369, e369, hx369_0, hx369_1, hx369_2, hx369_3⟩ := at_T46 (Kd.R_reads' HO_3.out).2.2 (ji47) p369 q369; obtain rfl : ad360 = ad369 := (by injection e369); replace p369 := eq_true p369; replace q369 := eq_true q369)); try go_wp2_with (first | (go_at_call 31; (with_reducible refine (flow_Next.calls ((rd_T46 t344 x7_2).f0) ((rd_T46 t344 x7_2).f1) ((rd_T46 t344 x7_2).f2) ((rd_T46 t344 x7_2).f3) t365 _ A40.out).mono ?_); rintro e w52 ⟨v366, rfl, ho0, hb⟩; have n0_ := Aside0.mk (Kd.R_below (by (with_reducible repeat (first | apply Kd.R_alloc | apply Kd.R_drewN | apply Kd.R_drew)); exact HO_3.out) hb); have n1_ := Aside0.mk (Kd.S_elder' (by (with_reducible repeat (first | apply Kd.S_alloc | apply Kd.S_drewN | apply Kd.S_drew)); exact HO_6.out) (Kd.R_base ho0) hb); have n2_ := Aside0.mk (Kd.S_elder' (by (with_reducible repeat (first | apply Kd.S_alloc | apply Kd.S_drewN | apply Kd.S_drew)); exact HO_32.out) (Kd.R_base ho0) hb); have n3_ := Aside0.mk (Kd.R_lower ho0 (below_size (by repeat (first | (with_reducible first | exact HB.out | apply below_alloc | apply pw_below_drewN | apply below_drew1 | refine below_set ?_ GE359.out) | exact HB.out)))); have n4_ := Aside0.mk (blk_below (g := gb359) (o := .cells #[.int .i64 ((rd_T35 t355 x34_1).f0), .int .i64 ((rd_T35 t355 x34_1).f1), .slice A358_2 ((rd_T35 t355 x34_1).f2).length c358_2] 35 (0, 0)) (by (with_reducible repeat (first | refine blk_drewN ?_ _ | refine blk_drew ?_ | refine blk_alloc ?_ _)); exact BK359.out) hb); have n5_ := Aside0.mk (Kd.C_below (by repeat (first | (with_reducible exact HR358_2.out) | (with_reducible refine Kd.C_alloc ?_ _) | (with_reducible refine Kd.C_drewN ?_ _) | (with_reducible refine Kd.C_drew ?_) | exact HR358_2.out)) hb); have n6_ := Aside0.mk (below_step (by repeat (first | (with_reducible first | exact HB.out | apply below_alloc | apply pw_below_drewN | apply below_drew1 | refine below_set ?_ GE359.out) | exact HB.out)) hb); clear HO_3; clear HO_6; clear HO_32; clear BK359; clear HR358_2; clear HB; have HO_3 := n0_; have HO_6 := n1_; have HO_32 := n2_; have HO367 := n3_; have BK359 := n4_; have HR358_2 := n5_; have HB := n6_; clear n0_ n1_ n2_ n3_ n4_ n5_ n6_; (try clear hb); (try clear hb2); (try clear hk); (try clear hi); (try clear ho0); obtain ⟨Ao53, co53, eo53⟩ := Kd.R_slice HO367.out; subst eo53; have p368 : 0 ≤ (0 : Int) := (by omega); have q368 : 0 < (t365.length : Int) := of_decide_eq_true (by first | (with_reducible assumption) | assumption); obtain ⟨ad368, e368, hx368_0⟩ := Kd.at_int (Kd.R_reads' HO367.out).2.2 0 p368 q368; cases e368; have qi368 : (0 < t365.length) = True := eq_true (by omega); (try rw [show ((0 : Int)).toNat = 0 from rfl] at hx368_0); (try rw [Addr.add_zero'] at hx368_0); replace p368 := eq_true p368; replace q368 := eq_true q368; have p369 : 0 ≤ ((ji47) : Int) := of_decide_eq_true (by first | (with_reducible assumption) | assumption); have q369 : (ji47) < (t344.length : Int) := of_decide_eq_true (by first | (with_reducible assumption) | assumption); obtain ⟨ad369, e369, hx369_0, hx369_1, hx369_2, hx369_3⟩ := at_T46 (Kd.R_reads' HO_3.out).2.2 (ji47) p369 q369; obtain rfl : ad360 = ad369 := (by injection e369); replace p369 := eq_true p369; replace q369 := eq_true q369)))
                                              go_roundg k2
                                              case measure => have := HK1.out; have := HK2.out; omega
                                              case rel => exact ⟨(ji47), (by first | rfl | (simp; done) | (simp only [← hji47] <;> (first | rfl | simp)) | (simp [*]; done)), H', ⟨by have := HK1.out; have := HK2.out; omega⟩, ⟨by (with_reducible repeat (first | apply Kd.R_alloc | apply Kd.R_drewN | apply Kd.R_drew)); exact HO_3.out⟩, ⟨by (with_reducible repeat (first | apply Kd.S_alloc | apply Kd.S_drewN | apply Kd.S_drew)); exact Kd.S_mono HO_6.out (fun _ hk => hk.1)⟩, ⟨by (with_reducible repeat (first | apply Kd.S_alloc | apply Kd.S_drewN | apply Kd.S_drew)); exact Kd.S_mono HO_32.out (fun _ hk => hk.1)⟩, ⟨by (with_reducible repeat (first | refine blk_drewN ?_ _ | refine blk_drew ?_ | refine blk_alloc ?_ _)); exact BK359.out⟩, ⟨by repeat (first | (with_reducible exact HR358_2.out) | (with_reducible refine Kd.C_alloc ?_ _) | (with_reducible refine Kd.C_drewN ?_ _) | (with_reducible refine Kd.C_drew ?_) | exact HR358_2.out)⟩, ⟨by repeat (first | (with_reducible first | exact HB.out | apply below_alloc | apply pw_below_drewN | apply below_drew1 | refine below_set ?_ GE359.out) | exact HB.out)⟩⟩
                                            · rw [if_neg c50] at H
                                              have c50b0 : ((rd t365 0) == ((rd_T46 t344 (ji47)).f0)) = false := beq_eq_false_iff_ne.mpr c50
                                              have c50b1 : ((rd t365 0) != ((rd_T46 t344 (ji47)).f0)) = true := bne_iff_ne.mpr c50
                                              obtain rfl := Option.some.inj H
                                              have p361 : 0 ≤ (x7_2 : Int) := of_decide_eq_true (by first | (with_reducible assumption) | assumption)
                                              have q361 : x7_2 < (t344.length : Int) := of_decide_eq_true (by first | (with_reducible assumption) | assumption)
                                              obtain ⟨ad361, e361, hx361_0, hx361_1, hx361_2, hx361_3⟩ := at_T46 (Kd.R_reads' HO_3.out).2.2 x7_2 p361 q361
                                              obtain rfl : ad360 = ad361 := (by injection e361)
                                              replace p361 := eq_true p361
                                              replace q361 := eq_true q361
                                              have hcz54_0 : wr.cell? ⟨gb359, 0, none⟩ = some (.int .i64 ((rd_T35 t355 x34_1).f0)) := (blk_cell BK359.out 0).trans rfl
                                              have hcz54_1 : wr.cell? ⟨gb359, 1, none⟩ = some (.int .i64 ((rd_T35 t355 x34_1).f1)) := (blk_cell BK359.out 1).trans rfl
                                              have hcz54_2 : wr.cell? ⟨gb359, 2, none⟩ = some (.slice A358_2 ((rd_T35 t355 x34_1).f2).length c358_2) := (blk_cell BK359.out 2).trans rfl
                                              have hfz54_0 := blk_frozen BK359.out 0
                                              have hfz54_1 := blk_frozen BK359.out 1
                                              have hfz54_2 := blk_frozen BK359.out 2
                                              have p364 : 0 ≤ (x7_2 : Int) := of_decide_eq_true (by first | (with_reducible assumption) | assumption)
                                              have q364 : x7_2 < (t344.length : Int) := of_decide_eq_true (by first | (with_reducible assumption) | assumption)
                                              obtain ⟨ad364, e364, hx364_0, hx364_1, hx364_2, hx364_3⟩ := at_T46 (Kd.R_reads' HO_3.out).2.2 x7_2 p364 q364
                                              obtain rfl : ad360 = ad364 := (by injection e364)
                                              replace p364 := eq_true p364
                                              replace q364 := eq_true q364
                                              go_wp2_with (first | (go_at_call 31; (with_reducible refine (flow_Next.calls ((rd_T46 t344 x7_2).f0) ((rd_T46 t344 x7_2).f1) ((rd_T46 t344 x7_2).f2) ((rd_T46 t344 x7_2).f3) t365 _ A40.out).mono ?_); rintro e w55 ⟨v366, rfl, ho0, hb⟩; have n0_ := Aside0.mk (Kd.R_below (by (with_reducible repeat (first | apply Kd.R_alloc | apply Kd.R_drewN | apply Kd.R_drew)); exact HO_3.out) hb); have n1_ := Aside0.mk (Kd.S_elder' (by (with_reducible repeat (first | apply Kd.S_alloc | apply Kd.S_drewN | apply Kd.S_drew)); exact HO_6.out) (Kd.R_base ho0) hb); have n2_ := Aside0.mk (Kd.S_elder' (by (with_reducible repeat (first | apply Kd.S_alloc | apply Kd.S_drewN | apply Kd.S_drew)); exact HO_32.out) (Kd.R_base ho0) hb); have n3_ := Aside0.mk (Kd.R_lower ho0 (below_size (by repeat (first | (with_reducible first | exact HB.out | apply below_alloc | apply pw_below_drewN | apply below_drew1 | refine below_set ?_ GE359.out) | exact HB.out)))); have n4_ := Aside0.mk (blk_below (g := gb359) (o := .cells #[.int .i64 ((rd_T35 t355 x34_1).f0), .int .i64 ((rd_T35 t355 x34_1).f1), .slice A358_2 ((rd_T35 t355 x34_1).f2).length c358_2] 35 (0, 0)) (by (with_reducible repeat (first | refine blk_drewN ?_ _ | refine blk_drew ?_ | refine blk_alloc ?_ _)); exact BK359.out) hb); have n5_ := Aside0.mk (Kd.C_below (by repeat (first | (with_reducible exact HR358_2.out) | (with_reducible refine Kd.C_alloc ?_ _) | (with_reducible refine Kd.C_drewN ?_ _) | (with_reducible refine Kd.C_drew ?_) | exact HR358_2.out)) hb); have n6_ := Aside0.mk (below_step (by repeat (first | (with_reducible first | exact HB.out | apply below_alloc | apply pw_below_drewN | apply below_drew1 | refine below_set ?_ GE359.out) | exact HB.out)) hb); clear HO_3; clear HO_6; clear HO_32; clear BK359; clear HR358_2; clear HB; have HO_3 := n0_; have HO_6 := n1_; have HO_32 := n2_; have HO367 := n3_; have BK359 := n4_; have HR358_2 := n5_; have HB := n6_; clear n0_ n1_ n2_ n3_ n4_ n5_ n6_; (try clear hb); (try clear hb2); (try clear hk); (try clear hi); (try clear ho0); obtain ⟨Ao56, co56, eo56⟩ := Kd.R_slice HO367.out; subst eo56; have p368 : 0 ≤ (0 : Int) := (by omega); have q368 : 0 < (t365.length : Int) := of_decide_eq_true (by first | (with_reducible assumption) | assumption); obtain ⟨ad368, e368, hx368_0⟩ := Kd.at_int (Kd.R_reads' HO367.out).2.2 0 p368 q368; cases e368; have qi368 : (0 < t365.length) = True := eq_true (by omega); (try rw [show ((0 : Int)).toNat = 0 from rfl] at hx368_0); (try rw [Addr.add_zero'] at hx368_0); replace p368 := eq_true p368; replace q368 := eq_true q368; have p369 : 0 ≤ ((ji47) : Int) := of_decide_eq_true (by first | (with_reducible assumption) | assumption); have q369 : (ji47) < (t344.length : Int) := of_decide_eq_true (by first | (with_reducible assumption) | assumption); obtain ⟨ad369, e369, hx369_0, hx369_1, hx369_2, hx369_3⟩ := at_T46 (Kd.R_reads' HO_3.out).2.2 (ji47) p369 q369; obtain rfl : ad360 = ad369 := (by injection e369); replace p369 := eq_true p369; replace q369 := eq_true q369))
                                              repeat (go_quiet (first | (go_at_call 31; (with_reducible refine (flow_Next.calls ((rd_T46 t344 x7_2).f0) ((rd_T46 t344 x7_2).f1) ((rd_T46 t344 x7_2).f2) ((rd_T46 t344 x7_2).f3) t365 _ A40.out).mono ?_); rintro e w55 ⟨v366, rfl, ho0, hb⟩; have n0_ := Aside0.mk (Kd.R_below (by (with_reducible repeat (first | apply Kd.R_alloc | apply Kd.R_drewN | apply Kd.R_drew)); exact HO_3.out) hb); have n1_ := Aside0.mk (Kd.S_elder' (by (with_reducible repeat (first | apply Kd.S_alloc | apply Kd.S_drewN | apply Kd.S_drew)); exact HO_6.out) (Kd.R_base ho0) hb); have n2_ := Aside0.mk (Kd.S_elder' (by (with_reducible repeat (first | apply Kd.S_alloc | apply Kd.S_drewN | apply Kd.S_drew)); exact HO_32.out) (Kd.R_base ho0) hb); have n3_ := Aside0.mk (Kd.R_lower ho0 (below_size (by repeat (first | (with_reducible first | exact HB.out | apply below_alloc | apply pw_below_drewN | apply below_drew1 | refine below_set ?_ GE359.out) | exact HB.out)))); have n4_ := Aside0.mk (blk_below (g := gb359) (o := .cells #[.int .i64 ((rd_T35 t355 x34_1).f0), .int .i64 ((rd_T35 t355 x34_1).f1), .slice A358_2 ((rd_T35 t355 x34_1).f2).length c358_2] 35 (0, 0)) (by (with_reducible repeat (first | refine blk_drewN ?_ _ | refine blk_drew ?_ | refine blk_alloc ?_ _)); exact BK359.out) hb); have n5_ := Aside0.mk (Kd.C_below (by repeat (first | (with_reducible exact HR358_2.out) | (with_reducible refine Kd.C_alloc ?_ _) | (with_reducible refine Kd.C_drewN ?_ _) | (with_reducible refine Kd.C_drew ?_) | exact HR358_2.out)) hb); have n6_ := Aside0.mk (below_step (by repeat (first | (with_reducible first | exact HB.out | apply below_alloc | apply pw_below_drewN | apply below_drew1 | refine below_set ?_ GE359.out) | exact HB.out)) hb); clear HO_3; clear HO_6; clear HO_32; clear BK359; clear HR358_2; clear HB; have HO_3 := n0_; have HO_6 := n1_; have HO_32 := n2_; have HO367 := n3_; have BK359 := n4_; have HR358_2 := n5_; have HB := n6_; clear n0_ n1_ n2_ n3_ n4_ n5_ n6_; (try clear hb); (try clear hb2); (try clear hk); (try clear hi); (try clear ho0); obtain ⟨Ao56, co56, eo56⟩ := Kd.R_slice HO367.out; subst eo56; have p368 : 0 ≤ (0 : Int) := (by omega); have q368 : 0 < (t365.length : Int) := of_decide_eq_true (by first | (with_reducible assumption) | assumption); obtain ⟨ad368, e368, hx368_0⟩ := Kd.at_int (Kd.R_reads' HO367.out).2.2 0 p368 q368; cases e368; have qi368 : (0 < t365.length) = True := eq_true (by omega); (try rw [show ((0 : Int)).toNat = 0 from rfl] at hx368_0); (try rw [Addr.add_zero'] at hx368_0); replace p368 := eq_true p368; replace q368 := eq_true q368; have p369 : 0 ≤ ((ji47) : Int) := of_decide_eq_true (by first | (with_reducible assumption) | assumption); have q369 : (ji47) < (t344.length : Int) := of_decide_eq_true (by first | (with_reducible assumption) | assumption); obtain ⟨ad369, e369, hx369_0, hx369_1, hx369_2, hx369_3⟩ := at_T46 (Kd.R_reads' HO_3.out).2.2 (ji47) p369 q369; obtain rfl : ad360 = ad369 := (by injection e369); replace p369 := eq_true p369; replace q369 := eq_true q369)); try go_wp2_with (first | (go_at_call 31; (with_reducible refine (flow_Next.calls ((rd_T46 t344 x7_2).f0) ((rd_T46 t344 x7_2).f1) ((rd_T46 t344 x7_2).f2) ((rd_T46 t344 x7_2).f3) t365 _ A40.out).mono ?_); rintro e w55 ⟨v366, rfl, ho0, hb⟩; have n0_ := Aside0.mk (Kd.R_below (by (with_reducible repeat (first | apply Kd.R_alloc | apply Kd.R_drewN | apply Kd.R_drew)); exact HO_3.out) hb); have n1_ := Aside0.mk (Kd.S_elder' (by (with_reducible repeat (first | apply Kd.S_alloc | apply Kd.S_drewN | apply Kd.S_drew)); exact HO_6.out) (Kd.R_base ho0) hb); have n2_ := Aside0.mk (Kd.S_elder' (by (with_reducible repeat (first | apply Kd.S_alloc | apply Kd.S_drewN | apply Kd.S_drew)); exact HO_32.out) (Kd.R_base ho0) hb); have n3_ := Aside0.mk (Kd.R_lower ho0 (below_size (by repeat (first | (with_reducible first | exact HB.out | apply below_alloc | apply pw_below_drewN | apply below_drew1 | refine below_set ?_ GE359.out) | exact HB.out)))); have n4_ := Aside0.mk (blk_below (g := gb359) (o := .cells #[.int .i64 ((rd_T35 t355 x34_1).f0), .int .i64 ((rd_T35 t355 x34_1).f1), .slice A358_2 ((rd_T35 t355 x34_1).f2).length c358_2] 35 (0, 0)) (by (with_reducible repeat (first | refine blk_drewN ?_ _ | refine blk_drew ?_ | refine blk_alloc ?_ _)); exact BK359.out) hb); have n5_ := Aside0.mk (Kd.C_below (by repeat (first | (with_reducible exact HR358_2.out) | (with_reducible refine Kd.C_alloc ?_ _) | (with_reducible refine Kd.C_drewN ?_ _) | (with_reducible refine Kd.C_drew ?_) | exact HR358_2.out)) hb); have n6_ := Aside0.mk (below_step (by repeat (first | (with_reducible first | exact HB.out | apply below_alloc | apply pw_below_drewN | apply below_drew1 | refine below_set ?_ GE359.out) | exact HB.out)) hb); clear HO_3; clear HO_6; clear HO_32; clear BK359; clear HR358_2; clear HB; have HO_3 := n0_; have HO_6 := n1_; have HO_32 := n2_; have HO367 := n3_; have BK359 := n4_; have HR358_2 := n5_; have HB := n6_; clear n0_ n1_ n2_ n3_ n4_ n5_ n6_; (try clear hb); (try clear hb2); (try clear hk); (try clear hi); (try clear ho0); obtain ⟨Ao56, co56, eo56⟩ := Kd.R_slice HO367.out; subst eo56; have p368 : 0 ≤ (0 : Int) := (by omega); have q368 : 0 < (t365.length : Int) := of_decide_eq_true (by first | (with_reducible assumption) | assumption); obtain ⟨ad368, e368, hx368_0⟩ := Kd.at_int (Kd.R_reads' HO367.out).2.2 0 p368 q368; cases e368; have qi368 : (0 < t365.length) = True := eq_true (by omega); (try rw [show ((0 : Int)).toNat = 0 from rfl] at hx368_0); (try rw [Addr.add_zero'] at hx368_0); replace p368 := eq_true p368; replace q368 := eq_true q368; have p369 : 0 ≤ ((ji47) : Int) := of_decide_eq_true (by first | (with_reducible assumption) | assumption); have q369 : (ji47) < (t344.length : Int) := of_decide_eq_true (by first | (with_reducible assumption) | assumption); obtain ⟨ad369, e369, hx369_0, hx369_1, hx369_2, hx369_3⟩ := at_T46 (Kd.R_reads' HO_3.out).2.2 (ji47) p369 q369; obtain rfl : ad360 = ad369 := (by injection e369); replace p369 := eq_true p369; replace q369 := eq_true q369)))
                                              go_ret
                                              exact ⟨by first | rfl | (simp [errW_none, errW_some] <;> rfl) | (simp only [← hji47]; first | rfl | (simp [errW_none, errW_some] <;> rfl)) | (simp [*, errW_none, errW_some] <;> rfl), by repeat (first | (with_reducible first | exact HB.out | apply below_alloc | apply pw_below_drewN | apply below_drew1 | refine below_set ?_ GE359.out) | exact HB.out)⟩
                                          · rw [if_neg c49] at H
                                            exact absurd H (by simp)
                                        · rw [if_neg c48] at H
                                          exact absurd H (by simp)
                                      · rw [if_neg c46] at H
                                        exact absurd H (by simp)
                                  · rw [if_neg c41] at H
                                    have c41b0 : ((t365.length : Int) == 1) = false := beq_eq_false_iff_ne.mpr c41
                                    have c41b1 : ((t365.length : Int) != 1) = true := bne_iff_ne.mpr c41
                                    obtain rfl := Option.some.inj H
                                    have p361 : 0 ≤ (x7_2 : Int) := of_decide_eq_true (by first | (with_reducible assumption) | assumption)
                                    have q361 : x7_2 < (t344.length : Int) := of_decide_eq_true (by first | (with_reducible assumption) | assumption)
                                    obtain ⟨ad361, e361, hx361_0, hx361_1, hx361_2, hx361_3⟩ := at_T46 (Kd.R_reads' HO_3.out).2.2 x7_2 p361 q361
                                    obtain rfl : ad360 = ad361 := (by injection e361)
                                    replace p361 := eq_true p361
                                    replace q361 := eq_true q361
                                    have hcz57_0 : wr.cell? ⟨gb359, 0, none⟩ = some (.int .i64 ((rd_T35 t355 x34_1).f0)) := (blk_cell BK359.out 0).trans rfl
                                    have hcz57_1 : wr.cell? ⟨gb359, 1, none⟩ = some (.int .i64 ((rd_T35 t355 x34_1).f1)) := (blk_cell BK359.out 1).trans rfl
                                    have hcz57_2 : wr.cell? ⟨gb359, 2, none⟩ = some (.slice A358_2 ((rd_T35 t355 x34_1).f2).length c358_2) := (blk_cell BK359.out 2).trans rfl
                                    have hfz57_0 := blk_frozen BK359.out 0
                                    have hfz57_1 := blk_frozen BK359.out 1
                                    have hfz57_2 := blk_frozen BK359.out 2
                                    have p364 : 0 ≤ (x7_2 : Int) := of_decide_eq_true (by first | (with_reducible assumption) | assumption)
                                    have q364 : x7_2 < (t344.length : Int) := of_decide_eq_true (by first | (with_reducible assumption) | assumption)
                                    obtain ⟨ad364, e364, hx364_0, hx364_1, hx364_2, hx364_3⟩ := at_T46 (Kd.R_reads' HO_3.out).2.2 x7_2 p364 q364
                                    obtain rfl : ad360 = ad364 := (by injection e364)
                                    replace p364 := eq_true p364
                                    replace q364 := eq_true q364
                                    go_wp2_with (first | (go_at_call 31; (with_reducible refine (flow_Next.calls ((rd_T46 t344 x7_2).f0) ((rd_T46 t344 x7_2).f1) ((rd_T46 t344 x7_2).f2) ((rd_T46 t344 x7_2).f3) t365 _ A40.out).mono ?_); rintro e w58 ⟨v366, rfl, ho0, hb⟩; have n0_ := Aside0.mk (Kd.R_below (by (with_reducible repeat (first | apply Kd.R_alloc | apply Kd.R_drewN | apply Kd.R_drew)); exact HO_3.out) hb); have n1_ := Aside0.mk (Kd.S_elder' (by (with_reducible repeat (first | apply Kd.S_alloc | apply Kd.S_drewN | apply Kd.S_drew)); exact HO_6.out) (Kd.R_base ho0) hb); have n2_ := Aside0.mk (Kd.S_elder' (by (with_reducible repeat (first | apply Kd.S_alloc | apply Kd.S_drewN | apply Kd.S_drew)); exact HO_32.out) (Kd.R_base ho0) hb); have n3_ := Aside0.mk (Kd.R_lower ho0 (below_size (by repeat (first | (with_reducible first | exact HB.out | apply below_alloc | apply pw_below_drewN | apply below_drew1 | refine below_set ?_ GE359.out) | exact HB.out)))); have n4_ := Aside0.mk (blk_below (g := gb359) (o := .cells #[.int .i64 ((rd_T35 t355 x34_1).f0), .int .i64 ((rd_T35 t355 x34_1).f1), .slice A358_2 ((rd_T35 t355 x34_1).f2).length c358_2] 35 (0, 0)) (by (with_reducible repeat (first | refine blk_drewN ?_ _ | refine blk_drew ?_ | refine blk_alloc ?_ _)); exact BK359.out) hb); have n5_ := Aside0.mk (Kd.C_below (by repeat (first | (with_reducible exact HR358_2.out) | (with_reducible refine Kd.C_alloc ?_ _) | (with_reducible refine Kd.C_drewN ?_ _) | (with_reducible refine Kd.C_drew ?_) | exact HR358_2.out)) hb); have n6_ := Aside0.mk (below_step (by repeat (first | (with_reducible first | exact HB.out | apply below_alloc | apply pw_below_drewN | apply below_drew1 | refine below_set ?_ GE359.out) | exact HB.out)) hb); clear HO_3; clear HO_6; clear HO_32; clear BK359; clear HR358_2; clear HB; have HO_3 := n0_; have HO_6 := n1_; have HO_32 := n2_; have HO367 := n3_; have BK359 := n4_; have HR358_2 := n5_; have HB := n6_; clear n0_ n1_ n2_ n3_ n4_ n5_ n6_; (try clear hb); (try clear hb2); (try clear hk); (try clear hi); (try clear ho0); obtain ⟨Ao59, co59, eo59⟩ := Kd.R_slice HO367.out; subst eo59))
                                    repeat (go_quiet (first | (go_at_call 31; (with_reducible refine (flow_Next.calls ((rd_T46 t344 x7_2).f0) ((rd_T46 t344 x7_2).f1) ((rd_T46 t344 x7_2).f2) ((rd_T46 t344 x7_2).f3) t365 _ A40.out).mono ?_); rintro e w58 ⟨v366, rfl, ho0, hb⟩; have n0_ := Aside0.mk (Kd.R_below (by (with_reducible repeat (first | apply Kd.R_alloc | apply Kd.R_drewN | apply Kd.R_drew)); exact HO_3.out) hb); have n1_ := Aside0.mk (Kd.S_elder' (by (with_reducible repeat (first | apply Kd.S_alloc | apply Kd.S_drewN | apply Kd.S_drew)); exact HO_6.out) (Kd.R_base ho0) hb); have n2_ := Aside0.mk (Kd.S_elder' (by (with_reducible repeat (first | apply Kd.S_alloc | apply Kd.S_drewN | apply Kd.S_drew)); exact HO_32.out) (Kd.R_base ho0) hb); have n3_ := Aside0.mk (Kd.R_lower ho0 (below_size (by repeat (first | (with_reducible first | exact HB.out | apply below_alloc | apply pw_below_drewN | apply below_drew1 | refine below_set ?_ GE359.out) | exact HB.out)))); have n4_ := Aside0.mk (blk_below (g := gb359) (o := .cells #[.int .i64 ((rd_T35 t355 x34_1).f0), .int .i64 ((rd_T35 t355 x34_1).f1), .slice A358_2 ((rd_T35 t355 x34_1).f2).length c358_2] 35 (0, 0)) (by (with_reducible repeat (first | refine blk_drewN ?_ _ | refine blk_drew ?_ | refine blk_alloc ?_ _)); exact BK359.out) hb); have n5_ := Aside0.mk (Kd.C_below (by repeat (first | (with_reducible exact HR358_2.out) | (with_reducible refine Kd.C_alloc ?_ _) | (with_reducible refine Kd.C_drewN ?_ _) | (with_reducible refine Kd.C_drew ?_) | exact HR358_2.out)) hb); have n6_ := Aside0.mk (below_step (by repeat (first | (with_reducible first | exact HB.out | apply below_alloc | apply pw_below_drewN | apply below_drew1 | refine below_set ?_ GE359.out) | exact HB.out)) hb); clear HO_3; clear HO_6; clear HO_32; clear BK359; clear HR358_2; clear HB; have HO_3 := n0_; have HO_6 := n1_; have HO_32 := n2_; have HO367 := n3_; have BK359 := n4_; have HR358_2 := n5_; have HB := n6_; clear n0_ n1_ n2_ n3_ n4_ n5_ n6_; (try clear hb); (try clear hb2); (try clear hk); (try clear hi); (try clear ho0); obtain ⟨Ao59, co59, eo59⟩ := Kd.R_slice HO367.out; subst eo59)); try go_wp2_with (first | (go_at_call 31; (with_reducible refine (flow_Next.calls ((rd_T46 t344 x7_2).f0) ((rd_T46 t344 x7_2).f1) ((rd_T46 t344 x7_2).f2) ((rd_T46 t344 x7_2).f3) t365 _ A40.out).mono ?_); rintro e w58 ⟨v366, rfl, ho0, hb⟩; have n0_ := Aside0.mk (Kd.R_below (by (with_reducible repeat (first | apply Kd.R_alloc | apply Kd.R_drewN | apply Kd.R_drew)); exact HO_3.out) hb); have n1_ := Aside0.mk (Kd.S_elder' (by (with_reducible repeat (first | apply Kd.S_alloc | apply Kd.S_drewN | apply Kd.S_drew)); exact HO_6.out) (Kd.R_base ho0) hb); have n2_ := Aside0.mk (Kd.S_elder' (by (with_reducible repeat (first | apply Kd.S_alloc | apply Kd.S_drewN | apply Kd.S_drew)); exact HO_32.out) (Kd.R_base ho0) hb); have n3_ := Aside0.mk (Kd.R_lower ho0 (below_size (by repeat (first | (with_reducible first | exact HB.out | apply below_alloc | apply pw_below_drewN | apply below_drew1 | refine below_set ?_ GE359.out) | exact HB.out)))); have n4_ := Aside0.mk (blk_below (g := gb359) (o := .cells #[.int .i64 ((rd_T35 t355 x34_1).f0), .int .i64 ((rd_T35 t355 x34_1).f1), .slice A358_2 ((rd_T35 t355 x34_1).f2).length c358_2] 35 (0, 0)) (by (with_reducible repeat (first | refine blk_drewN ?_ _ | refine blk_drew ?_ | refine blk_alloc ?_ _)); exact BK359.out) hb); have n5_ := Aside0.mk (Kd.C_below (by repeat (first | (with_reducible exact HR358_2.out) | (with_reducible refine Kd.C_alloc ?_ _) | (with_reducible refine Kd.C_drewN ?_ _) | (with_reducible refine Kd.C_drew ?_) | exact HR358_2.out)) hb); have n6_ := Aside0.mk (below_step (by repeat (first | (with_reducible first | exact HB.out | apply below_alloc | apply pw_below_drewN | apply below_drew1 | refine below_set ?_ GE359.out) | exact HB.out)) hb); clear HO_3; clear HO_6; clear HO_32; clear BK359; clear HR358_2; clear HB; have HO_3 := n0_; have HO_6 := n1_; have HO_32 := n2_; have HO367 := n3_; have BK359 := n4_; have HR358_2 := n5_; have HB := n6_; clear n0_ n1_ n2_ n3_ n4_ n5_ n6_; (try clear hb); (try clear hb2); (try clear hk); (try clear hi); (try clear ho0); obtain ⟨Ao59, co59, eo59⟩ := Kd.R_slice HO367.out; subst eo59)))
                                    go_ret
                                    exact ⟨by first | rfl | (simp [errW_none, errW_some] <;> rfl) | (simp [*, errW_none, errW_some] <;> rfl), by repeat (first | (with_reducible first | exact HB.out | apply below_alloc | apply pw_below_drewN | apply below_drew1 | refine below_set ?_ GE359.out) | exact HB.out)⟩
                              · rw [if_neg c30] at H
                                exact absurd H (by simp)
                            · rw [if_neg c29] at H
                              exact absurd H (by simp)
                      · rw [if_neg c26] at H
                        have c26b0 : (((rd_T35 t355 x34_1).f0) == ((rd_T46 t344 x7_1).f0)) = false := beq_eq_false_iff_ne.mpr c26
                        have c26b1 : (((rd_T35 t355 x34_1).f0) != ((rd_T46 t344 x7_1).f0)) = true := bne_iff_ne.mpr c26
                        obtain rfl := Option.some.inj H
                        have p358 : 0 ≤ (x34_1 : Int) := of_decide_eq_true (by first | (with_reducible assumption) | assumption)
                        have q358 : x34_1 < (t355.length : Int) := of_decide_eq_true (by first | (with_reducible assumption) | assumption)
                        obtain ⟨ad358, A358_2, c358_2, e358, hx358_0, hx358_1, hx358_2, hl358_2, hi358_2⟩ := at_T35 (Kd.S_reads' HO_32.out).2.2 x34_1 p358 q358
                        cases e358
                        obtain ⟨ce358, hce358, hMe358, hcc358⟩ := Kd.S_get HO_32.out z35 x34_1 p358 (by first | exact q358 | exact of_decide_eq_true (by first | (with_reducible assumption) | assumption) | (have e_ := (Kd.S_reads' HO_32.out).1; omega))
                        obtain ⟨ve358_2, rfl, ge358_2⟩ := k35_openM hMe358
                        have hv358_2 := hcc358 2 _ rfl
                        rw [add_field _ _ 2 (by omega)] at hv358_2
                        replace hv358_2 := Option.some.inj (hv358_2.symm.trans hx358_2)
                        rw [hv358_2] at ge358_2
                        have HL358_2 := Aside0.mk (show Kd.R (Kd.int .i64) 3 _ _ _ _ ((rd_T35 t355 x34_1).f2) from ge358_2)
                        clear hv358_2 ge358_2
                        clear hcc358 hce358
                        have HR358_2 := Aside0.mk hi358_2
                        have HC358_2 := Aside0.mk hl358_2
                        clear hi358_2 hl358_2
                        replace p358 := eq_true p358
                        replace q358 := eq_true q358
                        go_wp2_with (first | ((with_reducible refine gate_dst (N := 9) rfl ?_); (try (refine gate_guard (by rfl) ?_; dsimp only)); refine box_event ?hg (N := 9) ?hd (cs := #[.int .i64 0, .int .i64 0, .slice none 0 0]) (t := 35) ?hr ?_; (case hd => rfl); (case hg => rfl); (case hr => first | (go_simp; done) | (go_simp; rfl)); intro gb359 hg w60 hbox hb; have n0_ := Aside0.mk (Kd.R_below (by (with_reducible repeat (first | apply Kd.R_alloc | apply Kd.R_drewN | apply Kd.R_drew)); exact HO_3.out) hb); have n1_ := Aside0.mk (Kd.S_below (Kd.S_elderB (by (with_reducible repeat (first | apply Kd.S_alloc | apply Kd.S_drewN | apply Kd.S_drew)); exact HO_6.out) gb359 (Nat.le_of_eq hg.symm)) hb); have n2_ := Aside0.mk (Kd.S_below (Kd.S_elderB (by (with_reducible repeat (first | apply Kd.S_alloc | apply Kd.S_drewN | apply Kd.S_drew)); exact HO_32.out) gb359 (Nat.le_of_eq hg.symm)) hb); have n3_ := Aside0.mk (Kd.R_below (by (with_reducible repeat (first | apply Kd.R_alloc | apply Kd.R_drewN | apply Kd.R_drew)); exact HL358_2.out) hb); have n4_ := Aside0.mk (Kd.C_below (by repeat (first | (with_reducible exact HR358_2.out) | (with_reducible refine Kd.C_alloc ?_ _) | (with_reducible refine Kd.C_drewN ?_ _) | (with_reducible refine Kd.C_drew ?_) | exact HR358_2.out)) hb); have n5_ := Aside0.mk (below_step (by repeat (first | (with_reducible first | exact HB.out | apply below_alloc | apply pw_below_drewN | apply below_drew1) | exact HB.out)) hb); have n6_ := Aside0.mk (hbox); have n7_ := Aside0.mk ((by rw [hg]; exact (below_size (by repeat (first | (with_reducible first | exact HB.out | apply below_alloc | apply pw_below_drewN | apply below_drew1) | exact HB.out))) : w.heap.size ≤ gb359)); have n8_ := Aside0.mk ((by rw [hg]; exact (below_size (by repeat (first | (with_reducible first | exact HB.out | apply below_alloc | apply pw_below_drewN | apply below_drew1) | exact HB.out))) : w.heap.size ≤ gb359)); clear HO_3; clear HO_6; clear HO_32; clear HL358_2; clear HR358_2; clear HB; have HO_3 := n0_; have HO_6 := n1_; have HO_32 := n2_; have HL358_2 := n3_; have HR358_2 := n4_; have HB := n5_; have BK359 := n6_; have GW359 := n7_; have GE359 := n8_; clear n0_ n1_ n2_ n3_ n4_ n5_ n6_ n7_ n8_; clear hb hbox hg; have hcz61_0 : w60.cell? ⟨gb359, 0, none⟩ = some (.int .i64 0) := (blk_cell BK359.out 0).trans rfl; have hcz61_1 : w60.cell? ⟨gb359, 1, none⟩ = some (.int .i64 0) := (blk_cell BK359.out 1).trans rfl; have hcz61_2 : w60.cell? ⟨gb359, 2, none⟩ = some (.slice none 0 0) := (blk_cell BK359.out 2).trans rfl; have hfz61_0 := blk_frozen BK359.out 0; have hfz61_1 := blk_frozen BK359.out 1; have hfz61_2 := blk_frozen BK359.out 2; have p360 : 0 ≤ (x7_1 : Int) := of_decide_eq_true (by first | (with_reducible assumption) | assumption); have q360 : x7_1 < (t344.length : Int) := of_decide_eq_true (by first | (with_reducible assumption) | assumption); obtain ⟨ad360, e360, hx360_0, hx360_1, hx360_2, hx360_3⟩ := at_T46 (Kd.R_reads' HO_3.out).2.2 x7_1 p360 q360; cases e360; have hn360_0 : ad360.block ≠ gb359 := Kd.own_blk (Kd.R_ne HO_3.out BK359.out (by decide)); have hn360_1 : ad360.block ≠ gb359 := Kd.own_blk (Kd.R_ne HO_3.out BK359.out (by decide)); have hn360_2 : ad360.block ≠ gb359 := Kd.own_blk (Kd.R_ne HO_3.out BK359.out (by decide)); replace hx360_0 := (cell_far (p := ⟨gb359, 0, none⟩) (by first | (rw [add_block]; exact hn360_0) | (show (Addr.add _ _).block ≠ _; rw [add_block]; exact hn360_0) | exact hn360_0) (.int .i64 ((rd_T35 t355 x34_1).f0))).trans hx360_0; replace hx360_1 := (cell_far (p := ⟨gb359, 0, none⟩) (by first | (rw [add_block]; exact hn360_0) | (show (Addr.add _ _).block ≠ _; rw [add_block]; exact hn360_0) | exact hn360_0) (.int .i64 ((rd_T35 t355 x34_1).f0))).trans hx360_1; replace hx360_2 := (cell_far (p := ⟨gb359, 0, none⟩) (by first | (rw [add_block]; exact hn360_0) | (show (Addr.add _ _).block ≠ _; rw [add_block]; exact hn360_0) | exact hn360_0) (.int .i64 ((rd_T35 t355 x34_1).f0))).trans hx360_2; replace hx360_3 := (cell_far (p := ⟨gb359, 0, none⟩) (by first | (rw [add_block]; exact hn360_0) | (show (Addr.add _ _).block ≠ _; rw [add_block]; exact hn360_0) | exact hn360_0) (.int .i64 ((rd_T35 t355 x34_1).f0))).trans hx360_3; replace hx360_0 := (cell_far (p := ⟨gb359, 1, none⟩) (by first | (rw [add_block]; exact hn360_1) | (show (Addr.add _ _).block ≠ _; rw [add_block]; exact hn360_1) | exact hn360_1) (.int .i64 ((rd_T35 t355 x34_1).f1))).trans hx360_0; replace hx360_1 := (cell_far (p := ⟨gb359, 1, none⟩) (by first | (rw [add_block]; exact hn360_1) | (show (Addr.add _ _).block ≠ _; rw [add_block]; exact hn360_1) | exact hn360_1) (.int .i64 ((rd_T35 t355 x34_1).f1))).trans hx360_1; replace hx360_2 := (cell_far (p := ⟨gb359, 1, none⟩) (by first | (rw [add_block]; exact hn360_1) | (show (Addr.add _ _).block ≠ _; rw [add_block]; exact hn360_1) | exact hn360_1) (.int .i64 ((rd_T35 t355 x34_1).f1))).trans hx360_2; replace hx360_3 := (cell_far (p := ⟨gb359, 1, none⟩) (by first | (rw [add_block]; exact hn360_1) | (show (Addr.add _ _).block ≠ _; rw [add_block]; exact hn360_1) | exact hn360_1) (.int .i64 ((rd_T35 t355 x34_1).f1))).trans hx360_3; replace hx360_0 := (cell_far (p := ⟨gb359, 2, none⟩) (by first | (rw [add_block]; exact hn360_2) | (show (Addr.add _ _).block ≠ _; rw [add_block]; exact hn360_2) | exact hn360_2) (.slice A358_2 ((rd_T35 t355 x34_1).f2).length c358_2)).trans hx360_0; replace hx360_1 := (cell_far (p := ⟨gb359, 2, none⟩) (by first | (rw [add_block]; exact hn360_2) | (show (Addr.add _ _).block ≠ _; rw [add_block]; exact hn360_2) | exact hn360_2) (.slice A358_2 ((rd_T35 t355 x34_1).f2).length c358_2)).trans hx360_1; replace hx360_2 := (cell_far (p := ⟨gb359, 2, none⟩) (by first | (rw [add_block]; exact hn360_2) | (show (Addr.add _ _).block ≠ _; rw [add_block]; exact hn360_2) | exact hn360_2) (.slice A358_2 ((rd_T35 t355 x34_1).f2).length c358_2)).trans hx360_2; replace hx360_3 := (cell_far (p := ⟨gb359, 2, none⟩) (by first | (rw [add_block]; exact hn360_2) | (show (Addr.add _ _).block ≠ _; rw [add_block]; exact hn360_2) | exact hn360_2) (.slice A358_2 ((rd_T35 t355 x34_1).f2).length c358_2)).trans hx360_3; (try have hy360_0 := fun (n_ : Nat) => (show (((((w60.drewN n_).setCell ⟨gb359, 0, none⟩ (.int .i64 ((rd_T35 t355 x34_1).f0))).setCell ⟨gb359, 1, none⟩ (.int .i64 ((rd_T35 t355 x34_1).f1))).setCell ⟨gb359, 2, none⟩ (.slice A358_2 ((rd_T35 t355 x34_1).f2).length c358_2))).cell? _ = some _ from hx360_0)); (try have hy360_1 := fun (n_ : Nat) => (show (((((w60.drewN n_).setCell ⟨gb359, 0, none⟩ (.int .i64 ((rd_T35 t355 x34_1).f0))).setCell ⟨gb359, 1, none⟩ (.int .i64 ((rd_T35 t355 x34_1).f1))).setCell ⟨gb359, 2, none⟩ (.slice A358_2 ((rd_T35 t355 x34_1).f2).length c358_2))).cell? _ = some _ from hx360_1)); (try have hy360_2 := fun (n_ : Nat) => (show (((((w60.drewN n_).setCell ⟨gb359, 0, none⟩ (.int .i64 ((rd_T35 t355 x34_1).f0))).setCell ⟨gb359, 1, none⟩ (.int .i64 ((rd_T35 t355 x34_1).f1))).setCell ⟨gb359, 2, none⟩ (.slice A358_2 ((rd_T35 t355 x34_1).f2).length c358_2))).cell? _ = some _ from hx360_2)); (try have hy360_3 := fun (n_ : Nat) => (show (((((w60.drewN n_).setCell ⟨gb359, 0, none⟩ (.int .i64 ((rd_T35 t355 x34_1).f0))).setCell ⟨gb359, 1, none⟩ (.int .i64 ((rd_T35 t355 x34_1).f1))).setCell ⟨gb359, 2, none⟩ (.slice A358_2 ((rd_T35 t355 x34_1).f2).length c358_2))).cell? _ = some _ from hx360_3)); clear hn360_0; clear hn360_1; clear hn360_2; replace p360 := eq_true p360; replace q360 := eq_true q360))
                        repeat (go_quiet (first | ((with_reducible refine gate_dst (N := 9) rfl ?_); (try (refine gate_guard (by rfl) ?_; dsimp only)); refine box_event ?hg (N := 9) ?hd (cs := #[.int .i64 0, .int .i64 0, .slice none 0 0]) (t := 35) ?hr ?_; (case hd => rfl); (case hg => rfl); (case hr => first | (go_simp; done) | (go_simp; rfl)); intro gb359 hg w60 hbox hb; have n0_ := Aside0.mk (Kd.R_below (by (with_reducible repeat (first | apply Kd.R_alloc | apply Kd.R_drewN | apply Kd.R_drew)); exact HO_3.out) hb); have n1_ := Aside0.mk (Kd.S_below (Kd.S_elderB (by (with_reducible repeat (first | apply Kd.S_alloc | apply Kd.S_drewN | apply Kd.S_drew)); exact HO_6.out) gb359 (Nat.le_of_eq hg.symm)) hb); have n2_ := Aside0.mk (Kd.S_below (Kd.S_elderB (by (with_reducible repeat (first | apply Kd.S_alloc | apply Kd.S_drewN | apply Kd.S_drew)); exact HO_32.out) gb359 (Nat.le_of_eq hg.symm)) hb); have n3_ := Aside0.mk (Kd.R_below (by (with_reducible repeat (first | apply Kd.R_alloc | apply Kd.R_drewN | apply Kd.R_drew)); exact HL358_2.out) hb); have n4_ := Aside0.mk (Kd.C_below (by repeat (first | (with_reducible exact HR358_2.out) | (with_reducible refine Kd.C_alloc ?_ _) | (with_reducible refine Kd.C_drewN ?_ _) | (with_reducible refine Kd.C_drew ?_) | exact HR358_2.out)) hb); have n5_ := Aside0.mk (below_step (by repeat (first | (with_reducible first | exact HB.out | apply below_alloc | apply pw_below_drewN | apply below_drew1) | exact HB.out)) hb); have n6_ := Aside0.mk (hbox); have n7_ := Aside0.mk ((by rw [hg]; exact (below_size (by repeat (first | (with_reducible first | exact HB.out | apply below_alloc | apply pw_below_drewN | apply below_drew1) | exact HB.out))) : w.heap.size ≤ gb359)); have n8_ := Aside0.mk ((by rw [hg]; exact (below_size (by repeat (first | (with_reducible first | exact HB.out | apply below_alloc | apply pw_below_drewN | apply below_drew1) | exact HB.out))) : w.heap.size ≤ gb359)); clear HO_3; clear HO_6; clear HO_32; clear HL358_2; clear HR358_2; clear HB; have HO_3 := n0_; have HO_6 := n1_; have HO_32 := n2_; have HL358_2 := n3_; have HR358_2 := n4_; have HB := n5_; have BK359 := n6_; have GW359 := n7_; have GE359 := n8_; clear n0_ n1_ n2_ n3_ n4_ n5_ n6_ n7_ n8_; clear hb hbox hg; have hcz61_0 : w60.cell? ⟨gb359, 0, none⟩ = some (.int .i64 0) := (blk_cell BK359.out 0).trans rfl; have hcz61_1 : w60.cell? ⟨gb359, 1, none⟩ = some (.int .i64 0) := (blk_cell BK359.out 1).trans rfl; have hcz61_2 : w60.cell? ⟨gb359, 2, none⟩ = some (.slice none 0 0) := (blk_cell BK359.out 2).trans rfl; have hfz61_0 := blk_frozen BK359.out 0; have hfz61_1 := blk_frozen BK359.out 1; have hfz61_2 := blk_frozen BK359.out 2; have p360 : 0 ≤ (x7_1 : Int) := of_decide_eq_true (by first | (with_reducible assumption) | assumption); have q360 : x7_1 < (t344.length : Int) := of_decide_eq_true (by first | (with_reducible assumption) | assumption); obtain ⟨ad360, e360, hx360_0, hx360_1, hx360_2, hx360_3⟩ := at_T46 (Kd.R_reads' HO_3.out).2.2 x7_1 p360 q360; cases e360; have hn360_0 : ad360.block ≠ gb359 := Kd.own_blk (Kd.R_ne HO_3.out BK359.out (by decide)); have hn360_1 : ad360.block ≠ gb359 := Kd.own_blk (Kd.R_ne HO_3.out BK359.out (by decide)); have hn360_2 : ad360.block ≠ gb359 := Kd.own_blk (Kd.R_ne HO_3.out BK359.out (by decide)); replace hx360_0 := (cell_far (p := ⟨gb359, 0, none⟩) (by first | (rw [add_block]; exact hn360_0) | (show (Addr.add _ _).block ≠ _; rw [add_block]; exact hn360_0) | exact hn360_0) (.int .i64 ((rd_T35 t355 x34_1).f0))).trans hx360_0; replace hx360_1 := (cell_far (p := ⟨gb359, 0, none⟩) (by first | (rw [add_block]; exact hn360_0) | (show (Addr.add _ _).block ≠ _; rw [add_block]; exact hn360_0) | exact hn360_0) (.int .i64 ((rd_T35 t355 x34_1).f0))).trans hx360_1; replace hx360_2 := (cell_far (p := ⟨gb359, 0, none⟩) (by first | (rw [add_block]; exact hn360_0) | (show (Addr.add _ _).block ≠ _; rw [add_block]; exact hn360_0) | exact hn360_0) (.int .i64 ((rd_T35 t355 x34_1).f0))).trans hx360_2; replace hx360_3 := (cell_far (p := ⟨gb359, 0, none⟩) (by first | (rw [add_block]; exact hn360_0) | (show (Addr.add _ _).block ≠ _; rw [add_block]; exact hn360_0) | exact hn360_0) (.int .i64 ((rd_T35 t355 x34_1).f0))).trans hx360_3; replace hx360_0 := (cell_far (p := ⟨gb359, 1, none⟩) (by first | (rw [add_block]; exact hn360_1) | (show (Addr.add _ _).block ≠ _; rw [add_block]; exact hn360_1) | exact hn360_1) (.int .i64 ((rd_T35 t355 x34_1).f1))).trans hx360_0; replace hx360_1 := (cell_far (p := ⟨gb359, 1, none⟩) (by first | (rw [add_block]; exact hn360_1) | (show (Addr.add _ _).block ≠ _; rw [add_block]; exact hn360_1) | exact hn360_1) (.int .i64 ((rd_T35 t355 x34_1).f1))).trans hx360_1; replace hx360_2 := (cell_far (p := ⟨gb359, 1, none⟩) (by first | (rw [add_block]; exact hn360_1) | (show (Addr.add _ _).block ≠ _; rw [add_block]; exact hn360_1) | exact hn360_1) (.int .i64 ((rd_T35 t355 x34_1).f1))).trans hx360_2; replace hx360_3 := (cell_far (p := ⟨gb359, 1, none⟩) (by first | (rw [add_block]; exact hn360_1) | (show (Addr.add _ _).block ≠ _; rw [add_block]; exact hn360_1) | exact hn360_1) (.int .i64 ((rd_T35 t355 x34_1).f1))).trans hx360_3; replace hx360_0 := (cell_far (p := ⟨gb359, 2, none⟩) (by first | (rw [add_block]; exact hn360_2) | (show (Addr.add _ _).block ≠ _; rw [add_block]; exact hn360_2) | exact hn360_2) (.slice A358_2 ((rd_T35 t355 x34_1).f2).length c358_2)).trans hx360_0; replace hx360_1 := (cell_far (p := ⟨gb359, 2, none⟩) (by first | (rw [add_block]; exact hn360_2) | (show (Addr.add _ _).block ≠ _; rw [add_block]; exact hn360_2) | exact hn360_2) (.slice A358_2 ((rd_T35 t355 x34_1).f2).length c358_2)).trans hx360_1; replace hx360_2 := (cell_far (p := ⟨gb359, 2, none⟩) (by first | (rw [add_block]; exact hn360_2) | (show (Addr.add _ _).block ≠ _; rw [add_block]; exact hn360_2) | exact hn360_2) (.slice A358_2 ((rd_T35 t355 x34_1).f2).length c358_2)).trans hx360_2; replace hx360_3 := (cell_far (p := ⟨gb359, 2, none⟩) (by first | (rw [add_block]; exact hn360_2) | (show (Addr.add _ _).block ≠ _; rw [add_block]; exact hn360_2) | exact hn360_2) (.slice A358_2 ((rd_T35 t355 x34_1).f2).length c358_2)).trans hx360_3; (try have hy360_0 := fun (n_ : Nat) => (show (((((w60.drewN n_).setCell ⟨gb359, 0, none⟩ (.int .i64 ((rd_T35 t355 x34_1).f0))).setCell ⟨gb359, 1, none⟩ (.int .i64 ((rd_T35 t355 x34_1).f1))).setCell ⟨gb359, 2, none⟩ (.slice A358_2 ((rd_T35 t355 x34_1).f2).length c358_2))).cell? _ = some _ from hx360_0)); (try have hy360_1 := fun (n_ : Nat) => (show (((((w60.drewN n_).setCell ⟨gb359, 0, none⟩ (.int .i64 ((rd_T35 t355 x34_1).f0))).setCell ⟨gb359, 1, none⟩ (.int .i64 ((rd_T35 t355 x34_1).f1))).setCell ⟨gb359, 2, none⟩ (.slice A358_2 ((rd_T35 t355 x34_1).f2).length c358_2))).cell? _ = some _ from hx360_1)); (try have hy360_2 := fun (n_ : Nat) => (show (((((w60.drewN n_).setCell ⟨gb359, 0, none⟩ (.int .i64 ((rd_T35 t355 x34_1).f0))).setCell ⟨gb359, 1, none⟩ (.int .i64 ((rd_T35 t355 x34_1).f1))).setCell ⟨gb359, 2, none⟩ (.slice A358_2 ((rd_T35 t355 x34_1).f2).length c358_2))).cell? _ = some _ from hx360_2)); (try have hy360_3 := fun (n_ : Nat) => (show (((((w60.drewN n_).setCell ⟨gb359, 0, none⟩ (.int .i64 ((rd_T35 t355 x34_1).f0))).setCell ⟨gb359, 1, none⟩ (.int .i64 ((rd_T35 t355 x34_1).f1))).setCell ⟨gb359, 2, none⟩ (.slice A358_2 ((rd_T35 t355 x34_1).f2).length c358_2))).cell? _ = some _ from hx360_3)); clear hn360_0; clear hn360_1; clear hn360_2; replace p360 := eq_true p360; replace q360 := eq_true q360)); try go_wp2_with (first | ((with_reducible refine gate_dst (N := 9) rfl ?_); (try (refine gate_guard (by rfl) ?_; dsimp only)); refine box_event ?hg (N := 9) ?hd (cs := #[.int .i64 0, .int .i64 0, .slice none 0 0]) (t := 35) ?hr ?_; (case hd => rfl); (case hg => rfl); (case hr => first | (go_simp; done) | (go_simp; rfl)); intro gb359 hg w60 hbox hb; have n0_ := Aside0.mk (Kd.R_below (by (with_reducible repeat (first | apply Kd.R_alloc | apply Kd.R_drewN | apply Kd.R_drew)); exact HO_3.out) hb); have n1_ := Aside0.mk (Kd.S_below (Kd.S_elderB (by (with_reducible repeat (first | apply Kd.S_alloc | apply Kd.S_drewN | apply Kd.S_drew)); exact HO_6.out) gb359 (Nat.le_of_eq hg.symm)) hb); have n2_ := Aside0.mk (Kd.S_below (Kd.S_elderB (by (with_reducible repeat (first | apply Kd.S_alloc | apply Kd.S_drewN | apply Kd.S_drew)); exact HO_32.out) gb359 (Nat.le_of_eq hg.symm)) hb); have n3_ := Aside0.mk (Kd.R_below (by (with_reducible repeat (first | apply Kd.R_alloc | apply Kd.R_drewN | apply Kd.R_drew)); exact HL358_2.out) hb); have n4_ := Aside0.mk (Kd.C_below (by repeat (first | (with_reducible exact HR358_2.out) | (with_reducible refine Kd.C_alloc ?_ _) | (with_reducible refine Kd.C_drewN ?_ _) | (with_reducible refine Kd.C_drew ?_) | exact HR358_2.out)) hb); have n5_ := Aside0.mk (below_step (by repeat (first | (with_reducible first | exact HB.out | apply below_alloc | apply pw_below_drewN | apply below_drew1) | exact HB.out)) hb); have n6_ := Aside0.mk (hbox); have n7_ := Aside0.mk ((by rw [hg]; exact (below_size (by repeat (first | (with_reducible first | exact HB.out | apply below_alloc | apply pw_below_drewN | apply below_drew1) | exact HB.out))) : w.heap.size ≤ gb359)); have n8_ := Aside0.mk ((by rw [hg]; exact (below_size (by repeat (first | (with_reducible first | exact HB.out | apply below_alloc | apply pw_below_drewN | apply below_drew1) | exact HB.out))) : w.heap.size ≤ gb359)); clear HO_3; clear HO_6; clear HO_32; clear HL358_2; clear HR358_2; clear HB; have HO_3 := n0_; have HO_6 := n1_; have HO_32 := n2_; have HL358_2 := n3_; have HR358_2 := n4_; have HB := n5_; have BK359 := n6_; have GW359 := n7_; have GE359 := n8_; clear n0_ n1_ n2_ n3_ n4_ n5_ n6_ n7_ n8_; clear hb hbox hg; have hcz61_0 : w60.cell? ⟨gb359, 0, none⟩ = some (.int .i64 0) := (blk_cell BK359.out 0).trans rfl; have hcz61_1 : w60.cell? ⟨gb359, 1, none⟩ = some (.int .i64 0) := (blk_cell BK359.out 1).trans rfl; have hcz61_2 : w60.cell? ⟨gb359, 2, none⟩ = some (.slice none 0 0) := (blk_cell BK359.out 2).trans rfl; have hfz61_0 := blk_frozen BK359.out 0; have hfz61_1 := blk_frozen BK359.out 1; have hfz61_2 := blk_frozen BK359.out 2; have p360 : 0 ≤ (x7_1 : Int) := of_decide_eq_true (by first | (with_reducible assumption) | assumption); have q360 : x7_1 < (t344.length : Int) := of_decide_eq_true (by first | (with_reducible assumption) | assumption); obtain ⟨ad360, e360, hx360_0, hx360_1, hx360_2, hx360_3⟩ := at_T46 (Kd.R_reads' HO_3.out).2.2 x7_1 p360 q360; cases e360; have hn360_0 : ad360.block ≠ gb359 := Kd.own_blk (Kd.R_ne HO_3.out BK359.out (by decide)); have hn360_1 : ad360.block ≠ gb359 := Kd.own_blk (Kd.R_ne HO_3.out BK359.out (by decide)); have hn360_2 : ad360.block ≠ gb359 := Kd.own_blk (Kd.R_ne HO_3.out BK359.out (by decide)); replace hx360_0 := (cell_far (p := ⟨gb359, 0, none⟩) (by first | (rw [add_block]; exact hn360_0) | (show (Addr.add _ _).block ≠ _; rw [add_block]; exact hn360_0) | exact hn360_0) (.int .i64 ((rd_T35 t355 x34_1).f0))).trans hx360_0; replace hx360_1 := (cell_far (p := ⟨gb359, 0, none⟩) (by first | (rw [add_block]; exact hn360_0) | (show (Addr.add _ _).block ≠ _; rw [add_block]; exact hn360_0) | exact hn360_0) (.int .i64 ((rd_T35 t355 x34_1).f0))).trans hx360_1; replace hx360_2 := (cell_far (p := ⟨gb359, 0, none⟩) (by first | (rw [add_block]; exact hn360_0) | (show (Addr.add _ _).block ≠ _; rw [add_block]; exact hn360_0) | exact hn360_0) (.int .i64 ((rd_T35 t355 x34_1).f0))).trans hx360_2; replace hx360_3 := (cell_far (p := ⟨gb359, 0, none⟩) (by first | (rw [add_block]; exact hn360_0) | (show (Addr.add _ _).block ≠ _; rw [add_block]; exact hn360_0) | exact hn360_0) (.int .i64 ((rd_T35 t355 x34_1).f0))).trans hx360_3; replace hx360_0 := (cell_far (p := ⟨gb359, 1, none⟩) (by first | (rw [add_block]; exact hn360_1) | (show (Addr.add _ _).block ≠ _; rw [add_block]; exact hn360_1) | exact hn360_1) (.int .i64 ((rd_T35 t355 x34_1).f1))).trans hx360_0; replace hx360_1 := (cell_far (p := ⟨gb359, 1, none⟩) (by first | (rw [add_block]; exact hn360_1) | (show (Addr.add _ _).block ≠ _; rw [add_block]; exact hn360_1) | exact hn360_1) (.int .i64 ((rd_T35 t355 x34_1).f1))).trans hx360_1; replace hx360_2 := (cell_far (p := ⟨gb359, 1, none⟩) (by first | (rw [add_block]; exact hn360_1) | (show (Addr.add _ _).block ≠ _; rw [add_block]; exact hn360_1) | exact hn360_1) (.int .i64 ((rd_T35 t355 x34_1).f1))).trans hx360_2; replace hx360_3 := (cell_far (p := ⟨gb359, 1, none⟩) (by first | (rw [add_block]; exact hn360_1) | (show (Addr.add _ _).block ≠ _; rw [add_block]; exact hn360_1) | exact hn360_1) (.int .i64 ((rd_T35 t355 x34_1).f1))).trans hx360_3; replace hx360_0 := (cell_far (p := ⟨gb359, 2, none⟩) (by first | (rw [add_block]; exact hn360_2) | (show (Addr.add _ _).block ≠ _; rw [add_block]; exact hn360_2) | exact hn360_2) (.slice A358_2 ((rd_T35 t355 x34_1).f2).length c358_2)).trans hx360_0; replace hx360_1 := (cell_far (p := ⟨gb359, 2, none⟩) (by first | (rw [add_block]; exact hn360_2) | (show (Addr.add _ _).block ≠ _; rw [add_block]; exact hn360_2) | exact hn360_2) (.slice A358_2 ((rd_T35 t355 x34_1).f2).length c358_2)).trans hx360_1; replace hx360_2 := (cell_far (p := ⟨gb359, 2, none⟩) (by first | (rw [add_block]; exact hn360_2) | (show (Addr.add _ _).block ≠ _; rw [add_block]; exact hn360_2) | exact hn360_2) (.slice A358_2 ((rd_T35 t355 x34_1).f2).length c358_2)).trans hx360_2; replace hx360_3 := (cell_far (p := ⟨gb359, 2, none⟩) (by first | (rw [add_block]; exact hn360_2) | (show (Addr.add _ _).block ≠ _; rw [add_block]; exact hn360_2) | exact hn360_2) (.slice A358_2 ((rd_T35 t355 x34_1).f2).length c358_2)).trans hx360_3; (try have hy360_0 := fun (n_ : Nat) => (show (((((w60.drewN n_).setCell ⟨gb359, 0, none⟩ (.int .i64 ((rd_T35 t355 x34_1).f0))).setCell ⟨gb359, 1, none⟩ (.int .i64 ((rd_T35 t355 x34_1).f1))).setCell ⟨gb359, 2, none⟩ (.slice A358_2 ((rd_T35 t355 x34_1).f2).length c358_2))).cell? _ = some _ from hx360_0)); (try have hy360_1 := fun (n_ : Nat) => (show (((((w60.drewN n_).setCell ⟨gb359, 0, none⟩ (.int .i64 ((rd_T35 t355 x34_1).f0))).setCell ⟨gb359, 1, none⟩ (.int .i64 ((rd_T35 t355 x34_1).f1))).setCell ⟨gb359, 2, none⟩ (.slice A358_2 ((rd_T35 t355 x34_1).f2).length c358_2))).cell? _ = some _ from hx360_1)); (try have hy360_2 := fun (n_ : Nat) => (show (((((w60.drewN n_).setCell ⟨gb359, 0, none⟩ (.int .i64 ((rd_T35 t355 x34_1).f0))).setCell ⟨gb359, 1, none⟩ (.int .i64 ((rd_T35 t355 x34_1).f1))).setCell ⟨gb359, 2, none⟩ (.slice A358_2 ((rd_T35 t355 x34_1).f2).length c358_2))).cell? _ = some _ from hx360_2)); (try have hy360_3 := fun (n_ : Nat) => (show (((((w60.drewN n_).setCell ⟨gb359, 0, none⟩ (.int .i64 ((rd_T35 t355 x34_1).f0))).setCell ⟨gb359, 1, none⟩ (.int .i64 ((rd_T35 t355 x34_1).f1))).setCell ⟨gb359, 2, none⟩ (.slice A358_2 ((rd_T35 t355 x34_1).f2).length c358_2))).cell? _ = some _ from hx360_3)); clear hn360_0; clear hn360_1; clear hn360_2; replace p360 := eq_true p360; replace q360 := eq_true q360)))
                        go_ret
                        exact ⟨by first | rfl | (simp [errW_none, errW_some] <;> rfl) | (simp [*, errW_none, errW_some] <;> rfl), by repeat (first | (with_reducible first | exact HB.out | apply below_alloc | apply pw_below_drewN | apply below_drew1 | refine below_set ?_ GE359.out) | exact HB.out)⟩
                    · rw [if_neg c25] at H
                      exact absurd H (by simp)
                  · rw [if_neg c24] at H
                    exact absurd H (by simp)
              · rw [if_neg c20] at H
                exact absurd H (by simp)
            · rw [if_neg c19] at H
              exact absurd H (by simp)
          · rw [if_neg c18] at H
            have c18b0 : decide (x34_1 < (t355.length : Int)) = false := decide_eq_false c18
            clear c18
            obtain rfl := Option.some.inj H
            go_wp2
            repeat (go_quiet (fail); try go_wp2)
            go_ret
            exact ⟨by first | rfl | (simp [errW_none, errW_some] <;> rfl) | (simp [*, errW_none, errW_some] <;> rfl), by repeat (first | (with_reducible first | exact HB.out | apply below_alloc | apply pw_below_drewN | apply below_drew1) | exact HB.out)⟩
  · rw [if_neg c3] at H
    have c3b0 : (t346 == 0) = false := beq_eq_false_iff_ne.mpr c3
    have c3b1 : (t346 != 0) = true := bne_iff_ne.mpr c3
    replace H := Option.bind_eq_some_iff.mp H
    obtain ⟨t370, A620, H⟩ := H
    replace H : (some ((t370.length : Int) == 0)) = some r := H
    have A62 := Aside0.mk A620
    clear A620
    obtain rfl := Option.some.inj H
    go_enter Try.func9, Try.ntmps9
    go_wp2_with (first | (go_at_call 13; (with_reducible refine (provisoref05_Scan.calls k _ _ l0 t344 t345 t346 _ ?side1 ?side2 A2.out).mono ?_); (case side1 => repeat (first | exact HR0.out | (with_reducible refine Kd.C_alloc ?_ _) | (with_reducible refine Kd.C_drewN ?_ _) | (with_reducible refine Kd.C_drew ?_))); (case side2 => exact HC0.out); rintro e w63 ⟨v347, rfl, ho0, hb⟩; have n0_ := Aside0.mk (Kd.R_lower ho0 (below_size (by repeat (first | (with_reducible first | exact HB.out | apply below_alloc | apply pw_below_drewN | apply below_drew1) | exact HB.out)))); have n1_ := Aside0.mk (below_step (by repeat (first | (with_reducible first | exact HB.out | apply below_alloc | apply pw_below_drewN | apply below_drew1) | exact HB.out)) hb); clear HB; have HO348 := n0_; have HB := n1_; clear n0_ n1_; (try clear hb); (try clear hb2); (try clear hk); (try clear hi); (try clear ho0)) | (go_at_call 39; (refine (flow_Blocks.calls k _ _ ([] : List (S46)) t370 _ ?side1 ?side2 A62.out).mono ?_); (case side1 => exact Kd.C_nil _ _); (case side2 => exact Nat.le_refl _); rintro e w64 ⟨v371, rfl, ho0, hb⟩; have n0_ := Aside0.mk (Kd.R_below (by (with_reducible repeat (first | apply Kd.R_alloc | apply Kd.R_drewN | apply Kd.R_drew)); exact HO348.out) hb); have n1_ := Aside0.mk (Kd.S_lower ho0 (below_size (by repeat (first | (with_reducible first | exact HB.out | apply below_alloc | apply pw_below_drewN | apply below_drew1) | exact HB.out)))); have n2_ := Aside0.mk (below_step (by repeat (first | (with_reducible first | exact HB.out | apply below_alloc | apply pw_below_drewN | apply below_drew1) | exact HB.out)) hb); clear HO348; clear HB; have HO348 := n0_; have HO372 := n1_; have HB := n2_; clear n0_ n1_ n2_; (try clear hb); (try clear hb2); (try clear hk); (try clear hi); (try clear ho0); obtain ⟨Ao65, co65, eo65⟩ := Kd.S_slice HO372.out; subst eo65))
    repeat (go_quiet (first | (go_at_call 13; (with_reducible refine (provisoref05_Scan.calls k _ _ l0 t344 t345 t346 _ ?side1 ?side2 A2.out).mono ?_); (case side1 => repeat (first | exact HR0.out | (with_reducible refine Kd.C_alloc ?_ _) | (with_reducible refine Kd.C_drewN ?_ _) | (with_reducible refine Kd.C_drew ?_))); (case side2 => exact HC0.out); rintro e w63 ⟨v347, rfl, ho0, hb⟩; have n0_ := Aside0.mk (Kd.R_lower ho0 (below_size (by repeat (first | (with_reducible first | exact HB.out | apply below_alloc | apply pw_below_drewN | apply below_drew1) | exact HB.out)))); have n1_ := Aside0.mk (below_step (by repeat (first | (with_reducible first | exact HB.out | apply below_alloc | apply pw_below_drewN | apply below_drew1) | exact HB.out)) hb); clear HB; have HO348 := n0_; have HB := n1_; clear n0_ n1_; (try clear hb); (try clear hb2); (try clear hk); (try clear hi); (try clear ho0)) | (go_at_call 39; (refine (flow_Blocks.calls k _ _ ([] : List (S46)) t370 _ ?side1 ?side2 A62.out).mono ?_); (case side1 => exact Kd.C_nil _ _); (case side2 => exact Nat.le_refl _); rintro e w64 ⟨v371, rfl, ho0, hb⟩; have n0_ := Aside0.mk (Kd.R_below (by (with_reducible repeat (first | apply Kd.R_alloc | apply Kd.R_drewN | apply Kd.R_drew)); exact HO348.out) hb); have n1_ := Aside0.mk (Kd.S_lower ho0 (below_size (by repeat (first | (with_reducible first | exact HB.out | apply below_alloc | apply pw_below_drewN | apply below_drew1) | exact HB.out)))); have n2_ := Aside0.mk (below_step (by repeat (first | (with_reducible first | exact HB.out | apply below_alloc | apply pw_below_drewN | apply below_drew1) | exact HB.out)) hb); clear HO348; clear HB; have HO348 := n0_; have HO372 := n1_; have HB := n2_; clear n0_ n1_ n2_; (try clear hb); (try clear hb2); (try clear hk); (try clear hi); (try clear ho0); obtain ⟨Ao65, co65, eo65⟩ := Kd.S_slice HO372.out; subst eo65)); try go_wp2_with (first | (go_at_call 13; (with_reducible refine (provisoref05_Scan.calls k _ _ l0 t344 t345 t346 _ ?side1 ?side2 A2.out).mono ?_); (case side1 => repeat (first | exact HR0.out | (with_reducible refine Kd.C_alloc ?_ _) | (with_reducible refine Kd.C_drewN ?_ _) | (with_reducible refine Kd.C_drew ?_))); (case side2 => exact HC0.out); rintro e w63 ⟨v347, rfl, ho0, hb⟩; have n0_ := Aside0.mk (Kd.R_lower ho0 (below_size (by repeat (first | (with_reducible first | exact HB.out | apply below_alloc | apply pw_below_drewN | apply below_drew1) | exact HB.out)))); have n1_ := Aside0.mk (below_step (by repeat (first | (with_reducible first | exact HB.out | apply below_alloc | apply pw_below_drewN | apply below_drew1) | exact HB.out)) hb); clear HB; have HO348 := n0_; have HB := n1_; clear n0_ n1_; (try clear hb); (try clear hb2); (try clear hk); (try clear hi); (try clear ho0)) | (go_at_call 39; (refine (flow_Blocks.calls k _ _ ([] : List (S46)) t370 _ ?side1 ?side2 A62.out).mono ?_); (case side1 => exact Kd.C_nil _ _); (case side2 => exact Nat.le_refl _); rintro e w64 ⟨v371, rfl, ho0, hb⟩; have n0_ := Aside0.mk (Kd.R_below (by (with_reducible repeat (first | apply Kd.R_alloc | apply Kd.R_drewN | apply Kd.R_drew)); exact HO348.out) hb); have n1_ := Aside0.mk (Kd.S_lower ho0 (below_size (by repeat (first | (with_reducible first | exact HB.out | apply below_alloc | apply pw_below_drewN | apply below_drew1) | exact HB.out)))); have n2_ := Aside0.mk (below_step (by repeat (first | (with_reducible first | exact HB.out | apply below_alloc | apply pw_below_drewN | apply below_drew1) | exact HB.out)) hb); clear HO348; clear HB; have HO348 := n0_; have HO372 := n1_; have HB := n2_; clear n0_ n1_ n2_; (try clear hb); (try clear hb2); (try clear hk); (try clear hi); (try clear ho0); obtain ⟨Ao65, co65, eo65⟩ := Kd.S_slice HO372.out; subst eo65)))
    go_ret
    exact ⟨by first | rfl | (simp [errW_none, errW_some] <;> rfl) | (simp [*, errW_none, errW_some] <;> rfl), by repeat (first | (with_reducible first | exact HB.out | apply below_alloc | apply pw_below_drewN | apply below_drew1) | exact HB.out)⟩

end Go.Proofs.Ytcffniaieegbgaa.P

end

section
namespace Go.Proofs.Ytcffniaieegbgaa.P
open Go.RowKit Go.Proofs.YtcffniaieegbgaaW.PrintWords
def provisolaw05_FlowParts.PureR : Prop := ∀ (l0 : List (Int)), (fun l : List (Int) => l.length ≤ 9223372036854775807 ∧ l.length * 1 ≤ 140737488351232 ∧ ∀ x ∈ l, (fun n : Int => (Lit.int .u8 n).wf = true) x) l0 → ∃ k, provisolaw05_FlowParts.f k l0 = some true
end Go.Proofs.Ytcffniaieegbgaa.P

end

section
namespace Go.Proofs.Ytcffniaieegbgaa.Pure
open Go.RowKit Go.Proofs.Ytcffniaieegbgaa.P Go.Proofs.YtcffniaieegbgaaW.PrintWords
set_option linter.unusedSimpArgs false
set_option linter.unusedVariables false
theorem wrap_one {i n : Nat} (h : i < n) (hn : n ≤ 9223372036854775807) : wrap64 ((i : Int) + 1) = ((i + 1 : Nat) : Int) := by unfold wrap64; omega
theorem wide_is (k : Nat) (op : Int) : provisoref04_wide.f (k + 2) op = code_widths.f 3 op := by
  by_cases h1 : op = 1
  · subst h1; rfl
  by_cases h2 : op = 19
  · subst h2; rfl
  by_cases h3 : op = 20
  · subst h3; rfl
  by_cases h4 : op = 24
  · subst h4; rfl
  by_cases h5 : op = 25
  · subst h5; rfl
  by_cases h6 : op = 2
  · subst h6; rfl
  by_cases h7 : op = 4
  · subst h7; rfl
  by_cases h8 : op = 5
  · subst h8; rfl
  have e20 : (op == 20) = false := by rw [beq_eq_false_iff_ne]; exact h3
  have e25 : (op == 25) = false := by rw [beq_eq_false_iff_ne]; exact h5
  have e5 : (op == 5) = false := by rw [beq_eq_false_iff_ne]; exact h8
  simp only [provisoref04_wide.f, provisoref04_wide.j0, provisoref04_wide.j1, code_widths.f, code_widths.j0, code_widths.j1, code_widths.j2, if_neg h1, if_neg h2, if_neg h4, if_neg h6, if_neg h7, if_neg h8, e20, e25, e5, Bool.false_eq_true, if_false]
theorem rsize_is (k : Nat) (op : Int) : provisoref04_Size.f (k + 2) op = some (szOf op) := by
  have h := size_is 0 op
  rw [← h]
  unfold provisoref04_Size.f code_Size.f
  rw [wide_is k op]
theorem rsize_ev (op : Int) : Ev (fun k => provisoref04_Size.f k op) (szOf op) := ⟨2, fun k hk => by
  obtain ⟨m, rfl⟩ : ∃ m, k = m + 2 := ⟨k - 2, by omega⟩
  exact rsize_is m op⟩
theorem ins_len (n : Int) : ∀ l : List Int, (ins n l).length ≤ l.length + 1
  | [] => by simp [ins]
  | x :: r => by
    unfold ins
    split
    · simp
    · split
      · simp
      · have := ins_len n r
        simp
        omega
theorem nextL_len (x : S46) : (nextL x).length ≤ 2 := by
  unfold nextL
  split
  · simp
  · split
    · unfold nextKeys srt
      have h1 := ins_len (x.f0 + szOf x.f1) []
      have h2 := ins_len x.f2 []
      have h3 := ins_len x.f2 (ins (x.f0 + szOf x.f1) [])
      split <;> split <;> simp at * <;> omega
    · simp
end Go.Proofs.Ytcffniaieegbgaa.Pure

end

section
namespace Go.Proofs.Ytcffniaieegbgaa.Pure
open Go.RowKit Go.Proofs.Ytcffniaieegbgaa.P Go.Proofs.YtcffniaieegbgaaW.PrintWords
set_option linter.unusedSimpArgs false
set_option linter.unusedVariables false
theorem nodup_len : ∀ (a m : List Int), a.Nodup → (∀ x ∈ a, x ∈ m) → a.length ≤ m.length
  | [], m, _, _ => by simp
  | x :: r, m, hn, hs => by
    have h1 := List.nodup_cons.1 hn
    have hx := hs x List.mem_cons_self
    have h2 : r.length ≤ (m.erase x).length := nodup_len r (m.erase x) h1.2 (fun y hy => by
      have hne : y ≠ x := fun e => h1.1 (e ▸ hy)
      exact (List.mem_erase_of_ne hne).2 (hs y (List.mem_cons_of_mem _ hy)))
    rw [List.length_erase_of_mem hx] at h2
    have : 0 < m.length := List.length_pos_of_mem hx
    simp
    omega
theorem firstAt_mem : ∀ (l : List S46) (j : Nat) (x v : Int), firstAt l j x = some v → x ∈ l.map (·.f0)
  | [], j, x, v, h => by cases h
  | y :: r, j, x, v, h => by
    unfold firstAt at h
    split at h
    · rename_i e; rw [← e]; simp
    · exact List.mem_map.2 (by
        obtain ⟨z, hz, e⟩ := List.mem_map.1 (firstAt_mem r (j + 1) x v h)
        exact ⟨z, List.mem_cons_of_mem _ hz, e⟩)
theorem firstAt_at : ∀ (l : List S46) (j i : Nat) (x : Int), firstAt l j x = some ((j + i : Nat) : Int) → i < l.length → (l.getD i z46).f0 = x
  | [], j, i, x, h, _ => by cases h
  | y :: r, j, i, x, h, hi => by
    unfold firstAt at h
    split at h
    · rename_i e
      have h9 := Option.some.inj h
      have : i = 0 := by omega
      subst this
      exact e
    · cases i with
      | zero =>
        obtain ⟨i', h1, h2⟩ := firstAt_lt r (j + 1) x _ h
        omega
      | succ i =>
        have h9 := firstAt_at r (j + 1) i x (by rw [h]; congr 2; omega) (by simpa using hi)
        simpa using h9
theorem firstAt_idx {l : List S46} {x v : Int} (h : firstAt l 0 x = some v) : ∃ i : Nat, v = (i : Int) ∧ i < l.length ∧ (rd_T46 l v).f0 = x := by
  obtain ⟨i, h1, h2⟩ := firstAt_lt l 0 x v h
  rw [Nat.zero_add] at h1
  subst h1
  refine ⟨i, rfl, h2, ?_⟩
  unfold rd_T46
  rw [Int.toNat_natCast]
  exact firstAt_at l 0 i x (by rw [Nat.zero_add]; exact h) h2
def nxA (l : List S46) (a : Int) : List Int := match firstAt l 0 a with | some i => nextL (rd_T46 l i) | none => []
inductive Rch (l : List S46) (a0 : Int) : Int → Prop
  | base : (firstAt l 0 a0).isSome = true → Rch l a0 a0
  | step {a b : Int} : Rch l a0 a → b ∈ nxA l a → (firstAt l 0 b).isSome = true → Rch l a0 b
theorem Rch.there {l : List S46} {a0 a : Int} (h : Rch l a0 a) : (firstAt l 0 a).isSome = true := by cases h <;> assumption
theorem Rch.le {l : List S46} {a0 : Int} {s : List Int} (hn : s.Nodup) (h : ∀ x ∈ s, Rch l a0 x) : s.length ≤ l.length := by
  have := nodup_len s (l.map (·.f0)) hn (fun x hx => by
    have h1 := (h x hx).there
    cases h2 : firstAt l 0 x with
    | none => rw [h2] at h1; cases h1
    | some v => exact firstAt_mem l 0 x v h2)
  simpa using this
end Go.Proofs.Ytcffniaieegbgaa.Pure

end

section
namespace Go.Proofs.Ytcffniaieegbgaa.Pure
open Go.RowKit Go.Proofs.Ytcffniaieegbgaa.P Go.Proofs.YtcffniaieegbgaaW.PrintWords
set_option linter.unusedSimpArgs false
set_option linter.unusedVariables false
theorem rd_mem {l : List Int} {i : Nat} (h : i < l.length) : rd l (i : Int) ∈ l := by
  have hr : rd l (i : Int) = l[i] := by simp [rd, List.getD_eq_getElem?_getD, h]
  rw [hr]; exact List.getElem_mem h
theorem take_go (l : List Int) (hb : ∀ x ∈ l, 0 ≤ x ∧ x ≤ 255) (wd : Nat) (h4 : wd ≤ 4) (hl : wd ≤ l.length) (hm : l.length ≤ 9223372036854775807) : ∀ (d i : Nat), wd - i = d → i ≤ wd → Ev (fun k => provisoref04_take.l0 k l (wd : Int) (numOf (l.take i)) (i : Int)) (opnd (l.take wd))
  | 0, i, hd, hi => by
    obtain rfl : i = wd := by omega
    have hlt : (l.take i).length = i := by rw [List.length_take]; omega
    have hs := num_small (l.take i) (fun x hx => hb x (List.mem_of_mem_take hx)) (by omega)
    refine Ev.step (f := fun _ => some (opnd (l.take i))) (fun k => ?_) (Ev.now _)
    simp only [provisoref04_take.l0]
    rw [if_neg (by omega)]
    unfold opnd
    rw [hlt]
    by_cases e : i = 4
    · rw [if_pos (by omega), if_pos e]
      split
      · congr 1
        unfold wrap64; omega
      · rfl
    · rw [if_neg (by omega), if_neg e]
  | d + 1, i, hd, hi => by
    have h1 : i < l.length := by omega
    have ih := take_go l hb wd h4 hl hm d (i + 1) (by omega) (by omega)
    have hs := num_small (l.take i) (fun x hx => hb x (List.mem_of_mem_take hx)) (by rw [List.length_take]; omega)
    have hx := hb _ (rd_mem h1)
    rw [num_take l i h1] at ih
    have hs2 : numOf (l.take i) < 16777216 := by
      have h9 := num_bound (l.take i) (fun x hx => hb x (List.mem_of_mem_take hx)) 0 (Int.le_refl _)
      rw [List.length_take, Nat.min_eq_left (by omega)] at h9
      have hp : (256 : Int) ^ i ≤ 16777216 := by
        have : i = 0 ∨ i = 1 ∨ i = 2 ∨ i = 3 := by omega
        rcases this with rfl | rfl | rfl | rfl <;> decide
      unfold numOf
      omega
    refine Ev.step (fun k => ?_) ih
    simp only [provisoref04_take.l0]
    rw [if_pos (by omega), if_pos (by omega), if_pos (by omega), wrap_one h1 hm]
    have e1 : wrap64 ((wrap64 (256 * numOf (l.take i))) + (wrap64 (rd l (i : Int)))) = numOf (l.take i) * 256 + rd l (i : Int) := by unfold wrap64; omega
    rw [e1]
theorem take_ev (l : List Int) (hb : ∀ x ∈ l, 0 ≤ x ∧ x ≤ 255) (wd : Nat) (h4 : wd ≤ 4) (hl : wd ≤ l.length) (hm : l.length ≤ 9223372036854775807) : Ev (fun k => provisoref04_take.f k l (wd : Int)) (opnd (l.take wd)) := by
  have h := take_go l hb wd h4 hl hm wd 0 (by omega) (by omega)
  exact h
theorem opnd_range (seg : List Int) (hb : ∀ x ∈ seg, 0 ≤ x ∧ x ≤ 255) (h4 : seg.length ≤ 4) : -2147483648 ≤ opnd seg ∧ opnd seg ≤ 4294967295 := by
  have := num_small seg hb h4
  unfold opnd
  split
  · split <;> omega
  · omega
theorem decW_nat (op : Int) : ∃ wa wb : Nat, (decW op).1 = (wa : Int) ∧ (decW op).2 = (wb : Int) ∧ wa ≤ 4 ∧ wb ≤ 1 := by
  have h := decW_range op
  generalize (decW op).1 = a at h ⊢
  generalize (decW op).2 = b at h ⊢
  exact ⟨a.toNat, b.toNat, by omega, by omega, by omega, by omega⟩
theorem dec_len (op : Int) (n i : Nat) (h0 : ¬ szOf op = 0) (h1 : ¬ (n : Int) - (i : Int) < szOf op) : ∃ wa wb : Nat, (decW op).1 = (wa : Int) ∧ (decW op).2 = (wb : Int) ∧ wa ≤ 4 ∧ wb ≤ 1 ∧ wa + wb + i + 1 ≤ n := by
  obtain ⟨wa, wb, hwa, hwb, hwa4, hwb1⟩ := decW_nat op
  have hsz : szOf op = if op ≥ 34 then 0 else 1 + (wa : Int) + (wb : Int) := by rw [szOf_is, hwa, hwb]
  refine ⟨wa, wb, hwa, hwb, hwa4, hwb1, ?_⟩
  clear hwa hwb
  generalize szOf op = s at h0 h1 hsz
  split at hsz
  · exact absurd hsz h0
  · omega
theorem decode_ev (l : List Int) (hb : ∀ x ∈ l, 0 ≤ x ∧ x ≤ 255) (hm : l.length ≤ 4096) (i : Nat) (hi : i < l.length) : Ev (fun k => provisoref04_Decode.f k l (i : Int)) (decL l i) := by
  unfold decL
  obtain ⟨op, hop⟩ : ∃ op, op = rd l (i : Int) := ⟨_, rfl⟩
  rw [← hop]
  have hbeg : ∀ k, provisoref04_Decode.f k l (i : Int) = provisoref04_Decode.j0 k l (i : Int) false 0 0 0 0 := fun k => by
    unfold provisoref04_Decode.f
    rw [if_neg (by omega), decide_eq_false (by omega)]
  refine Ev.congr hbeg ?_
  have hstep : ∀ k, provisoref04_Decode.j0 (k + 1) l (i : Int) false 0 0 0 0 = (provisoref04_Size.f k op).bind fun t107 => (if t107 = 0 then (some (0, 0, 0, 0, 40)) else (if ((l.length : Int) - (i : Int)) < t107 then (some (0, 0, 0, 0, 2)) else ((provisoref04_wide.f k op).bind fun bt108 => (if 0 ≤ ((i : Int) + 1) then (if ((i : Int) + 1) ≤ (l.length : Int) then ((provisoref04_take.f k (l.drop (i + 1)) bt108.1).bind fun t111 => (if 0 ≤ (wrap64 ((i : Int) + 1 + bt108.1)) then (if (wrap64 ((i : Int) + 1 + bt108.1)) ≤ (l.length : Int) then ((provisoref04_take.f k (l.drop ((wrap64 ((i : Int) + 1 + bt108.1)) : Int).toNat) bt108.2).bind fun t113 => (if op = 2 then (if t111 > 1 then (some (0, 0, 0, 0, 5)) else (some ((i : Int), op, t111, t113, 0))) else (some ((i : Int), op, t111, t113, 0)))) else (none)) else (none))) else (none)) else (none))))) := fun k => by
    simp only [provisoref04_Decode.j0]
    have e1 : wrap64 ((l.length : Int) - (i : Int)) = (l.length : Int) - (i : Int) := by unfold wrap64; omega
    have e2 : wrap64 ((i : Int) + 1) = (i : Int) + 1 := by unfold wrap64; omega
    rw [if_neg (by decide), if_neg (by omega), if_pos (by omega), if_pos (by omega), ← hop, e1, e2, show ((i : Int) + 1).toNat = i + 1 by omega]
  refine Ev.step hstep (Ev.bind (rsize_ev op) ?_)
  by_cases h0 : szOf op = 0
  · simp only [if_pos h0]
    exact Ev.now _
  simp only [if_neg h0]
  by_cases h1 : (l.length : Int) - (i : Int) < szOf op
  · simp only [if_pos h1]
    exact Ev.now _
  simp only [if_neg h1]
  obtain ⟨wa, wb, hwa, hwb, hwa4, hwb1, hlen⟩ := dec_len op l.length i h0 h1
  clear h1
  have hwide : Ev (fun k => provisoref04_wide.f k op) ((wa : Int), (wb : Int)) := ⟨2, fun k hk => by
    obtain ⟨m, rfl⟩ : ∃ m, k = m + 2 := ⟨k - 2, by omega⟩
    show provisoref04_wide.f (m + 2) op = _
    rw [wide_is, decW_is, hwa, hwb]⟩
  rw [hwa, hwb, Int.toNat_natCast, Int.toNat_natCast]
  refine Ev.bind hwide ?_
  have hbd : ∀ x ∈ l.drop (i + 1), 0 ≤ x ∧ x ≤ 255 := fun x hx => hb x (List.mem_of_mem_drop hx)
  have hta := take_ev (l.drop (i + 1)) hbd wa (by omega) (by rw [List.length_drop]; omega) (by rw [List.length_drop]; omega)
  have htb := take_ev ((l.drop (i + 1)).drop wa) (fun x hx => hbd x (List.mem_of_mem_drop hx)) wb (by omega) (by rw [List.length_drop, List.length_drop]; omega) (by rw [List.length_drop, List.length_drop]; omega)
  have e3 : wrap64 ((i : Int) + 1 + (wa : Int)) = ((i + 1 + wa : Nat) : Int) := by unfold wrap64; omega
  simp only [e3]
  refine Ev.congr (f := fun k => (provisoref04_take.f k (l.drop (i + 1)) (wa : Int)).bind fun t111 => ((provisoref04_take.f k ((l.drop (i + 1)).drop wa) (wb : Int)).bind fun t113 => (if op = 2 then (if t111 > 1 then (some (0, 0, 0, 0, 5)) else (some ((i : Int), op, t111, t113, 0))) else (some ((i : Int), op, t111, t113, 0))))) (fun k => ?_) (Ev.bind hta (Ev.bind htb ?_))
  · have c1 : (0 : Int) ≤ ((i + 1 + wa : Nat) : Int) := by omega
    have c2 : ((i + 1 + wa : Nat) : Int) ≤ (l.length : Int) := by omega
    rw [if_pos (by omega), if_pos (by omega)]
    simp only [if_pos c1, if_pos c2, Int.toNat_natCast, List.drop_drop]
  · by_cases h2 : op = 2
    · by_cases h3 : opnd ((l.drop (i + 1)).take wa) > 1
      · simp only [if_pos h2, if_pos h3, if_pos (And.intro h2 h3)]
        exact Ev.now _
      · simp only [if_pos h2, if_neg h3, if_neg (show ¬ (op = 2 ∧ opnd ((l.drop (i + 1)).take wa) > 1) from fun h => h3 h.2)]
        exact Ev.now _
    · simp only [if_neg h2, if_neg (show ¬ (op = 2 ∧ opnd ((l.drop (i + 1)).take wa) > 1) from fun h => h2 h.1)]
      exact Ev.now _
theorem pdecode_is (l : List Int) (hb : bytesOk l = true) (i : Nat) (hi : i < l.length) : code_Decode.f l (i : Int) = some (decL l i) := by
  unfold code_Decode.f
  rw [if_pos ⟨by omega, by omega, hb⟩, Int.toNat_natCast]
inductive Seq (l : List Int) : List S46 → Nat → Prop
  | nil : Seq l [] 0
  | snoc {acc : List S46} {i : Nat} {op a b : Int} : Seq l acc i → i < l.length → decL l i = ((i : Int), op, a, b, 0) → 1 ≤ szOf op → (i : Int) + szOf op ≤ (l.length : Int) → I64 a → Seq l (acc ++ [⟨(i : Int), op, a, b⟩]) (i + (szOf op).toNat)
theorem decL_ok {l : List Int} (hb : ∀ x ∈ l, 0 ≤ x ∧ x ≤ 255) {i : Nat} (hi : i < l.length) (h : (decL l i).2.2.2.2 = 0) : ∃ op a b, decL l i = ((i : Int), op, a, b, 0) ∧ 1 ≤ szOf op ∧ (i : Int) + szOf op ≤ (l.length : Int) ∧ I64 a := by
  have hbd : ∀ x ∈ l.drop (i + 1), 0 ≤ x ∧ x ≤ 255 := fun x hx => hb x (List.mem_of_mem_drop hx)
  obtain ⟨wa, wb, hwa, hwb, hwa4, hwb1⟩ := decW_nat (rd l (i : Int))
  have hge : 0 ≤ szOf (rd l (i : Int)) := (szOf_range _).1
  unfold decL at h ⊢
  by_cases h0 : szOf (rd l (i : Int)) = 0
  · rw [if_pos h0] at h
    simp at h
  rw [if_neg h0] at h ⊢
  by_cases h1 : (l.length : Int) - (i : Int) < szOf (rd l (i : Int))
  · rw [if_pos h1] at h
    simp at h
  rw [if_neg h1] at h ⊢
  split at h
  · simp at h
  · rename_i h2
    rw [if_neg h2]
    refine ⟨_, _, _, rfl, (by clear h h2 hwa hwb; generalize szOf (rd l (i : Int)) = s at *; omega), (by clear h h2 hwa hwb; generalize szOf (rd l (i : Int)) = s at *; omega), ?_⟩
    have := opnd_range ((l.drop (i + 1)).take (decW (rd l (i : Int))).1.toNat) (fun x hx => hbd x (List.mem_of_mem_take hx)) (by rw [List.length_take]; omega)
    constructor <;> omega
theorem Seq.le {l : List Int} {acc : List S46} {i : Nat} (h : Seq l acc i) : acc.length ≤ i ∧ i ≤ l.length := by
  induction h with
  | nil => simp
  | snoc _ h1 _ h2 h3 _ ih =>
    rw [List.length_append, List.length_singleton]
    omega
theorem scan_go (l : List Int) (hb : bytesOk l = true) (hm : l.length ≤ 4096) : ∀ (d i : Nat) (acc : List S46), l.length - i ≤ d → Seq l acc i → ∃ (ls : List S46) (a e : Int), Ev (fun k => flow_Scan.l0 k l acc (i : Int)) (ls, a, e) ∧ Ev (fun k => provisoref05_Scan.l0 k l acc (i : Int)) (ls, a, e) ∧ ((e = 0 ∧ a = 0 ∧ Seq l ls l.length) ∨ (e ≠ 0 ∧ ls = [] ∧ (l ≠ [] ∨ True))) := by
  intro d
  induction d with
  | zero =>
    intro i acc hd hs
    have := hs.le
    have e : i = l.length := by omega
    subst e
    refine ⟨acc, 0, 0, Ev.step (f := fun _ => some (acc, 0, 0)) (fun k => ?_) (Ev.now _), Ev.step (f := fun _ => some (acc, 0, 0)) (fun k => ?_) (Ev.now _), .inl ⟨rfl, rfl, hs⟩⟩
    · simp only [flow_Scan.l0]
      rw [if_neg (by omega)]
    · simp only [provisoref05_Scan.l0]
      rw [if_neg (by omega)]
  | succ d ih =>
    intro i acc hd hs
    have hle := hs.le
    by_cases hi : i < l.length
    · have hde := decode_ev l (bytesOk_is hb) hm i hi
      have hdp := pdecode_is l hb i hi
      by_cases h0 : (decL l i).2.2.2.2 = 0
      · obtain ⟨op, a, b, hd1, h1, h2, h3⟩ := decL_ok (bytesOk_is hb) hi h0
        have hz := szOf_range op
        have hs2 := Seq.snoc hs hi hd1 h1 h2 h3
        obtain ⟨ls, a9, e9, e1, e2, hr⟩ := ih (i + (szOf op).toNat) (acc ++ [⟨(i : Int), op, a, b⟩]) (by omega) hs2
        have hw : wrap64 ((i : Int) + szOf op) = ((i + (szOf op).toNat : Nat) : Int) := by unfold wrap64; omega
        refine ⟨ls, a9, e9, ?_, ?_, hr⟩
        · refine Ev.step (f := fun k => (code_Size.f k op).bind (fun t => flow_Scan.l0 k l (acc ++ [⟨(i : Int), op, a, b⟩]) (wrap64 ((i : Int) + t)))) (fun k => ?_) (Ev.bind ?_ (by rw [hw]; exact e1))
          · simp only [flow_Scan.l0]
            rw [if_pos (by omega), hdp, hd1]
            simp only [Option.bind_some, if_true]
            rw [if_pos (by omega)]
          · exact ⟨3, fun k hk => by
              obtain ⟨m, rfl⟩ : ∃ m, k = m + 3 := ⟨k - 3, by omega⟩
              exact size_is m op⟩
        · rw [hd1] at hde
          refine Ev.step (f := fun k => (provisoref04_Decode.f k l (i : Int)).bind (fun bt115 => (if bt115.2.2.2.2 = 0 then (if acc.length < 4398046511104 then ((provisoref04_Size.f k bt115.2.1).bind fun t124 => (provisoref05_Scan.l0 k l (acc ++ [(⟨bt115.1, bt115.2.1, bt115.2.2.1, bt115.2.2.2.1⟩ : S46)]) (wrap64 ((i : Int) + t124)))) else (none)) else (some (([] : List (S46)), (i : Int), bt115.2.2.2.2))))) (fun k => ?_) (Ev.bind hde ?_)
          · simp only [provisoref05_Scan.l0]
            rw [if_pos (by omega)]
          · simp only [if_true]
            refine Ev.congr (fun k => by rw [if_pos (by omega)]) (Ev.bind (rsize_ev op) (by rw [hw]; exact e2))
      · refine ⟨[], (i : Int), (decL l i).2.2.2.2, ?_, ?_, .inr ⟨h0, rfl, .inr trivial⟩⟩
        · refine Ev.step (f := fun _ => some ([], (i : Int), (decL l i).2.2.2.2)) (fun k => ?_) (Ev.now _)
          simp only [flow_Scan.l0]
          rw [if_pos (by omega), hdp]
          simp only [Option.bind_some]
          rw [if_neg h0]
        · refine Ev.step (f := fun k => (provisoref04_Decode.f k l (i : Int)).bind (fun bt115 => (if bt115.2.2.2.2 = 0 then (if acc.length < 4398046511104 then ((provisoref04_Size.f k bt115.2.1).bind fun t124 => (provisoref05_Scan.l0 k l (acc ++ [(⟨bt115.1, bt115.2.1, bt115.2.2.1, bt115.2.2.2.1⟩ : S46)]) (wrap64 ((i : Int) + t124)))) else (none)) else (some (([] : List (S46)), (i : Int), bt115.2.2.2.2))))) (fun k => ?_) (Ev.bind hde ?_)
          · simp only [provisoref05_Scan.l0]
            rw [if_pos (by omega)]
          · simp only [if_neg h0]
            exact Ev.now _
    · have e : i = l.length := by omega
      subst e
      refine ⟨acc, 0, 0, Ev.step (f := fun _ => some (acc, 0, 0)) (fun k => ?_) (Ev.now _), Ev.step (f := fun _ => some (acc, 0, 0)) (fun k => ?_) (Ev.now _), .inl ⟨rfl, rfl, hs⟩⟩
      · simp only [flow_Scan.l0]
        rw [if_neg (by omega)]
      · simp only [provisoref05_Scan.l0]
        rw [if_neg (by omega)]
theorem scan_ev (l : List Int) (hb : bytesOk l = true) : ∃ (ls : List S46) (a e : Int), Ev (fun k => flow_Scan.f k l) (ls, a, e) ∧ Ev (fun k => provisoref05_Scan.f k l) (ls, a, e) ∧ ((e = 0 ∧ a = 0 ∧ l.length ≤ 4096 ∧ Seq l ls l.length) ∨ (e ≠ 0 ∧ ls = [])) := by
  by_cases h : (l.length : Int) > 4096
  · refine ⟨[], 0, 4, Ev.congr (f := fun _ => some ([], 0, 4)) (fun k => ?_) (Ev.now _), Ev.congr (f := fun _ => some ([], 0, 4)) (fun k => ?_) (Ev.now _), .inr ⟨by decide, rfl⟩⟩
    · unfold flow_Scan.f; rw [if_pos h]
    · unfold provisoref05_Scan.f; rw [if_pos h]
  · obtain ⟨ls, a, e, e1, e2, hr⟩ := scan_go l hb (by omega) l.length 0 [] (by omega) Seq.nil
    refine ⟨ls, a, e, Ev.congr (fun k => ?_) e1, Ev.congr (fun k => ?_) e2, hr.imp (fun h9 => ⟨h9.1, h9.2.1, by omega, h9.2.2⟩) (fun h9 => ⟨h9.1, h9.2.1⟩)⟩
    · unfold flow_Scan.f; rw [if_neg h]; rfl
    · unfold provisoref05_Scan.f; rw [if_neg h]; rfl
theorem Seq.all {l : List Int} {acc : List S46} {i : Nat} (h : Seq l acc i) : ∀ x ∈ acc, 0 ≤ x.f0 ∧ x.f0 + szOf x.f1 ≤ (i : Int) ∧ 1 ≤ szOf x.f1 ∧ I64 x.f2 := by
  induction h with
  | nil => intro x hx; cases hx
  | @snoc acc i op a b h0 h1 hd h2 h3 h4 ih =>
    intro x hx
    rcases List.mem_append.1 hx with hx | hx
    · have := ih x hx
      exact ⟨this.1, by omega, this.2.2⟩
    · rw [List.mem_singleton.1 hx]
      exact ⟨(show (0 : Int) ≤ (i : Int) by omega), (show (i : Int) + szOf op ≤ ((i + (szOf op).toNat : Nat) : Int) by omega), h2, h4⟩
theorem Seq.ok {l : List Int} {acc : List S46} {i : Nat} (h : Seq l acc i) (hi : i ≤ 4096) : asOk acc = true ∧ atsOk acc = true := by
  constructor
  · refine List.all_eq_true.2 fun x hx => ?_
    obtain ⟨h1, h2, h3, h4⟩ := h.all x hx
    unfold I64 at h4
    simp [h4.1, h4.2]
  · refine List.all_eq_true.2 fun x hx => ?_
    obtain ⟨h1, h2, h3, h4⟩ := h.all x hx
    have hz := szOf_range x.f1
    simp
    omega
theorem Seq.next {l : List Int} {acc : List S46} {i : Nat} (h : Seq l acc i) : ∀ j : Nat, j < acc.length → (acc.getD j z46).f0 + szOf (acc.getD j z46).f1 = if j + 1 < acc.length then (acc.getD (j + 1) z46).f0 else (i : Int) := by
  induction h with
  | nil => intro j hj; simp at hj
  | @snoc acc i op a b h0 h1 _ h2 h3 h4 ih =>
    intro j hj
    rw [List.length_append, List.length_singleton] at hj ⊢
    have hz := szOf_range op
    simp only [List.getD_eq_getElem?_getD] at ih ⊢
    by_cases e : j = acc.length
    · subst e
      rw [if_neg (by omega)]
      simp
      omega
    · have hj' : j < acc.length := by omega
      rw [if_pos (by omega), List.getElem?_append_left hj', ih j hj']
      by_cases e2 : j + 1 < acc.length
      · rw [if_pos e2, List.getElem?_append_left e2]
      · have : j + 1 = acc.length := by omega
        rw [if_neg e2, this]
        simp
theorem Seq.zero {l : List Int} {acc : List S46} {i : Nat} (h : Seq l acc i) (h0 : acc = []) : i = 0 := by
  induction h with
  | nil => rfl
  | snoc => simp at h0
theorem Seq.first {l : List Int} {acc : List S46} {i : Nat} (h : Seq l acc i) (h0 : acc ≠ []) : (acc.getD 0 z46).f0 = 0 := by
  induction h with
  | nil => exact absurd rfl h0
  | @snoc acc i op a b h1 _ _ _ _ _ ih =>
    cases acc with
    | nil =>
      have hle := h1.zero rfl
      subst hle
      rfl
    | cons y r => exact ih (by simp)
end Go.Proofs.Ytcffniaieegbgaa.Pure

end

section
namespace Go.Proofs.Ytcffniaieegbgaa.Pure
open Go.RowKit Go.Proofs.Ytcffniaieegbgaa.P Go.Proofs.YtcffniaieegbgaaW.PrintWords
set_option linter.unusedSimpArgs false
set_option linter.unusedVariables false
theorem bytes_of {l : List Int} (h : ∀ x ∈ l, (Lit.int .u8 x).wf = true) : bytesOk l = true := by
  refine List.all_eq_true.2 fun x hx => ?_
  have := h x hx
  simp [Lit.wf, IntKind.min, IntKind.max, IntKind.signed, IntKind.bits] at this
  rw [decide_eq_true (by omega), decide_eq_true (by omega)]
  rfl
end Go.Proofs.Ytcffniaieegbgaa.Pure

end

section
namespace Go.Proofs.Ytcffniaieegbgaa.Pure
open Go.RowKit Go.Proofs.Ytcffniaieegbgaa.P Go.Proofs.YtcffniaieegbgaaW.PrintWords
set_option linter.unusedSimpArgs false
set_option linter.unusedVariables false
theorem getD_mem {l : List S46} {i : Nat} (h : i < l.length) : l.getD i z46 ∈ l := by
  rw [List.getD_eq_getElem?_getD, List.getElem?_eq_getElem h]
  exact List.getElem_mem h
theorem Seq.lt {l : List Int} {acc : List S46} {n : Nat} (h : Seq l acc n) : ∀ (d i : Nat), i + d + 1 < acc.length → (acc.getD i z46).f0 < (acc.getD (i + d + 1) z46).f0
  | 0, i, hi => by
    have h1 := h.next i (by omega)
    rw [if_pos (by omega)] at h1
    have h2 := (h.all _ (getD_mem (show i < acc.length by omega))).2.2.1
    show _ < (acc.getD (i + 1) z46).f0
    omega
  | d + 1, i, hi => by
    have ih := Seq.lt h d i (by omega)
    have h1 := h.next (i + d + 1) (by omega)
    rw [if_pos (by omega)] at h1
    have h2 := (h.all _ (getD_mem (show i + d + 1 < acc.length by omega))).2.2.1
    show _ < (acc.getD (i + d + 1 + 1) z46).f0
    omega
theorem Seq.inj {l : List Int} {acc : List S46} {n : Nat} (h : Seq l acc n) {i j : Nat} (hi : i < acc.length) (hj : j < acc.length) (he : (acc.getD i z46).f0 = (acc.getD j z46).f0) : i = j := by
  rcases Nat.lt_trichotomy i j with h1 | h1 | h1
  · have := h.lt (j - i - 1) i (by omega)
    rw [show i + (j - i - 1) + 1 = j by omega] at this
    omega
  · exact h1
  · have := h.lt (i - j - 1) j (by omega)
    rw [show j + (i - j - 1) + 1 = i by omega] at this
    omega
end Go.Proofs.Ytcffniaieegbgaa.Pure

end

section
namespace Go.Proofs.Ytcffniaieegbgaa.Pure
open Go.RowKit Go.Proofs.Ytcffniaieegbgaa.P Go.Proofs.YtcffniaieegbgaaW.PrintWords
set_option linter.unusedSimpArgs false
set_option linter.unusedVariables false
theorem blocks_len (l : List S46) : ∀ (d i fr : Nat), (blocksL l fr i d).length ≤ d
  | 0, i, fr => by simp [blocksL]
  | d + 1, i, fr => by
    unfold blocksL
    split
    · exact Nat.le_succ_of_le (blocks_len l d (i + 1) fr)
    · rw [List.length_cons]
      exact Nat.succ_le_succ (blocks_len l d (i + 1) (i + 1))
theorem blocks_head (l : List S46) (fr : Nat) : ∀ (d i : Nat), i + (d + 1) = l.length → ∃ e, i ≤ e ∧ e < l.length ∧ (∀ m, i ≤ m → m < e → goesOn l m = true) ∧ goesOn l e = false ∧ blocksL l fr i (d + 1) = blkOf l fr e :: blocksL l (e + 1) (e + 1) (l.length - (e + 1))
  | 0, i, h => by
    have hg : goesOn l i = false := by unfold goesOn; rw [decide_eq_false (by omega)]; rfl
    refine ⟨i, Nat.le_refl _, by omega, fun m h1 h2 => by omega, hg, ?_⟩
    rw [blocksL, hg, if_neg (by decide), show l.length - (i + 1) = 0 by omega]
  | d + 1, i, h => by
    by_cases hg : goesOn l i = true
    · obtain ⟨e, h1, h2, h3, h4, h5⟩ := blocks_head l fr d (i + 1) (by omega)
      refine ⟨e, by omega, h2, fun m h6 h7 => ?_, h4, ?_⟩
      · by_cases hm : m = i
        · rw [hm]; exact hg
        · exact h3 m (by omega) h7
      · rw [blocksL, if_pos hg]
        exact h5
    · refine ⟨i, Nat.le_refl _, by omega, fun m h1 h2 => by omega, by simpa using hg, ?_⟩
      rw [blocksL, if_neg hg, show l.length - (i + 1) = d + 1 by omega]
theorem blocks_froms (l : List S46) : ∀ (d i fr : Nat), i + (d + 1) = l.length → fr ≤ i → (l.getD fr z46).f0 ∈ (blocksL l fr i (d + 1)).map (·.f0) ∧ ∀ j, i ≤ j → j + 1 < l.length → goesOn l j = false → (l.getD (j + 1) z46).f0 ∈ (blocksL l fr i (d + 1)).map (·.f0)
  | 0, i, fr, h, hf => by
    have hg : ¬ goesOn l i = true := by unfold goesOn; rw [decide_eq_false (by omega)]; simp
    rw [blocksL, if_neg hg]
    exact ⟨by simp [blkOf, rd_T46], fun j h1 h2 => by omega⟩
  | d + 1, i, fr, h, hf => by
    rw [blocksL]
    by_cases hg : goesOn l i = true
    · rw [if_pos hg]
      obtain ⟨h1, h2⟩ := blocks_froms l d (i + 1) fr (by omega) (by omega)
      refine ⟨h1, fun j h3 h4 h5 => ?_⟩
      by_cases hj : j = i
      · rw [hj, hg] at h5; cases h5
      · exact h2 j (by omega) h4 h5
    · rw [if_neg hg]
      obtain ⟨h1, h2⟩ := blocks_froms l d (i + 1) (i + 1) (by omega) (Nat.le_refl _)
      refine ⟨by simp [blkOf, rd_T46], fun j h3 h4 h5 => ?_⟩
      rw [List.map_cons]
      refine List.mem_cons_of_mem _ ?_
      by_cases hj : j = i
      · rw [hj]; exact h1
      · exact h2 j (by omega) h4 h5
theorem follow_mem (l : List S46) (x : Int) : ∀ (n m : Nat), m < n → x ∈ P.follow l (m + 1) → x ∈ P.follow l n
  | 0, m, h, _ => by omega
  | n + 1, m, h, hx => by
    by_cases hm : m = n
    · rw [← hm]; exact hx
    · rw [P.follow]
      exact List.mem_append_left _ (follow_mem l x n m (by omega) hx)
theorem goesOn_true {l : List S46} {i : Nat} (h : goesOn l i = true) : i + 1 < l.length ∧ (l.getD (i + 1) z46).f0 ∉ leadK l := by
  unfold goesOn rd_T46 at h
  rw [Bool.and_eq_true, Int.toNat_natCast] at h
  exact ⟨of_decide_eq_true h.1, by have := h.2; simpa using this⟩
theorem goesOn_plain {l : List S46} {i : Nat} (h : goesOn l i = true) : jumpsB (l.getD i z46).f1 = false ∧ endsB (l.getD i z46).f1 = false := by
  obtain ⟨h1, h2⟩ := goesOn_true h
  have h3 : followB (l.getD i z46) = false := by
    cases hb : followB (l.getD i z46) with
    | false => rfl
    | true =>
      refine absurd ?_ h2
      unfold leadK
      refine List.mem_append_right _ (follow_mem l _ l.length i (by omega) ?_)
      unfold P.follow rd_T46
      rw [Int.toNat_natCast, Int.toNat_natCast, decide_eq_true h1, hb]
      simp
  unfold followB at h3
  rw [Bool.or_eq_false_iff] at h3
  exact h3
theorem plain_next {l : List Int} {acc : List S46} {n : Nat} (h : Seq l acc n) (hn : n ≤ 4096) {i : Nat} (hg : goesOn acc i = true) : nextL (acc.getD i z46) = [(acc.getD (i + 1) z46).f0] := by
  obtain ⟨h1, _⟩ := goesOn_true hg
  obtain ⟨h2, h3⟩ := goesOn_plain hg
  obtain ⟨h4, h5, h6, _⟩ := h.all _ (getD_mem (show i < acc.length by omega))
  have h7 := h.next i (by omega)
  rw [if_pos h1] at h7
  unfold nextL
  rw [if_neg (by omega), if_pos (by unfold placedB; rw [decide_eq_true h4, decide_eq_true (by omega)]; rfl)]
  unfold nextKeys
  rw [h2, h3, ← h7]
  rfl
theorem next_keys {x : S46} {b : Int} (h : b ∈ nextL x) : b = x.f0 + szOf x.f1 ∨ (jumpsB x.f1 = true ∧ b = x.f2) := by
  unfold nextL at h
  split at h
  · cases h
  · split at h
    · rw [srt_mem] at h
      unfold nextKeys at h
      rcases List.mem_append.1 h with h | h
      · split at h
        · cases h
        · exact .inl (List.mem_singleton.1 h)
      · split at h
        · rename_i hj
          exact .inr ⟨hj, List.mem_singleton.1 h⟩
        · cases h
    · cases h
theorem next_from {l : List Int} {acc : List S46} {n : Nat} (h : Seq l acc n) {e : Nat} (he : e < acc.length) (hg : goesOn acc e = false) {b : Int} (hb : b ∈ nextL (acc.getD e z46)) (hs : (firstAt acc 0 b).isSome = true) : b ∈ (blocksL acc 0 0 acc.length).map (·.f0) := by
  cases hf : firstAt acc 0 b with
  | none => rw [hf] at hs; cases hs
  | some v =>
    obtain ⟨p, rfl, hp, hq⟩ := firstAt_idx hf
    unfold rd_T46 at hq
    rw [Int.toNat_natCast] at hq
    obtain ⟨d, hd⟩ : ∃ d, acc.length = 0 + (d + 1) := ⟨acc.length - 1, by omega⟩
    obtain ⟨f1, f2⟩ := blocks_froms acc d 0 0 hd.symm (Nat.le_refl _)
    have hd2 : blocksL acc 0 0 acc.length = blocksL acc 0 0 (d + 1) := by rw [hd, Nat.zero_add]
    rw [hd2]
    rcases next_keys hb with hk | ⟨hj, hk⟩
    · have h7 := h.next e he
      by_cases hl : e + 1 < acc.length
      · rw [if_pos hl] at h7
        rw [hk, h7]
        exact f2 e (Nat.zero_le _) hl hg
      · rw [if_neg hl] at h7
        obtain ⟨g1, g2, g3, _⟩ := h.all _ (getD_mem hp)
        omega
    · cases p with
      | zero => rw [← hq]; exact f1
      | succ p =>
        rw [← hq]
        refine f2 p (Nat.zero_le _) hp ?_
        have hm : (acc.getD (p + 1) z46).f0 ∈ leadK acc := by
          unfold leadK
          refine List.mem_append_left _ ?_
          rw [srt_mem, hq, hk]
          unfold tgts
          exact List.mem_map.2 ⟨_, List.mem_filter.2 ⟨getD_mem he, hj⟩, rfl⟩
        unfold goesOn rd_T46
        rw [Int.toNat_natCast, decide_eq_true hm]
        simp
theorem ordered_go {l : List Int} {acc : List S46} {n : Nat} (h : Seq l acc n) (hl : acc.length ≤ 4096) : ∀ (d i : Nat), acc.length - i = d → 1 ≤ i → Ev (fun k => flow_ordered.l0 k acc (i : Int)) true
  | 0, i, hd, h1 => by
    refine Ev.step (f := fun _ => some true) (fun k => ?_) (Ev.now _)
    simp only [flow_ordered.l0]
    rw [if_neg (by omega)]
  | d + 1, i, hd, h1 => by
    have ih := ordered_go h hl d (i + 1) (by omega) (by omega)
    have hw : wrap64 ((i : Int) - 1) = ((i - 1 : Nat) : Int) := by unfold wrap64; omega
    have hlt := h.lt 0 (i - 1) (by omega)
    rw [show i - 1 + 0 + 1 = i by omega] at hlt
    refine Ev.step (fun k => ?_) ih
    simp only [flow_ordered.l0]
    rw [if_pos (by omega), if_pos (by omega), hw, if_pos (by omega), if_pos (by omega), if_neg (by unfold rd_T46; rw [Int.toNat_natCast, Int.toNat_natCast]; omega), wrap_one (show i < acc.length by omega) (by omega)]
theorem ordered_ev {l : List Int} {acc : List S46} {n : Nat} (h : Seq l acc n) (hl : acc.length ≤ 4096) : Ev (fun k => flow_ordered.f k acc) true := ordered_go h hl (acc.length - 1) 1 rfl (Nat.le_refl _)
theorem blocks_ev {l : List Int} {acc : List S46} {n : Nat} (h : Seq l acc n) (hn : n ≤ 4096) (hl : acc.length ≤ 4096) : Ev (fun k => flow_Blocks.f k acc) (blocksL acc 0 0 acc.length) := by
  have ho := h.ok hn
  refine Ev.congr (f := fun k => (flow_ordered.f k acc).bind fun b => if b = true then some (blocksL acc 0 0 acc.length) else some []) (fun k => ?_) (Ev.bind (ordered_ev h hl) ?_)
  · unfold flow_Blocks.f
    rw [if_pos ⟨by omega, ho.1, ho.2⟩]
  · simp only [if_true]
    exact Ev.now _
theorem blocks_nil : Ev (fun k => flow_Blocks.f k []) [] := by
  have h : Ev (fun k => flow_ordered.l0 k [] 1) true := Ev.step (f := fun _ => some true) (fun k => by simp only [flow_ordered.l0]; rw [if_neg (by decide)]) (Ev.now _)
  refine Ev.congr (f := fun k => (flow_ordered.f k []).bind fun b => if b = true then some (blocksL [] 0 0 0) else some []) (fun k => ?_) (Ev.bind h ?_)
  · unfold flow_Blocks.f
    rw [if_pos ⟨by decide, by decide, by decide⟩]
    rfl
  · simp only [if_true]
    exact Ev.now _
theorem drop_headB {l r : List S35} {x : S35} {j : Nat} (h : l.drop j = x :: r) : rd_T35 l (j : Int) = x ∧ l.drop (j + 1) = r ∧ j < l.length := by
  have h1 : j < l.length := by
    rcases Nat.lt_or_ge j l.length with h2 | h2
    · exact h2
    · rw [List.drop_eq_nil_of_le h2] at h; cases h
  rw [List.drop_eq_getElem_cons h1] at h
  injection h with h2 h3
  refine ⟨?_, h3, h1⟩
  unfold rd_T35
  rw [Int.toNat_natCast, List.getD_eq_getElem?_getD, List.getElem?_eq_getElem h1]
  exact h2
end Go.Proofs.Ytcffniaieegbgaa.Pure

end

section
namespace Go.Proofs.Ytcffniaieegbgaa.Pure
open Go.RowKit Go.Proofs.Ytcffniaieegbgaa.P Go.Proofs.YtcffniaieegbgaaW.PrintWords
set_option linter.unusedSimpArgs false
set_option linter.unusedVariables false
theorem from_go (bs : List S35) (hl : bs.length ≤ 4096) (x : Int) : ∀ (d i : Nat), bs.length - i = d → i ≤ bs.length → x ∈ (bs.drop i).map (·.f0) → ∃ r : Int, Ev (fun k => provisolaw05_from.l0 k x bs (bs.length : Int) (i : Int)) r ∧ 0 ≤ r
  | 0, i, hd, hi, hx => by
    rw [List.drop_eq_nil_of_le (by omega)] at hx
    cases hx
  | d + 1, i, hd, hi, hx => by
    have h1 : i < bs.length := by omega
    obtain ⟨e1, e2, _⟩ := drop_headB (List.drop_eq_getElem_cons h1)
    rw [List.drop_eq_getElem_cons h1, List.map_cons, List.mem_cons] at hx
    by_cases hq : (rd_T35 bs (i : Int)).f0 = x
    · refine ⟨(i : Int), Ev.step (f := fun _ => some (i : Int)) (fun k => ?_) (Ev.now _), by omega⟩
      simp only [provisolaw05_from.l0]
      rw [if_pos (by omega), if_pos (by omega), if_pos (by omega), if_pos hq]
    · obtain ⟨r, hr, h0⟩ := from_go bs hl x d (i + 1) (by omega) (by omega) (hx.resolve_left (fun e => hq (by rw [e1, e])))
      refine ⟨r, Ev.step (fun k => ?_) hr, h0⟩
      simp only [provisolaw05_from.l0]
      rw [if_pos (by omega), if_pos (by omega), if_pos (by omega), if_neg hq, wrap_one h1 (by omega)]
theorem parts_l2 (ls : List S46) (bs : List S35) (hbl : bs.length ≤ 4096) (m j : Int) (nx : List Int) (hnl : nx.length ≤ 9223372036854775807) (hall : ∀ b ∈ nx, b ∈ bs.map (·.f0)) (hK : Ev (fun k => provisolaw05_FlowParts.l0 k ls bs m bs (bs.length : Int) (wrap64 (j + 1))) true) : ∀ (d i : Nat), nx.length - i = d → i ≤ nx.length → Ev (fun k => provisolaw05_FlowParts.l2 k ls bs m bs (bs.length : Int) j nx (nx.length : Int) (i : Int)) true
  | 0, i, hd, hi => by
    obtain rfl : i = nx.length := by omega
    refine Ev.step (fun k => ?_) hK
    simp only [provisolaw05_FlowParts.l2]
    rw [if_neg (by omega)]
  | d + 1, i, hd, hi => by
    have h1 : i < nx.length := by omega
    have ih := parts_l2 ls bs hbl m j nx hnl hall hK d (i + 1) (by omega) (by omega)
    obtain ⟨r, hr, h0⟩ := from_go bs hbl (rd nx (i : Int)) bs.length 0 rfl (Nat.zero_le _) (hall _ (rd_mem h1))
    refine Ev.step (f := fun k => (provisolaw05_from.f k bs (rd nx (i : Int))).bind (fun t => if t < 0 then some false else provisolaw05_FlowParts.l2 k ls bs m bs (bs.length : Int) j nx (nx.length : Int) ((i + 1 : Nat) : Int))) (fun k => ?_) (Ev.bind hr ?_)
    · simp only [provisolaw05_FlowParts.l2]
      rw [if_pos (by omega), if_pos (by omega), if_pos (by omega), wrap_one h1 hnl]
    · simp only [if_neg (show ¬ r < 0 by omega)]
      exact ih
theorem next_is (x : S46) (hA : I64 x.f2) : flow_Next.f x.f0 x.f1 x.f2 x.f3 = some (nextL x) := by
  unfold flow_Next.f
  rw [if_pos (by unfold okB; rw [decide_eq_true hA.1, decide_eq_true hA.2]; rfl)]
theorem parts_l1 {l : List Int} {ls : List S46} {n : Nat} (h : Seq l ls n) (hn : n ≤ 4096) (hl : ls.length ≤ 4096) (bs : List S35) (j f : Int) (nx : List Int) {e : Nat} (he : e < ls.length) (hK : Ev (fun k => provisolaw05_FlowParts.l2 k ls bs ((e + 1 : Nat) : Int) bs (bs.length : Int) j nx (nx.length : Int) 0) true) : ∀ (d m : Nat), e - m = d → m ≤ e → (∀ q, m ≤ q → q < e → goesOn ls q = true) → Ev (fun k => provisolaw05_FlowParts.l1 k ls bs (m : Int) bs (bs.length : Int) j f (ls.getD e z46).f0 nx) true
  | 0, m, hd, hm, hg => by
    obtain rfl : m = e := by omega
    refine Ev.step (fun k => ?_) hK
    simp only [provisolaw05_FlowParts.l1]
    rw [if_pos (by omega), if_pos (by omega), if_pos (by unfold rd_T46; rw [Int.toNat_natCast]), wrap_one he (by omega)]
  | d + 1, m, hd, hm, hg => by
    have h1 : m < ls.length := by omega
    have ih := parts_l1 h hn hl bs j f nx he hK d (m + 1) (by omega) (by omega) (fun q h1 h2 => hg q (by omega) h2)
    have hgm := hg m (Nat.le_refl _) (by omega)
    have hm1 := (goesOn_true hgm).1
    have o1 : 0 ≤ (m : Int) := by omega
    have o2 : (m : Int) < (ls.length : Int) := by omega
    have ow := wrap_one h1 (show ls.length ≤ 9223372036854775807 by omega)
    have o3 : ¬ ((m + 1 : Nat) : Int) = (ls.length : Int) := by omega
    have o4 : 0 ≤ ((m + 1 : Nat) : Int) := by omega
    have o5 : ((m + 1 : Nat) : Int) < (ls.length : Int) := by omega
    have hx : rd_T46 ls (m : Int) = ls.getD m z46 := by unfold rd_T46; rw [Int.toNat_natCast]
    have hne : ¬ (ls.getD m z46).f0 = (ls.getD e z46).f0 := fun e9 => by have := h.inj h1 he e9; omega
    have hpn := plain_next h hn hgm
    have hA := asOk_at (h.ok hn).1 h1
    rw [hx] at hA
    have hf := next_is (ls.getD m z46) hA
    rw [hpn] at hf
    have hy : (rd_T46 ls ((m + 1 : Nat) : Int)).f0 = (ls.getD (m + 1) z46).f0 := by unfold rd_T46; rw [Int.toNat_natCast]
    refine Ev.step (fun k => ?_) ih
    simp only [provisolaw05_FlowParts.l1]
    rw [if_pos o1, if_pos o2, hx, if_neg hne, ow, hf, Option.bind_some, if_pos (by simp), if_neg o3, if_pos (by simp), if_pos o4, if_pos o5, hy, if_pos (by rfl)]
theorem parts_l0 {l : List Int} {ls : List S46} {n : Nat} (h : Seq l ls n) (hn : n ≤ 4096) (hl : ls.length ≤ 4096) (bs : List S35) (hbs : bs = blocksL ls 0 0 ls.length) : ∀ (d fr j : Nat), ls.length - fr ≤ d → fr ≤ ls.length → bs.drop j = blocksL ls fr fr (ls.length - fr) → j ≤ bs.length → Ev (fun k => provisolaw05_FlowParts.l0 k ls bs (fr : Int) bs (bs.length : Int) (j : Int)) true := by
  have hbl : bs.length ≤ 4096 := by rw [hbs]; exact Nat.le_trans (blocks_len ls _ _ _) hl
  have hend : ∀ fr j : Nat, fr = ls.length → bs.drop j = blocksL ls fr fr (ls.length - fr) → j ≤ bs.length → Ev (fun k => provisolaw05_FlowParts.l0 k ls bs (fr : Int) bs (bs.length : Int) (j : Int)) true := by
    intro fr j hf hdj hj
    rw [hf, Nat.sub_self] at hdj
    have hj2 : bs.length ≤ j := List.drop_eq_nil_iff.1 (hdj.trans rfl)
    refine Ev.step (f := fun _ => some true) (fun k => ?_) (Ev.now _)
    simp only [provisolaw05_FlowParts.l0]
    rw [if_neg (by omega), hf]
    simp
  intro d
  induction d with
  | zero => exact fun fr j hd hf => hend fr j (by omega)
  | succ d ih =>
    intro fr j hd hf hdj hj
    by_cases hfl : fr = ls.length
    · exact hend fr j hfl hdj hj
    obtain ⟨q, hq⟩ : ∃ q, ls.length - fr = q + 1 := ⟨ls.length - fr - 1, by omega⟩
    obtain ⟨e, h1, h2, h3, h4, h5⟩ := blocks_head ls fr q fr (by omega)
    rw [hq, h5] at hdj
    obtain ⟨e1, e2, e3⟩ := drop_headB hdj
    have ihe := ih (e + 1) (j + 1) (by omega) (by omega) e2 (by omega)
    have hnx : (blkOf ls fr e).f2.length ≤ 9223372036854775807 := by
      have := nextL_len (rd_T46 ls (e : Int))
      exact Nat.le_trans (List.length_filter_le _ _) (by omega)
    have hl2 := parts_l2 ls bs hbl ((e + 1 : Nat) : Int) (j : Int) (blkOf ls fr e).f2 hnx (fun b hb => by
      unfold blkOf at hb
      obtain ⟨b1, b2⟩ := List.mem_filter.1 hb
      unfold rd_T46 at b1
      rw [Int.toNat_natCast] at b1
      rw [hbs]
      exact next_from h h2 h4 b1 b2) (by rw [wrap_one e3 (by omega)]; exact ihe) _ 0 rfl (Nat.zero_le _)
    have hl1 := parts_l1 h hn hl bs (j : Int) (blkOf ls fr e).f0 (blkOf ls fr e).f2 h2 hl2 _ fr rfl h1 (fun m h6 h7 => h3 m h6 h7)
    have hlast : (blkOf ls fr e).f1 = (ls.getD e z46).f0 := by unfold blkOf rd_T46; rw [Int.toNat_natCast, Int.toNat_natCast]
    refine Ev.step (fun k => ?_) hl1
    simp only [provisolaw05_FlowParts.l0]
    rw [if_pos (by omega), if_pos (by omega), if_pos (by omega), if_neg (by omega), if_pos (by omega), if_pos (by omega), e1, if_pos (by rfl), hlast]
theorem FlowParts : provisolaw05_FlowParts.PureR := by
  intro l ⟨_, hl, hok⟩
  obtain ⟨ls, a, e, e1, e2, hr⟩ := scan_ev l (bytes_of hok)
  suffices h : Ev (fun k => provisolaw05_FlowParts.f k l) true by
    obtain ⟨K, h⟩ := h
    exact ⟨K, h K (Nat.le_refl _)⟩
  unfold provisolaw05_FlowParts.f
  refine Ev.bind e2 ?_
  rcases hr with ⟨rfl, rfl, h4096, hs⟩ | ⟨h1, rfl⟩
  · simp only [if_true]
    have hlen := hs.le.1
    by_cases h0 : ls.length = 0
    · simp only [if_pos (show (ls.length : Int) = 0 by omega)]
      exact Ev.bind blocks_nil (Ev.now _)
    · simp only [if_neg (show ¬ (ls.length : Int) = 0 by omega)]
      have hcl : api_Instr_33.f ls = some ls := by unfold api_Instr_33.f; rw [if_pos (by omega)]
      simp only [hcl, Option.bind_some]
      refine Ev.bind (blocks_ev hs h4096 (by omega)) ?_
      exact parts_l0 hs h4096 (by omega) _ rfl _ 0 0 (Nat.le_refl _) (Nat.zero_le _) rfl (Nat.zero_le _)
  · simp only [if_neg h1]
    exact Ev.bind blocks_nil (Ev.now _)
end Go.Proofs.Ytcffniaieegbgaa.Pure

end

section
namespace Go.Proofs.Ytcffniaieegbgaa.flowParts
open Go.ChangeShapes Go.WideShapes Go.ChangeAt Go.RowKit Go.Proofs.YtcffniaieegbgaaW.PrintWords Go.Proofs.Ytcffniaieegbgaa.Sees Go.Proofs.Ytcffniaieegbgaa.P
open Go.ChangeMaps (open_string shut_string)
set_option linter.unusedVariables false
set_option linter.unusedSimpArgs false
theorem own : ownKnob Try.prog.godebug = none := by kernel_rfl
theorem laidOut : laidOutB Try.prog = true := by kernel_rfl
set_option maxRecDepth 100000 in
theorem lifted (os : Os) (started : os.Started) (H : Type) (enc : TypeId × Value → H) :
    ReturnsInHanded {} Try.checked os 9 .any (Rows.flowPartsSpec.pre6 enc Try.prog Try.f9 Rows.flowPartsRow.domain false) (Rows.flowPartsSpec.post enc Try.prog Try.f9 false true false false) := by
  refine returnsInHanded_of_change_sized (C := Try.checked) own started (by kernel_rfl) Try.func9
    (ChangeSpec.witness6 (enc := enc) (C := Try.checked) false ⟨#[], #[.slice none 0 0], []⟩ 8 (by kernel_rfl) (by kernel_rfl) (by kernel_rfl) (by kernel_rfl)) ?_
  intro W base args ds gs before hval0 hW hcnd hsz0 _
  have hsz : (DataW.weightsEach Try.prog (Try.f9.params.toList ++ Rows.flowPartsSpec.plain.varTypes Try.prog) (ds ++ gs)).all (· ≤ reachBytes) = true := hsz0
  have hval : ∀ (j : Nat) t v, Try.f9.params[j]? = some t → args[j]? = some v → Value.okWide Try.prog W .any base t v := hval0
  have hW' := hW
  obtain ⟨p, q, hA0, hV, rfl, hfz, hnd⟩ := hW
  have hA : DataW.TrodAll enc Try.prog W 0 (fun _ => true) true Try.f9.params.toList args.toList ds p := hA0
  rw [Try.params9] at hA hval hsz
  obtain ⟨v0, vs0, d0, ds0, p0, q0, hargs, rfl, rfl, h0, r0⟩ := trodAll_cons hA
  obtain ⟨rfl, rfl, rfl⟩ := trodAll_nil r0
  obtain rfl : args = #[v0] := by cases args; simp_all
  obtain ⟨rfl, rfl⟩ := trodVars_none hV
  have k0 := h0
  have lt0 : ∀ x ∈ p0, x.block < W.heap.size := by obtain ⟨m, hm⟩ := k0; exact DataW.trod_lt m _ _ _ hm
  obtain ⟨y0, hy0, oy0⟩ := see_arg (j := 0) (t := 22) (sees_slice (B := 1) Try.underlying22 (by kernel_rfl) (by kernel_rfl) (sees_int Try.underlying5)) hsz rfl rfl h0
  obtain ⟨a0, len0, cap0, rfl⟩ := okWide_slice Try.underlying22 (hval 0 22 v0 rfl rfl)
  obtain ⟨rfl, hc0, hr0⟩ := see_slice rfl hy0
  clear hA0 hval0 hsz0 hsz
  obtain ⟨k, hk⟩ := Pure.FlowParts y0 oy0
  refine (provisolaw05_FlowParts.calls k _ _ y0 true W hr0 hc0 hk).mono ?_
  rintro e W' ⟨rfl, bel0⟩
  have bel : Below W.heap.size W W' := bel0
  exact ⟨_, rfl, _, _, _, [], _, [], hW', trodAll_mk1 (shut_bool Try.underlying4 _), (trodAll_cons_mk (Below.trod laidOut (by kernel_rfl) (of_decide_eq_true (by kernel_rfl)) k0 bel lt0) trodAll_mk0), rfl, bel.frame _, fun h => by cases h⟩
theorem over : Rows.flowPartsRow.holds Try.pinned (OpenSpec.ofChange Rows.flowPartsSpec) :=
  OpenClaim.holds_of_wide 9 Try.f9 rfl rfl rfl rfl rfl rfl rfl ⟨rfl, rfl, rfl, rfl, rfl⟩ rfl rfl rfl rfl rfl (by kernel_rfl) Try.func9 (by kernel_rfl)
    (of_decide_eq_true (by kernel_rfl)) (by unfold Func.isWrapper; first | (rw [if_pos (by decide +kernel)]; kernel_rfl) | (rw [if_neg (by decide +kernel)]; exact ⟨rfl, rfl⟩))
    (fun os started H enc _ => lifted os started H enc)
theorem proved : Rows.FlowPartsSaid := over
end Go.Proofs.Ytcffniaieegbgaa.flowParts
namespace Go.Proofs.Ytcffniaieegbgaa
theorem flowParts_holds : Rows.FlowPartsSaid := flowParts.proved
end Go.Proofs.Ytcffniaieegbgaa

end

