/- Proved: the law WireWrites holds for every input that the row lets in. No condition of ours. -/
import Derived.Test.YtklbkonehcjmjaaBWireWritesc
import Derived.Test.YtklbkonehcjmjaaRows
import Derived.ShutString
import Derived.ChangeOld
import Derived.Lib.SmallJoins
section
namespace Go.Proofs.Ytklbkonehcjmjaa.P
open Go.RowKit Go.Proofs.YtklbkonehcjmjaaW.PrintWords Go.Proofs.YtklbkonehcjmjaaW.PrintLast Go.Proofs.YtklbkonehcjmjaaW.PrintMore
attribute [local go_sem] max2_int min2_int max_two min_two max_three min_three max_four min_four   -- for this text's walks alone
set_option linter.unusedVariables false
set_option linter.unusedSimpArgs false

set_option maxHeartbeats 3200000 in
set_option maxRecDepth 100000 in
theorem put_6 (k : Nat) (w : World) (g : Nat) (bs bs' : List Int) (v : Value) (W : World) (hst : PutSt w g bs v W) (x : S44) (A4 : Option Addr) (c4 : Nat) (hp : provisolaw01_pick.f x.f0 9 = some 6) (n : Nat) (hn : provisolaw01_pick.f x.f1 1048584 = some (n : Int)) (hnl : n ≤ 1048584) (r : Int) (hj : provisoref01_Join.f bs (List.replicate n 0) = some (bs', r))
    (hc : (bs.length + n ≤ 1048576 ∧ bs' = bs ++ List.replicate n 0 ∧ r = 0) ∨ (1048576 < bs.length + n ∧ bs' = bs ∧ r = 7)) :
    Calls Try.prog 26 #[.pointer (some ⟨g, 0, none⟩), v, .agg #[.int .i64 x.f0, .int .i64 x.f1, .int .i64 x.f2, .string x.f3, .slice A4 x.f4.length c4]] W fun e w' => ∃ v' : Value, e = .returned (.tuple #[v', .bool true]) ∧ PutSt w g bs' v' w' := by
  obtain ⟨S, T, h⟩ := hst
  obtain ⟨Ab, cb, rfl⟩ := Kd.R_slice h.row
  have hx0 := blk_new W (.cells #[.int .i64 x.f0, .int .i64 x.f1, .int .i64 x.f2, .string x.f3, .slice A4 x.f4.length c4] 44 (0, 0))
  have h0 := h.step (below_alloc (Below.refl W.heap.size W) (.cells #[.int .i64 x.f0, .int .i64 x.f1, .int .i64 x.f2, .string x.f3, .slice A4 x.f4.length c4] 44 (0, 0)))
  have hax : ¬ S W.heap.size ∧ W.heap.size ≠ g ∧ ¬ T W.heap.size := ⟨fun hh => Nat.lt_irrefl _ (h.sb _ hh), fun e => Nat.lt_irrefl _ (e ▸ h.gb), fun hh => Nat.lt_irrefl _ (h.tb _ hh)⟩
  have HP := Aside0.mk hp
  clear h hp
  go_enter Try.func26, Try.ntmps26
  go_wp2_with fail
  obtain ⟨gx, hgx⟩ : ∃ gx, gx = W.heap.size := ⟨_, rfl⟩
  rw [← hgx] at hx0 hax ⊢
  generalize (W.alloc (.cells #[.int .i64 x.f0, .int .i64 x.f1, .int .i64 x.f2, .string x.f3, .slice A4 x.f4.length c4] 44 (0, 0))) = w1 at hx0 h0 ⊢
  have HX := Aside0.mk hx0
  have HA := Aside0.mk h0
  have HAX := Aside0.mk hax
  clear hx0 h0 hax hgx
  refine (provisolaw01_pick.calls x.f0 9 6 _ HP.out).mono ?_
  rintro e_ w2 ⟨rfl, m, rfl⟩
  replace HA := Aside0.mk (HA.out.step (pw_below_drewN (Below.refl _ _) m))
  replace HX := Aside0.mk (blk_drewN HX.out m)
  generalize w1.drewN m = w2 at HA HX ⊢
  clear m HP
  have HNP := Aside0.mk hn
  have HN := Aside0.mk hnl
  have HJ := Aside0.mk hj
  clear hn hnl hj
  have hq1 := blk_cell HX.out 1
  go_wp2_with fail
  clear hq1
  refine (provisolaw01_pick.calls x.f1 1048584 (n : Int) _ HNP.out).mono ?_
  rintro e_ w3 ⟨rfl, m, rfl⟩
  replace HA := Aside0.mk (HA.out.step (pw_below_drewN (Below.refl _ _) m))
  replace HX := Aside0.mk (blk_drewN HX.out m)
  generalize w2.drewN m = w3 at HA HX ⊢
  clear m HNP
  have HSB := Aside0.mk HA.out.sb
  have HTB := Aside0.mk HA.out.tb
  have HGB := Aside0.mk HA.out.gb
  go_wp2_with (first | ((with_reducible refine gate_dst (N := 134) rfl ?_); refine Kd.R_make (Kd.int .u8) (w0 := w3) w3.heap.size 5 rfl (N := 134) rfl 23 (.tmp 133) (.tmp 133) rfl (n : Int) rfl rfl Try.underlying23 (.int .u8 0) 1 info5 rfl (by decide) (by decide) 0 (ok := fun _ => True) (okp := fun _ => True) rfl (fun _ h => h) trivial (by omega) ?hl (Below.refl _ _) (Nat.le_refl _) ?_; (case hl => have := HN.out; rw [Int.toNat_natCast]; omega); intro v1 w4 ho hb hg hat; rw [Int.toNat_natCast] at ho; have HO := Aside0.mk ho; replace HX := Aside0.mk (blk_below HX.out hb); replace HA := Aside0.mk (HA.out.step hb); obtain ⟨Av, cv, e1⟩ := Kd.R_slice ho; rw [List.length_replicate] at e1; subst e1; clear ho hb hg hat))
  have hz : (List.replicate n (0 : Int)).length = n := List.length_replicate
  have hC := (Kd.R_reads HO.out)
  obtain ⟨_, _, e9, hcl, hcc⟩ := hC
  rw [hz] at e9
  cases e9
  have HC := Aside0.mk hcc
  have HCL := Aside0.mk hcl
  have HZ := Aside0.mk hz
  clear hcc hcl hz
  have HOB := Aside0.mk (Kd.R_bound HO.out)
  rcases hc with ⟨c2, e1, rfl⟩ | ⟨c2, rfl, rfl⟩
  · have C2 := Aside0.mk c2
    have E1 := Aside0.mk e1
    clear c2 e1
    have hcall := Put_good (more := List.replicate n 0) HA.out.wt Av cv HC.out (by rw [HZ.out]; exact C2.out)
    rw [HZ.out] at hcall
    refine hcall.mono ?_
    clear hcall
    rintro e_ w5 ⟨rfl, q2, q3, q4⟩
    rw [← E1.out] at q2
    have HO5 := Aside0.mk (Kd.R_keptB HOB.out q4 (fun k hk hh => by have := hk.2.1; rcases hh with hh | hh; exact absurd (HSB.out k hh) (by omega); have := HGB.out; omega))
    have hHX := blk_kept HX.out q4 (fun hh => hh.elim HAX.out.1 HAX.out.2.1)
    have hHA := HA.out.wrote q2 q3 q4
    replace HX := Aside0.mk hHX
    replace HA := Aside0.mk hHA
    clear q2 q3 q4 hHX hHA HOB HO HC
    have hjn := provisoref01_Join.calls _ _ bs Av cv (List.replicate n 0) _ _ w _ HA.out.below HA.out.row (fun W_ hk => (Kd.R_reads' (Kd.R_keptB (Kd.R_bound HO5.out) hk (fun k hk2 ht => by have := HTB.out k ht; have := hk2.2.1; omega))).2.2) (by rw [HZ.out]; exact (by have := HCL.out; rw [HZ.out] at this; exact this)) HJ.out
    rw [HZ.out] at hjn
    go_wp2_with fail
    refine hjn.mono ?_
    clear hjn
    rintro e_ w6 ⟨v', rfl, q1, q2, q3⟩
    have HA4 := Aside0.mk (HA.out.joined q1 q2 q3)
    clear q1 q2 q3 HA HX
    obtain ⟨Ab', cb', rfl⟩ := Kd.R_slice HA4.out.row
    go_wp2
    go_ret2
    exact ⟨_, rfl, _, _, HA4.out⟩
  · have C2 := Aside0.mk c2
    clear c2
    have hcall := Put_full HA.out.wt Av n cv C2.out
    refine hcall.mono ?_
    clear hcall
    rintro e_ w5 ⟨rfl, q0⟩
    have q2 := q0.below
    have HO5 := Aside0.mk (Kd.R_below HOB.out q2)
    replace HX := Aside0.mk (blk_below HX.out q2)
    replace HA := Aside0.mk (HA.out.step q2)
    clear q0 q2 HOB HO HC
    have hjn := provisoref01_Join.calls _ _ _ Av cv (List.replicate n 0) _ _ w _ HA.out.below HA.out.row (fun W_ hk => (Kd.R_reads' (Kd.R_keptB (Kd.R_bound HO5.out) hk (fun k hk2 ht => by have := HTB.out k ht; have := hk2.2.1; omega))).2.2) (by rw [HZ.out]; exact (by have := HCL.out; rw [HZ.out] at this; exact this)) HJ.out
    rw [HZ.out] at hjn
    go_wp2_with fail
    refine hjn.mono ?_
    clear hjn
    rintro e_ w6 ⟨v', rfl, q1, q2, q3⟩
    have HA4 := Aside0.mk (HA.out.joined q1 q2 q3)
    clear q1 q2 q3 HA HX
    obtain ⟨Ab', cb', rfl⟩ := Kd.R_slice HA4.out.row
    go_wp2
    go_ret2
    exact ⟨_, rfl, _, _, HA4.out⟩

set_option maxHeartbeats 12800000 in
set_option maxRecDepth 100000 in
theorem put_3 (k : Nat) (w : World) (g : Nat) (bs bs' : List Int) (v : Value) (W : World) (hst : PutSt w g bs v W) (x : S44) (A4 : Option Addr) (c4 : Nat) (hp : provisolaw01_pick.f x.f0 9 = some 3) (hC4 : Kd.C (Kd.int .u8) w A4 x.f4.length x.f4) (hc4 : x.f4.length ≤ c4) (hlim : x.f4.length ≤ 140737488351232) (r : Int) (hj : provisoref01_Join.f bs x.f4 = some (bs', r)) (hu : provisoplain_Untouched.f k (x.f4 ++ [165, 90, 195, 60]) x.f4 = some true)
    (hc : (bs.length + x.f4.length ≤ 1048576 ∧ bs' = bs ++ x.f4 ∧ r = 0) ∨ (1048576 < bs.length + x.f4.length ∧ bs' = bs ∧ r = 7)) :
    Calls Try.prog 26 #[.pointer (some ⟨g, 0, none⟩), v, .agg #[.int .i64 x.f0, .int .i64 x.f1, .int .i64 x.f2, .string x.f3, .slice A4 x.f4.length c4]] W fun e w' => ∃ v' : Value, e = .returned (.tuple #[v', .bool true]) ∧ PutSt w g bs' v' w' := by
  obtain ⟨S, T, h⟩ := hst
  obtain ⟨Ab, cb, rfl⟩ := Kd.R_slice h.row
  have hx0 := blk_new W (.cells #[.int .i64 x.f0, .int .i64 x.f1, .int .i64 x.f2, .string x.f3, .slice A4 x.f4.length c4] 44 (0, 0))
  have h0 := h.step (below_alloc (Below.refl W.heap.size W) (.cells #[.int .i64 x.f0, .int .i64 x.f1, .int .i64 x.f2, .string x.f3, .slice A4 x.f4.length c4] 44 (0, 0)))
  have hax : ¬ S W.heap.size ∧ W.heap.size ≠ g ∧ ¬ T W.heap.size := ⟨fun hh => Nat.lt_irrefl _ (h.sb _ hh), fun e => Nat.lt_irrefl _ (e ▸ h.gb), fun hh => Nat.lt_irrefl _ (h.tb _ hh)⟩
  have HP := Aside0.mk hp
  clear h hp
  go_enter Try.func26, Try.ntmps26
  go_wp2_with fail
  obtain ⟨gx, hgx⟩ : ∃ gx, gx = W.heap.size := ⟨_, rfl⟩
  rw [← hgx] at hx0 hax ⊢
  generalize (W.alloc (.cells #[.int .i64 x.f0, .int .i64 x.f1, .int .i64 x.f2, .string x.f3, .slice A4 x.f4.length c4] 44 (0, 0))) = w1 at hx0 h0 ⊢
  have HX := Aside0.mk hx0
  have HA := Aside0.mk h0
  have HAX := Aside0.mk hax
  clear hx0 h0 hax hgx
  refine (provisolaw01_pick.calls x.f0 9 3 _ HP.out).mono ?_
  rintro e_ w2 ⟨rfl, m, rfl⟩
  replace HA := Aside0.mk (HA.out.step (pw_below_drewN (Below.refl _ _) m))
  replace HX := Aside0.mk (blk_drewN HX.out m)
  generalize w1.drewN m = w2 at HA HX ⊢
  clear m HP
  have HC4 := Aside0.mk hC4
  have HL4 := Aside0.mk hc4
  have HLIM := Aside0.mk hlim
  have HJ := Aside0.mk hj
  have HU := Aside0.mk hu
  have hlenw : x.f4.length ≤ 9223372036854775807 := by omega
  clear hC4 hc4 hlim hj hu
  have hq4 := blk_cell HX.out 4
  go_wp2_with fail
  clear hq4
  refine (Roomy_calls A4 c4 x.f4 w2 (Kd.C_below HC4.out HA.out.below) HL4.out HLIM.out).mono ?_
  rintro e_ w3 ⟨A, c, rfl, hcap, hR, hb⟩
  have HCAP := Aside0.mk hcap
  obtain ⟨ad, hAd, _⟩ := Kd.at_int (Kd.R_reads' hR).2.2 0 (by omega) (by simp; omega)
  subst hAd
  obtain ⟨ga, rfl⟩ := Kd.R_head hR
  have HRr := Aside0.mk (Kd.R_mono (Kd.R_bound hR) (ok' := fun k => w2.heap.size ≤ k ∧ k < w3.heap.size) (fun k hk => ⟨hk.2.1, hk.2.2.1⟩))
  have HGA : Aside0 (w2.heap.size ≤ ga ∧ ga < w3.heap.size) := ⟨HRr.out.1 ga rfl⟩
  have HSB := Aside0.mk HA.out.sb
  have HTB := Aside0.mk HA.out.tb
  have HGB := Aside0.mk HA.out.gb
  have HWG : Aside0 (w.heap.size ≤ ga) := ⟨Nat.le_trans HA.out.below.size HGA.out.1⟩
  replace HX := Aside0.mk (blk_below HX.out hb)
  replace HA := Aside0.mk (HA.out.step hb)
  have hgv : Kd.C (Kd.int .u8) w3 (some ⟨ga, 0, none⟩) x.f4.length x.f4 := by
    have h9 := Kd.C_take (Kd.R_reads' hR).2.2 (m := x.f4.length) (by simp)
    rwa [List.take_left] at h9
  have HGV := Aside0.mk hgv
  have p7 : x.f4.length ≤ c := by omega
  clear hR hb hgv hcap
  go_wp2_with fail
  rcases hc with ⟨c2, e1, rfl⟩ | ⟨c2, rfl, rfl⟩
  · have C2 := Aside0.mk c2
    have E1 := Aside0.mk e1
    clear c2 e1
    refine (Put_good (more := x.f4) HA.out.wt (some ⟨ga, 0, none⟩) c HGV.out C2.out).mono ?_
    rintro e_ w4 ⟨rfl, q2, q3, q4⟩
    rw [← E1.out] at q2
    have HW34 : Aside0 (w3.heap.size ≤ w4.heap.size) := ⟨q4.1⟩
    replace HRr := Aside0.mk (Kd.R_mono (Kd.R_keptB HRr.out q4 (fun k hk hh => by rcases hh with hh | hh; have := HSB.out k hh; omega; have := HGB.out; omega)) (fun k hk => hk.1))
    have hHX := blk_kept HX.out q4 (fun hh => hh.elim HAX.out.1 HAX.out.2.1)
    have hHA := HA.out.wrote q2 q3 q4
    replace HX := Aside0.mk hHX
    replace HA := Aside0.mk hHA
    have HTg : Aside0 (∀ k, T k → ¬ (w2.heap.size ≤ k ∧ k < w3.heap.size)) := ⟨fun k ht hk => by have := HTB.out k ht; omega⟩
    have HSg : Aside0 (∀ k, (S k ∨ w3.heap.size ≤ k) ∧ k < w4.heap.size → k ≠ ga) := ⟨fun k hk e => hk.1.elim (fun hs => by have := HSB.out k hs; have := HGA.out.1; omega) (fun hn => by have := HGA.out.2; omega)⟩
    clear q2 q3 q4 hHX hHA HGV
    have hjn := provisoref01_Join.calls _ _ _ A4 c4 x.f4 _ _ w _ HA.out.below HA.out.row (Kd.C_kept_came (Kd.heap_int .u8) HC4.out HA.out.below HA.out.tl) HL4.out HJ.out
    have hq4 := blk_cell HX.out 4
    go_wp2_with fail
    clear hq4
    refine hjn.mono ?_
    clear hjn
    rintro e_ w5 ⟨v', rfl, q1, q2, q3⟩
    have HRr5 := Aside0.mk (Kd.R_keptB HRr.out q3 (fun k hk ht => HTg.out k ht hk))
    have HX5 := Aside0.mk (blk_kept HX.out q3 HAX.out.2.2)
    have HA5 := Aside0.mk (HA.out.joined q1 q2 q3)
    have HT5 : Aside0 (∀ k, ((_ : Nat → Prop) k ∨ w4.heap.size ≤ k) ∧ k < w5.heap.size → k ≠ ga) := ⟨fun k hk e => hk.1.elim (fun ht => HTg.out k ht (by rw [e]; exact ⟨HGA.out.1, HGA.out.2⟩)) (fun hn => by have := HGA.out.2; have := HW34.out; omega)⟩
    clear q1 q2 q3 HA HX HRr
    obtain ⟨Ab', cb', rfl⟩ := Kd.R_slice HA5.out.row
    have hlen4 : (x.f4 ++ [165, 90, 195, 60]).length = x.f4.length + 4 := by simp
    have hun := provisoplain_Untouched.calls k (some ⟨ga, 0, none⟩) c (x.f4 ++ [165, 90, 195, 60]) A4 c4 x.f4 true w5 (Kd.R_reads' HRr5.out).2.2 (by rw [hlen4]; exact HCAP.out) (Kd.C_below HC4.out HA5.out.below) HL4.out HU.out
    rw [hlen4] at hun
    have hq4 := blk_cell HX5.out 4
    go_wp2_with fail
    clear hq4 hlen4
    refine hun.mono ?_
    clear hun
    rintro e_ w6 ⟨rfl, q0⟩
    have q2 := q0.below
    have HA6 := Aside0.mk (HA5.out.step q2)
    have HRr6 := Aside0.mk (Kd.R_below HRr5.out q2)
    clear q0 q2 HA5 HX5 HRr5
    go_wp2
    go_loopw [89, 13] (fun v89 v13 wr => ∃ i : Nat, v89 = .int .i64 (i : Int) ∧ i ≤ x.f4.length ∧ Aside0 (PutAt w g _ _ _ _ _ wr) ∧ Aside0 (∃ ys : List Int, Kd.R (Kd.int .u8) 5 wr w2.heap.size (fun k => w2.heap.size ≤ k ∧ k < w3.heap.size) (.slice (some ⟨ga, 0, none⟩) (x.f4.length + 4) c) ys)) (fun v89 _ _ => ((x.f4.length : Int) - intOf v89).toNat)
    case atStart => exact ⟨0, rfl, Nat.zero_le _, HA6, ⟨_, Kd.R_mono HRr6.out (fun k hk => hk.1)⟩⟩
    case round =>
      obtain ⟨i, rfl, hi, HA, HRr⟩ := hrel
      by_cases c1 : i < x.f4.length
      · have c1b : decide ((i : Int) < (x.f4.length : Int)) = true := decide_eq_true (by omega)
        have p1 : (0 ≤ (i : Int)) = True := eq_true (by omega)
        have p2 : ((i : Int) < (x.f4.length : Int)) = True := eq_true (by omega)
        have HI : Aside0 (i < x.f4.length) := ⟨c1⟩
        obtain ⟨ys, hR⟩ := HRr.out
        obtain ⟨hc1, hf1⟩ := Kd.R_celln 0 hR (i : Int) (by omega) (by omega)
        rw [Int.toNat_natCast] at hc1 hf1
        have HR := Aside0.mk hR
        obtain ⟨z, hz⟩ : ∃ z, rdOf 0 ys (i : Int) = z := ⟨_, rfl⟩
        rw [hz] at hc1
        have HLM := Aside0.mk hlenw
        have HW9 : Aside0 (wrap64 ((i : Int) + 1) = ((i + 1 : Nat) : Int)) := ⟨by unfold wrap64; omega⟩
        clear hR hz HRr c1
        go_wp2
        have hst := HA.out.kept ((Kept.refl wr (fun k => k = ga)).setCell (p := ⟨ga, i, none⟩) (.inl rfl) (.int .u8 (bits BinOp.xor IntKind.u8 z 255))) (HA.out.below.setCell (p := ⟨ga, i, none⟩) HWG.out (.int .u8 (bits BinOp.xor IntKind.u8 z 255))) (fun k hk => HSg.out k hk) (fun k hk => HT5.out k hk) (fun e => by have := HGB.out; have := HGA.out.1; omega)
        have hrow := Kd.R_putn HR.out (i : Int) (bits BinOp.xor IntKind.u8 z 255)
        rw [Int.toNat_natCast] at hrow
        rw [HW9.out]
        exact ⟨⟨i + 1, rfl, HI.out, ⟨hst⟩, ⟨⟨_, hrow⟩⟩⟩, by have := HI.out; simp [intOf]; omega⟩
      · have c1b : decide ((i : Int) < (x.f4.length : Int)) = false := decide_eq_false (by omega)
        go_wp2
        go_ret2
        exact ⟨_, rfl, _, _, HA.out⟩
  · have C2 := Aside0.mk c2
    clear c2
    refine (Put_full HA.out.wt (some ⟨ga, 0, none⟩) x.f4.length c C2.out).mono ?_
    rintro e_ w4 ⟨rfl, q0⟩
    have q2 := q0.below
    have HW34 : Aside0 (w3.heap.size ≤ w4.heap.size) := ⟨q2.size⟩
    replace HRr := Aside0.mk (Kd.R_below HRr.out q2)
    replace HX := Aside0.mk (blk_below HX.out q2)
    replace HA := Aside0.mk (HA.out.step q2)
    have HTg : Aside0 (∀ k, T k → ¬ (w2.heap.size ≤ k ∧ k < w3.heap.size)) := ⟨fun k ht hk => by have := HTB.out k ht; omega⟩
    have HSg : Aside0 (∀ k, S k → k ≠ ga) := ⟨fun k hs e => by have := HSB.out k hs; have := HGA.out.1; omega⟩
    clear q0 q2 HGV
    have hjn := provisoref01_Join.calls _ _ _ A4 c4 x.f4 _ _ w _ HA.out.below HA.out.row (Kd.C_kept_came (Kd.heap_int .u8) HC4.out HA.out.below HA.out.tl) HL4.out HJ.out
    have hq4 := blk_cell HX.out 4
    go_wp2_with fail
    clear hq4
    refine hjn.mono ?_
    clear hjn
    rintro e_ w5 ⟨v', rfl, q1, q2, q3⟩
    have HRr5 := Aside0.mk (Kd.R_keptB HRr.out q3 (fun k hk ht => HTg.out k ht hk))
    have HX5 := Aside0.mk (blk_kept HX.out q3 HAX.out.2.2)
    have HA5 := Aside0.mk (HA.out.joined q1 q2 q3)
    have HT5 : Aside0 (∀ k, ((_ : Nat → Prop) k ∨ w4.heap.size ≤ k) ∧ k < w5.heap.size → k ≠ ga) := ⟨fun k hk e => hk.1.elim (fun ht => HTg.out k ht (by rw [e]; exact ⟨HGA.out.1, HGA.out.2⟩)) (fun hn => by have := HGA.out.2; have := HW34.out; omega)⟩
    clear q1 q2 q3 HA HX HRr
    obtain ⟨Ab', cb', rfl⟩ := Kd.R_slice HA5.out.row
    have hlen4 : (x.f4 ++ [165, 90, 195, 60]).length = x.f4.length + 4 := by simp
    have hun := provisoplain_Untouched.calls k (some ⟨ga, 0, none⟩) c (x.f4 ++ [165, 90, 195, 60]) A4 c4 x.f4 true w5 (Kd.R_reads' HRr5.out).2.2 (by rw [hlen4]; exact HCAP.out) (Kd.C_below HC4.out HA5.out.below) HL4.out HU.out
    rw [hlen4] at hun
    have hq4 := blk_cell HX5.out 4
    go_wp2_with fail
    clear hq4 hlen4
    refine hun.mono ?_
    clear hun
    rintro e_ w6 ⟨rfl, q0⟩
    have q2 := q0.below
    have HA6 := Aside0.mk (HA5.out.step q2)
    have HRr6 := Aside0.mk (Kd.R_below HRr5.out q2)
    clear q0 q2 HA5 HX5 HRr5
    go_wp2
    go_loopw [89, 13] (fun v89 v13 wr => ∃ i : Nat, v89 = .int .i64 (i : Int) ∧ i ≤ x.f4.length ∧ Aside0 (PutAt w g _ _ _ _ _ wr) ∧ Aside0 (∃ ys : List Int, Kd.R (Kd.int .u8) 5 wr w2.heap.size (fun k => w2.heap.size ≤ k ∧ k < w3.heap.size) (.slice (some ⟨ga, 0, none⟩) (x.f4.length + 4) c) ys)) (fun v89 _ _ => ((x.f4.length : Int) - intOf v89).toNat)
    case atStart => exact ⟨0, rfl, Nat.zero_le _, HA6, ⟨_, Kd.R_mono HRr6.out (fun k hk => hk.1)⟩⟩
    case round =>
      obtain ⟨i, rfl, hi, HA, HRr⟩ := hrel
      by_cases c1 : i < x.f4.length
      · have c1b : decide ((i : Int) < (x.f4.length : Int)) = true := decide_eq_true (by omega)
        have p1 : (0 ≤ (i : Int)) = True := eq_true (by omega)
        have p2 : ((i : Int) < (x.f4.length : Int)) = True := eq_true (by omega)
        have HI : Aside0 (i < x.f4.length) := ⟨c1⟩
        obtain ⟨ys, hR⟩ := HRr.out
        obtain ⟨hc1, hf1⟩ := Kd.R_celln 0 hR (i : Int) (by omega) (by omega)
        rw [Int.toNat_natCast] at hc1 hf1
        have HR := Aside0.mk hR
        obtain ⟨z, hz⟩ : ∃ z, rdOf 0 ys (i : Int) = z := ⟨_, rfl⟩
        rw [hz] at hc1
        have HLM := Aside0.mk hlenw
        have HW9 : Aside0 (wrap64 ((i : Int) + 1) = ((i + 1 : Nat) : Int)) := ⟨by unfold wrap64; omega⟩
        clear hR hz HRr c1
        go_wp2
        have hst := HA.out.kept ((Kept.refl wr (fun k => k = ga)).setCell (p := ⟨ga, i, none⟩) (.inl rfl) (.int .u8 (bits BinOp.xor IntKind.u8 z 255))) (HA.out.below.setCell (p := ⟨ga, i, none⟩) HWG.out (.int .u8 (bits BinOp.xor IntKind.u8 z 255))) (fun k hk => HSg.out k hk) (fun k hk => HT5.out k hk) (fun e => by have := HGB.out; have := HGA.out.1; omega)
        have hrow := Kd.R_putn HR.out (i : Int) (bits BinOp.xor IntKind.u8 z 255)
        rw [Int.toNat_natCast] at hrow
        rw [HW9.out]
        exact ⟨⟨i + 1, rfl, HI.out, ⟨hst⟩, ⟨⟨_, hrow⟩⟩⟩, by have := HI.out; simp [intOf]; omega⟩
      · have c1b : decide ((i : Int) < (x.f4.length : Int)) = false := decide_eq_false (by omega)
        go_wp2
        go_ret2
        exact ⟨_, rfl, _, _, HA.out⟩

set_option maxHeartbeats 3200000 in
set_option maxRecDepth 100000 in
theorem put_5 (k : Nat) (w : World) (g : Nat) (bs bs' : List Int) (v : Value) (W : World) (hst : PutSt w g bs v W) (x : S44) (A4 : Option Addr) (c4 : Nat) (hp : provisolaw01_pick.f x.f0 9 = some 5) (r : Int) (hr : provisoref01_Patch.f k bs x.f2 x.f1 = some (bs', r))
    (hc : ((x.f1 < 0 ∨ x.f1 > 65535) ∧ bs' = bs ∧ r = 5) ∨ ((0 ≤ x.f1 ∧ x.f1 ≤ 65535) ∧ (x.f2 < 0 ∨ x.f2 > (bs.length : Int) - 2) ∧ bs' = bs ∧ r = 1) ∨ (∃ i : Nat, x.f2 = (i : Int) ∧ (0 ≤ x.f1 ∧ x.f1 ≤ 65535) ∧ i + 2 ≤ bs.length ∧ bs' = (bs.set i (x.f1 / 256 % 256)).set (i + 1) (x.f1 % 256) ∧ r = 0)) :
    Calls Try.prog 26 #[.pointer (some ⟨g, 0, none⟩), v, .agg #[.int .i64 x.f0, .int .i64 x.f1, .int .i64 x.f2, .string x.f3, .slice A4 x.f4.length c4]] W fun e w' => ∃ v' : Value, e = .returned (.tuple #[v', .bool true]) ∧ PutSt w g bs' v' w' := by
  obtain ⟨S, T, h⟩ := hst
  obtain ⟨Ab, cb, rfl⟩ := Kd.R_slice h.row
  have hx0 := blk_new W (.cells #[.int .i64 x.f0, .int .i64 x.f1, .int .i64 x.f2, .string x.f3, .slice A4 x.f4.length c4] 44 (0, 0))
  have h0 := h.step (below_alloc (Below.refl W.heap.size W) (.cells #[.int .i64 x.f0, .int .i64 x.f1, .int .i64 x.f2, .string x.f3, .slice A4 x.f4.length c4] 44 (0, 0)))
  have hax : ¬ S W.heap.size ∧ W.heap.size ≠ g ∧ ¬ T W.heap.size := ⟨fun hh => Nat.lt_irrefl _ (h.sb _ hh), fun e => Nat.lt_irrefl _ (e ▸ h.gb), fun hh => Nat.lt_irrefl _ (h.tb _ hh)⟩
  have HP := Aside0.mk hp
  clear h hp
  go_enter Try.func26, Try.ntmps26
  go_wp2_with fail
  obtain ⟨gx, hgx⟩ : ∃ gx, gx = W.heap.size := ⟨_, rfl⟩
  rw [← hgx] at hx0 hax ⊢
  generalize (W.alloc (.cells #[.int .i64 x.f0, .int .i64 x.f1, .int .i64 x.f2, .string x.f3, .slice A4 x.f4.length c4] 44 (0, 0))) = w1 at hx0 h0 ⊢
  have HX := Aside0.mk hx0
  have HA := Aside0.mk h0
  have HAX := Aside0.mk hax
  clear hx0 h0 hax hgx
  refine (provisolaw01_pick.calls x.f0 9 5 _ HP.out).mono ?_
  rintro e_ w2 ⟨rfl, m, rfl⟩
  replace HA := Aside0.mk (HA.out.step (pw_below_drewN (Below.refl _ _) m))
  replace HX := Aside0.mk (blk_drewN HX.out m)
  generalize w1.drewN m = w2 at HA HX ⊢
  clear m HP
  have HF := Aside0.mk hr
  clear hr
  rcases hc with ⟨c1, rfl, rfl⟩ | ⟨c1, c2, rfl, rfl⟩ | ⟨i, ci, c1, c2, e1, rfl⟩
  · have C1 := Aside0.mk c1
    clear c1
    have hq1 := blk_cell HX.out 1
    have hq2 := blk_cell HX.out 2
    go_wp2_with fail
    clear hq1 hq2
    refine (Patch_bad5 HA.out.wt x.f2 x.f1 C1.out).mono ?_
    rintro e_ w3 ⟨rfl, q0⟩
    have q2 := q0.below
    clear q0
    replace HX := Aside0.mk (blk_below HX.out q2)
    replace HA := Aside0.mk (HA.out.step q2)
    clear q2
    have hq1 := blk_cell HX.out 1
    have hq2 := blk_cell HX.out 2
    go_wp2_with fail
    clear hq1 hq2
    refine (provisoref01_Patch.calls k _ _ _ x.f2 x.f1 _ _ w _ HA.out.below HA.out.row HF.out).mono ?_
    rintro e_ w4 ⟨v', rfl, q1, q2, q3⟩
    have HA4 := Aside0.mk (HA.out.joined q1 q2 q3)
    clear q1 q2 q3 HA HX
    obtain ⟨Ab', cb', rfl⟩ := Kd.R_slice HA4.out.row
    go_wp2
    go_ret2
    exact ⟨_, rfl, _, _, HA4.out⟩
  · have C1 := Aside0.mk c1
    have C2 := Aside0.mk c2
    clear c1 c2
    have hq1 := blk_cell HX.out 1
    have hq2 := blk_cell HX.out 2
    go_wp2_with fail
    clear hq1 hq2
    refine (Patch_bad1 HA.out.wt x.f2 x.f1 C1.out.1 C1.out.2 C2.out).mono ?_
    rintro e_ w3 ⟨rfl, q0⟩
    have q2 := q0.below
    clear q0
    replace HX := Aside0.mk (blk_below HX.out q2)
    replace HA := Aside0.mk (HA.out.step q2)
    clear q2
    have hq1 := blk_cell HX.out 1
    have hq2 := blk_cell HX.out 2
    go_wp2_with fail
    clear hq1 hq2
    refine (provisoref01_Patch.calls k _ _ _ x.f2 x.f1 _ _ w _ HA.out.below HA.out.row HF.out).mono ?_
    rintro e_ w4 ⟨v', rfl, q1, q2, q3⟩
    have HA4 := Aside0.mk (HA.out.joined q1 q2 q3)
    clear q1 q2 q3 HA HX
    obtain ⟨Ab', cb', rfl⟩ := Kd.R_slice HA4.out.row
    go_wp2
    go_ret2
    exact ⟨_, rfl, _, _, HA4.out⟩
  · have C1 := Aside0.mk c1
    have C2 := Aside0.mk c2
    have E1 := Aside0.mk e1
    have CI := Aside0.mk ci
    clear c1 c2 e1 ci
    have hq1 := blk_cell HX.out 1
    have hq2 := blk_cell HX.out 2
    go_wp2_with fail
    clear hq1 hq2
    have hcall := Patch_good HA.out.wt i x.f1 C1.out.1 C1.out.2 C2.out
    rw [← CI.out] at hcall
    refine hcall.mono ?_
    clear hcall
    rintro e_ w3 ⟨rfl, q2, q3, q4⟩
    rw [← E1.out] at q2
    replace q2 := q2.mono (ok' := fun k => S k ∨ w2.heap.size ≤ k) (fun k hk => .inl hk)
    replace q4 := q4.mono (S' := fun k => S k ∨ k = g) (fun k hk => .inl hk.1)
    have HX3 := Aside0.mk (blk_kept HX.out q4 (fun hh => hh.elim HAX.out.1 HAX.out.2.1))
    have HA3 := Aside0.mk (HA.out.wrote q2 q3 q4)
    clear q2 q3 q4 HX HA
    have HX := HX3
    have HA := HA3
    clear HX3 HA3
    have hq1 := blk_cell HX.out 1
    have hq2 := blk_cell HX.out 2
    go_wp2_with fail
    clear hq1 hq2
    refine (provisoref01_Patch.calls k _ _ _ x.f2 x.f1 _ _ w _ HA.out.below HA.out.row HF.out).mono ?_
    rintro e_ w4 ⟨v', rfl, q1, q2, q3⟩
    have HA4 := Aside0.mk (HA.out.joined q1 q2 q3)
    clear q1 q2 q3 HA HX
    obtain ⟨Ab', cb', rfl⟩ := Kd.R_slice HA4.out.row
    go_wp2
    go_ret2
    exact ⟨_, rfl, _, _, HA4.out⟩

def PutOK (k : Nat) (bs : List Int) (x : S44) (bs' : List Int) : Prop :=
  (provisolaw01_pick.f x.f0 9 = some 0 ∧ ∃ r, provisoref01_Put.f k bs x.f1 1 = some (bs', r) ∧ (((0 ≤ x.f1 ∧ x.f1 ≤ 255) ∧ bs.length + 1 ≤ 1048576 ∧ bs' = bs ++ [byt x.f1 1] ∧ r = 0) ∨ ((0 ≤ x.f1 ∧ x.f1 ≤ 255) ∧ 1048576 < bs.length + 1 ∧ bs' = bs ∧ r = 7) ∨ ((x.f1 < 0 ∨ x.f1 > 255) ∧ bs' = bs ∧ r = 5))) ∨
  (provisolaw01_pick.f x.f0 9 = some 1 ∧ ∃ r, provisoref01_Put.f k bs x.f1 2 = some (bs', r) ∧ (((0 ≤ x.f1 ∧ x.f1 ≤ 65535) ∧ bs.length + 2 ≤ 1048576 ∧ bs' = bs ++ [byt x.f1 256, byt x.f1 1] ∧ r = 0) ∨ ((0 ≤ x.f1 ∧ x.f1 ≤ 65535) ∧ 1048576 < bs.length + 2 ∧ bs' = bs ∧ r = 7) ∨ ((x.f1 < 0 ∨ x.f1 > 65535) ∧ bs' = bs ∧ r = 5))) ∨
  (provisolaw01_pick.f x.f0 9 = some 2 ∧ ∃ r, provisoref01_Put.f k bs x.f1 4 = some (bs', r) ∧ ((((-2147483648) ≤ x.f1 ∧ x.f1 ≤ 2147483647) ∧ bs.length + 4 ≤ 1048576 ∧ bs' = bs ++ [byt x.f1 16777216, byt x.f1 65536, byt x.f1 256, byt x.f1 1] ∧ r = 0) ∨ (((-2147483648) ≤ x.f1 ∧ x.f1 ≤ 2147483647) ∧ 1048576 < bs.length + 4 ∧ bs' = bs ∧ r = 7) ∨ ((x.f1 < (-2147483648) ∨ x.f1 > 2147483647) ∧ bs' = bs ∧ r = 5))) ∨
  (provisolaw01_pick.f x.f0 9 = some 3 ∧ x.f4.length ≤ 140737488351232 ∧ ∃ r, provisoref01_Join.f bs x.f4 = some (bs', r) ∧ provisoplain_Untouched.f k (x.f4 ++ [165, 90, 195, 60]) x.f4 = some true ∧ ((bs.length + x.f4.length ≤ 1048576 ∧ bs' = bs ++ x.f4 ∧ r = 0) ∨ (1048576 < bs.length + x.f4.length ∧ bs' = bs ∧ r = 7))) ∨
  (provisolaw01_pick.f x.f0 9 = some 4 ∧ ∃ r, (wire_IsName.f k x.f3 = some true ∧ provisoref01_IsName.f k x.f3 = some true ∧ x.f3.size ≤ 24 ∧ provisoref01_Join.f bs (nameBytes x.f3) = some (bs', r) ∧ ((bs.length + (x.f3.size + 1) ≤ 1048576 ∧ bs' = bs ++ nameBytes x.f3 ∧ r = 0) ∨ (1048576 < bs.length + (x.f3.size + 1) ∧ bs' = bs ∧ r = 7))) ∨ (wire_IsName.f k x.f3 = some false ∧ provisoref01_IsName.f k x.f3 = some false ∧ bs' = bs)) ∨
  (provisolaw01_pick.f x.f0 9 = some 5 ∧ ∃ r, provisoref01_Patch.f k bs x.f2 x.f1 = some (bs', r) ∧ (((x.f1 < 0 ∨ x.f1 > 65535) ∧ bs' = bs ∧ r = 5) ∨ ((0 ≤ x.f1 ∧ x.f1 ≤ 65535) ∧ (x.f2 < 0 ∨ x.f2 > (bs.length : Int) - 2) ∧ bs' = bs ∧ r = 1) ∨ (∃ i : Nat, x.f2 = (i : Int) ∧ (0 ≤ x.f1 ∧ x.f1 ≤ 65535) ∧ i + 2 ≤ bs.length ∧ bs' = (bs.set i (x.f1 / 256 % 256)).set (i + 1) (x.f1 % 256) ∧ r = 0))) ∨
  (provisolaw01_pick.f x.f0 9 = some 6 ∧ ∃ (n : Nat) (r : Int), provisolaw01_pick.f x.f1 1048584 = some (n : Int) ∧ n ≤ 1048584 ∧ provisoref01_Join.f bs (List.replicate n 0) = some (bs', r) ∧ ((bs.length + n ≤ 1048576 ∧ bs' = bs ++ List.replicate n 0 ∧ r = 0) ∨ (1048576 < bs.length + n ∧ bs' = bs ∧ r = 7))) ∨
  (provisolaw01_pick.f x.f0 9 = some 7 ∧ bs' = bs) ∨
  (provisolaw01_pick.f x.f0 9 = some 8 ∧ slices_Equal_byte_byte.f k bs bs = some true ∧ bs' = bs)
theorem put_calls (k : Nat) (w : World) (g : Nat) (bs bs' : List Int) (v : Value) (W : World) (hst : PutSt w g bs v W) (x : S44) (A4 : Option Addr) (c4 : Nat) (hC4 : Kd.C (Kd.int .u8) w A4 x.f4.length x.f4) (hc4 : x.f4.length ≤ c4) (h : PutOK k bs x bs') :
    Calls Try.prog 26 #[.pointer (some ⟨g, 0, none⟩), v, .agg #[.int .i64 x.f0, .int .i64 x.f1, .int .i64 x.f2, .string x.f3, .slice A4 x.f4.length c4]] W fun e w' => ∃ v' : Value, e = .returned (.tuple #[v', .bool true]) ∧ PutSt w g bs' v' w' := by
  rcases h with ⟨hp, r, h1, h2⟩ | ⟨hp, r, h1, h2⟩ | ⟨hp, r, h1, h2⟩ | ⟨hp, h0, r, h1, h2, h3⟩ | ⟨hp, r, h1⟩ | ⟨hp, r, h1, h2⟩ | ⟨hp, n, r, h1, h2, h3, h4⟩ | ⟨hp, rfl⟩ | ⟨hp, h1, rfl⟩
  · exact put_0 k w g bs bs' v W hst x A4 c4 hp r h1 h2
  · exact put_1 k w g bs bs' v W hst x A4 c4 hp r h1 h2
  · exact put_2 k w g bs bs' v W hst x A4 c4 hp r h1 h2
  · exact put_3 k w g bs bs' v W hst x A4 c4 hp hC4 hc4 h0 r h1 h2 h3
  · exact put_4 k w g bs bs' v W hst x A4 c4 hp r h1
  · exact put_5 k w g bs bs' v W hst x A4 c4 hp r h1 h2
  · exact put_6 k w g bs bs' v W hst x A4 c4 hp n h1 h2 r h3 h4
  · exact put_7 k w g bs' v W hst x A4 c4 hp
  · exact put_8 k w g bs' v W hst x A4 c4 hp h1

end Go.Proofs.Ytklbkonehcjmjaa.P

end

section
namespace Go.Proofs.Ytklbkonehcjmjaa.P
open Go.RowKit Go.Proofs.YtklbkonehcjmjaaW.PrintWords Go.Proofs.YtklbkonehcjmjaaW.PrintLast Go.Proofs.YtklbkonehcjmjaaW.PrintMore
attribute [local go_sem] max2_int min2_int max_two min_two max_three min_three max_four min_four   -- for this text's walks alone
set_option linter.unusedVariables false
set_option linter.unusedSimpArgs false

def provisolaw01_WireWrites.Facts (l0 : List S44) : Prop := ∃ (k : Nat) (st : Nat → List Int), st 0 = [] ∧ (∀ i, i < l0.length → PutOK k (st i) (rd_T44 l0 (i : Int)) (st (i + 1))) ∧ slices_Equal_byte_byte.f k (st l0.length) (st l0.length) = some true
set_option maxHeartbeats 6400000 in
set_option maxRecDepth 100000 in
theorem provisolaw01_WireWrites.calls (A0 : Option Addr) (c0 : Nat) (l0 : List S44) (w : World) (hr0 : Kd.C k44 w A0 l0.length l0) (hc0 : l0.length ≤ c0) (h : provisolaw01_WireWrites.Facts l0) :
    Calls Try.prog 6 #[.slice A0 l0.length c0] w fun e w' => e = .returned (.bool true) ∧ Below w.heap.size w w' := by
  obtain ⟨k, st, h0, hst, heq⟩ := h
  have hlen : l0.length ≤ 9223372036854775807 := hr0.2.1
  have HR := Aside0.mk hr0
  have HS := Aside0.mk hst
  have HE := Aside0.mk heq
  have H0 := Aside0.mk h0
  clear hr0 hc0 hst heq h0
  go_enter Try.func6, Try.ntmps6
  go_wp2_with fail
  refine (New_calls w).mono ?_
  rintro e_ w1 ⟨g, rfl, hwt, hb⟩
  have hq : PutSt w g (st 0) (.slice none 0 0) w1 := by
    rw [H0.out]
    have hwb := hwt.bound
    obtain ⟨_, _, v9, h8, _⟩ := hwt
    exact ⟨_, fun _ => False, hwb, Kd.R_nil _ _ _ _ _, hb, fun k hk => hk.elim, fun k hk => hk.elim, fun k hk => hk.2, fun k hk => hk.elim, blk_lt h8⟩
  have HQ : Aside0 (∃ A c, (Value.slice none 0 0 = .slice A (st 0).length c) ∧ PutSt w g (st 0) (.slice none 0 0) w1) := ⟨none, 0, by rw [H0.out]; rfl, hq⟩
  clear hwt hb hq
  go_wp2_with fail
  go_loopw [14, 4] (fun v14 v4 wr => ∃ i : Nat, v14 = .int .i64 (i : Int) ∧ i ≤ l0.length ∧ Aside0 (∃ A c, v4 = .slice A (st i).length c ∧ PutSt w g (st i) v4 wr)) (fun v14 _ _ => ((l0.length : Int) - intOf v14).toNat)
  case atStart => exact ⟨0, rfl, Nat.zero_le _, HQ⟩
  case round =>
    obtain ⟨i, rfl, hi, HQ⟩ := hrel
    obtain ⟨Ab, cb, hv4, hP⟩ := HQ.out
    subst hv4
    clear HQ
    by_cases c1 : i < l0.length
    · have c1b : decide ((i : Int) < (l0.length : Int)) = true := decide_eq_true (by omega)
      have p1 : (0 ≤ (i : Int)) = True := eq_true (by omega)
      have p2 : ((i : Int) < (l0.length : Int)) = True := eq_true (by omega)
      have HI : Aside0 (i < l0.length) := ⟨c1⟩
      have HW9 : Aside0 (wrap64 ((i : Int) + 1) = ((i + 1 : Nat) : Int)) := ⟨by unfold wrap64; omega⟩
      obtain ⟨S, T, hP⟩ := hP
      obtain ⟨ad, A4, c4, e1, hx0, hx1, hx2, hx3, hx4, hl4, hC4⟩ := at_T44 HR.out (i : Int) (by omega) (by omega)
      cases e1
      have hok := HS.out i c1
      have hbx := hP.below
      replace hx0 := (hbx.cell (World.block_lt_of_cell? w _ hx0)).trans hx0
      replace hx1 := (hbx.cell (World.block_lt_of_cell? w _ hx1)).trans hx1
      replace hx2 := (hbx.cell (World.block_lt_of_cell? w _ hx2)).trans hx2
      replace hx3 := (hbx.cell (World.block_lt_of_cell? w _ hx3)).trans hx3
      replace hx4 := (hbx.cell (World.block_lt_of_cell? w _ hx4)).trans hx4
      simp only [Int.toNat_natCast] at hx0 hx1 hx2 hx3 hx4
      generalize rd_T44 l0 (i : Int) = x at hx0 hx1 hx2 hx3 hx4 hl4 hC4 hok
      have HP := Aside0.mk hP
      have HOK := Aside0.mk hok
      have HC4 := Aside0.mk hC4
      have HL4 := Aside0.mk hl4
      clear hP hok hC4 hl4 hbx c1
      go_wp2_with (first | ((with_reducible refine gate_dst (N := 6) rfl ?_); refine alloc_row rfl 44 rfl #[.int .i64 0, .int .i64 0, .int .i64 0, .string ⟨#[]⟩, .slice none 0 0] (by kernel_rfl) ?_; clear hx0 hx1 hx2 hx3 hx4; intro gx hgx w5 hx5 hb5; have HX := Aside0.mk hx5; have HAX : Aside0 ((∀ k, S k → ¬ k = gx) ∧ (∀ k, T k → ¬ k = gx) ∧ ¬ g = gx ∧ w.heap.size ≤ gx) := ⟨⟨fun k hk e => Nat.lt_irrefl _ (hgx ▸ e ▸ HP.out.sb k hk), fun k hk e => Nat.lt_irrefl _ (hgx ▸ e ▸ HP.out.tb k hk), fun e => Nat.lt_irrefl _ (hgx ▸ e ▸ HP.out.gb), hgx ▸ HP.out.below.size⟩⟩; replace HP := Aside0.mk (HP.out.step hb5); clear hx5 hb5 hgx) | (refine store_row rfl 44 _ _ rfl gx rfl #[.int .i64 x.f0, .int .i64 x.f1, .int .i64 x.f2, .string x.f3, .slice A4 x.f4.length c4] rfl HX.out (by kernel_rfl) rfl (by show _ = _; kernel_rfl) ?_; intro w6 hx6 hk6 hb6; have f0 := blk_cell hx6 0; have f1 := blk_cell hx6 1; have f2 := blk_cell hx6 2; have f3 := blk_cell hx6 3; have f4 := blk_cell hx6 4; replace HP := Aside0.mk (HP.out.kept hk6 (hb6 _ _ HAX.out.2.2.2 HP.out.below) HAX.out.1 HAX.out.2.1 HAX.out.2.2.1); clear hx6 hk6 hb6 HX))
      clear f0 f1 f2 f3 f4
      refine (put_calls k w g (st i) (st (i + 1)) _ _ ⟨S, T, HP.out⟩ x A4 c4 HC4.out HL4.out HOK.out).mono ?_
      rintro e_ w7 ⟨v', rfl, hP7⟩
      obtain ⟨S7, T7, hP8⟩ := hP7
      obtain ⟨A7, c7, rfl⟩ := Kd.R_slice hP8.row
      have HP8 : Aside0 (∃ A c, (Value.slice A7 (st (i + 1)).length c7 = .slice A (st (i + 1)).length c) ∧ PutSt w g (st (i + 1)) (.slice A7 (st (i + 1)).length c7) w7) := ⟨A7, c7, rfl, S7, T7, hP8⟩
      clear hP8 HP
      go_wp2
      rw [HW9.out]
      exact ⟨⟨i + 1, rfl, HI.out, HP8⟩, by have := HI.out; simp [intOf]; omega⟩
    · have c1b : decide ((i : Int) < (l0.length : Int)) = false := decide_eq_false (by omega)
      obtain rfl : i = l0.length := by omega
      obtain ⟨S, T, hP⟩ := hP
      have HP := Aside0.mk hP
      clear hP
      go_wp2_with fail
      refine (Len_wt HP.out.wt).mono ?_
      rintro e_ w3 ⟨rfl, q0⟩
      replace HP := Aside0.mk (HP.out.step q0.below)
      clear q0
      go_wp2_with fail
      refine (Bytes_wt HP.out.wt).mono ?_
      rintro e_ w4 ⟨vb, rfl, q1, q2⟩
      obtain ⟨Ac, cc, rfl, hcl, hcc⟩ := Kd.R_reads q1
      replace HP := Aside0.mk (HP.out.step q2)
      have HC := Aside0.mk hcc
      have HCL := Aside0.mk hcl
      obtain ⟨Ad, cd, e9, hdl, hdc⟩ := Kd.R_reads HP.out.row
      cases e9
      have HD := Aside0.mk hdc
      have HDL := Aside0.mk hdl
      clear q1 q2 hcl hcc hdl hdc
      go_wp2_with fail
      refine (slices_Equal_byte_byte.calls k Ac cc (st l0.length) Ab cb (st l0.length) true _ HC.out HCL.out HD.out HDL.out HE.out).mono ?_
      rintro e_ w5 ⟨rfl, q0⟩
      replace HP := Aside0.mk (HP.out.step q0.below)
      clear q0
      go_wp2
      go_ret
      exact ⟨rfl, HP.out.below⟩





end Go.Proofs.Ytklbkonehcjmjaa.P

end

section
namespace Go.Proofs.Ytklbkonehcjmjaa.P
open Go.RowKit Go.Proofs.YtklbkonehcjmjaaW.PrintWords
def provisolaw01_WireWrites.Pure : Prop := ∀ (l0 : List (S44)), (fun l : List (S44) => l.length ≤ 9223372036854775807 ∧ l.length * 64 ≤ 140737488351232 ∧ ∀ x ∈ l, Ok44 x) l0 → provisolaw01_WireWrites.Facts l0
end Go.Proofs.Ytklbkonehcjmjaa.P

end

section
namespace Go.Proofs.Ytklbkonehcjmjaa.P
open Go.RowKit Go.Proofs.YtklbkonehcjmjaaW.PrintWords Go.Proofs.YtklbkonehcjmjaaW.PrintLast Go.Proofs.YtklbkonehcjmjaaW.PrintMore
set_option linter.unusedVariables false
set_option linter.unusedSimpArgs false
def sgn (i c : Int) : Bool :=
  (decide (97 ≤ c) && decide (c ≤ 122)) || (decide (65 ≤ c) && decide (c ≤ 90)) || (decide (0 < i) && ((decide (48 ≤ c) && decide (c ≤ 57)) || decide (c = 95)))
def tailName (s : ByteArray) : Nat → Bool
  | 0 => true
  | d + 1 => sgn ((s.size : Int) - (d + 1)) (bt s ((s.size : Int) - (d + 1))) && tailName s d
def isNameB (s : ByteArray) : Bool := decide (1 ≤ s.size) && decide (s.size ≤ 24) && tailName s s.size
theorem name_tells (s : ByteArray) (hn : s.size ≤ 140737488351232) (d : Nat) : ∀ (k : Nat) (i : Int), 0 ≤ i → i ≤ s.size → (s.size : Int) - i = d → 3 * d < k → wire_IsName.l0 k s (s.size : Int) i = some (tailName s d) := by
  induction d with
  | zero =>
    intro k i h0 h1 hd hk
    obtain ⟨k, rfl⟩ : ∃ m, k = m + 1 := ⟨k - 1, by omega⟩
    simp only [wire_IsName.l0]; rw [if_neg (by omega)]; rfl
  | succ d ih =>
    intro k i h0 h1 hd hk
    obtain ⟨k, rfl⟩ : ∃ m, k = m + 3 := ⟨k - 3, by omega⟩
    have hlt : i < (s.size : Int) := by omega
    have hi : (s.size : Int) - (d + 1) = i := by omega
    have hw : wrap64 (i + 1) = i + 1 := by unfold wrap64; omega
    have h := ih k (i + 1) (by omega) (by omega) (by omega) (by omega)
    simp only [wire_IsName.l0, wire_IsName.j2, wire_IsName.j3, tailName, hi]
    rw [if_pos hlt, if_pos h0, if_pos hlt, hw]
    have h' : wire_IsName.l0 k s (s.size : Int) (i + 1) = some (tailName s d) := h
    rw [h']
    generalize bt s i = c
    generalize tailName s d = t
    by_cases a1 : 97 ≤ c <;> by_cases a2 : c ≤ 122 <;> by_cases a3 : 65 ≤ c <;> by_cases a4 : c ≤ 90 <;> by_cases a5 : 0 < i <;> by_cases a6 : 48 ≤ c <;> by_cases a7 : c ≤ 57 <;> by_cases a8 : c = 95 <;> (try omega) <;> simp [sgn, a1, a2, a3, a4, a5, a6, a7, a8]
theorem name_100 (s : ByteArray) : wire_IsName.f 100 s = some (isNameB s) := by
  unfold wire_IsName.f isNameB
  by_cases a1 : (s.size : Int) = 0
  · rw [if_pos a1, decide_eq_false (by omega)]
    simp [wire_IsName.j0]
  · rw [if_neg a1, decide_eq_true (by omega : 1 ≤ s.size)]
    by_cases a3 : (s.size : Int) > 24
    · rw [decide_eq_true a3, decide_eq_false (by omega : ¬ s.size ≤ 24)]
      simp [wire_IsName.j0]
    · rw [decide_eq_false a3, decide_eq_true (by omega : s.size ≤ 24)]
      have h1 := name_tells s (by omega) s.size 99 0 (by omega) (by omega) (by omega) (by omega)
      simp only [wire_IsName.j0]
      rw [if_neg (by simp)]
      rw [show wire_IsName.l0 99 s (s.size : Int) 0 = some (tailName s s.size) from h1]
      simp
theorem isNameB_size {s : ByteArray} (h : isNameB s = true) : 1 ≤ s.size ∧ s.size ≤ 24 := by
  unfold isNameB at h
  simp at h
  exact ⟨h.1.1, h.1.2⟩
end Go.Proofs.Ytklbkonehcjmjaa.P

end

section
namespace Go.Proofs.Ytklbkonehcjmjaa.Pure
open Go.RowKit Go.Proofs.Ytklbkonehcjmjaa.P Go.Proofs.YtklbkonehcjmjaaW.PrintWords Go.Proofs.YtklbkonehcjmjaaW.PrintLast Go.Proofs.YtklbkonehcjmjaaW.PrintMore
set_option linter.unusedSimpArgs false
set_option linter.unusedVariables false
theorem ref_tells (s : ByteArray) (hn : s.size ≤ 140737488351232) (d : Nat) : ∀ (k : Nat) (i : Int), 0 ≤ i → i ≤ s.size → (s.size : Int) - i = d → d < k →
    provisoref01_IsName.l0 k s i = some (tailName s d) := by
  induction d with
  | zero =>
    intro k i h0 h1 hd hk
    obtain ⟨k, rfl⟩ : ∃ m, k = m + 1 := ⟨k - 1, by omega⟩
    simp only [provisoref01_IsName.l0]; rw [if_neg (by omega)]; rfl
  | succ d ih =>
    intro k i h0 h1 hd hk
    obtain ⟨k, rfl⟩ : ∃ m, k = m + 1 := ⟨k - 1, by omega⟩
    have hlt : i < (s.size : Int) := by omega
    have hi : (s.size : Int) - (d + 1) = i := by omega
    have hw : wrap64 (i + 1) = i + 1 := by unfold wrap64; omega
    have h := ih k (i + 1) (by omega) (by omega) (by omega) (by omega)
    simp only [provisoref01_IsName.l0, tailName, hi]
    rw [if_pos hlt, if_pos h0, hw, h]
    generalize bt s i = c
    generalize tailName s d = t
    by_cases a1 : 97 ≤ c <;> by_cases a2 : c ≤ 122 <;> by_cases a3 : 65 ≤ c <;> by_cases a4 : c ≤ 90 <;> by_cases a5 : i = 0 <;> by_cases a6 : c < 48 <;> by_cases a7 : 57 < c <;> by_cases a8 : c = 95 <;> (try omega) <;> simp [sgn, a1, a2, a3, a4, a5, a6, a7, a8] <;> omega
theorem ref_100 (s : ByteArray) : provisoref01_IsName.f 100 s = some (isNameB s) := by
  unfold provisoref01_IsName.f isNameB
  by_cases a1 : (s.size : Int) < 1
  · rw [if_pos a1, decide_eq_false (by omega : ¬ 1 ≤ s.size)]
    simp [provisoref01_IsName.j0]
  · rw [if_neg a1, decide_eq_true (by omega : 1 ≤ s.size)]
    by_cases a3 : (s.size : Int) > 24
    · rw [decide_eq_true a3, decide_eq_false (by omega : ¬ s.size ≤ 24)]
      simp [provisoref01_IsName.j0]
    · rw [decide_eq_false a3, decide_eq_true (by omega : s.size ≤ 24)]
      have h1 := ref_tells s (by omega) s.size 99 0 (by omega) (by omega) (by omega) (by omega)
      simp only [provisoref01_IsName.j0]
      rw [if_neg (by simp), h1]
      simp
theorem name_K (s : ByteArray) (K : Nat) (h : 100 ≤ K) : wire_IsName.f K s = some (isNameB s) := at_rounds (wire_IsName.mono s) h (name_100 s)
theorem ref_K (s : ByteArray) (K : Nat) (h : 100 ≤ K) : provisoref01_IsName.f K s = some (isNameB s) := at_rounds (provisoref01_IsName.mono s) h (ref_100 s)
theorem join_is (l0 l1 : List Int) (h0 : l0.length ≤ 1048576) (h1 : l1.length ≤ 140737488351232) : ∃ r l, provisoref01_Join.f l0 l1 = some (l, r) ∧ ((l0.length + l1.length ≤ 1048576 ∧ l = l0 ++ l1 ∧ r = 0) ∨ (1048576 < l0.length + l1.length ∧ l = l0 ∧ r = 7)) := by
  have hw : wrap64 ((l0.length : Int) + (l1.length : Int)) = (l0.length : Int) + (l1.length : Int) := by unfold wrap64; omega
  unfold provisoref01_Join.f
  rw [hw]
  by_cases h : l0.length + l1.length ≤ 1048576
  · refine ⟨0, l0 ++ l1, ?_, .inl ⟨h, rfl, rfl⟩⟩
    rw [if_neg (by omega)]
    simp only [Option.bind_some, List.nil_append, List.length_nil]
    rw [if_pos (by omega), if_pos (by omega)]
  · refine ⟨7, l0, ?_, .inr ⟨by omega, rfl, rfl⟩⟩
    rw [if_pos (by omega)]
theorem rl_end (k : Nat) (n : Int) (bs : List Int) : provisoref01_Put.l0 (k + 1) n bs (-1) = some (bs, 0) := by
  simp only [provisoref01_Put.l0]
  rw [if_neg (by omega)]
theorem rl_step (k : Nat) (n : Int) (bs : List Int) (x y s : Int) (hb : bs.length < 140737488355328) (h0 : 0 ≤ x) (h3 : x ≤ 3) (hy : y = x - 1) (hs : shr .i64 n (8 * x) % 256 = byt n s) : provisoref01_Put.l0 (k + 1) n bs x = provisoref01_Put.l0 k n (bs ++ [byt n s]) y := by
  have w1 : wrap64 (8 * x) = 8 * x := by unfold wrap64; omega
  have w2 : wrap64 (x - 1) = y := by rw [hy]; unfold wrap64; omega
  simp only [provisoref01_Put.l0]
  rw [if_pos (by omega), w1, if_pos (by omega), if_pos hb, hs, w2]
theorem rj1_bad (k : Nat) (bs : List Int) (n w : Int) : provisoref01_Put.j1 (k + 1) bs n w true = some (bs, 5) := by
  simp only [provisoref01_Put.j1]
  rw [if_pos True.intro]
theorem rj1_full (k : Nat) (bs : List Int) (n w : Int) (hb : bs.length ≤ 1048576) (hw : 1 ≤ w ∧ w ≤ 4) (h : (bs.length : Int) + w > 1048576) : provisoref01_Put.j1 (k + 1) bs n w false = some (bs, 7) := by
  have w1 : wrap64 ((bs.length : Int) + w) = (bs.length : Int) + w := by unfold wrap64; omega
  simp only [provisoref01_Put.j1]
  rw [if_neg Bool.false_ne_true, w1, if_pos h]
theorem rj1_good (k : Nat) (bs : List Int) (n w y : Int) (hb : bs.length ≤ 1048576) (hw : 1 ≤ w ∧ w ≤ 4) (h : ¬ (bs.length : Int) + w > 1048576) (hy : y = w - 1) : provisoref01_Put.j1 (k + 1) bs n w false = provisoref01_Put.l0 k n bs y := by
  have w1 : wrap64 ((bs.length : Int) + w) = (bs.length : Int) + w := by unfold wrap64; omega
  have w2 : wrap64 (w - 1) = y := by rw [hy]; unfold wrap64; omega
  simp only [provisoref01_Put.j1]
  rw [if_neg Bool.false_ne_true, w1, if_neg h]
  simp only [Option.bind_some, List.nil_append, List.length_nil]
  rw [if_pos (by omega), w2]
theorem sh0 (n : Int) : shr .i64 n (8 * 0) % 256 = byt n 1 := by show shr .i64 n 0 % 256 = _; unfold shr byt; simp [IntKind.bits]
theorem sh1 (n : Int) : shr .i64 n (8 * 1) % 256 = byt n 256 := by show shr .i64 n 8 % 256 = _; unfold shr byt; simp [IntKind.bits]; omega
theorem sh2 (n : Int) : shr .i64 n (8 * 2) % 256 = byt n 65536 := by show shr .i64 n 16 % 256 = _; unfold shr byt; simp [IntKind.bits]; omega
theorem sh3 (n : Int) : shr .i64 n (8 * 3) % 256 = byt n 16777216 := by show shr .i64 n 24 % 256 = _; unfold shr byt; simp [IntKind.bits]; omega
theorem rput_at1 (m : Nat) (bs : List Int) (n : Int) : ∃ b : Bool, b = decide (n < 0 ∨ n > 255) ∧ provisoref01_Put.f (m + 10) bs n 1 = provisoref01_Put.j1 (m + 9) bs n 1 b := by
  unfold provisoref01_Put.f
  rw [if_pos rfl]
  by_cases h1 : n < 0
  · refine ⟨true, (decide_eq_true (.inl h1)).symm, ?_⟩
    rw [if_pos h1]; simp only [provisoref01_Put.j0]; rw [if_pos True.intro]
  · by_cases h2 : n > 255
    · refine ⟨true, (decide_eq_true (.inr h2)).symm, ?_⟩
      rw [if_neg h1, decide_eq_true h2]; simp only [provisoref01_Put.j0]; rw [if_pos True.intro]
    · refine ⟨false, (decide_eq_false (by omega)).symm, ?_⟩
      rw [if_neg h1, decide_eq_false h2]; simp only [provisoref01_Put.j0]; rw [if_neg Bool.false_ne_true, if_neg (by omega), if_neg (by omega)]
theorem ref_put1 (K : Nat) (hK : 20 ≤ K) (bs : List Int) (hb : bs.length ≤ 1048576) (n : Int) : ∃ r bs', provisoref01_Put.f K bs n 1 = some (bs', r) ∧ (((0 ≤ n ∧ n ≤ 255) ∧ bs.length + 1 ≤ 1048576 ∧ bs' = bs ++ [byt n 1] ∧ r = 0) ∨ ((0 ≤ n ∧ n ≤ 255) ∧ 1048576 < bs.length + 1 ∧ bs' = bs ∧ r = 7) ∨ ((n < 0 ∨ n > 255) ∧ bs' = bs ∧ r = 5)) := by
  obtain ⟨m, rfl⟩ : ∃ m, K = m + 10 := ⟨K - 10, by omega⟩
  obtain ⟨b, e1, e2⟩ := rput_at1 m bs n
  rw [e2]
  by_cases h1 : n < 0 ∨ n > 255
  · rw [e1, decide_eq_true h1, rj1_bad]
    exact ⟨5, bs, rfl, .inr (.inr ⟨h1, rfl, rfl⟩)⟩
  · rw [e1, decide_eq_false h1]
    by_cases h2 : (bs.length : Int) + 1 > 1048576
    · rw [rj1_full _ bs n 1 hb (by omega) h2]
      exact ⟨7, bs, rfl, .inr (.inl ⟨⟨by omega, by omega⟩, by omega, rfl, rfl⟩)⟩
    rw [rj1_good _ bs n 1 0 hb (by omega) h2 (by omega)]
    rw [rl_step _ n _ 0 (-1) 1 (by (try simp only [List.length_append, List.length_cons, List.length_nil]); omega) (by omega) (by omega) (by omega) (sh0 n)]
    rw [rl_end]
    exact ⟨0, _, rfl, .inl ⟨⟨by omega, by omega⟩, by omega, by simp only [List.append_assoc, List.cons_append, List.nil_append, List.append_nil], rfl⟩⟩
theorem rput_at2 (m : Nat) (bs : List Int) (n : Int) : ∃ b : Bool, b = decide (n < 0 ∨ n > 65535) ∧ provisoref01_Put.f (m + 10) bs n 2 = provisoref01_Put.j1 (m + 9) bs n 2 b := by
  unfold provisoref01_Put.f
  rw [if_neg (by omega)]; simp only [provisoref01_Put.j0]; rw [if_neg Bool.false_ne_true, if_pos True.intro]
  by_cases h1 : n < 0
  · exact ⟨true, (decide_eq_true (.inl h1)).symm, by rw [if_pos h1]⟩
  · by_cases h2 : n > 65535
    · exact ⟨true, (decide_eq_true (.inr h2)).symm, by rw [if_neg h1, if_pos h2, decide_eq_true h2]⟩
    · exact ⟨false, (decide_eq_false (by omega)).symm, by rw [if_neg h1, if_neg h2, if_neg (by omega)]⟩
theorem ref_put2 (K : Nat) (hK : 20 ≤ K) (bs : List Int) (hb : bs.length ≤ 1048576) (n : Int) : ∃ r bs', provisoref01_Put.f K bs n 2 = some (bs', r) ∧ (((0 ≤ n ∧ n ≤ 65535) ∧ bs.length + 2 ≤ 1048576 ∧ bs' = bs ++ [byt n 256, byt n 1] ∧ r = 0) ∨ ((0 ≤ n ∧ n ≤ 65535) ∧ 1048576 < bs.length + 2 ∧ bs' = bs ∧ r = 7) ∨ ((n < 0 ∨ n > 65535) ∧ bs' = bs ∧ r = 5)) := by
  obtain ⟨m, rfl⟩ : ∃ m, K = m + 10 := ⟨K - 10, by omega⟩
  obtain ⟨b, e1, e2⟩ := rput_at2 m bs n
  rw [e2]
  by_cases h1 : n < 0 ∨ n > 65535
  · rw [e1, decide_eq_true h1, rj1_bad]
    exact ⟨5, bs, rfl, .inr (.inr ⟨h1, rfl, rfl⟩)⟩
  · rw [e1, decide_eq_false h1]
    by_cases h2 : (bs.length : Int) + 2 > 1048576
    · rw [rj1_full _ bs n 2 hb (by omega) h2]
      exact ⟨7, bs, rfl, .inr (.inl ⟨⟨by omega, by omega⟩, by omega, rfl, rfl⟩)⟩
    rw [rj1_good _ bs n 2 1 hb (by omega) h2 (by omega)]
    rw [rl_step _ n _ 1 (0) 256 (by (try simp only [List.length_append, List.length_cons, List.length_nil]); omega) (by omega) (by omega) (by omega) (sh1 n)]
    rw [rl_step _ n _ 0 (-1) 1 (by (try simp only [List.length_append, List.length_cons, List.length_nil]); omega) (by omega) (by omega) (by omega) (sh0 n)]
    rw [rl_end]
    exact ⟨0, _, rfl, .inl ⟨⟨by omega, by omega⟩, by omega, by simp only [List.append_assoc, List.cons_append, List.nil_append, List.append_nil], rfl⟩⟩
theorem rput_at4 (m : Nat) (bs : List Int) (n : Int) : ∃ b : Bool, b = decide (n < (-2147483648) ∨ n > 2147483647) ∧ provisoref01_Put.f (m + 10) bs n 4 = provisoref01_Put.j1 (m + 9) bs n 4 b := by
  unfold provisoref01_Put.f
  rw [if_neg (by omega)]; simp only [provisoref01_Put.j0]; rw [if_neg Bool.false_ne_true, if_neg (by omega), if_pos True.intro]
  by_cases h1 : n < (-2147483648)
  · exact ⟨true, (decide_eq_true (.inl h1)).symm, by rw [if_pos h1]⟩
  · by_cases h2 : n > 2147483647
    · exact ⟨true, (decide_eq_true (.inr h2)).symm, by rw [if_neg h1, decide_eq_true h2]⟩
    · exact ⟨false, (decide_eq_false (by omega)).symm, by rw [if_neg h1, decide_eq_false h2]⟩
theorem ref_put4 (K : Nat) (hK : 20 ≤ K) (bs : List Int) (hb : bs.length ≤ 1048576) (n : Int) : ∃ r bs', provisoref01_Put.f K bs n 4 = some (bs', r) ∧ ((((-2147483648) ≤ n ∧ n ≤ 2147483647) ∧ bs.length + 4 ≤ 1048576 ∧ bs' = bs ++ [byt n 16777216, byt n 65536, byt n 256, byt n 1] ∧ r = 0) ∨ (((-2147483648) ≤ n ∧ n ≤ 2147483647) ∧ 1048576 < bs.length + 4 ∧ bs' = bs ∧ r = 7) ∨ ((n < (-2147483648) ∨ n > 2147483647) ∧ bs' = bs ∧ r = 5)) := by
  obtain ⟨m, rfl⟩ : ∃ m, K = m + 10 := ⟨K - 10, by omega⟩
  obtain ⟨b, e1, e2⟩ := rput_at4 m bs n
  rw [e2]
  by_cases h1 : n < (-2147483648) ∨ n > 2147483647
  · rw [e1, decide_eq_true h1, rj1_bad]
    exact ⟨5, bs, rfl, .inr (.inr ⟨h1, rfl, rfl⟩)⟩
  · rw [e1, decide_eq_false h1]
    by_cases h2 : (bs.length : Int) + 4 > 1048576
    · rw [rj1_full _ bs n 4 hb (by omega) h2]
      exact ⟨7, bs, rfl, .inr (.inl ⟨⟨by omega, by omega⟩, by omega, rfl, rfl⟩)⟩
    rw [rj1_good _ bs n 4 3 hb (by omega) h2 (by omega)]
    rw [rl_step _ n _ 3 (2) 16777216 (by (try simp only [List.length_append, List.length_cons, List.length_nil]); omega) (by omega) (by omega) (by omega) (sh3 n)]
    rw [rl_step _ n _ 2 (1) 65536 (by (try simp only [List.length_append, List.length_cons, List.length_nil]); omega) (by omega) (by omega) (by omega) (sh2 n)]
    rw [rl_step _ n _ 1 (0) 256 (by (try simp only [List.length_append, List.length_cons, List.length_nil]); omega) (by omega) (by omega) (by omega) (sh1 n)]
    rw [rl_step _ n _ 0 (-1) 1 (by (try simp only [List.length_append, List.length_cons, List.length_nil]); omega) (by omega) (by omega) (by omega) (sh0 n)]
    rw [rl_end]
    exact ⟨0, _, rfl, .inl ⟨⟨by omega, by omega⟩, by omega, by simp only [List.append_assoc, List.cons_append, List.nil_append, List.append_nil], rfl⟩⟩
theorem ref_patch (K : Nat) (hK : 20 ≤ K) (bs : List Int) (hb : bs.length ≤ 1048576) (a n : Int) (ha : -9223372036854775808 ≤ a ∧ a ≤ 9223372036854775807) : ∃ r bs', provisoref01_Patch.f K bs a n = some (bs', r) ∧ (((n < 0 ∨ n > 65535) ∧ bs' = bs ∧ r = 5) ∨ ((0 ≤ n ∧ n ≤ 65535) ∧ (a < 0 ∨ a > (bs.length : Int) - 2) ∧ bs' = bs ∧ r = 1) ∨ (∃ i : Nat, a = (i : Int) ∧ (0 ≤ n ∧ n ≤ 65535) ∧ i + 2 ≤ bs.length ∧ bs' = (bs.set i (n / 256 % 256)).set (i + 1) (n % 256) ∧ r = 0)) := by
  obtain ⟨m, rfl⟩ : ∃ m, K = m + 20 := ⟨K - 20, by omega⟩
  have hw : wrap64 ((bs.length : Int) - 2) = (bs.length : Int) - 2 := by unfold wrap64; omega
  by_cases h1 : n < 0
  · refine ⟨5, bs, ?_, .inl ⟨.inl h1, rfl, rfl⟩⟩
    unfold provisoref01_Patch.f
    rw [if_pos h1]
    simp [provisoref01_Patch.j0]
  · by_cases h2 : n > 65535
    · refine ⟨5, bs, ?_, .inl ⟨.inr h2, rfl, rfl⟩⟩
      unfold provisoref01_Patch.f
      rw [if_neg h1, decide_eq_true h2]
      simp [provisoref01_Patch.j0]
    · by_cases h3 : a < 0
      · refine ⟨1, bs, ?_, .inr (.inl ⟨⟨by omega, by omega⟩, .inl h3, rfl, rfl⟩)⟩
        unfold provisoref01_Patch.f
        rw [if_neg h1, decide_eq_false h2]
        simp [provisoref01_Patch.j0, h3]
      · by_cases h4 : a > (bs.length : Int) - 2
        · refine ⟨1, bs, ?_, .inr (.inl ⟨⟨by omega, by omega⟩, .inr h4, rfl, rfl⟩)⟩
          unfold provisoref01_Patch.f
          rw [if_neg h1, decide_eq_false h2]
          simp only [provisoref01_Patch.j0]
          rw [if_neg (by decide), if_neg h3, hw, if_pos h4]
        · obtain ⟨i, rfl⟩ := Int.eq_ofNat_of_zero_le (show 0 ≤ a by omega)
          have hw1 : wrap64 ((i : Int) + 1) = ((i + 1 : Nat) : Int) := by unfold wrap64; omega
          refine ⟨0, (bs.set i (n / 256 % 256)).set (i + 1) (n % 256), ?_, .inr (.inr ⟨i, rfl, ⟨by omega, by omega⟩, by omega, rfl, rfl⟩)⟩
          unfold provisoref01_Patch.f
          rw [if_neg h1, decide_eq_false h2]
          simp only [provisoref01_Patch.j0]
          rw [if_neg (by decide), if_neg h3, hw, if_neg h4]
          simp only [Option.bind_some, List.nil_append, List.length_nil]
          rw [if_pos (by omega), hw1, if_pos (by omega), if_pos (by omega), if_pos (by omega), if_pos (by omega), Int.toNat_natCast, Int.toNat_natCast]
theorem put_step (K : Nat) (x : S44) (hK : 1048700 + x.f4.length ≤ K) (bs : List Int) (hb : bs.length ≤ 1048576) (h2 : -9223372036854775808 ≤ x.f2 ∧ x.f2 ≤ 9223372036854775807) (h3 : x.f3.size ≤ 140737488351232) (h4 : x.f4.length ≤ 140737488351232) : ∃ bs', PutOK K bs x bs' ∧ bs'.length ≤ 1048576 := by
  obtain ⟨o, ho, hp⟩ := pick_some x.f0 9 (by decide) (by decide)
  obtain rfl | rfl | rfl | rfl | rfl | rfl | rfl | rfl | rfl : o = 0 ∨ o = 1 ∨ o = 2 ∨ o = 3 ∨ o = 4 ∨ o = 5 ∨ o = 6 ∨ o = 7 ∨ o = 8 := by omega
  · obtain ⟨r, bs', h5, h6⟩ := ref_put1 K (by omega) bs hb x.f1
    exact ⟨bs', .inl ⟨hp, r, h5, h6⟩, by rcases h6 with ⟨_, h, rfl, _⟩ | ⟨_, _, rfl, _⟩ | ⟨_, rfl, _⟩ <;> first | omega | (simp; omega)⟩
  · obtain ⟨r, bs', h5, h6⟩ := ref_put2 K (by omega) bs hb x.f1
    exact ⟨bs', .inr (.inl ⟨hp, r, h5, h6⟩), by rcases h6 with ⟨_, h, rfl, _⟩ | ⟨_, _, rfl, _⟩ | ⟨_, rfl, _⟩ <;> first | omega | (simp; omega)⟩
  · obtain ⟨r, bs', h5, h6⟩ := ref_put4 K (by omega) bs hb x.f1
    exact ⟨bs', .inr (.inr (.inl ⟨hp, r, h5, h6⟩)), by rcases h6 with ⟨_, h, rfl, _⟩ | ⟨_, _, rfl, _⟩ | ⟨_, rfl, _⟩ <;> first | omega | (simp; omega)⟩
  · obtain ⟨r, bs', h5, h6⟩ := join_is bs x.f4 hb h4
    exact ⟨bs', .inr (.inr (.inr (.inl ⟨hp, h4, r, h5, untouched_is x.f4 h4 K (by omega), h6⟩))), by rcases h6 with ⟨h, rfl, _⟩ | ⟨_, rfl, _⟩ <;> first | omega | (simp; omega)⟩
  · cases hn : isNameB x.f3 with
    | true =>
      have hsz := (isNameB_size hn).2
      have hnl : (Go.Proofs.Ytklbkonehcjmjaa.P.nameBytes x.f3).length = x.f3.size + 1 := by unfold Go.Proofs.Ytklbkonehcjmjaa.P.nameBytes; rw [List.length_append, bytesOf_length]; simp; omega
      obtain ⟨r, bs', h5, h6⟩ := join_is bs (Go.Proofs.Ytklbkonehcjmjaa.P.nameBytes x.f3) hb (by omega)
      rw [hnl] at h6
      exact ⟨bs', .inr (.inr (.inr (.inr (.inl ⟨hp, r, .inl ⟨(name_K x.f3 K (by omega)).trans (congrArg some hn), (ref_K x.f3 K (by omega)).trans (congrArg some hn), hsz, h5, h6⟩⟩)))), by rcases h6 with ⟨h, rfl, _⟩ | ⟨_, rfl, _⟩ <;> first | omega | (simp [hnl]; omega)⟩
    | false => exact ⟨bs, .inr (.inr (.inr (.inr (.inl ⟨hp, 0, .inr ⟨(name_K x.f3 K (by omega)).trans (congrArg some hn), (ref_K x.f3 K (by omega)).trans (congrArg some hn), rfl⟩⟩)))), hb⟩
  · obtain ⟨r, bs', h5, h6⟩ := ref_patch K (by omega) bs hb x.f2 x.f1 h2
    exact ⟨bs', .inr (.inr (.inr (.inr (.inr (.inl ⟨hp, r, h5, h6⟩))))), by rcases h6 with ⟨_, rfl, _⟩ | ⟨_, _, rfl, _⟩ | ⟨i, _, _, _, rfl, _⟩ <;> first | omega | (simp; omega)⟩
  · obtain ⟨n, hn, hp2⟩ := pick_some x.f1 1048584 (by decide) (by decide)
    obtain ⟨r, bs', h5, h6⟩ := join_is bs (List.replicate n 0) hb (by rw [List.length_replicate]; omega)
    rw [List.length_replicate] at h6
    exact ⟨bs', .inr (.inr (.inr (.inr (.inr (.inr (.inl ⟨hp, n, r, hp2, by omega, h5, h6⟩)))))), by rcases h6 with ⟨h, rfl, _⟩ | ⟨_, rfl, _⟩ <;> first | omega | (simp; omega)⟩
  · exact ⟨bs, .inr (.inr (.inr (.inr (.inr (.inr (.inr (.inl ⟨hp, rfl⟩))))))), hb⟩
  · exact ⟨bs, .inr (.inr (.inr (.inr (.inr (.inr (.inr (.inr ⟨hp, bytes_equal_is bs (by omega) K (by omega), rfl⟩))))))), hb⟩
theorem rd_put {l : List S44} {i : Nat} (h : i < l.length) : rd_T44 l (i : Int) = l[i] := by simp [rd_T44, List.getD_eq_getElem?_getD, h]
theorem i64_of44 {a : Int} (h : (Lit.int .i64 a).wf = true) : -9223372036854775808 ≤ a ∧ a ≤ 9223372036854775807 := by
  simp [Lit.wf, IntKind.min, IntKind.max, IntKind.signed, IntKind.bits] at h
  exact h
theorem states (K : Nat) (l : List S44) (hl : ∀ x ∈ l, 1048700 + x.f4.length ≤ K ∧ (-9223372036854775808 ≤ x.f2 ∧ x.f2 ≤ 9223372036854775807) ∧ x.f3.size ≤ 140737488351232 ∧ x.f4.length ≤ 140737488351232) : ∀ n : Nat, n ≤ l.length → ∃ st : Nat → List Int, st 0 = [] ∧ (∀ i, i < n → PutOK K (st i) (rd_T44 l (i : Int)) (st (i + 1))) ∧ (st n).length ≤ 1048576
  | 0, _ => ⟨fun _ => [], rfl, fun i h => by omega, by simp⟩
  | n + 1, h => by
    obtain ⟨st, h0, h1, h2⟩ := states K l hl n (by omega)
    have hx := hl _ (List.getElem_mem (show n < l.length by omega))
    obtain ⟨bs', h3, h4⟩ := put_step K l[n] hx.1 (st n) h2 hx.2.1 hx.2.2.1 hx.2.2.2
    refine ⟨fun j => if j ≤ n then st j else bs', by simpa using h0, fun i hi => ?_, by show (if n + 1 ≤ n then st (n + 1) else bs').length ≤ _; rw [if_neg (by omega)]; exact h4⟩
    by_cases e : i = n
    · subst e
      simp only [Nat.le_refl, if_true, show ¬ (i + 1 ≤ i) by omega, if_false]
      rw [rd_put (by omega)]
      exact h3
    · simp only [show i ≤ n by omega, show i + 1 ≤ n by omega, if_true]
      exact h1 i (by omega)
def most : List S44 → Nat
  | [] => 0
  | x :: l => x.f4.length + most l
theorem most_le : ∀ (l : List S44) (x : S44), x ∈ l → x.f4.length ≤ most l
  | [], x, h => by cases h
  | y :: l, x, h => by
    rcases List.mem_cons.1 h with rfl | h
    · exact Nat.le_add_right _ _
    · exact Nat.le_trans (most_le l x h) (Nat.le_add_left _ _)
theorem WireWrites : provisolaw01_WireWrites.Pure := by
  intro l hl
  obtain ⟨st, h0, h1, h2⟩ := states (1048700 + most l) l (fun x hx => ⟨by have := most_le l x hx; omega, i64_of44 (hl.2.2 x hx).2.2.1, (hl.2.2 x hx).2.2.2.1, by have := (hl.2.2 x hx).2.2.2.2.2.1; omega⟩) l.length (Nat.le_refl _)
  exact ⟨1048700 + most l, st, h0, h1, bytes_equal_is _ (by omega) _ (by omega)⟩
end Go.Proofs.Ytklbkonehcjmjaa.Pure

end

section
namespace Go.Proofs.Ytklbkonehcjmjaa.wireWrites
open Go.ChangeShapes Go.WideShapes Go.ChangeAt Go.RowKit Go.Proofs.YtklbkonehcjmjaaW.PrintWords Go.Proofs.Ytklbkonehcjmjaa.Sees Go.Proofs.Ytklbkonehcjmjaa.P
open Go.ChangeMaps (open_string shut_string)
set_option linter.unusedVariables false
set_option linter.unusedSimpArgs false
theorem own : ownKnob Try.prog.godebug = none := by kernel_rfl
theorem laidOut : laidOutB Try.prog = true := by kernel_rfl
set_option maxRecDepth 100000 in
theorem lifted (os : Os) (started : os.Started) (H : Type) (enc : TypeId × Value → H) :
    ReturnsInHanded {} Try.checked os 6 .any (Rows.wireWritesSpec.pre6 enc Try.prog Try.f6 Rows.wireWritesRow.domain false) (Rows.wireWritesSpec.post enc Try.prog Try.f6 false true false false) := by
  refine returnsInHanded_of_change_sized (C := Try.checked) own started (by kernel_rfl) Try.func6
    (ChangeSpec.witness6 (enc := enc) (C := Try.checked) false ⟨#[], #[.slice none 0 0], []⟩ 8 (by kernel_rfl) (by kernel_rfl) (by kernel_rfl) (by kernel_rfl)) ?_
  intro W base args ds gs before hval0 hW hcnd hsz0 _
  have hsz : (DataW.weightsEach Try.prog (Try.f6.params.toList ++ Rows.wireWritesSpec.plain.varTypes Try.prog) (ds ++ gs)).all (· ≤ reachBytes) = true := hsz0
  have hval : ∀ (j : Nat) t v, Try.f6.params[j]? = some t → args[j]? = some v → Value.okWide Try.prog W .any base t v := hval0
  have hW' := hW
  obtain ⟨p, q, hA0, hV, rfl, hfz, hnd⟩ := hW
  have hA : DataW.TrodAll enc Try.prog W 0 (fun _ => true) true Try.f6.params.toList args.toList ds p := hA0
  rw [Try.params6] at hA hval hsz
  obtain ⟨v0, vs0, d0, ds0, p0, q0, hargs, rfl, rfl, h0, r0⟩ := trodAll_cons hA
  obtain ⟨rfl, rfl, rfl⟩ := trodAll_nil r0
  obtain rfl : args = #[v0] := by cases args; simp_all
  obtain ⟨rfl, rfl⟩ := trodVars_none hV
  have k0 := h0
  have lt0 : ∀ x ∈ p0, x.block < W.heap.size := by obtain ⟨m, hm⟩ := k0; exact DataW.trod_lt m _ _ _ hm
  obtain ⟨y0, hy0, oy0⟩ := see_arg (j := 0) (t := 40) (sees_slice (B := 64) Try.underlying40 (by kernel_rfl) (by kernel_rfl) sees44) hsz rfl rfl h0
  obtain ⟨a0, len0, cap0, rfl⟩ := okWide_slice Try.underlying40 (hval 0 40 v0 rfl rfl)
  obtain ⟨rfl, hc0, hr0⟩ := see_slice rfl hy0
  clear hA0 hval0 hsz0 hsz
  have hk := Pure.WireWrites y0 oy0
  refine (provisolaw01_WireWrites.calls _ _ y0 W hr0 hc0 hk).mono ?_
  rintro e W' ⟨rfl, bel0⟩
  have bel : Below W.heap.size W W' := bel0
  exact ⟨_, rfl, _, _, _, [], _, [], hW', trodAll_mk1 (shut_bool Try.underlying4 _), (trodAll_cons_mk (Below.trod laidOut (by kernel_rfl) (of_decide_eq_true (by kernel_rfl)) k0 bel lt0) trodAll_mk0), rfl, bel.frame _, fun h => by cases h⟩
theorem over : Rows.wireWritesRow.holds Try.pinned (OpenSpec.ofChange Rows.wireWritesSpec) :=
  OpenClaim.holds_of_wide 6 Try.f6 rfl rfl rfl rfl rfl rfl rfl ⟨rfl, rfl, rfl, rfl, rfl⟩ rfl rfl rfl rfl rfl (by kernel_rfl) Try.func6 (by kernel_rfl)
    (of_decide_eq_true (by kernel_rfl)) (by unfold Func.isWrapper; first | (rw [if_pos (by decide +kernel)]; kernel_rfl) | (rw [if_neg (by decide +kernel)]; exact ⟨rfl, rfl⟩))
    (fun os started H enc _ => lifted os started H enc)
theorem proved : Rows.WireWritesSaid := over
end Go.Proofs.Ytklbkonehcjmjaa.wireWrites
namespace Go.Proofs.Ytklbkonehcjmjaa
theorem wireWrites_holds : Rows.WireWritesSaid := wireWrites.proved
end Go.Proofs.Ytklbkonehcjmjaa

end

