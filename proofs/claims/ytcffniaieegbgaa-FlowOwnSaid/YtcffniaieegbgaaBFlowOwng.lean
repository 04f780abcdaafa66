/- Proved: the law FlowOwn holds for every input that the row lets in. No condition of ours. -/
import Derived.Test.YtcffniaieegbgaaBFlowOwnf
import Derived.Test.YtcffniaieegbgaaRows
import Derived.ShutString
import Derived.ChangeOld
import Derived.Lib.SmallJoins
section
namespace Go.Proofs.Ytcffniaieegbgaa.P
open Go.RowKit Go.Proofs.YtcffniaieegbgaaW.PrintWords Go.Proofs.YtcffniaieegbgaaW.PrintLast Go.Proofs.YtcffniaieegbgaaW.PrintMore
attribute [local go_sem] max2_int min2_int max_two min_two max_three min_three max_four min_four
set_option linter.unusedVariables false
set_option linter.unusedSimpArgs false
theorem Inn.leave {k : IntKind} {te ts : TypeId} {W w1 : World} {base S0 S1 : Nat} {G : Nat → Prop} {v vM v1 : Value} {n i : Nat} {hd gh : Nat → Hd} {g : Hd} {P : Nat → Nat → Prop} (h : Inn k te ts base S0 S1 G v n hd i vM gh P 80 g W) (hi : i < n) (ht : te ≠ ts)
    (hR : khd.R ts w1 base (fun b => S0 ≤ b ∨ W.heap.size ≤ b) v1 (rowH i gh ++ [g])) (hg : W.grownBy w1 vM.ownBlock) (hat : v1.ownBlock = vM.ownBlock ∨ ∃ b, v1.ownBlock = some b ∧ W.heap.size ≤ b) :
    ∃ (gh' : Nat → Hd) (P' : Nat → Nat → Prop), Mor k te ts base S0 G v n hd (i + 1) v1 gh' P' w1 := by
  obtain ⟨Pb, b1, b2, b3, b4⟩ := h.bas
  have hkA : Kept W w1 (fun b => vM.ownBlock = some b) := Kept.of_grown hg (Kept.refl W _) (fun b q => .inl q)
  have hvM : ∀ b, vM.ownBlock = some b → S0 ≤ b ∧ b < S1 := fun b q => ⟨h.more.1 b q, h.mlt b q⟩
  have hcl := Kd.R_reads' h.cur
  have hn1 : g.n = (hd i).n + 80 := by rw [hcl.1, List.length_replicate]
  have hmt := Kd.R_typed h.more
  have hgt : ∀ b, g.v.ownBlock = some b → ¬ vM.ownBlock = some b := fun b q e => by
    obtain ⟨cs, h1⟩ := Kd.R_typed h.cur b q
    obtain ⟨ds, h2⟩ := hmt b e
    exact typ_neq h1 h2 ht rfl
  have hvt : ∀ b, g.v.ownBlock = some b → ¬ v.ownBlock = some b := fun b q e => by
    obtain ⟨cs, h1⟩ := Kd.R_typed h.cur b q
    obtain ⟨ds, h2⟩ := Kd.R_typed h.row b e
    exact typ_neq h1 h2 ht rfl
  have hP' : ∀ b, (P i b ∨ (S1 ≤ b ∧ (Pb b ∨ g.v.ownBlock = some b))) → vM.ownBlock = some b → False := fun b q e => by
    rcases q with q | ⟨q, q2⟩
    · exact (h.sub i b hi q).2.2.1 e
    · have := (hvM b e).2
      omega
  have hrowlt : ∀ b, v.ownBlock = some b → b < S0 := fun b q => (h.row.1 b q).2
  refine ⟨fun j => if j = i then g else gh j, fun j b => if j = i then P i b ∨ (S1 ≤ b ∧ b < W.heap.size ∧ (Pb b ∨ g.v.ownBlock = some b)) else P j b, ?_⟩
  have hPi : ∀ b, (P i b ∨ (S1 ≤ b ∧ b < W.heap.size ∧ (Pb b ∨ g.v.ownBlock = some b))) → vM.ownBlock ≠ some b := fun b q => fun e => hP' b (q.imp id (fun q => ⟨q.1, q.2.2⟩)) e
  have hcw : ∀ b, (Pb b ∨ g.v.ownBlock = some b) → (P i b ∨ (S1 ≤ b ∧ b < W.heap.size ∧ (Pb b ∨ g.v.ownBlock = some b))) := fun b q => by
    have h1 : P i b ∨ S1 ≤ b := q.elim (b1 b) (fun q => h.cur.1 b q)
    have h2 : b < W.heap.size := q.elim (b2 b) (fun q => Kd.R_lt h.cur b q)
    exact h1.imp id (fun h3 => ⟨h3, h2, q⟩)
  refine ⟨Kd.R_kept h.row hkA (fun b q e => ?_), fun j hj hij => ?_, fun j hj => ?_, ?_, fun j b hj q => ?_, fun j j' b hj hj' q q' => ?_, h.le.1, Nat.le_trans h.le.2.1 (Nat.le_trans h.le.2.2 hkA.1)⟩
  · have := (hvM b e).1
    have := q.2
    omega
  · have hji : ¬ j = i := by omega
    have h1 := Kd.R_kept (h.own j hj (by omega)) hkA (fun b q => (h.sub j b hj q).2.2.1)
    exact Kd.R_mono h1 (fun b q => by simp only [if_neg hji]; exact q)
  · by_cases e : j = i
    · subst e
      simp only [if_pos]
      refine ⟨Kd.F_mono (Kd.F_kept b3 hkA (fun b q => hPi b (hcw b (.inl q)))) (fun b q => hcw b (.inl q)), ?_, hn1, hcl.2.1⟩
      have h5 : Kd.F (Kd.int k) W (fun b => g.v.ownBlock = some b) g.A g.n (List.replicate ((hd j).n + 80) (mrk j)) := Kd.R_F (R_two h.cur)
      exact Kd.F_mono (Kd.F_kept h5 hkA (fun b q => hPi b (hcw b (.inr q)))) (fun b q => hcw b (.inr q))
    · simp only [if_neg e]
      have hji : j < i := by omega
      exact ⟨Kd.F_kept (h.got j hji).1 hkA (fun b q => (h.sub j b (by omega) q).2.2.1), Kd.F_kept (h.got j hji).2.1 hkA (fun b q => (h.sub j b (by omega) q).2.2.1), (h.got j hji).2.2⟩
  · rw [rowH_succ, rowH_same (f := gh) (fun j hj => if_neg (Nat.ne_of_lt hj))]
    rw [show (if i = i then g else gh i) = g from if_pos rfl]
    exact Kd.R_mono hR (fun b q => q.elim id (fun q => Nat.le_trans h.le.2.1 (Nat.le_trans h.le.2.2 q)))
  · have hv1 : ∀ b, v1.ownBlock = some b → vM.ownBlock = some b ∨ W.heap.size ≤ b := fun b e => by
      rcases hat with hat | ⟨b', hb, hge⟩
      · left; rw [← hat]; exact e
      · right
        rw [hb] at e
        injection e with e
        omega
    by_cases e : j = i
    · subst e
      simp only [if_pos] at q
      have h1 : b < W.heap.size := q.elim (fun q => Nat.lt_of_lt_of_le (h.sub j b hj q).2.1 h.le.2.2) (fun q => q.2.1)
      refine ⟨q.elim (fun q => (h.sub j b hj q).1) (fun q => .inr (Nat.le_trans h.le.2.1 q.1)), Nat.lt_of_lt_of_le h1 hkA.1, fun e => (hv1 b e).elim (hPi b q) (fun q2 => by omega), fun e => ?_⟩
      rcases q with q | q
      · exact (h.sub j b hj q).2.2.2 e
      · have := hrowlt b e
        have := h.le.2.1
        omega
    · simp only [if_neg e] at q
      have h1 := h.sub j b hj q
      exact ⟨h1.1, Nat.lt_of_lt_of_le h1.2.1 (Nat.le_trans h.le.2.2 hkA.1), fun e => (hv1 b e).elim h1.2.2.1 (fun q2 => by have := h.le.2.2; omega), h1.2.2.2⟩
  · have hmix : ∀ j, j < n → ¬ j = i → ∀ b, P j b → (P i b ∨ (S1 ≤ b ∧ b < W.heap.size ∧ (Pb b ∨ g.v.ownBlock = some b))) → False := fun j hj hne b q q2 => by
      rcases q2 with q2 | q2
      · exact hne (h.ne j i b hj hi q q2)
      · have := (h.sub j b hj q).2.1
        omega
    by_cases e : j = i
    · by_cases e' : j' = i
      · omega
      · simp only [if_pos e] at q
        simp only [if_neg e'] at q'
        exact (hmix j' hj' e' b q' q).elim
    · simp only [if_neg e] at q
      by_cases e' : j' = i
      · simp only [if_pos e'] at q'
        exact (hmix j hj e b q q').elim
      · simp only [if_neg e'] at q'
        exact h.ne j j' b hj hj' q q'
structure Dun (k : IntKind) (Z : Nat → Prop) (A : Option Addr) (c n : Nat) (hd : Nat → Hd) (AM : Option Addr) (cM : Nat) (gh : Nat → Hd) (W : World) : Prop where
  row : Kd.F khd W Z A n (rowH n hd)
  more : Kd.F khd W Z AM n (rowH n gh)
  got : ∀ j, j < n → Kd.F (Kd.int k) W Z (hd j).A (hd j).n (List.replicate (hd j).n (mrk j)) ∧ Kd.F (Kd.int k) W Z (gh j).A (gh j).n (List.replicate ((hd j).n + 80) (mrk j)) ∧ (gh j).n = (hd j).n + 80
theorem Dun.kept {k : IntKind} {Z S : Nat → Prop} {A AM : Option Addr} {c cM n : Nat} {hd gh : Nat → Hd} {W W1 : World} (h : Dun k Z A c n hd AM cM gh W) (hk : Kept W W1 S) (hZ : ∀ b, Z b → ¬ S b) : Dun k Z A c n hd AM cM gh W1 :=
  ⟨Kd.F_kept h.row hk hZ, Kd.F_kept h.more hk hZ, fun j hj => ⟨Kd.F_kept (h.got j hj).1 hk hZ, Kd.F_kept (h.got j hj).2.1 hk hZ, (h.got j hj).2.2⟩⟩
theorem Dun.step {k : IntKind} {Z : Nat → Prop} {A AM : Option Addr} {c cM n : Nat} {hd gh : Nat → Hd} {W W1 : World} (h : Dun k Z A c n hd AM cM gh W) (hb : Below W.heap.size W W1) : Dun k Z A c n hd AM cM gh W1 := h.kept (S := fun _ => False) (Kept.of_below hb _) (fun _ _ q => q)
theorem Mor.done {k : IntKind} {te ts : TypeId} {W : World} {base S0 : Nat} {G : Nat → Prop} {A AM : Option Addr} {c cM n : Nat} {hd gh : Nat → Hd} {P : Nat → Nat → Prop} (h : Mor k te ts base S0 G (.slice A n c) n hd n (.slice AM n cM) gh P W) : Dun k (fun b => (G b ∨ S0 ≤ b) ∧ b < W.heap.size) A c n hd AM cM gh W := by
  refine ⟨Kd.F_mono (Kd.R_F (Kd.R_bound h.row)) (fun b q => ⟨.inl q.1.1, q.2.2.1⟩), Kd.F_mono (Kd.R_F (Kd.R_bound h.more)) (fun b q => ⟨.inr q.1, q.2.2.1⟩), fun j hj => ?_⟩
  have hs : ∀ b, P j b → (G b ∨ S0 ≤ b) ∧ b < W.heap.size := fun b q => ⟨(h.sub j b hj q).1, (h.sub j b hj q).2.1⟩
  exact ⟨Kd.F_mono (h.got j hj).1 hs, Kd.F_mono (h.got j hj).2.1 hs, (h.got j hj).2.2.1⟩
end Go.Proofs.Ytcffniaieegbgaa.P

end

section
namespace Go.Proofs.Ytcffniaieegbgaa.P
open Go.RowKit Go.Proofs.YtcffniaieegbgaaW.PrintWords Go.Proofs.YtcffniaieegbgaaW.PrintLast Go.Proofs.YtcffniaieegbgaaW.PrintMore
attribute [local go_sem] max2_int min2_int max_two min_two max_three min_three max_four min_four
set_option linter.unusedVariables false
set_option linter.unusedSimpArgs false
theorem at_hd {W : World} {A : Option Addr} {n : Nat} {xs : List Hd} (h : khd.C W A n xs) (i : Int) (h0 : 0 ≤ i) (h1 : i < n) : ∃ ad, A = some ad ∧ W.cell? (ad.add i.toNat) = some (rdOf hz xs i).v :=
  ReadsOf.at_ (Kd.reads_of_C (enc := Hd.v) (d := hz) (h1 := fun _ => rfl) h) i h0 h1
theorem rep_at (n j : Nat) (x : Int) (h : j < n) : rd (List.replicate n x) (j : Int) = x := by
  unfold rd
  rw [Int.toNat_natCast, List.getD_eq_getElem?_getD, List.getElem?_replicate, if_pos h]
  rfl
theorem mrk_u8 (i : Nat) : IntKind.u8.wrap (mrk i) = mrk i := by
  have := mrk_range i
  rw [IntKind.wrap_u8]
  omega
theorem wrap_n {j n : Nat} (h : j < n) (hn : n ≤ 9223372036854775807) : wrap64 ((j : Int) + 1) = ((j + 1 : Nat) : Int) := by unfold wrap64; omega
theorem meas_n {j n : Nat} (h : j < n) (hn : n ≤ 9223372036854775807) : ((n : Int) - intOf (.int .i64 (wrap64 ((j : Int) + 1)))).toNat < ((n : Int) - intOf (.int .i64 (j : Int))).toNat := by
  rw [wrap_n h hn]
  show ((n : Int) - ((j + 1 : Nat) : Int)).toNat < ((n : Int) - (j : Int)).toNat
  omega
set_option maxHeartbeats 3200000 in
set_option maxRecDepth 100000 in
theorem marked_sh (w : World) (sh nB nI : Nat) (AB AI MB MI : Option Addr) (cB cI dB dI : Nat) (hdB ghB hdI ghI : Nat → Hd) (ZB ZI : Nat → Prop) (hblk : w.heap[sh]? = some (.cells #[.slice AB nB cB, .slice AI nI cI] 61 (0, 0))) (hDB : Dun .u8 ZB AB cB nB hdB MB dB ghB w) (hDI : Dun .i64 ZI AI cI nI hdI MI dI ghI w) :
    Calls Try.prog 63 #[.pointer (some ⟨sh, 0, none⟩), .slice MB nB dB, .slice MI nI dI] w fun e w' => e = .returned (.bool true) ∧ Below w.heap.size w w' := by
  have HBLK := Aside0.mk hblk
  have HDB := Aside0.mk hDB
  have HDI := Aside0.mk hDI
  have HB := Aside0.mk (Below.refl w.heap.size w)
  have hc0 := blk_cell hblk 0
  clear hblk hDB hDI
  go_enter Try.func63, Try.ntmps63
  go_wp2_with fail
  go_loopw [24] (fun v24 wr => ∃ i : Nat, v24 = .int .i64 (i : Int) ∧ i ≤ nB ∧ Aside0 (Below w.heap.size w wr)) (fun v24 _ => (nB : Int) - intOf v24 |>.toNat)
  case atStart => exact ⟨0, rfl, Nat.zero_le _, HB⟩
  case round =>
    clear HB
    obtain ⟨i, rfl, hi, HB⟩ := hrel
    by_cases c1 : i < nB
    · have c1b : decide ((i : Int) < (nB : Int)) = true := decide_eq_true (by omega)
      have c1c : decide (i < nB) = true := decide_eq_true c1
      have p5 : (0 ≤ (i : Int)) = True := eq_true (by omega)
      have p6 : ((i : Int) < (nB : Int)) = True := eq_true (by omega)
      obtain ⟨q1, e1, hx1⟩ := at_hd (Kd.F_now (Kd.F_below HDB.out.row HB.out)) (i : Int) (by omega) (by omega)
      cases e1
      rw [rowH_at hdB c1, Int.toNat_natCast] at hx1
      have HNO := Aside0.mk (Kd.F_max HDB.out.row)
      have HMK := Aside0.mk (mrk_is i (by have := HNO.out; omega))
      obtain ⟨hg1, hg2, hg3⟩ := HDB.out.got i c1
      obtain ⟨Ai, ni, ci, hq1⟩ : ∃ Ai ni ci, hdB i = ⟨Ai, ni, ci⟩ := ⟨_, _, _, rfl⟩
      obtain ⟨Ag, ng, cg, hq2⟩ : ∃ Ag ng cg, ghB i = ⟨Ag, ng, cg⟩ := ⟨_, _, _, rfl⟩
      rw [hq1] at hx1 hg1 hg2 hg3
      rw [hq2] at hg2 hg3
      change _ = some (Value.slice Ai ni ci) at hx1
      change ng = ni + 80 at hg3
      have HG1 := Aside0.mk (show Kd.F (Kd.int .u8) w _ Ai ni (List.replicate ni (mrk i)) from hg1)
      have HG2 := Aside0.mk (show Kd.F (Kd.int .u8) w _ Ag ng (List.replicate ng (mrk i)) from by rw [hg3]; have := hg2; rw [hg3] at this; exact this)
      have HQ2 := Aside0.mk hq2
      have HI := Aside0.mk c1
      clear c1 hg1 hg2 hg3 hq1 hq2
      go_wp2_with fail
      go_loopw [31] (fun v31 wr => ∃ j : Nat, v31 = .int .i64 (j : Int) ∧ j ≤ ni ∧ Aside0 (Below w.heap.size w wr)) (fun v31 _ => ((ni : Nat) : Int) - intOf v31 |>.toNat)
      case atStart => exact ⟨0, rfl, Nat.zero_le _, HB⟩
      case round =>
        clear HB
        obtain ⟨j, rfl, hj, HB⟩ := hrel
        by_cases c2 : j < ni
        · have c2b : decide ((j : Int) < ((ni : Nat) : Int)) = true := decide_eq_true (by omega)
          have c2c : decide (j < ni) = true := decide_eq_true c2
          have p5 : (0 ≤ (j : Int)) = True := eq_true (by omega)
          have p6 : ((j : Int) < ((ni : Nat) : Int)) = True := eq_true (by omega)
          obtain ⟨ad2, e2, hx2⟩ := Kd.at_int (Kd.F_now (Kd.F_below HG1.out HB.out)) (j : Int) (by omega) (by omega)
          cases e2
          rw [rep_at _ _ _ c2, Int.toNat_natCast] at hx2
          have HJ := Aside0.mk c2
          have HNM := Aside0.mk (Kd.F_max HG1.out)
          clear c2
          go_wp2_with fail
          refine (provisoplain_mark.calls (i : Int) (mrk i) _ HMK.out).mono ?_
          rintro e_ w2 ⟨rfl, m2, rfl⟩
          replace HB := Aside0.mk (pw_below_drewN HB.out m2)
          clear hx2
          have hcv := mrk_u8 i
          go_wp2_with fail
          go_roundw
          case rel => exact ⟨j + 1, (by rw [wrap_n HJ.out HNM.out]), HJ.out, HB⟩
          case measure => exact meas_n HJ.out HNM.out
        · have c2b : decide ((j : Int) < ((ni : Nat) : Int)) = false := decide_eq_false (by omega)
          have c2c : decide (j < ni) = false := decide_eq_false c2
          clear c2 hj
          obtain ⟨q2, e3, hx3⟩ := at_hd (Kd.F_now (Kd.F_below HDB.out.more HB.out)) (i : Int) (by omega) (by have := HI.out; omega)
          cases e3
          rw [rowH_at ghB HI.out, Int.toNat_natCast] at hx3
          rw [HQ2.out] at hx3
          change _ = some (Value.slice Ag ng cg) at hx3
          have p5 : (0 ≤ (i : Int)) = True := eq_true (by omega)
          have p6 : ((i : Int) < (nB : Int)) = True := eq_true (by have := HI.out; omega)
          go_wp2_with fail
          go_loopw [46] (fun v46 wr => ∃ j : Nat, v46 = .int .i64 (j : Int) ∧ j ≤ ng ∧ Aside0 (Below w.heap.size w wr)) (fun v46 _ => ((ng : Nat) : Int) - intOf v46 |>.toNat)
          case atStart => exact ⟨0, rfl, Nat.zero_le _, HB⟩
          case round =>
            clear HB
            obtain ⟨j, rfl, hj, HB⟩ := hrel
            by_cases c2 : j < ng
            · have c2b : decide ((j : Int) < ((ng : Nat) : Int)) = true := decide_eq_true (by omega)
              have c2c : decide (j < ng) = true := decide_eq_true c2
              have p5 : (0 ≤ (j : Int)) = True := eq_true (by omega)
              have p6 : ((j : Int) < ((ng : Nat) : Int)) = True := eq_true (by omega)
              obtain ⟨ad2, e2, hx2⟩ := Kd.at_int (Kd.F_now (Kd.F_below HG2.out HB.out)) (j : Int) (by omega) (by omega)
              cases e2
              rw [rep_at _ _ _ c2, Int.toNat_natCast] at hx2
              have HJ := Aside0.mk c2
              have HNM := Aside0.mk (Kd.F_max HG2.out)
              clear c2
              go_wp2_with fail
              refine (provisoplain_mark.calls (i : Int) (mrk i) _ HMK.out).mono ?_
              rintro e_ w2 ⟨rfl, m2, rfl⟩
              replace HB := Aside0.mk (pw_below_drewN HB.out m2)
              clear hx2
              have hcv := mrk_u8 i
              go_wp2_with fail
              go_roundw
              case rel => exact ⟨j + 1, (by rw [wrap_n HJ.out HNM.out]), HJ.out, HB⟩
              case measure => exact meas_n HJ.out HNM.out
            · have c2b : decide ((j : Int) < ((ng : Nat) : Int)) = false := decide_eq_false (by omega)
              have c2c : decide (j < ng) = false := decide_eq_false c2
              clear c2 hj
              go_wp2_with fail
              go_roundw
              case rel => exact ⟨i + 1, (by rw [wrap_n HI.out HNO.out]), HI.out, HB⟩
              case measure => exact meas_n HI.out HNO.out
    · have c1b : decide ((i : Int) < (nB : Int)) = false := decide_eq_false (by omega)
      have c1c : decide (i < nB) = false := decide_eq_false c1
      clear c1 hi
      have hc1 := blk_cell (blk_below HBLK.out HB.out) 1
      go_wp2_with fail
      go_loopw [62] (fun v62 wr => ∃ i : Nat, v62 = .int .i64 (i : Int) ∧ i ≤ nI ∧ Aside0 (Below w.heap.size w wr)) (fun v62 _ => (nI : Int) - intOf v62 |>.toNat)
      case atStart => exact ⟨0, rfl, Nat.zero_le _, HB⟩
      case round =>
        clear HB
        obtain ⟨i, rfl, hi, HB⟩ := hrel
        by_cases c1 : i < nI
        · have c1b : decide ((i : Int) < (nI : Int)) = true := decide_eq_true (by omega)
          have c1c : decide (i < nI) = true := decide_eq_true c1
          have p5 : (0 ≤ (i : Int)) = True := eq_true (by omega)
          have p6 : ((i : Int) < (nI : Int)) = True := eq_true (by omega)
          obtain ⟨q1, e1, hx1⟩ := at_hd (Kd.F_now (Kd.F_below HDI.out.row HB.out)) (i : Int) (by omega) (by omega)
          cases e1
          rw [rowH_at hdI c1, Int.toNat_natCast] at hx1
          have HNO := Aside0.mk (Kd.F_max HDI.out.row)
          have HMK := Aside0.mk (mrk_is i (by have := HNO.out; omega))
          obtain ⟨hg1, hg2, hg3⟩ := HDI.out.got i c1
          obtain ⟨Ai, ni, ci, hq1⟩ : ∃ Ai ni ci, hdI i = ⟨Ai, ni, ci⟩ := ⟨_, _, _, rfl⟩
          obtain ⟨Ag, ng, cg, hq2⟩ : ∃ Ag ng cg, ghI i = ⟨Ag, ng, cg⟩ := ⟨_, _, _, rfl⟩
          rw [hq1] at hx1 hg1 hg2 hg3
          rw [hq2] at hg2 hg3
          change _ = some (Value.slice Ai ni ci) at hx1
          change ng = ni + 80 at hg3
          have HG1 := Aside0.mk (show Kd.F (Kd.int .i64) w _ Ai ni (List.replicate ni (mrk i)) from hg1)
          have HG2 := Aside0.mk (show Kd.F (Kd.int .i64) w _ Ag ng (List.replicate ng (mrk i)) from by rw [hg3]; have := hg2; rw [hg3] at this; exact this)
          have HQ2 := Aside0.mk hq2
          have HI := Aside0.mk c1
          clear c1 hg1 hg2 hg3 hq1 hq2
          go_wp2_with fail
          go_loopw [69] (fun v69 wr => ∃ j : Nat, v69 = .int .i64 (j : Int) ∧ j ≤ ni ∧ Aside0 (Below w.heap.size w wr)) (fun v69 _ => ((ni : Nat) : Int) - intOf v69 |>.toNat)
          case atStart => exact ⟨0, rfl, Nat.zero_le _, HB⟩
          case round =>
            clear HB
            obtain ⟨j, rfl, hj, HB⟩ := hrel
            by_cases c2 : j < ni
            · have c2b : decide ((j : Int) < ((ni : Nat) : Int)) = true := decide_eq_true (by omega)
              have c2c : decide (j < ni) = true := decide_eq_true c2
              have p5 : (0 ≤ (j : Int)) = True := eq_true (by omega)
              have p6 : ((j : Int) < ((ni : Nat) : Int)) = True := eq_true (by omega)
              obtain ⟨ad2, e2, hx2⟩ := Kd.at_int (Kd.F_now (Kd.F_below HG1.out HB.out)) (j : Int) (by omega) (by omega)
              cases e2
              rw [rep_at _ _ _ c2, Int.toNat_natCast] at hx2
              have HJ := Aside0.mk c2
              have HNM := Aside0.mk (Kd.F_max HG1.out)
              clear c2
              go_wp2_with fail
              refine (provisoplain_mark.calls (i : Int) (mrk i) _ HMK.out).mono ?_
              rintro e_ w2 ⟨rfl, m2, rfl⟩
              replace HB := Aside0.mk (pw_below_drewN HB.out m2)
              clear hx2
              have hcv := mrk_u8 i
              go_wp2_with fail
              go_roundw
              case rel => exact ⟨j + 1, (by rw [wrap_n HJ.out HNM.out]), HJ.out, HB⟩
              case measure => exact meas_n HJ.out HNM.out
            · have c2b : decide ((j : Int) < ((ni : Nat) : Int)) = false := decide_eq_false (by omega)
              have c2c : decide (j < ni) = false := decide_eq_false c2
              clear c2 hj
              obtain ⟨q2, e3, hx3⟩ := at_hd (Kd.F_now (Kd.F_below HDI.out.more HB.out)) (i : Int) (by omega) (by have := HI.out; omega)
              cases e3
              rw [rowH_at ghI HI.out, Int.toNat_natCast] at hx3
              rw [HQ2.out] at hx3
              change _ = some (Value.slice Ag ng cg) at hx3
              have p5 : (0 ≤ (i : Int)) = True := eq_true (by omega)
              have p6 : ((i : Int) < (nI : Int)) = True := eq_true (by have := HI.out; omega)
              go_wp2_with fail
              go_loopw [83] (fun v83 wr => ∃ j : Nat, v83 = .int .i64 (j : Int) ∧ j ≤ ng ∧ Aside0 (Below w.heap.size w wr)) (fun v83 _ => ((ng : Nat) : Int) - intOf v83 |>.toNat)
              case atStart => exact ⟨0, rfl, Nat.zero_le _, HB⟩
              case round =>
                clear HB
                obtain ⟨j, rfl, hj, HB⟩ := hrel
                by_cases c2 : j < ng
                · have c2b : decide ((j : Int) < ((ng : Nat) : Int)) = true := decide_eq_true (by omega)
                  have c2c : decide (j < ng) = true := decide_eq_true c2
                  have p5 : (0 ≤ (j : Int)) = True := eq_true (by omega)
                  have p6 : ((j : Int) < ((ng : Nat) : Int)) = True := eq_true (by omega)
                  obtain ⟨ad2, e2, hx2⟩ := Kd.at_int (Kd.F_now (Kd.F_below HG2.out HB.out)) (j : Int) (by omega) (by omega)
                  cases e2
                  rw [rep_at _ _ _ c2, Int.toNat_natCast] at hx2
                  have HJ := Aside0.mk c2
                  have HNM := Aside0.mk (Kd.F_max HG2.out)
                  clear c2
                  go_wp2_with fail
                  refine (provisoplain_mark.calls (i : Int) (mrk i) _ HMK.out).mono ?_
                  rintro e_ w2 ⟨rfl, m2, rfl⟩
                  replace HB := Aside0.mk (pw_below_drewN HB.out m2)
                  clear hx2
                  have hcv := mrk_u8 i
                  go_wp2_with fail
                  go_roundw
                  case rel => exact ⟨j + 1, (by rw [wrap_n HJ.out HNM.out]), HJ.out, HB⟩
                  case measure => exact meas_n HJ.out HNM.out
                · have c2b : decide ((j : Int) < ((ng : Nat) : Int)) = false := decide_eq_false (by omega)
                  have c2c : decide (j < ng) = false := decide_eq_false c2
                  clear c2 hj
                  go_wp2_with fail
                  go_roundw
                  case rel => exact ⟨i + 1, (by rw [wrap_n HI.out HNO.out]), HI.out, HB⟩
                  case measure => exact meas_n HI.out HNO.out
        · have c1b : decide ((i : Int) < (nI : Int)) = false := decide_eq_false (by omega)
          have c1c : decide (i < nI) = false := decide_eq_false c1
          clear c1 hi
          go_wp2_with fail
          go_ret
          exact ⟨rfl, HB.out⟩
end Go.Proofs.Ytcffniaieegbgaa.P

end

section
namespace Go.Proofs.Ytcffniaieegbgaa.P
open Go.RowKit Go.Proofs.YtcffniaieegbgaaW.PrintWords Go.Proofs.YtcffniaieegbgaaW.PrintLast Go.Proofs.YtcffniaieegbgaaW.PrintMore
attribute [local go_sem] max2_int min2_int max_two min_two max_three min_three max_four min_four
set_option linter.unusedVariables false
set_option linter.unusedSimpArgs false
structure PhA (w : World) (base : Nat) (F : Nat → Prop) (sh : Nat) (GB GI : Nat → Prop) (vB vI : Value) (nB nI : Nat) (hB hI : Nat → Hd) (iB mB iI mI : Nat) (W : World) : Prop where
  blk : W.heap[sh]? = some (.cells #[vB, vI] 61 (0, 0))
  gB : Grp .u8 5 22 W base GB vB nB hB iB mB
  gI : Grp .i64 3 27 W base GI vI nI hI iI mI
  kept : Kept w W F
  far : ∀ (B : Nat) (w0 : World), B ≤ base → Below B w0 w → Below B w0 W
structure Sta (w : World) (base : Nat) (F : Nat → Prop) (sh : Nat) (GB GI : Nat → Prop) (nB nI : Nat) (hB hI : Nat → Hd) : Prop where
  fB : ∀ b, GB b → F b
  fI : ∀ b, GI b → F b
  ap : ∀ b, GB b → ¬ GI b
  nsB : ¬ GB sh
  nsI : ¬ GI sh
  fs : F sh
  lt : ∀ b, F b → base ≤ b ∧ b < w.heap.size
  lB : ∀ j, j < nB → (hB j).n + 80 ≤ 140737488351400
  lI : ∀ j, j < nI → ((hI j).n + 80) * 8 ≤ 140737488355328
theorem PhA.putB {w : World} {base : Nat} {F : Nat → Prop} {sh : Nat} {GB GI : Nat → Prop} {vB vI : Value} {nB nI : Nat} {hB hI : Nat → Hd} {iB mB iI mI : Nat} {W : World} (h : PhA w base F sh GB GI vB vI nB nI hB hI iB mB iI mI W) (s : Sta w base F sh GB GI nB nI hB hI) (hi : iB < nB) (hm : mB < (hB iB).n) {b : Nat} (hA : (hB iB).A = some ⟨b, 0, none⟩) : PhA w base F sh GB GI vB vI nB nI hB hI iB (mB + 1) iI mI (W.setCell ⟨b, mB, none⟩ (.int .u8 (mrk iB))) := by
  obtain ⟨xs, h1, _⟩ := h.gB.own iB hi
  obtain ⟨b', e1, e2, e3, _⟩ := (own_form h1).2 mB hm
  rw [hA] at e1
  injection e1 with e1
  injection e1 with e1
  subst e1
  have hk : Kept W (W.setCell ⟨b, mB, none⟩ (.int .u8 (mrk iB))) (fun k => k = b) := (Kept.refl W (fun k => k = b)).setCell (p := ⟨b, mB, none⟩) (.inl rfl) _
  exact ⟨blk_kept h.blk hk (fun q => s.nsB (q ▸ e2)), h.gB.put (by decide) hi hm hA, h.gI.kept hk (fun k q e => s.ap k (e ▸ e2) q), h.kept.setCell (p := ⟨b, mB, none⟩) (.inl (s.fB b e2)) _, fun B w0 hB hb => (h.far B w0 hB hb).setCell (p := ⟨b, mB, none⟩) (Nat.le_trans hB e3) _⟩
theorem PhA.putI {w : World} {base : Nat} {F : Nat → Prop} {sh : Nat} {GB GI : Nat → Prop} {vB vI : Value} {nB nI : Nat} {hB hI : Nat → Hd} {iB mB iI mI : Nat} {W : World} (h : PhA w base F sh GB GI vB vI nB nI hB hI iB mB iI mI W) (s : Sta w base F sh GB GI nB nI hB hI) (hi : iI < nI) (hm : mI < (hI iI).n) {b : Nat} (hA : (hI iI).A = some ⟨b, 0, none⟩) : PhA w base F sh GB GI vB vI nB nI hB hI iB mB iI (mI + 1) (W.setCell ⟨b, mI, none⟩ (.int .i64 (mrk iI))) := by
  obtain ⟨xs, h1, _⟩ := h.gI.own iI hi
  obtain ⟨b', e1, e2, e3, _⟩ := (own_form h1).2 mI hm
  rw [hA] at e1
  injection e1 with e1
  injection e1 with e1
  subst e1
  have hk : Kept W (W.setCell ⟨b, mI, none⟩ (.int .i64 (mrk iI))) (fun k => k = b) := (Kept.refl W (fun k => k = b)).setCell (p := ⟨b, mI, none⟩) (.inl rfl) _
  exact ⟨blk_kept h.blk hk (fun q => s.nsI (q ▸ e2)), h.gB.kept hk (fun k q e => s.ap k q (e ▸ e2)), h.gI.put (by decide) hi hm hA, h.kept.setCell (p := ⟨b, mI, none⟩) (.inl (s.fI b e2)) _, fun B w0 hB hb => (h.far B w0 hB hb).setCell (p := ⟨b, mI, none⟩) (Nat.le_trans hB e3) _⟩
theorem PhA.step {w : World} {base : Nat} {F : Nat → Prop} {sh : Nat} {GB GI : Nat → Prop} {vB vI : Value} {nB nI : Nat} {hB hI : Nat → Hd} {iB mB iI mI : Nat} {W W1 : World} (h : PhA w base F sh GB GI vB vI nB nI hB hI iB mB iI mI W) (hb : Below W.heap.size W W1) (hbase : base ≤ W.heap.size) : PhA w base F sh GB GI vB vI nB nI hB hI iB mB iI mI W1 :=
  ⟨blk_below h.blk hb, h.gB.step hb, h.gI.step hb, h.kept.below hb, fun B w0 hB hw => below_far (h.far B w0 hB hw) (Nat.le_trans hB hbase) hb⟩
theorem PhA.drewN {w : World} {base : Nat} {F : Nat → Prop} {sh : Nat} {GB GI : Nat → Prop} {vB vI : Value} {nB nI : Nat} {hB hI : Nat → Hd} {iB mB iI mI : Nat} {W : World} (h : PhA w base F sh GB GI vB vI nB nI hB hI iB mB iI mI W) (m : Nat) : PhA w base F sh GB GI vB vI nB nI hB hI iB mB iI mI (W.drewN m) :=
  ⟨blk_drewN h.blk m, h.gB.step (pw_below_drewN (Below.refl _ _) m), h.gI.step (pw_below_drewN (Below.refl _ _) m), h.kept.drewN m, fun B w0 hB hw => pw_below_drewN (h.far B w0 hB hw) m⟩
theorem PhA.nextB {w : World} {base : Nat} {F : Nat → Prop} {sh : Nat} {GB GI : Nat → Prop} {vB vI : Value} {nB nI : Nat} {hB hI : Nat → Hd} {iB mB iI mI : Nat} {W : World} (h : PhA w base F sh GB GI vB vI nB nI hB hI iB mB iI mI W) (hm : mB = (hB iB).n) : PhA w base F sh GB GI vB vI nB nI hB hI (iB + 1) 0 iI mI W := ⟨h.blk, h.gB.next hm, h.gI, h.kept, h.far⟩
theorem PhA.nextI {w : World} {base : Nat} {F : Nat → Prop} {sh : Nat} {GB GI : Nat → Prop} {vB vI : Value} {nB nI : Nat} {hB hI : Nat → Hd} {iB mB iI mI : Nat} {W : World} (h : PhA w base F sh GB GI vB vI nB nI hB hI iB mB iI mI W) (hm : mI = (hI iI).n) : PhA w base F sh GB GI vB vI nB nI hB hI iB mB (iI + 1) 0 W := ⟨h.blk, h.gB, h.gI.next hm, h.kept, h.far⟩
structure Fra (w : World) (base S0 : Nat) (F : Nat → Prop) (sh : Nat) (cs : Array Value) (G : Nat → Prop) (Pas : World → Prop) (W : World) : Prop where
  blk : W.heap[sh]? = some (.cells cs 61 (0, 0))
  kept : Kept w W F
  far : ∀ (B : Nat) (w0 : World), B ≤ base → Below B w0 w → Below B w0 W
  pas : Pas W
  stab : ∀ (W W1 : World) (X : Nat → Prop), Pas W → Kept W W1 X → (∀ b, X b → G b ∨ S0 ≤ b) → Pas W1
  gf : ∀ b, G b → F b
  ns : ¬ G sh
  sl : sh < S0
  le : w.heap.size ≤ S0 ∧ base ≤ w.heap.size
theorem Fra.move {w : World} {base S0 : Nat} {F : Nat → Prop} {sh : Nat} {cs : Array Value} {G : Nat → Prop} {Pas : World → Prop} {W W1 : World} (h : Fra w base S0 F sh cs G Pas W) (X : Nat → Prop) (hk : Kept W W1 X) (hX : ∀ b, X b → G b ∨ S0 ≤ b) (hb : Below base W W1) : Fra w base S0 F sh cs G Pas W1 :=
  ⟨blk_kept h.blk hk (fun q => (hX sh q).elim h.ns (fun q => by have := h.sl; omega)), h.kept.then_ hk (fun b q => (hX b q).imp (h.gf b) (fun q => Nat.le_trans h.le.1 q)), fun B w0 hB hw => below_far (h.far B w0 hB hw) hB hb, h.stab W W1 X h.pas hk hX, h.stab, h.gf, h.ns, h.sl, h.le⟩
theorem below_less {B base : Nat} {W W1 : World} (h : Below B W W1) (hB : base ≤ B) : Below base W W1 := ⟨h.os, h.tape, h.output, h.size, fun b hb => h.block b (by omega)⟩
theorem Fra.step {w : World} {base S0 : Nat} {F : Nat → Prop} {sh : Nat} {cs : Array Value} {G : Nat → Prop} {Pas : World → Prop} {W W1 : World} (h : Fra w base S0 F sh cs G Pas W) (hb : Below W.heap.size W W1) : Fra w base S0 F sh cs G Pas W1 := h.move (fun _ => False) (Kept.of_below hb _) (fun _ q => q.elim) (below_less hb (Nat.le_trans h.le.2 h.kept.1))
theorem PhA.fraB {w : World} {base : Nat} {F : Nat → Prop} {sh : Nat} {GB GI : Nat → Prop} {vB vI : Value} {nB nI : Nat} {hB hI : Nat → Hd} {iB mB : Nat} {W : World} (h : PhA w base F sh GB GI vB vI nB nI hB hI iB mB nI 0 W) (s : Sta w base F sh GB GI nB nI hB hI) : Fra w base W.heap.size F sh #[vB, vI] GB (fun W' => Grp .i64 3 27 W' base (fun b => GI b ∧ b < W.heap.size) vI nI hI nI 0) W :=
  ⟨h.blk, h.kept, h.far, (h.gI.bound).mono (fun b q => ⟨q.1, q.2.2.1⟩), fun W1 W2 X hp hk hX => hp.kept hk (fun b q hx => (hX b hx).elim (fun g => s.ap b g q.1) (fun g => by omega)), s.fB, s.nsB, Nat.lt_of_lt_of_le (s.lt sh s.fs).2 h.kept.1, h.kept.1, Nat.le_trans (s.lt sh s.fs).1 (Nat.le_of_lt (s.lt sh s.fs).2)⟩
theorem Fra.turn {w : World} {base S0 : Nat} {F : Nat → Prop} {sh : Nat} {cs : Array Value} {GB GI : Nat → Prop} {vI : Value} {nB nI : Nat} {hB hI gh : Nat → Hd} {AB AM : Option Addr} {cB cM : Nat} {W : World} (h : Fra w base S0 F sh cs GB (fun W' => Grp .i64 3 27 W' base (fun b => GI b ∧ b < S0) vI nI hI nI 0) W) (s : Sta w base F sh GB GI nB nI hB hI) (hS : S0 ≤ W.heap.size) (hd : Dun .u8 (fun b => (GB b ∨ S0 ≤ b) ∧ b < W.heap.size) AB cB nB hB AM cM gh W) :
    Fra w base W.heap.size F sh cs (fun b => GI b ∧ b < S0) (fun W' => Dun .u8 (fun b => (GB b ∨ S0 ≤ b) ∧ b < W.heap.size) AB cB nB hB AM cM gh W') W :=
  ⟨h.blk, h.kept, h.far, hd, fun W1 W2 X hp hk hX => hp.kept hk (fun b q hx => by
    rcases hX b hx with g | g
    · rcases q.1 with q1 | q1
      · exact s.ap b q1 g.1
      · omega
    · omega), fun b q => s.fI b q.1, fun q => s.nsI q.1, Nat.lt_of_lt_of_le h.sl hS, Nat.le_trans h.le.1 hS, h.le.2⟩
theorem int1_fits {n : Nat} (h : n + 80 ≤ 140737488351400) {t : Nat} (ht : t < 80) : Builtin.nextslicecap (n + t + 1) (n + t) * 1 ≤ 281474976710656 := growslice_fits (need := n + t + 1) (old := n + t) (bytes := 1) (by omega) (by omega)
theorem int8_fits {n : Nat} (h : (n + 80) * 8 ≤ 140737488355328) {t : Nat} (ht : t < 80) : Builtin.nextslicecap (n + t + 1) (n + t) * 8 ≤ 281474976710656 := growslice_fits (need := n + t + 1) (old := n + t) (bytes := 8) (by omega) (by omega)
end Go.Proofs.Ytcffniaieegbgaa.P

end

section
namespace Go.Proofs.Ytcffniaieegbgaa.P
open Go.RowKit Go.Proofs.YtcffniaieegbgaaW.PrintWords Go.Proofs.YtcffniaieegbgaaW.PrintLast Go.Proofs.YtcffniaieegbgaaW.PrintMore
attribute [local go_sem] max2_int min2_int max_two min_two max_three min_three max_four min_four
set_option linter.unusedVariables false
set_option linter.unusedSimpArgs false
set_option maxHeartbeats 6400000 in
set_option maxRecDepth 100000 in
theorem Own_sh (base : Nat) (F : Nat → Prop) (sh nB nI : Nat) (w : World) (h : ShAt base F sh nB nI w) (hnB : nB ≤ 5864062014804) (hnI : nI ≤ 5864062014804) :
    Calls Try.prog 42 #[.pointer (some ⟨sh, 0, none⟩)] w fun e w' => e = .returned (.bool true) ∧ Kept w w' F ∧ ∀ (B : Nat) (w0 : World), B ≤ base → Below B w0 w → Below B w0 w' := by
  obtain ⟨⟨GB0, GI0, vB, vI, hB, hI, h1, h2, h3, h4, h5, h6, h7, h8⟩, hf, hl⟩ := h
  obtain ⟨AB, cB, ev⟩ := Kd.R_slice h2.row
  obtain ⟨AI, cI, ew⟩ := Kd.R_slice h3.row
  rw [rowH_len] at ev ew
  subst ev ew
  have hsta : Sta w base F sh (fun b => GB0 b ∧ b ≠ sh) (fun b => GI0 b ∧ b ≠ sh) nB nI hB hI := ⟨fun b q => h4 b q.1, fun b q => h5 b q.1, fun b q q2 => h6 b q.1 q2.1, fun q => q.2 rfl, fun q => q.2 rfl, hf, hl, h7, h8⟩
  have hph : PhA w base F sh (fun b => GB0 b ∧ b ≠ sh) (fun b => GI0 b ∧ b ≠ sh) (.slice AB nB cB) (.slice AI nI cI) nB nI hB hI 0 0 0 0 w := ⟨h1, h2.bound.mono (fun b q => ⟨q.1, fun e => by
    obtain ⟨_, _, _, cs, q4⟩ := q
    rw [e] at q4
    rcases q4 with q4 | q4
    · exact typ_neq h1 q4 (by decide) rfl
    · exact typ_neq h1 q4 (by decide) rfl⟩), h3.bound.mono (fun b q => ⟨q.1, fun e => by
    obtain ⟨_, _, _, cs, q4⟩ := q
    rw [e] at q4
    rcases q4 with q4 | q4
    · exact typ_neq h1 q4 (by decide) rfl
    · exact typ_neq h1 q4 (by decide) rfl⟩), Kept.refl w F, fun _ _ _ hb => hb⟩
  obtain ⟨GB, hGB⟩ : ∃ GB, GB = (fun b => GB0 b ∧ b ≠ sh) := ⟨_, rfl⟩
  obtain ⟨GI, hGI⟩ : ∃ GI, GI = (fun b => GI0 b ∧ b ≠ sh) := ⟨_, rfl⟩
  rw [← hGB, ← hGI] at hsta hph
  have S := Aside0.mk hsta
  have HP := Aside0.mk hph
  have HNB := Aside0.mk hnB
  have HNI := Aside0.mk hnI
  have hc0 := blk_cell h1 0
  clear h1 h2 h3 h4 h5 h6 h7 h8 hf hl hsta hph hnB hnI hGB hGI
  go_enter Try.func42, Try.ntmps42
  go_wp2_with fail
  go_loopw [22] (fun v22 wr => ∃ i : Nat, v22 = .int .i64 (i : Int) ∧ i ≤ nB ∧ Aside0 (PhA w base F sh GB GI (.slice AB nB cB) (.slice AI nI cI) nB nI hB hI i 0 0 0 wr)) (fun v22 _ => (nB : Int) - intOf v22 |>.toNat)
  case atStart => exact ⟨0, rfl, Nat.zero_le _, HP⟩
  case round =>
    clear HP
    obtain ⟨i, rfl, hi, HP⟩ := hrel
    by_cases c1 : i < nB
    · have c1b : decide ((i : Int) < (nB : Int)) = true := decide_eq_true (by omega)
      have c1c : decide (i < nB) = true := decide_eq_true c1
      have p5 : (0 ≤ (i : Int)) = True := eq_true (by omega)
      have p6 : ((i : Int) < (nB : Int)) = True := eq_true (by omega)
      obtain ⟨q1, e1, hx1⟩ := at_hd (Kd.R_reads' HP.out.gB.row).2.2 (i : Int) (by omega) (by rw [rowH_len]; omega)
      cases e1
      rw [rowH_at hB c1, Int.toNat_natCast] at hx1
      have HNO := Aside0.mk (show nB ≤ 9223372036854775807 by have := HNB.out; omega)
      have HMK := Aside0.mk (mrk_is i (by have := HNO.out; omega))
      obtain ⟨Ai, ni, ci, hq1⟩ : ∃ Ai ni ci, hB i = ⟨Ai, ni, ci⟩ := ⟨_, _, _, rfl⟩
      rw [hq1] at hx1
      change _ = some (Value.slice Ai ni ci) at hx1
      have HNI2 := Aside0.mk (show ni ≤ 9223372036854775807 by have := S.out.lB i c1; rw [hq1] at this; simp only at this; omega)
      have HQ1 := Aside0.mk hq1
      have HI := Aside0.mk c1
      clear c1 hq1
      go_wp2_with fail
      go_loopw [29] (fun v29 wr => ∃ m : Nat, v29 = .int .i64 (m : Int) ∧ m ≤ ni ∧ Aside0 (PhA w base F sh GB GI (.slice (some q1) nB cB) (.slice AI nI cI) nB nI hB hI i m 0 0 wr)) (fun v29 _ => (ni : Int) - intOf v29 |>.toNat)
      case atStart => exact ⟨0, rfl, Nat.zero_le _, HP⟩
      case round =>
        clear HP
        obtain ⟨m, rfl, hm, HP⟩ := hrel
        by_cases c2 : m < ni
        · have c2b : decide ((m : Int) < (ni : Int)) = true := decide_eq_true (by omega)
          have c2c : decide (m < ni) = true := decide_eq_true c2
          have p5 : (0 ≤ (m : Int)) = True := eq_true (by omega)
          have p6 : ((m : Int) < (ni : Int)) = True := eq_true (by omega)
          obtain ⟨xs, hR, _⟩ := HP.out.gB.own i HI.out
          obtain ⟨b, eA, _⟩ := (own_form hR).2 m (by rw [HQ1.out]; exact c2)
          rw [HQ1.out] at eA
          change Ai = some ⟨b, 0, none⟩ at eA
          subst eA
          rw [HQ1.out] at hR
          change Kd.R _ _ _ _ _ (.slice (some ⟨b, 0, none⟩) ni ci) xs at hR
          obtain ⟨hc1, hf1⟩ := Kd.R_celln 0 hR (m : Int) (by omega) (by omega)
          rw [Int.toNat_natCast] at hc1 hf1
          have HM := Aside0.mk c2
          clear c2 hR
          go_wp2_with fail
          refine (provisoplain_mark.calls (i : Int) (mrk i) _ HMK.out).mono ?_
          rintro e_ w2 ⟨rfl, m2, rfl⟩
          have HP2 := Aside0.mk ((HP.out.drewN m2).putB S.out HI.out (by rw [HQ1.out]; exact HM.out) (b := b) (by rw [HQ1.out]))
          have hcv := mrk_u8 i
          go_wp2_with fail
          go_roundw
          case rel => exact ⟨m + 1, (by rw [wrap_n HM.out HNI2.out]), HM.out, HP2⟩
          case measure => exact meas_n HM.out HNI2.out
        · have c2b : decide ((m : Int) < (ni : Int)) = false := decide_eq_false (by omega)
          have c2c : decide (m < ni) = false := decide_eq_false c2
          obtain rfl : ni = m := by omega
          have HP2 := Aside0.mk (HP.out.nextB (by rw [HQ1.out]))
          clear c2 hm
          go_wp2_with fail
          go_roundw
          case rel => exact ⟨i + 1, (by rw [wrap_n HI.out HNO.out]), HI.out, HP2⟩
          case measure => exact meas_n HI.out HNO.out
    · have c1b : decide ((i : Int) < (nB : Int)) = false := decide_eq_false (by omega)
      have c1c : decide (i < nB) = false := decide_eq_false c1
      obtain rfl : nB = i := by omega
      clear c1 hi
      have hcy := blk_cell HP.out.blk 1
      go_wp2_with fail
      go_loopw [45] (fun v45 wr => ∃ i : Nat, v45 = .int .i64 (i : Int) ∧ i ≤ nI ∧ Aside0 (PhA w base F sh GB GI (.slice AB nB cB) (.slice AI nI cI) nB nI hB hI nB 0 i 0 wr)) (fun v45 _ => (nI : Int) - intOf v45 |>.toNat)
      case atStart => exact ⟨0, rfl, Nat.zero_le _, HP⟩
      case round =>
        clear HP
        obtain ⟨i, rfl, hi, HP⟩ := hrel
        by_cases c1 : i < nI
        · have c1b : decide ((i : Int) < (nI : Int)) = true := decide_eq_true (by omega)
          have c1c : decide (i < nI) = true := decide_eq_true c1
          have p5 : (0 ≤ (i : Int)) = True := eq_true (by omega)
          have p6 : ((i : Int) < (nI : Int)) = True := eq_true (by omega)
          obtain ⟨q1, e1, hx1⟩ := at_hd (Kd.R_reads' HP.out.gI.row).2.2 (i : Int) (by omega) (by rw [rowH_len]; omega)
          cases e1
          rw [rowH_at hI c1, Int.toNat_natCast] at hx1
          have HNO := Aside0.mk (show nI ≤ 9223372036854775807 by have := HNI.out; omega)
          have HMK := Aside0.mk (mrk_is i (by have := HNO.out; omega))
          obtain ⟨Ai, ni, ci, hq1⟩ : ∃ Ai ni ci, hI i = ⟨Ai, ni, ci⟩ := ⟨_, _, _, rfl⟩
          rw [hq1] at hx1
          change _ = some (Value.slice Ai ni ci) at hx1
          have HNI2 := Aside0.mk (show ni ≤ 9223372036854775807 by have := S.out.lI i c1; rw [hq1] at this; simp only at this; omega)
          have HQ1 := Aside0.mk hq1
          have HI := Aside0.mk c1
          clear c1 hq1
          go_wp2_with fail
          go_loopw [52] (fun v52 wr => ∃ m : Nat, v52 = .int .i64 (m : Int) ∧ m ≤ ni ∧ Aside0 (PhA w base F sh GB GI (.slice AB nB cB) (.slice (some q1) nI cI) nB nI hB hI nB 0 i m wr)) (fun v52 _ => (ni : Int) - intOf v52 |>.toNat)
          case atStart => exact ⟨0, rfl, Nat.zero_le _, HP⟩
          case round =>
            clear HP
            obtain ⟨m, rfl, hm, HP⟩ := hrel
            by_cases c2 : m < ni
            · have c2b : decide ((m : Int) < (ni : Int)) = true := decide_eq_true (by omega)
              have c2c : decide (m < ni) = true := decide_eq_true c2
              have p5 : (0 ≤ (m : Int)) = True := eq_true (by omega)
              have p6 : ((m : Int) < (ni : Int)) = True := eq_true (by omega)
              obtain ⟨xs, hR, _⟩ := HP.out.gI.own i HI.out
              obtain ⟨b, eA, _⟩ := (own_form hR).2 m (by rw [HQ1.out]; exact c2)
              rw [HQ1.out] at eA
              change Ai = some ⟨b, 0, none⟩ at eA
              subst eA
              rw [HQ1.out] at hR
              change Kd.R _ _ _ _ _ (.slice (some ⟨b, 0, none⟩) ni ci) xs at hR
              obtain ⟨hc1, hf1⟩ := Kd.R_celln 0 hR (m : Int) (by omega) (by omega)
              rw [Int.toNat_natCast] at hc1 hf1
              have HM := Aside0.mk c2
              clear c2 hR
              go_wp2_with fail
              refine (provisoplain_mark.calls (i : Int) (mrk i) _ HMK.out).mono ?_
              rintro e_ w2 ⟨rfl, m2, rfl⟩
              have HP2 := Aside0.mk ((HP.out.drewN m2).putI S.out HI.out (by rw [HQ1.out]; exact HM.out) (b := b) (by rw [HQ1.out]))
              have hcv := mrk_u8 i
              go_wp2_with fail
              go_roundw
              case rel => exact ⟨m + 1, (by rw [wrap_n HM.out HNI2.out]), HM.out, HP2⟩
              case measure => exact meas_n HM.out HNI2.out
            · have c2b : decide ((m : Int) < (ni : Int)) = false := decide_eq_false (by omega)
              have c2c : decide (m < ni) = false := decide_eq_false c2
              obtain rfl : ni = m := by omega
              have HP2 := Aside0.mk (HP.out.nextI (by rw [HQ1.out]))
              clear c2 hm
              go_wp2_with fail
              go_roundw
              case rel => exact ⟨i + 1, (by rw [wrap_n HI.out HNO.out]), HI.out, HP2⟩
              case measure => exact meas_n HI.out HNO.out
        · have c1b : decide ((i : Int) < (nI : Int)) = false := decide_eq_false (by omega)
          have c1c : decide (i < nI) = false := decide_eq_false c1
          obtain rfl : nI = i := by omega
          clear c1 hi
          have hm0 := Mor.start (HP.out.gB) (by decide) (Nat.le_trans (S.out.lt sh S.out.fs).1 (Nat.le_trans (Nat.le_of_lt (S.out.lt sh S.out.fs).2) HP.out.kept.1))
          have hf0 := HP.out.fraB S.out
          have hcz := blk_cell HP.out.blk 0
          generalize wr.heap.size = S0 at hm0 hf0
          have HMO := Aside0.mk hm0
          have HFR := Aside0.mk hf0
          clear hm0 hf0 HP
          go_wp2_with fail
          go_loopw [67, 9] (fun v67 v9 wr => ∃ (i : Nat), v67 = .int .i64 (i : Int) ∧ i ≤ nB ∧ Aside0 (Fra w base S0 F sh #[.slice AB nB cB, .slice AI nI cI] GB (fun W_ => Grp .i64 3 27 W_ base (fun b => GI b ∧ b < S0) (.slice AI nI cI) nI hI nI 0) wr) ∧ ∃ AM cM, v9 = .slice AM i cM ∧ Aside0 (∃ (gh : Nat → Hd) (P : Nat → Nat → Prop), Mor .u8 5 22 base S0 GB (.slice AB nB cB) nB hB i (.slice AM i cM) gh P wr)) (fun v67 _ _ => (nB : Int) - intOf v67 |>.toNat)
          case atStart => exact ⟨0, rfl, Nat.zero_le _, HFR, _, _, rfl, ⟨_, _, HMO.out⟩⟩
          case round =>
            clear HFR HMO
            obtain ⟨i, rfl, hi, HFR, AM, cM, rfl, HMO⟩ := hrel
            obtain ⟨gh, P, hmo⟩ := HMO.out
            by_cases c1 : i < nB
            · have c1b : decide ((i : Int) < (nB : Int)) = true := decide_eq_true (by omega)
              have c1c : decide (i < nB) = true := decide_eq_true c1
              have p5 : (0 ≤ (i : Int)) = True := eq_true (by omega)
              have p6 : ((i : Int) < (nB : Int)) = True := eq_true (by omega)
              obtain ⟨q1, e1, hx1⟩ := at_hd (Kd.R_reads' hmo.row).2.2 (i : Int) (by omega) (by rw [rowH_len]; omega)
              cases e1
              rw [rowH_at hB c1, Int.toNat_natCast] at hx1
              have HNO := Aside0.mk (show nB ≤ 9223372036854775807 by have := HNB.out; omega)
              have HMK := Aside0.mk (mrk_is i (by have := HNO.out; omega))
              obtain ⟨Ai, ni, ci, hq1⟩ : ∃ Ai ni ci, hB i = ⟨Ai, ni, ci⟩ := ⟨_, _, _, rfl⟩
              rw [hq1] at hx1
              change _ = some (Value.slice Ai ni ci) at hx1
              have HLI := Aside0.mk (show ni + 80 ≤ 140737488351400 by have := S.out.lB i c1; rw [hq1] at this; exact this)
              have HQ1 := Aside0.mk hq1
              have HI := Aside0.mk c1
              have hin := hmo.enter c1
              rw [hq1] at hin
              obtain ⟨wz, hwz⟩ : ∃ wz, wz = wr := ⟨_, rfl⟩
              have HIN0 := Aside0.mk (show Inn .u8 5 22 base S0 wz.heap.size GB (.slice (some q1) nB cB) nB hB i (.slice AM i cM) gh P 0 ⟨Ai, ni, ci⟩ wr by rw [hwz]; exact hin)
              clear c1 hq1 hin hmo HMO hwz
              go_wp2_with fail
              go_loopw [73, 13] (fun v73 v13 wr => ∃ (t : Nat), v73 = .int .i64 (t : Int) ∧ t ≤ 80 ∧ Aside0 (Fra w base S0 F sh #[.slice (some q1) nB cB, .slice AI nI cI] GB (fun W_ => Grp .i64 3 27 W_ base (fun b => GI b ∧ b < S0) (.slice AI nI cI) nI hI nI 0) wr) ∧ ∃ Ag cg, v13 = .slice Ag (ni + t) cg ∧ Aside0 (Inn .u8 5 22 base S0 wz.heap.size GB (.slice (some q1) nB cB) nB hB i (.slice AM i cM) gh P t ⟨Ag, ni + t, cg⟩ wr)) (fun v73 _ _ => ((80 : Nat) : Int) - intOf v73 |>.toNat)
              case atStart => exact ⟨0, rfl, Nat.zero_le _, HFR, Ai, ci, rfl, HIN0⟩
              case round =>
                clear HFR HIN0
                obtain ⟨t, rfl, ht, HFR, Ag, cg, rfl, HIN⟩ := hrel
                by_cases c2 : t < 80
                · have c2b : decide ((t : Int) < 80) = true := decide_eq_true (by omega)
                  have c2c : decide (t < 80) = true := decide_eq_true c2
                  have HT := Aside0.mk c2
                  clear c2
                  go_wp2_with fail
                  refine (provisoplain_mark.calls (i : Int) (mrk i) _ HMK.out).mono ?_
                  rintro e_ w2 ⟨rfl, m2, rfl⟩
                  replace HIN := Aside0.mk (HIN.out.step (pw_below_drewN (Below.refl _ _) m2))
                  replace HFR := Aside0.mk (HFR.out.step (pw_below_drewN (Below.refl _ _) m2))
                  generalize wr.drewN m2 = w3 at HIN HFR ⊢
                  have hcv := mrk_u8 i
                  go_wp2_with (first | (at_builtin; refine R_append2 (Kd.int .u8) base rfl (.tmp 75) (.tmp 79) 22 5 (.int .u8 0) 1 rfl Try.underlying22 (by kernel_rfl) rfl (by decide) (by decide) (.slice Ag (ni + t) cg) (List.replicate (ni + t) (mrk i)) (mrk i) [.int .u8 (mrk i)] (fun b => (P i b ∨ wz.heap.size ≤ b) ∨ w3.heap.size ≤ b) (fun _ => False) rfl rfl rfl (fun _ hk => hk.elim) (fun _ hk => .inr hk) (Kd.R_mono (by have h9 := HIN.out.cur; rw [HQ1.out] at h9; exact h9) (fun _ q => .inl q)) (Nat.le_trans HIN.out.le.1 (Nat.le_trans HIN.out.le.2.1 HIN.out.le.2.2)) (by rw [List.length_replicate]; have := HLI.out; have := HT.out; unfold maxLen; omega) (by rw [List.length_replicate]; exact int1_fits HLI.out HT.out) ?_; intro v1 w4 ho hb hg hat; obtain ⟨g1, e1, hn1, hin1⟩ := HIN.out.more1 HI.out (by decide) (by rw [HQ1.out]; exact ho) hg hat; rw [HQ1.out] at hn1; obtain ⟨A1, n1, c1_⟩ := g1; change n1 = ni + (t + 1) at hn1; subst hn1; change v1 = Value.slice A1 (ni + (t + 1)) c1_ at e1; subst e1; have HFR2 := Aside0.mk (HFR.out.move (fun b => (Value.slice Ag (ni + t) cg).ownBlock = some b) (Kept.of_grown hg (Kept.refl w3 _) (fun b q => .inl q)) (fun b q => (HIN.out.cur.1 b q).elim (fun q2 => (HIN.out.sub i b HI.out q2).1) (fun q2 => .inr (Nat.le_trans HIN.out.le.2.1 q2))) hb); have HIN2 := Aside0.mk hin1; clear ho hb hg hat hin1))
                  go_roundw
                  case rel => exact ⟨t + 1, congrArg (Value.int .i64) (by omega), HT.out, HFR2, A1, c1_, rfl, HIN2⟩
                  case measure => have := HT.out; show ((80 : Int) - ((t : Int) + 1)).toNat < ((80 : Int) - (t : Int)).toNat; omega
                · have c2b : decide ((t : Int) < 80) = false := decide_eq_false (by omega)
                  have c2c : decide (t < 80) = false := decide_eq_false c2
                  obtain rfl : t = 80 := by omega
                  clear c2 ht
                  go_wp2_with (first | (at_builtin; refine R_append2 khd base rfl (.tmp 82) (.tmp 84) 58 22 (.slice none 0 0) 24 rfl Try.underlying58 (by kernel_rfl) rfl (by decide) (by decide) (.slice AM i cM) (rowH i gh) (⟨Ag, ni + 80, cg⟩ : Hd) [.slice Ag (ni + 80) cg] (fun b => S0 ≤ b ∨ wr.heap.size ≤ b) (fun _ => False) rfl rfl rfl (fun _ hk => hk.elim) (fun _ hk => .inr hk) (Kd.R_mono HIN.out.more (fun _ q => .inl q)) (Nat.le_trans HIN.out.le.1 (Nat.le_trans HIN.out.le.2.1 HIN.out.le.2.2)) (by rw [rowH_len]; have := HI.out; have := HNB.out; unfold maxLen; omega) (by rw [rowH_len]; exact khd_fits (by have := HI.out; have := HNB.out; omega)) ?_; intro v1 w4 ho hb hg hat; obtain ⟨gh', P', hm9⟩ := HIN.out.leave HI.out (by decide) ho hg (hat.imp id (fun q => q.1)); have HFR2 := Aside0.mk (HFR.out.move (fun b => (Value.slice AM i cM).ownBlock = some b) (Kept.of_grown hg (Kept.refl wr _) (fun b q => .inl q)) (fun b q => .inr (HIN.out.more.1 b q)) hb); obtain ⟨A1, c1_, e1⟩ := Kd.R_slice ho; rw [List.length_append, rowH_len] at e1; subst e1; have HMO2 := Aside0.mk hm9; clear ho hb hg hat hm9))
                  go_roundw
                  case rel => exact ⟨i + 1, (by rw [wrap_n HI.out HNO.out]), HI.out, HFR2, A1, c1_, rfl, ⟨gh', P', HMO2.out⟩⟩
                  case measure => exact meas_n HI.out HNO.out
            · have c1b : decide ((i : Int) < (nB : Int)) = false := decide_eq_false (by omega)
              have c1c : decide (i < nB) = false := decide_eq_false c1
              obtain rfl : nB = i := by omega
              have HMD := Aside0.mk hmo
              clear c1 hi hmo HMO
              have hdB := HMD.out.done
              have hfi := HFR.out.turn S.out HMD.out.le.2 hdB
              have hm0 := Mor.start HFR.out.pas (by decide) (Nat.le_trans HMD.out.le.1 HMD.out.le.2)
              have hcz := blk_cell HFR.out.blk 1
              clear hcz
              generalize AM = AM2 at *
              generalize cM = cM2 at *
              generalize gh = ghB at *
              have hcz := blk_cell HFR.out.blk 1
              generalize wr.heap.size = S2 at hm0 hfi
              have HMO := Aside0.mk hm0
              clear HFR
              have HFR := Aside0.mk hfi
              clear hm0 hfi HMD hdB
              go_wp2_with fail
              go_loopw [92, 10] (fun v92 v10 wr => ∃ (i : Nat), v92 = .int .i64 (i : Int) ∧ i ≤ nI ∧ Aside0 (Fra w base S2 F sh #[.slice AB nB cB, .slice AI nI cI] (fun b => GI b ∧ b < S0) (fun W_ => Dun .u8 (fun b => (GB b ∨ S0 ≤ b) ∧ b < S2) AB cB nB hB AM2 cM2 ghB W_) wr) ∧ ∃ AM cM, v10 = .slice AM i cM ∧ Aside0 (∃ (gh : Nat → Hd) (P : Nat → Nat → Prop), Mor .i64 3 27 base S2 (fun b => GI b ∧ b < S0) (.slice AI nI cI) nI hI i (.slice AM i cM) gh P wr)) (fun v92 _ _ => (nI : Int) - intOf v92 |>.toNat)
              case atStart => exact ⟨0, rfl, Nat.zero_le _, HFR, _, _, rfl, ⟨_, _, HMO.out⟩⟩
              case round =>
                clear HFR HMO
                obtain ⟨i, rfl, hi, HFR, AM, cM, rfl, HMO⟩ := hrel
                obtain ⟨gh, P, hmo⟩ := HMO.out
                by_cases c1 : i < nI
                · have c1b : decide ((i : Int) < (nI : Int)) = true := decide_eq_true (by omega)
                  have c1c : decide (i < nI) = true := decide_eq_true c1
                  have p5 : (0 ≤ (i : Int)) = True := eq_true (by omega)
                  have p6 : ((i : Int) < (nI : Int)) = True := eq_true (by omega)
                  obtain ⟨q1, e1, hx1⟩ := at_hd (Kd.R_reads' hmo.row).2.2 (i : Int) (by omega) (by rw [rowH_len]; omega)
                  cases e1
                  rw [rowH_at hI c1, Int.toNat_natCast] at hx1
                  have HNO := Aside0.mk (show nI ≤ 9223372036854775807 by have := HNI.out; omega)
                  have HMK := Aside0.mk (mrk_is i (by have := HNO.out; omega))
                  obtain ⟨Ai, ni, ci, hq1⟩ : ∃ Ai ni ci, hI i = ⟨Ai, ni, ci⟩ := ⟨_, _, _, rfl⟩
                  rw [hq1] at hx1
                  change _ = some (Value.slice Ai ni ci) at hx1
                  have HLI := Aside0.mk (show (ni + 80) * 8 ≤ 140737488355328 by have := S.out.lI i c1; rw [hq1] at this; exact this)
                  have HQ1 := Aside0.mk hq1
                  have HI := Aside0.mk c1
                  have hin := hmo.enter c1
                  rw [hq1] at hin
                  obtain ⟨wz, hwz⟩ : ∃ wz, wz = wr := ⟨_, rfl⟩
                  have HIN0 := Aside0.mk (show Inn .i64 3 27 base S2 wz.heap.size (fun b => GI b ∧ b < S0) (.slice (some q1) nI cI) nI hI i (.slice AM i cM) gh P 0 ⟨Ai, ni, ci⟩ wr by rw [hwz]; exact hin)
                  clear c1 hq1 hin hmo HMO hwz
                  go_wp2_with fail
                  go_loopw [98, 16] (fun v98 v16 wr => ∃ (t : Nat), v98 = .int .i64 (t : Int) ∧ t ≤ 80 ∧ Aside0 (Fra w base S2 F sh #[.slice AB nB cB, .slice (some q1) nI cI] (fun b => GI b ∧ b < S0) (fun W_ => Dun .u8 (fun b => (GB b ∨ S0 ≤ b) ∧ b < S2) AB cB nB hB AM2 cM2 ghB W_) wr) ∧ ∃ Ag cg, v16 = .slice Ag (ni + t) cg ∧ Aside0 (Inn .i64 3 27 base S2 wz.heap.size (fun b => GI b ∧ b < S0) (.slice (some q1) nI cI) nI hI i (.slice AM i cM) gh P t ⟨Ag, ni + t, cg⟩ wr)) (fun v98 _ _ => ((80 : Nat) : Int) - intOf v98 |>.toNat)
                  case atStart => exact ⟨0, rfl, Nat.zero_le _, HFR, Ai, ci, rfl, HIN0⟩
                  case round =>
                    clear HFR HIN0
                    obtain ⟨t, rfl, ht, HFR, Ag, cg, rfl, HIN⟩ := hrel
                    by_cases c2 : t < 80
                    · have c2b : decide ((t : Int) < 80) = true := decide_eq_true (by omega)
                      have c2c : decide (t < 80) = true := decide_eq_true c2
                      have HT := Aside0.mk c2
                      clear c2
                      go_wp2_with fail
                      refine (provisoplain_mark.calls (i : Int) (mrk i) _ HMK.out).mono ?_
                      rintro e_ w2 ⟨rfl, m2, rfl⟩
                      replace HIN := Aside0.mk (HIN.out.step (pw_below_drewN (Below.refl _ _) m2))
                      replace HFR := Aside0.mk (HFR.out.step (pw_below_drewN (Below.refl _ _) m2))
                      generalize wr.drewN m2 = w3 at HIN HFR ⊢
                      have hcv := mrk_u8 i
                      go_wp2_with (first | (at_builtin; refine R_append2 (Kd.int .i64) base rfl (.tmp 100) (.tmp 103) 27 3 (.int .i64 0) 8 rfl Try.underlying27 (by kernel_rfl) rfl (by decide) (by decide) (.slice Ag (ni + t) cg) (List.replicate (ni + t) (mrk i)) (mrk i) [.int .i64 (mrk i)] (fun b => (P i b ∨ wz.heap.size ≤ b) ∨ w3.heap.size ≤ b) (fun _ => False) rfl rfl rfl (fun _ hk => hk.elim) (fun _ hk => .inr hk) (Kd.R_mono (by have h9 := HIN.out.cur; rw [HQ1.out] at h9; exact h9) (fun _ q => .inl q)) (Nat.le_trans HIN.out.le.1 (Nat.le_trans HIN.out.le.2.1 HIN.out.le.2.2)) (by rw [List.length_replicate]; have := HLI.out; have := HT.out; unfold maxLen; omega) (by rw [List.length_replicate]; exact int8_fits HLI.out HT.out) ?_; intro v1 w4 ho hb hg hat; obtain ⟨g1, e1, hn1, hin1⟩ := HIN.out.more1 HI.out (by decide) (by rw [HQ1.out]; exact ho) hg hat; rw [HQ1.out] at hn1; obtain ⟨A1, n1, c1_⟩ := g1; change n1 = ni + (t + 1) at hn1; subst hn1; change v1 = Value.slice A1 (ni + (t + 1)) c1_ at e1; subst e1; have HFR2 := Aside0.mk (HFR.out.move (fun b => (Value.slice Ag (ni + t) cg).ownBlock = some b) (Kept.of_grown hg (Kept.refl w3 _) (fun b q => .inl q)) (fun b q => (HIN.out.cur.1 b q).elim (fun q2 => (HIN.out.sub i b HI.out q2).1) (fun q2 => .inr (Nat.le_trans HIN.out.le.2.1 q2))) hb); have HIN2 := Aside0.mk hin1; clear ho hb hg hat hin1))
                      go_roundw
                      case rel => exact ⟨t + 1, congrArg (Value.int .i64) (by omega), HT.out, HFR2, A1, c1_, rfl, HIN2⟩
                      case measure => have := HT.out; show ((80 : Int) - ((t : Int) + 1)).toNat < ((80 : Int) - (t : Int)).toNat; omega
                    · have c2b : decide ((t : Int) < 80) = false := decide_eq_false (by omega)
                      have c2c : decide (t < 80) = false := decide_eq_false c2
                      obtain rfl : t = 80 := by omega
                      clear c2 ht
                      go_wp2_with (first | (at_builtin; refine R_append2 khd base rfl (.tmp 106) (.tmp 108) 59 27 (.slice none 0 0) 24 rfl Try.underlying59 (by kernel_rfl) rfl (by decide) (by decide) (.slice AM i cM) (rowH i gh) (⟨Ag, ni + 80, cg⟩ : Hd) [.slice Ag (ni + 80) cg] (fun b => S2 ≤ b ∨ wr.heap.size ≤ b) (fun _ => False) rfl rfl rfl (fun _ hk => hk.elim) (fun _ hk => .inr hk) (Kd.R_mono HIN.out.more (fun _ q => .inl q)) (Nat.le_trans HIN.out.le.1 (Nat.le_trans HIN.out.le.2.1 HIN.out.le.2.2)) (by rw [rowH_len]; have := HI.out; have := HNI.out; unfold maxLen; omega) (by rw [rowH_len]; exact khd_fits (by have := HI.out; have := HNI.out; omega)) ?_; intro v1 w4 ho hb hg hat; obtain ⟨gh', P', hm9⟩ := HIN.out.leave HI.out (by decide) ho hg (hat.imp id (fun q => q.1)); have HFR2 := Aside0.mk (HFR.out.move (fun b => (Value.slice AM i cM).ownBlock = some b) (Kept.of_grown hg (Kept.refl wr _) (fun b q => .inl q)) (fun b q => .inr (HIN.out.more.1 b q)) hb); obtain ⟨A1, c1_, e1⟩ := Kd.R_slice ho; rw [List.length_append, rowH_len] at e1; subst e1; have HMO2 := Aside0.mk hm9; clear ho hb hg hat hm9))
                      go_roundw
                      case rel => exact ⟨i + 1, (by rw [wrap_n HI.out HNO.out]), HI.out, HFR2, A1, c1_, rfl, ⟨gh', P', HMO2.out⟩⟩
                      case measure => exact meas_n HI.out HNO.out
                · have c1b : decide ((i : Int) < (nI : Int)) = false := decide_eq_false (by omega)
                  have c1c : decide (i < nI) = false := decide_eq_false c1
                  obtain rfl : nI = i := by omega
                  have HMD := Aside0.mk hmo
                  clear c1 hi hmo HMO
                  have hdI := HMD.out.done
                  have HDI := Aside0.mk hdI
                  clear hdI
                  go_wp2_with fail
                  refine (marked_sh _ sh nB nI AB AI AM2 AM cB cI cM2 cM hB ghB hI gh _ _ HFR.out.blk HFR.out.pas HDI.out).mono ?_
                  rintro e_ w9 ⟨rfl, hb⟩
                  have HFR9 := Aside0.mk (HFR.out.step hb)
                  clear hb
                  go_wp2_with fail
                  go_ret
                  exact ⟨rfl, HFR9.out.kept, HFR9.out.far⟩
end Go.Proofs.Ytcffniaieegbgaa.P

end

section
namespace Go.Proofs.Ytcffniaieegbgaa.P
open Go.RowKit Go.Proofs.YtcffniaieegbgaaW.PrintWords Go.Proofs.YtcffniaieegbgaaW.PrintLast Go.Proofs.YtcffniaieegbgaaW.PrintMore
attribute [local go_sem] max2_int min2_int max_two min_two max_three min_three max_four min_four
set_option linter.unusedVariables false
set_option linter.unusedSimpArgs false
theorem blk_row {f : Nat → Nat} {W : World} {base g n c : Nat} {ok : Nat → Prop} {xs : List S35} (h : (Kd.tag f k35).R 35 W base ok (.slice (some ⟨g, 0, none⟩) n c) xs.zipIdx) (i : Nat) (hi : i < xs.length) :
    ∃ (A : Option Addr) (cc : Nat), W.cell? ⟨g, i * 3, none⟩ = some (.int .i64 (xs.getD i z35).f0) ∧ W.cell? ⟨g, i * 3 + 1, none⟩ = some (.int .i64 (xs.getD i z35).f1) ∧ W.cell? ⟨g, i * 3 + 2, none⟩ = some (.slice A (xs.getD i z35).f2.length cc) ∧
      Kd.R (Kd.int .i64) 3 W base (fun b => ok b ∧ f b = i) (.slice A (xs.getD i z35).f2.length cc) (xs.getD i z35).f2 := by
  have hz : xs.zipIdx.length = xs.length := by simp
  obtain ⟨cs, h1, h2, h3⟩ := Kd.R_getA h (z35, 0) (i : Int) (by omega) (by have := (Kd.R_reads' h).1; omega)
  have hg : xs.zipIdx.getD (i : Int).toNat (z35, 0) = (xs.getD i z35, i) := by
    rw [Int.toNat_natCast, List.getD_eq_getElem?_getD, List.getElem?_zipIdx, List.getD_eq_getElem?_getD, List.getElem?_eq_getElem hi]
    simp
  rw [hg] at h2
  obtain ⟨v, e, hR⟩ := blk_parts (show Kd.M k35 W base _ (xs.getD i z35) cs from h2)
  obtain ⟨A, cc, e2⟩ := Kd.R_slice hR
  subst e e2
  rw [Int.toNat_natCast] at h3
  refine ⟨A, cc, ?_, ?_, ?_, Kd.R_mono hR (fun b q => ⟨q.1.1, q.2⟩)⟩
  · have h9 := h3 0 _ rfl
    rw [add_at, Nat.zero_add] at h9
    exact h9
  · have h9 := h3 1 _ rfl
    rw [add_at, Nat.zero_add] at h9
    exact h9
  · have h9 := h3 2 _ rfl
    rw [add_at, Nat.zero_add] at h9
    exact h9
theorem ShAt.more {base : Nat} {F F' : Nat → Prop} {sh nB nI : Nat} {W : World} (h : ShAt base F sh nB nI W) (hF : ∀ b, F b → F' b) (hl : ∀ b, F' b → base ≤ b ∧ b < W.heap.size) : ShAt base F' sh nB nI W := by
  obtain ⟨⟨GB, GI, vB, vI, hB, hI, h1, h2, h3, h4, h5, h6, h7, h8⟩, hf, _⟩ := h
  exact ⟨⟨GB, GI, vB, vI, hB, hI, h1, h2, h3, fun b q => hF b (h4 b q), fun b q => hF b (h5 b q), h6, h7, h8⟩, hF _ hf, hl⟩
def ShAll (base sh n : Nat) (W : World) : Prop := ShAt base (fun b => base ≤ b ∧ b < W.heap.size) sh 0 n W
theorem ShAll.step {base sh n : Nat} {W W1 : World} (h : ShAll base sh n W) (hb : Below W.heap.size W W1) : ShAt base (fun b => base ≤ b ∧ b < W.heap.size) sh 0 n W1 := ShAt.step h hb
theorem ShAll.drawn {base sh n : Nat} {W W1 : World} (h : ShAll base sh n W) (hb : Below W.heap.size W W1) : ShAll base sh n W1 := (ShAt.step h hb).more (fun b q => ⟨q.1, Nat.lt_of_lt_of_le q.2 hb.size⟩) (fun b q => q)
theorem ShAll.base_le {base sh n : Nat} {W : World} (h : ShAll base sh n W) : base ≤ W.heap.size := by
  have := h.lt sh h.fs
  omega
theorem Ints_new {base sh n : Nat} {W W1 : World} {v : Value} {xs : List Int} (h : ShAll base sh n W) (hb : Below W.heap.size W W1) (hR : Kd.R (Kd.int .i64) 3 W1 W.heap.size (fun _ => True) v xs) (hl : (xs.length + 80) * 8 ≤ 140737488355328) (hn : n ≤ 5864062014804) :
    Calls Try.prog 41 #[.pointer (some ⟨sh, 0, none⟩), v] W1 fun e w' => e = .returned (.tuple #[]) ∧ ShAll base sh (n + 1) w' ∧ ∀ (B : Nat) (w0 : World), B ≤ base → Below B w0 W1 → Below B w0 w' := by
  have hbs := h.base_le
  refine (Ints_sh base _ (fun b => W.heap.size ≤ b ∧ b < W1.heap.size) sh 0 n W1 (h.step hb) v xs (Kd.R_lower (Kd.R_mono (Kd.R_bound hR) (fun k q => ⟨q.2.1, q.2.2.1⟩)) hbs) (fun b q q2 => by omega) hl hn).mono ?_
  rintro e w2 ⟨rfl, hs, hk, hf⟩
  refine ⟨rfl, hs.more (fun b q => ⟨?_, q.2⟩) (fun b q => q), hf⟩
  exact (hs.lt b q).1
theorem elder {base : Nat} {w0 W : World} (h : Below base w0 W) {α : Type} {d : Kd α} {A : Option Addr} {n : Nat} {xs : List α} (hb : base = w0.heap.size) (hC : d.C w0 A n xs) : d.C W A n xs := Kd.C_below hC (hb ▸ h)
theorem tag_kept {f : Nat → Nat} {W W1 : World} {base : Nat} {ok F : Nat → Prop} {v : Value} {xs : List (S35 × Nat)} (h : (Kd.tag f k35).R 35 W base ok v xs) (hk : Kept W W1 (fun b => F b ∧ ∃ cs t, W.heap[b]? = some (.cells cs t (0, 0)) ∧ (t = 61 ∨ t = 27))) : (Kd.tag f k35).R 35 W1 base ok v xs :=
  Kd.R_mono (Kd.R_move (Kd.R_bound h) (fun k q => hk.2 k q.2.2.1 (fun q2 => by
    obtain ⟨_, _, _, u, hu, cells, hc⟩ := q
    have hu2 : u ∈ [35, 3] := hu
    obtain ⟨_, cs, t, hd, ht2⟩ := q2
    rcases List.mem_cons.1 hu2 with rfl | hu2
    · rcases ht2 with rfl | rfl
      · exact typ_neq hc hd (by decide) rfl
      · exact typ_neq hc hd (by decide) rfl
    · obtain rfl := List.mem_singleton.1 hu2
      rcases ht2 with rfl | rfl
      · exact typ_neq hc hd (by decide) rfl
      · exact typ_neq hc hd (by decide) rfl))) (fun k q => q.1)
theorem tag_below {f : Nat → Nat} {W W1 : World} {base : Nat} {ok : Nat → Prop} {v : Value} {xs : List (S35 × Nat)} (h : (Kd.tag f k35).R 35 W base ok v xs) (hb : Below W.heap.size W W1) : (Kd.tag f k35).R 35 W1 base ok v xs := Kd.R_below h hb
end Go.Proofs.Ytcffniaieegbgaa.P

end

section
namespace Go.Proofs.Ytcffniaieegbgaa.P
open Go.RowKit Go.Proofs.YtcffniaieegbgaaW.PrintWords Go.Proofs.YtcffniaieegbgaaW.PrintLast Go.Proofs.YtcffniaieegbgaaW.PrintMore
attribute [local go_sem] max2_int min2_int max_two min_two max_three min_three max_four min_four
set_option linter.unusedVariables false
set_option linter.unusedSimpArgs false
def provisolaw05_FlowOwn.Facts (l0 : List Int) (x0 x1 x2 x3 : Int) : Prop := ∃ (K : Nat) (l : List S46) (n e : Int), provisoref05_Scan.f K l0 = some (l, n, e) ∧
  ((e ≠ 0 ∧ ∃ r, flow_Next.f x0 x1 x2 x3 = some r ∧ provisoref05_Next.f K x0 x1 x2 x3 = some r ∧ slices_Equal_int_int.f K r r = some true) ∨
   (e = 0 ∧ ∃ r1 r2 r3 r4 bl bl2 od, flow_Next.f x0 x1 x2 x3 = some r1 ∧ r1.length ≤ 17592186044336 ∧ flow_Targets.f l = some r2 ∧ r2.length ≤ 17592186044336 ∧ flow_Behind.f l = some r3 ∧ r3.length ≤ 17592186044336 ∧ flow_Reach.f K l 0 = some r4 ∧ r4.length ≤ 17592186044336 ∧
     flow_Blocks.f K l = some bl ∧ (∀ x ∈ bl, x.f2.length ≤ 17592186044336) ∧ bl.length ≤ 1099511627776 ∧ provisoref05_Blocks.f K l = some bl2 ∧ flow_Order.f K bl2 = some od ∧ od.length ≤ 17592186044336 ∧
     provisoref05_Reach.f K l 0 = some r4 ∧ slices_Equal_int_int.f K r4 r4 = some true ∧ provisoref05_Targets.f K l = some r2 ∧ slices_Equal_int_int.f K r2 r2 = some true ∧ provisoplain_SameBlocks.f K bl bl2 = some true))
set_option maxHeartbeats 6400000 in
set_option maxRecDepth 100000 in
theorem provisolaw05_FlowOwn.calls (A0 : Option Addr) (c0 : Nat) (l0 : List Int) (x0 x1 x2 x3 : Int) (w : World) (hr0 : Kd.C (Kd.int .u8) w A0 l0.length l0) (hc0 : l0.length ≤ c0) (h : provisolaw05_FlowOwn.Facts l0 x0 x1 x2 x3) :
    Calls Try.prog 12 #[.slice A0 l0.length c0, .agg #[.int .i64 x0, .int .u8 x1, .int .i64 x2, .int .i64 x3]] w fun e w' => e = .returned (.bool true) ∧ Below w.heap.size w w' := by
  obtain ⟨KK, l, n, e, hsc, hcase⟩ := h
  have HR0 := Aside0.mk hr0
  have HC0 := Aside0.mk hc0
  have HSC := Aside0.mk hsc
  clear hr0 hc0 hsc
  go_enter Try.func12, Try.ntmps12
  go_wp2_with ((with_reducible refine gate_dst (N := 3) rfl ?_); refine rw_box rfl 46 rfl (cs := #[.int .i64 x0, .int .u8 x1, .int .i64 x2, .int .i64 x3]) rfl (Rws.nil w) ?_; intro b3 w1 hX; have HX := Aside0.mk (hX.mem List.mem_cons_self); have HB0 := Aside0.mk hX.below; clear hX)
  refine (provisoref05_Scan.calls KK A0 c0 l0 l n e w1 (Kd.C_below HR0.out HB0.out) HC0.out HSC.out).mono ?_
  rintro e_ w2 ⟨vl, rfl, hR, hb⟩
  obtain ⟨Al, cl, el⟩ := Kd.R_slice hR
  subst el
  have HL := Aside0.mk (Kd.R_reads' hR).2.2
  have HLC := Aside0.mk (Kd.R_reads' hR).2.1
  have HBW := Aside0.mk (below_step HB0.out hb)
  replace HX := Aside0.mk (blk_below HX.out hb)
  clear hR hb HB0
  rcases hcase with ⟨he, r, h1, h2, h3⟩ | ⟨he, r1, r2, r3, r4, bl, bl2, od, h1, b1, h2, b2, h3, b3_, h4, b4, h5, b5, b6, h6, h7, b7, h8, h9, h10, h11, h12⟩
  · have c1 : (e == 0) = false := beq_eq_false_iff_ne.mpr he
    have H1 := Aside0.mk h1
    have H2 := Aside0.mk h2
    have H3 := Aside0.mk h3
    clear he h1 h2 h3
    go_wp2_with fail
    have HSS := Aside0.mk (show ∀ W' : World, Below w2.heap.size w2 W' → W'.cell? ⟨b3, 0, none⟩ = some (.int .i64 x0) ∧ W'.cell? ⟨b3, 1, none⟩ = some (.int .u8 x1) ∧ W'.cell? ⟨b3, 2, none⟩ = some (.int .i64 x2) ∧ W'.cell? ⟨b3, 3, none⟩ = some (.int .i64 x3) from fun W' hW => ⟨blk_cell (blk_below HX.out hW) 0, blk_cell (blk_below HX.out hW) 1, blk_cell (blk_below HX.out hW) 2, blk_cell (blk_below HX.out hW) 3⟩)
    have HB := Aside0.mk (Below.refl w2.heap.size w2)
    (try simp only [Act.put, List.setIfInBounds_toArray, List.set_cons_zero, List.set_cons_succ])
    refine wp_region_held_drew (S := fun w' => w'.cell? ⟨b3, 0, none⟩ = some (.int .i64 x0) ∧ w'.cell? ⟨b3, 1, none⟩ = some (.int .u8 x1) ∧ w'.cell? ⟨b3, 2, none⟩ = some (.int .i64 x2) ∧ w'.cell? ⟨b3, 3, none⟩ = some (.int .i64 x3)) (by kernel_rfl) ?_ (fun hHeld => ?_)
    · exact HSS.out _ (pw_below_drewN HB.out 1)
    replace HB := Aside0.mk (show Below w2.heap.size w2 w2.drew from pw_below_drewN HB.out 1)
    generalize w2.drew = wd at HB hHeld ⊢
    refine take_dst (i := 0) (v := ?_) 19 rfl rfl (by kernel_rfl) (by kernel_rfl) (by kernel_rfl) (fun _ _ _ h => h) (Or.inl ⟨by rfl, ?_⟩) (by assumption) ?_
    rotate_left
    · intro w hSw
      obtain ⟨q1, q2, q3, q4⟩ := hSw
      go_simp
      try with_reducible rfl
    (try simp only [Act.put, List.setIfInBounds_toArray, List.set_cons_zero, List.set_cons_succ])
    refine take_dst (i := 2) (v := ?_) 21 rfl rfl (by kernel_rfl) (by kernel_rfl) (by kernel_rfl) (fun _ _ _ h => h) (Or.inl ⟨by rfl, ?_⟩) (by assumption) ?_
    rotate_left
    · intro w hSw
      obtain ⟨q1, q2, q3, q4⟩ := hSw
      go_simp
      try with_reducible rfl
    (try simp only [Act.put, List.setIfInBounds_toArray, List.set_cons_zero, List.set_cons_succ])
    refine wpAnyH_ready (rs := [1]) (by kernel_rfl) (by simp) ?_
    refine AllReadyH.cons rfl (fun K hK => ?_) AllReadyH.nil
    go_simp
    refine (flow_Next.calls x0 x1 x2 x3 r _ H1.out).mono ?_
    rintro e w7 ⟨vn, rfl, hR, hb⟩
    obtain ⟨An, cn, en⟩ := Kd.R_slice hR
    subst en
    have HN := Aside0.mk (Kd.R_reads' hR).2.2
    have HNC := Aside0.mk (Kd.R_reads' hR).2.1
    replace HB := Aside0.mk (below_step HB.out hb)
    clear hR hb
    go_simp
    refine hK.out _ _ (HSS.out _ HB.out) (fun hHeld => ?_)
    (try simp only [Act.put, List.setIfInBounds_toArray, List.set_cons_zero, List.set_cons_succ])
    clear hK K
    refine wpAnyH_ready (rs := [3]) (by kernel_rfl) (by simp) ?_
    refine AllReadyH.cons rfl (fun K hK => ?_) AllReadyH.nil
    go_simp
    refine (provisoref05_Next.calls KK x0 x1 x2 x3 r _ H2.out).mono ?_
    rintro e w8 ⟨vr, rfl, hR, hb⟩
    obtain ⟨Ar, cr, er⟩ := Kd.R_slice hR
    subst er
    have HD := Aside0.mk (Kd.R_reads' hR).2.2
    have HDC := Aside0.mk (Kd.R_reads' hR).2.1
    replace HB := Aside0.mk (below_step HB.out hb)
    replace HN := Aside0.mk (Kd.C_below HN.out hb)
    clear hR hb
    go_simp
    refine hK.out _ _ (HSS.out _ HB.out) (fun hHeld => ?_)
    (try simp only [Act.put, List.setIfInBounds_toArray, List.set_cons_zero, List.set_cons_succ])
    clear hK K
    refine wpAnyH_ready (rs := [4]) (by kernel_rfl) (by simp) ?_
    refine AllReadyH.cons rfl (fun K hK => ?_) AllReadyH.nil
    go_simp
    refine (slices_Equal_int_int.calls KK An cn r Ar cr r true _ HN.out HNC.out HD.out HDC.out H3.out).mono ?_
    rintro e w9 ⟨rfl, q0⟩
    replace HB := Aside0.mk (below_step HB.out q0.below)
    clear q0
    go_simp
    refine hK.out _ _ (HSS.out _ HB.out) (fun hHeld => ?_)
    (try simp only [Act.put, List.setIfInBounds_toArray, List.set_cons_zero, List.set_cons_succ])
    clear hK K
    refine take_dst (i := 5) (v := ?_) 4 rfl rfl (by kernel_rfl) (by kernel_rfl) (by kernel_rfl) (fun _ _ _ h => h) (Or.inl ⟨by rfl, ?_⟩) (by assumption) ?_
    rotate_left
    · intro w hSw
      obtain ⟨q1, q2, q3, q4⟩ := hSw
      go_simp
      try with_reducible rfl
    (try simp only [Act.put, List.setIfInBounds_toArray, List.set_cons_zero, List.set_cons_succ])
    refine wpAnyH_done (by kernel_rfl) ?_ _
    go_wp2_with fail
    go_ret
    exact ⟨rfl, below_step HBW.out HB.out⟩
  · subst he
    have H1 := Aside0.mk h1
    have H2 := Aside0.mk h2
    have H3 := Aside0.mk h3
    have H4 := Aside0.mk h4
    have H5 := Aside0.mk h5
    have H6 := Aside0.mk h6
    have H7 := Aside0.mk h7
    have H8 := Aside0.mk h8
    have H9 := Aside0.mk h9
    have H10 := Aside0.mk h10
    have H11 := Aside0.mk h11
    have H12 := Aside0.mk h12
    have B1 := Aside0.mk b1
    have B2 := Aside0.mk b2
    have B3 := Aside0.mk b3_
    have B4 := Aside0.mk b4
    have B5 := Aside0.mk b5
    have B6 := Aside0.mk b6
    have B7 := Aside0.mk b7
    clear h1 h2 h3 h4 h5 h6 h7 h8 h9 h10 h11 h12 b1 b2 b3_ b4 b5 b6 b7
    go_wp2_with fail
    have hsh := ShAt.new w2
    have hb1 := below_alloc (Below.refl w2.heap.size w2) (.cells #[.slice none 0 0, .slice none 0 0] 61 (0, 0))
    have hsz1 : (w2.alloc (.cells #[.slice none 0 0, .slice none 0 0] 61 (0, 0))).heap.size = w2.heap.size + 1 := by simp
    generalize (w2.alloc (.cells #[.slice none 0 0, .slice none 0 0] 61 (0, 0))) = w3 at hsh hb1 hsz1 ⊢
    have hall : ShAll w2.heap.size w2.heap.size 0 w3 := hsh.more (fun b q => by subst q; omega) (fun b q => q)
    obtain ⟨sh, hsheq⟩ : ∃ sh, sh = w2.heap.size := ⟨_, rfl⟩
    have hall2 : ShAll w2.heap.size sh 0 w3 := by rw [hsheq]; exact hall
    rw [← hsheq]
    have HSH := Aside0.mk (show ∃ m, m ≤ 0 * (5 + bl.length) ∧ ShAll w2.heap.size sh m w3 from ⟨0, Nat.zero_le _, hall2⟩)
    have HB := Aside0.mk hb1
    clear hsh hb1 hsz1 hall hall2 hsheq
    go_loopw [26] (fun v26 wr => ∃ r : Nat, v26 = .int .i64 (r : Int) ∧ r ≤ 2 ∧ Aside0 (∃ m, m ≤ r * (5 + bl.length) ∧ ShAll w2.heap.size sh m wr) ∧ Aside0 (Below w2.heap.size w2 wr)) (fun v26 _ => ((2 : Int) - intOf v26).toNat)
    case atStart => exact ⟨0, rfl, Nat.zero_le _, HSH, HB⟩
    case round =>
      clear HSH HB
      obtain ⟨r, rfl, hr, HSH, HB⟩ := hrel
      by_cases c2 : r < 2
      · have c2b : decide ((r : Int) < 2) = true := decide_eq_true (by omega)
        have c2c : decide (r < 2) = true := decide_eq_true c2
        have HR2 := Aside0.mk c2
        have HRW : Aside0 (wrap64 ((r : Int) + 1) = ((r + 1 : Nat) : Int)) := ⟨wrap_n c2 (by decide)⟩
        obtain ⟨m, hm, hsh⟩ := HSH.out
        have HM := Aside0.mk hm
        replace HSH := Aside0.mk hsh
        have HMB := Aside0.mk (show m + (5 + bl.length) ≤ 5000000000000 by have := B6.out; have : r * (5 + bl.length) ≤ 1 * (5 + bl.length) := Nat.mul_le_mul_right _ (by omega); omega)
        clear hm hsh c2 hr
        obtain ⟨q0, q1, q2, q3⟩ : wr.cell? ⟨b3, 0, none⟩ = some (.int .i64 x0) ∧ wr.cell? ⟨b3, 1, none⟩ = some (.int .u8 x1) ∧ wr.cell? ⟨b3, 2, none⟩ = some (.int .i64 x2) ∧ wr.cell? ⟨b3, 3, none⟩ = some (.int .i64 x3) := ⟨blk_cell (blk_below HX.out HB.out) 0, blk_cell (blk_below HX.out HB.out) 1, blk_cell (blk_below HX.out HB.out) 2, blk_cell (blk_below HX.out HB.out) 3⟩
        go_wp2_with fail
        refine (flow_Next.calls x0 x1 x2 x3 r1 wr H1.out).mono ?_
        rintro e_ wa1 ⟨v1, rfl, hR, hb⟩
        obtain ⟨A1, c1, e1⟩ := Kd.R_slice hR
        subst e1
        have HRR := Aside0.mk hR
        have HBB := Aside0.mk hb
        clear hR hb
        clear q0 q1 q2 q3
        go_wp2_with fail
        refine (Ints_new HSH.out HBB.out HRR.out (by have := B1.out; omega) (by have := HMB.out; omega)).mono ?_
        rintro e_ wb1 ⟨rfl, hs, hf⟩
        replace HB := Aside0.mk (hf _ _ (Nat.le_refl _) (below_step HB.out HBB.out))
        replace HSH := Aside0.mk hs
        clear hs hf HRR HBB
        go_wp2_with fail
        refine (flow_Targets.calls Al cl l r2 wb1 (elder HB.out rfl HL.out) HLC.out H2.out).mono ?_
        rintro e_ wa2 ⟨v2, rfl, hR, hb⟩
        obtain ⟨A2, c2, e2⟩ := Kd.R_slice hR
        subst e2
        have HRR := Aside0.mk hR
        have HBB := Aside0.mk hb
        clear hR hb
        go_wp2_with fail
        refine (Ints_new HSH.out HBB.out HRR.out (by have := B2.out; omega) (by have := HMB.out; omega)).mono ?_
        rintro e_ wb2 ⟨rfl, hs, hf⟩
        replace HB := Aside0.mk (hf _ _ (Nat.le_refl _) (below_step HB.out HBB.out))
        replace HSH := Aside0.mk hs
        clear hs hf HRR HBB
        go_wp2_with fail
        refine (flow_Behind.calls Al cl l r3 wb2 (elder HB.out rfl HL.out) HLC.out H3.out).mono ?_
        rintro e_ wa3 ⟨v3, rfl, hR, hb⟩
        obtain ⟨A3, c3, e3⟩ := Kd.R_slice hR
        subst e3
        have HRR := Aside0.mk hR
        have HBB := Aside0.mk hb
        clear hR hb
        go_wp2_with fail
        refine (Ints_new HSH.out HBB.out HRR.out (by have := B3.out; omega) (by have := HMB.out; omega)).mono ?_
        rintro e_ wb3 ⟨rfl, hs, hf⟩
        replace HB := Aside0.mk (hf _ _ (Nat.le_refl _) (below_step HB.out HBB.out))
        replace HSH := Aside0.mk hs
        clear hs hf HRR HBB
        go_wp2_with fail
        refine (flow_Reach.calls KK Al cl l 0 r4 wb3 (elder HB.out rfl HL.out) HLC.out H4.out).mono ?_
        rintro e_ wa4 ⟨v4, rfl, hR, hb⟩
        obtain ⟨A4, c4, e4⟩ := Kd.R_slice hR
        subst e4
        have HRR := Aside0.mk hR
        have HBB := Aside0.mk hb
        clear hR hb
        go_wp2_with fail
        refine (Ints_new HSH.out HBB.out HRR.out (by have := B4.out; omega) (by have := HMB.out; omega)).mono ?_
        rintro e_ wb4 ⟨rfl, hs, hf⟩
        replace HB := Aside0.mk (hf _ _ (Nat.le_refl _) (below_step HB.out HBB.out))
        replace HSH := Aside0.mk hs
        clear hs hf HRR HBB
        go_wp2_with fail
        refine (flow_Blocks.calls KK Al cl l bl wb4 (elder HB.out rfl HL.out) HLC.out H5.out).mono ?_
        rintro e_ wc ⟨vb, rfl, hS, hb⟩
        obtain ⟨f, hT⟩ := Kd.S_mono (Kd.S_bound hS) (ok' := fun b => wb4.heap.size ≤ b ∧ b < wc.heap.size) (fun b q => ⟨q.2.1, q.2.2.1⟩)
        obtain ⟨Ab, cb, eb⟩ := Kd.S_slice hS
        subst eb
        have HT := Aside0.mk (Kd.R_lower hT (HSH.out.base_le))
        have HSB := Aside0.mk (show ShAt w2.heap.size (fun b => (w2.heap.size ≤ b ∧ b < wb4.heap.size) ∨ (wb4.heap.size ≤ b ∧ b < wc.heap.size ∧ f b < 0) ∨ (wc.heap.size ≤ b ∧ b < wc.heap.size)) sh 0 (m + 1 + 1 + 1 + 1 + 0) wc from (HSH.out.step hb).more (fun b q => .inl q) (fun b q => by have := hb.size; have := HSH.out.base_le; omega))
        have HSZ := Aside0.mk (show w2.heap.size ≤ wb4.heap.size ∧ wb4.heap.size ≤ wc.heap.size from ⟨HSH.out.base_le, hb.size⟩)
        replace HB := Aside0.mk (below_step HB.out hb)
        clear hS hT hb HSH
        go_wp2_with fail
        obtain ⟨wq, hwq⟩ : ∃ wq, wq = wc := ⟨_, rfl⟩
        go_loopw [47] (fun v47 wr => ∃ i : Nat, v47 = .int .i64 (i : Int) ∧ i ≤ bl.length ∧ Aside0 (ShAt w2.heap.size (fun b => (w2.heap.size ≤ b ∧ b < wb4.heap.size) ∨ (wb4.heap.size ≤ b ∧ b < wc.heap.size ∧ f b < i) ∨ (wc.heap.size ≤ b ∧ b < wr.heap.size)) sh 0 (m + 1 + 1 + 1 + 1 + i) wr) ∧ Aside0 ((Kd.tag f k35).R 35 wr w2.heap.size (fun b => wb4.heap.size ≤ b ∧ b < wc.heap.size) (.slice Ab bl.length cb) bl.zipIdx) ∧ Aside0 (Below w2.heap.size w2 wr) ∧ Aside0 (wc.heap.size ≤ wr.heap.size)) (fun v47 _ => ((bl.length : Int) - intOf v47).toNat)
        case atStart => exact ⟨0, rfl, Nat.zero_le _, HSB, HT, HB, ⟨Nat.le_refl _⟩⟩
        case round =>
          clear HSB HT HB hwq
          obtain ⟨i, rfl, hi, HSB, HT, HB, HWS⟩ := hrel
          by_cases c3 : i < bl.length
          · have c3b : decide ((i : Int) < (bl.length : Int)) = true := decide_eq_true (by omega)
            have c3c : decide (i < bl.length) = true := decide_eq_true c3
            have p5 : (0 ≤ (i : Int)) = True := eq_true (by omega)
            have p6 : ((i : Int) < (bl.length : Int)) = True := eq_true (by omega)
            obtain ⟨gB, eB⟩ : ∃ gB, Ab = some ⟨gB, 0, none⟩ := by
              have hz : bl.zipIdx.length = bl.length := by simp
              obtain ⟨ad, c, e⟩ := Kd.R_slice1 HT.out (by omega)
              injection e with e _ _
              have h9 := HT.out
              rw [e] at h9 ⊢
              obtain ⟨ga, rfl⟩ := Kd.R_head h9
              exact ⟨ga, rfl⟩
            subst eB
            obtain ⟨Ax, cx, k0, k1, k2, hrow⟩ := blk_row HT.out i c3
            have HXL := Aside0.mk (B5.out _ (show bl.getD i z35 ∈ bl by rw [List.getD_eq_getElem?_getD, List.getElem?_eq_getElem c3]; exact List.getElem_mem c3))
            generalize bl.getD i z35 = x at k0 k1 k2 hrow HXL
            have HROW := Aside0.mk hrow
            have HI := Aside0.mk c3
            have HIW : Aside0 (wrap64 ((i : Int) + 1) = ((i + 1 : Nat) : Int)) := ⟨wrap_n c3 (by have := B6.out; omega)⟩
            clear c3 hrow hi
            go_wp2_with fail
            have hba := below_alloc (Below.refl wr.heap.size wr) (.cells #[.int .i64 x.f0, .int .i64 x.f1, .slice Ax x.f2.length cx] 35 (0, 0))
            generalize (wr.alloc (.cells #[.int .i64 x.f0, .int .i64 x.f1, .slice Ax x.f2.length cx] 35 (0, 0))) = wy at hba ⊢
            clear k0 k1 k2
            have hsy := hba.size
            refine (Ints_sh w2.heap.size _ _ sh 0 _ wy (HSB.out.step hba) _ x.f2 (Kd.R_below HROW.out hba) (fun b q1 q2 => by have := HWS.out; rcases q2 with q2 | q2 | q2 <;> omega) (by have := HXL.out; omega) (by have := HMB.out; have := HI.out; omega)).mono ?_
            rintro e_ wx ⟨rfl, hs, hkk, hfar⟩
            have hsx := hkk.1
            replace HB := Aside0.mk (hfar _ _ (Nat.le_refl _) (below_step HB.out hba))
            replace HT := Aside0.mk (tag_kept (tag_below HT.out hba) hkk)
            replace HSB := Aside0.mk (hs.more (F' := (fun b => (w2.heap.size ≤ b ∧ b < wb4.heap.size) ∨ (wb4.heap.size ≤ b ∧ b < wc.heap.size ∧ f b < i + 1) ∨ (wc.heap.size ≤ b ∧ b < wx.heap.size))) (fun b q => by
              have := HWS.out
              rcases q with ⟨q | q | q, q2⟩
              · rcases q with q | q | q <;> omega
              · have h9 := HROW.out.1 b q.symm
                simp only at h9
                omega
              · omega) (fun b q => by have := HWS.out; have := HSZ.out; omega))
            replace HWS := Aside0.mk (show wc.heap.size ≤ wx.heap.size by have := HWS.out; omega)
            clear hs hkk hfar hsx hsy hba HROW
            go_wp2_with fail
            go_roundw
            case rel => exact ⟨i + 1, (by rw [HIW.out]), HI.out, HSB, HT, HB, HWS⟩
            case measure => rw [HIW.out]; have := HI.out; show ((bl.length : Int) - ((i + 1 : Nat) : Int)).toNat < ((bl.length : Int) - (i : Int)).toNat; omega
          · have c3b : decide ((i : Int) < (bl.length : Int)) = false := decide_eq_false (by omega)
            have c3c : decide (i < bl.length) = false := decide_eq_false c3
            obtain rfl : bl.length = i := by omega
            have HSH := Aside0.mk (show ShAll w2.heap.size sh _ wr from HSB.out.more (fun b q => by have := HWS.out; have := HSZ.out; omega) (fun b q => q))
            clear c3 hi HSB HT
            go_wp2_with fail
            refine (provisoref05_Blocks.calls KK Al cl l bl2 wr (elder HB.out rfl HL.out) HLC.out H6.out).mono ?_
            rintro e_ wd ⟨vb2, rfl, hS, hb⟩
            obtain ⟨Ab2, cb2, eb2⟩ := Kd.S_slice hS
            subst eb2
            have HS2 := Aside0.mk (Kd.S_reads' hS).2.2
            have HS2C := Aside0.mk (Kd.S_reads' hS).2.1
            replace HSH := Aside0.mk (HSH.out.drawn hb)
            replace HB := Aside0.mk (below_step HB.out hb)
            clear hS hb
            go_wp2_with fail
            refine (flow_Order.calls KK Ab2 cb2 bl2 od wd HS2.out HS2C.out H7.out).mono ?_
            rintro e_ we ⟨vo, rfl, hR, hb⟩
            obtain ⟨Ao, co, eo⟩ := Kd.R_slice hR
            subst eo
            have HRR := Aside0.mk hR
            have HBB := Aside0.mk hb
            clear hR hb
            go_wp2_with fail
            refine (Ints_new HSH.out HBB.out HRR.out (by have := B7.out; omega) (by have := HMB.out; omega)).mono ?_
            rintro e_ wf ⟨rfl, hs, hf⟩
            replace HB := Aside0.mk (hf _ _ (Nat.le_refl _) (below_step HB.out HBB.out))
            replace HSH := Aside0.mk hs
            clear hs hf HRR HBB
            go_wp2_with fail
            go_roundw
            case rel => exact ⟨r + 1, (by rw [HRW.out]), HR2.out, ⟨⟨_, by have := HM.out; rw [Nat.add_mul, Nat.one_mul]; omega, HSH.out⟩⟩, HB⟩
            case measure => rw [HRW.out]; have := HR2.out; show ((2 : Int) - ((r + 1 : Nat) : Int)).toNat < ((2 : Int) - (r : Int)).toNat; omega
      · have c2b : decide ((r : Int) < 2) = false := decide_eq_false (by omega)
        have c2c : decide (r < 2) = false := decide_eq_false c2
        obtain ⟨m, hm, hsh⟩ := HSH.out
        have HMB := Aside0.mk (show m ≤ 5000000000000 by have := B6.out; have : r * (5 + bl.length) ≤ 2 * (5 + bl.length) := Nat.mul_le_mul_right _ hr; omega)
        replace HSH := Aside0.mk hsh
        clear hm hsh c2 hr
        go_wp2_with fail
        refine (Own_sh w2.heap.size _ sh 0 m wr HSH.out (by decide) (by have := HMB.out; omega)).mono ?_
        rintro e_ wg ⟨rfl, hkk, hfar⟩
        replace HB := Aside0.mk (hfar _ _ (Nat.le_refl _) HB.out)
        clear hkk hfar HSH
        go_wp2_with fail
        refine (flow_Reach.calls KK Al cl l 0 r4 wg (elder HB.out rfl HL.out) HLC.out H4.out).mono ?_
        rintro e_ wh ⟨vwh, rfl, hR, hb⟩
        obtain ⟨Ah, ch, ewh⟩ := Kd.R_slice hR
        subst ewh
        have HH := Aside0.mk (Kd.R_reads' hR).2.2
        have HHC := Aside0.mk (Kd.R_reads' hR).2.1
        replace HB := Aside0.mk (below_step HB.out hb)
        clear hR hb
        go_wp2_with fail
        refine (provisoref05_Reach.calls KK Al cl l 0 r4 wh (elder HB.out rfl HL.out) HLC.out H8.out).mono ?_
        rintro e_ wi ⟨vwi, rfl, hR, hb⟩
        obtain ⟨Ai, ci, ewi⟩ := Kd.R_slice hR
        subst ewi
        have HJ := Aside0.mk (Kd.R_reads' hR).2.2
        have HJC := Aside0.mk (Kd.R_reads' hR).2.1
        replace HB := Aside0.mk (below_step HB.out hb)
        replace HH := Aside0.mk (Kd.C_below HH.out hb)
        clear hR hb
        go_wp2_with fail
        refine (slices_Equal_int_int.calls KK Ah ch r4 Ai ci r4 true wi HH.out HHC.out HJ.out HJC.out H9.out).mono ?_
        rintro e_ wj ⟨rfl, q0⟩
        replace HB := Aside0.mk (below_step HB.out (by first | exact q0.below | exact q0))
        clear q0
        go_wp2_with fail
        refine (flow_Targets.calls Al cl l r2 wj (elder HB.out rfl HL.out) HLC.out H2.out).mono ?_
        rintro e_ wk ⟨vwk, rfl, hR, hb⟩
        obtain ⟨Ak, ck, ewk⟩ := Kd.R_slice hR
        subst ewk
        have HH2 := Aside0.mk (Kd.R_reads' hR).2.2
        have HH2C := Aside0.mk (Kd.R_reads' hR).2.1
        replace HB := Aside0.mk (below_step HB.out hb)
        clear hR hb
        go_wp2_with fail
        refine (provisoref05_Targets.calls KK Al cl l r2 wk (elder HB.out rfl HL.out) HLC.out H10.out).mono ?_
        rintro e_ wl ⟨vwl, rfl, hR, hb⟩
        obtain ⟨Al2, cl2, ewl⟩ := Kd.R_slice hR
        subst ewl
        have HJ2 := Aside0.mk (Kd.R_reads' hR).2.2
        have HJ2C := Aside0.mk (Kd.R_reads' hR).2.1
        replace HB := Aside0.mk (below_step HB.out hb)
        replace HH2 := Aside0.mk (Kd.C_below HH2.out hb)
        clear hR hb
        go_wp2_with fail
        refine (slices_Equal_int_int.calls KK Ak ck r2 Al2 cl2 r2 true wl HH2.out HH2C.out HJ2.out HJ2C.out H11.out).mono ?_
        rintro e_ wm ⟨rfl, q0⟩
        replace HB := Aside0.mk (below_step HB.out (by first | exact q0.below | exact q0))
        clear q0
        go_wp2_with fail
        refine (flow_Blocks.calls KK Al cl l bl wm (elder HB.out rfl HL.out) HLC.out H5.out).mono ?_
        rintro e_ wn ⟨vwn, rfl, hR, hb⟩
        obtain ⟨An, cn, ewn⟩ := Kd.S_slice hR
        subst ewn
        have HH3 := Aside0.mk (Kd.S_reads' hR).2.2
        have HH3C := Aside0.mk (Kd.S_reads' hR).2.1
        replace HB := Aside0.mk (below_step HB.out hb)
        clear hR hb
        go_wp2_with fail
        refine (provisoref05_Blocks.calls KK Al cl l bl2 wn (elder HB.out rfl HL.out) HLC.out H6.out).mono ?_
        rintro e_ wo ⟨vwo, rfl, hR, hb⟩
        obtain ⟨Ao, co, ewo⟩ := Kd.S_slice hR
        subst ewo
        have HJ3 := Aside0.mk (Kd.S_reads' hR).2.2
        have HJ3C := Aside0.mk (Kd.S_reads' hR).2.1
        replace HB := Aside0.mk (below_step HB.out hb)
        replace HH3 := Aside0.mk (Kd.C_below HH3.out hb)
        clear hR hb
        go_wp2_with fail
        refine (provisoplain_SameBlocks.calls KK An cn bl Ao co bl2 true wo HH3.out HH3C.out HJ3.out HJ3C.out H12.out).mono ?_
        rintro e_ wp_ ⟨rfl, q0⟩
        replace HB := Aside0.mk (below_step HB.out (by first | exact q0.below | exact q0))
        clear q0
        go_wp2_with fail
        go_ret
        exact ⟨rfl, below_step HBW.out HB.out⟩
end Go.Proofs.Ytcffniaieegbgaa.P

end

section
namespace Go.Proofs.Ytcffniaieegbgaa.P
open Go.RowKit Go.Proofs.YtcffniaieegbgaaW.PrintWords
def provisolaw05_FlowOwn.Pure : Prop := ∀ (l0 : List (Int)) (a1_0 : Int) (a1_1 : Int) (a1_2 : Int) (a1_3 : Int), (fun l : List (Int) => l.length ≤ 9223372036854775807 ∧ l.length * 1 ≤ 140737488351232 ∧ ∀ x ∈ l, (fun n : Int => (Lit.int .u8 n).wf = true) x) l0 → (fun n : Int => (Lit.int .i64 n).wf = true) a1_0 → (fun n : Int => (Lit.int .u8 n).wf = true) a1_1 → (fun n : Int => (Lit.int .i64 n).wf = true) a1_2 → (fun n : Int => (Lit.int .i64 n).wf = true) a1_3 → provisolaw05_FlowOwn.Facts l0 a1_0 a1_1 a1_2 a1_3
end Go.Proofs.Ytcffniaieegbgaa.P

end

section
namespace Go.Proofs.Ytcffniaieegbgaa.Pure
open Go.RowKit Go.Proofs.Ytcffniaieegbgaa.P Go.Proofs.YtcffniaieegbgaaW.PrintWords
set_option linter.unusedSimpArgs false
set_option linter.unusedVariables false
theorem wrap_one {i n : Nat} (h : i < n) (hn : n ≤ 9223372036854775807) : wrap64 ((i : Int) + 1) = ((i + 1 : Nat) : Int) := by unfold wrap64; omega
theorem wide_is (k : Nat) (op : Int) : provisoref04_wide.f (k + 2) op = code_widths.f 3 op := by
  by_cases h1 : op = 1
  · subst h1; rfl
  by_cases h2 : op = 19
  · subst h2; rfl
  by_cases h3 : op = 20
  · subst h3; rfl
  by_cases h4 : op = 24
  · subst h4; rfl
  by_cases h5 : op = 25
  · subst h5; rfl
  by_cases h6 : op = 2
  · subst h6; rfl
  by_cases h7 : op = 4
  · subst h7; rfl
  by_cases h8 : op = 5
  · subst h8; rfl
  have e20 : (op == 20) = false := by rw [beq_eq_false_iff_ne]; exact h3
  have e25 : (op == 25) = false := by rw [beq_eq_false_iff_ne]; exact h5
  have e5 : (op == 5) = false := by rw [beq_eq_false_iff_ne]; exact h8
  simp only [provisoref04_wide.f, provisoref04_wide.j0, provisoref04_wide.j1, code_widths.f, code_widths.j0, code_widths.j1, code_widths.j2, if_neg h1, if_neg h2, if_neg h4, if_neg h6, if_neg h7, if_neg h8, e20, e25, e5, Bool.false_eq_true, if_false]
theorem rsize_is (k : Nat) (op : Int) : provisoref04_Size.f (k + 2) op = some (szOf op) := by
  have h := size_is 0 op
  rw [← h]
  unfold provisoref04_Size.f code_Size.f
  rw [wide_is k op]
theorem rsize_ev (op : Int) : Ev (fun k => provisoref04_Size.f k op) (szOf op) := ⟨2, fun k hk => by
  obtain ⟨m, rfl⟩ : ∃ m, k = m + 2 := ⟨k - 2, by omega⟩
  exact rsize_is m op⟩
theorem rjumps_is (op : Int) : provisoref04_Jumps.f op = some (jumpsB op) := jumps_is op
theorem rends_is (op : Int) : provisoref04_Ends.f op = some (endsB op) := ends_is op
theorem rplaced_is (a b c d : Int) : provisoref05_placed.f a b c d = some (placedB a) := placed_is a b c d
theorem drop_at {l : List Int} {i : Nat} (h : i < l.length) : l.drop i = rd l (i : Int) :: l.drop (i + 1) := by
  rw [List.drop_eq_getElem_cons h]
  congr 1
  show l[i] = l.getD (i : Int).toNat 0
  rw [Int.toNat_natCast, List.getD_eq_getElem?_getD, List.getElem?_eq_getElem h]
  rfl
theorem drop_atI {l : List S46} {i : Nat} (h : i < l.length) : l.drop i = rd_T46 l (i : Int) :: l.drop (i + 1) := by
  rw [List.drop_eq_getElem_cons h]
  congr 1
  show l[i] = l.getD (i : Int).toNat z46
  rw [Int.toNat_natCast, List.getD_eq_getElem?_getD, List.getElem?_eq_getElem h]
  rfl
theorem put_done (n : Int) (l : List Int) (hl : l.length ≤ 9223372036854775807) : ∀ (d i : Nat) (out : List Int), l.length - i = d → i ≤ l.length → out.length + d + 2 ≤ 17592186044416 → Ev (fun k => provisoref05_put.l0 k n out true l (l.length : Int) (i : Int)) (out ++ l.drop i)
  | 0, i, out, hd, hi, ho => by
    obtain rfl : i = l.length := by omega
    refine Ev.step (f := fun _ => some out) (fun k => ?_) (by rw [List.drop_length, List.append_nil]; exact Ev.now _)
    simp only [provisoref05_put.l0]
    rw [if_neg (by omega), if_pos True.intro]
  | d + 1, i, out, hd, hi, ho => by
    have h1 : i < l.length := by omega
    have ih := put_done n l hl d (i + 1) (out ++ [rd l (i : Int)]) (by omega) (by omega) (by simp; omega)
    rw [drop_at h1]
    rw [List.append_assoc, List.singleton_append] at ih
    refine Ev.step (f := fun k => provisoref05_put.j1 k n out true (rd l (i : Int)) l (l.length : Int) (i : Int) false) (fun k => ?_) (Ev.step (f := fun k => provisoref05_put.l0 k n (out ++ [rd l (i : Int)]) true l (l.length : Int) ((i + 1 : Nat) : Int)) (fun k => ?_) ih)
    · simp only [provisoref05_put.l0]
      rw [if_pos (by omega), if_pos (by omega), if_pos (by omega), if_pos True.intro]
    · simp only [provisoref05_put.j1]
      rw [if_neg (by decide), if_pos (by omega), wrap_one h1 hl]
theorem put_go (n : Int) (l : List Int) (hl : l.length ≤ 9223372036854775807) : ∀ (d i : Nat) (out : List Int), l.length - i = d → i ≤ l.length → out.length + d + 3 ≤ 17592186044416 → Ev (fun k => provisoref05_put.l0 k n out false l (l.length : Int) (i : Int)) (out ++ ins n (l.drop i))
  | 0, i, out, hd, hi, ho => by
    obtain rfl : i = l.length := by omega
    refine Ev.step (f := fun _ => some (out ++ [n])) (fun k => ?_) (by rw [List.drop_length]; exact Ev.now _)
    simp only [provisoref05_put.l0]
    rw [if_neg (by omega), if_neg (by decide), if_pos (by omega)]
  | d + 1, i, out, hd, hi, ho => by
    have h1 : i < l.length := by omega
    rw [drop_at h1]
    refine Ev.step (f := fun k => provisoref05_put.j1 k n out false (rd l (i : Int)) l (l.length : Int) (i : Int) (decide (n ≤ rd l (i : Int)))) (fun k => ?_) ?_
    · simp only [provisoref05_put.l0]
      rw [if_pos (by omega), if_pos (by omega), if_pos (by omega), if_neg (by decide)]
    by_cases h2 : n < rd l (i : Int)
    · have ih := put_done n l hl d (i + 1) (out ++ [n] ++ [rd l (i : Int)]) (by omega) (by omega) (by simp; omega)
      unfold ins
      rw [if_pos h2]
      rw [show (out ++ [n] ++ [rd l (i : Int)]) ++ l.drop (i + 1) = out ++ n :: rd l (i : Int) :: l.drop (i + 1) by simp] at ih
      refine Ev.step (f := fun k => provisoref05_put.l0 k n (out ++ [n] ++ [rd l (i : Int)]) true l (l.length : Int) ((i + 1 : Nat) : Int)) (fun k => ?_) ih
      simp only [provisoref05_put.j1]
      rw [if_pos (decide_eq_true (by omega)), if_pos h2, if_pos (by omega)]
      simp only [Option.bind_some]
      rw [if_pos (by simp; omega), wrap_one h1 hl]
    · unfold ins
      rw [if_neg h2]
      by_cases h3 : n = rd l (i : Int)
      · have ih := put_done n l hl d (i + 1) (out ++ [rd l (i : Int)]) (by omega) (by omega) (by simp; omega)
        rw [if_pos h3]
        rw [List.append_assoc, List.singleton_append] at ih
        refine Ev.step (f := fun k => provisoref05_put.l0 k n (out ++ [rd l (i : Int)]) true l (l.length : Int) ((i + 1 : Nat) : Int)) (fun k => ?_) ih
        simp only [provisoref05_put.j1]
        rw [if_pos (decide_eq_true (by omega)), if_neg h2, if_pos (by omega), wrap_one h1 hl]
      · have ih := put_go n l hl d (i + 1) (out ++ [rd l (i : Int)]) (by omega) (by omega) (by simp; omega)
        rw [if_neg h3]
        rw [List.append_assoc, List.singleton_append] at ih
        refine Ev.step (f := fun k => provisoref05_put.l0 k n (out ++ [rd l (i : Int)]) false l (l.length : Int) ((i + 1 : Nat) : Int)) (fun k => ?_) ih
        simp only [provisoref05_put.j1]
        rw [if_neg (fun h => by have := of_decide_eq_true h; omega), if_pos (by omega), wrap_one h1 hl]
theorem put_ev (n : Int) (l : List Int) (hl : l.length + 3 ≤ 17592186044416) : Ev (fun k => provisoref05_put.f k l n) (ins n l) := by
  have h := put_go n l (by omega) l.length 0 [] (by omega) (by omega) (by simp; omega)
  rw [List.drop_zero, List.nil_append] at h
  exact h
theorem ins_len (n : Int) : ∀ l : List Int, (ins n l).length ≤ l.length + 1
  | [] => by simp [ins]
  | x :: r => by
    unfold ins
    split
    · simp
    · split
      · simp
      · have := ins_len n r
        simp
        omega
theorem next_ev (x : S46) : Ev (fun k => provisoref05_Next.f k x.f0 x.f1 x.f2 x.f3) (nextL x) := by
  unfold nextL
  refine Ev.congr (f := fun k => (provisoref04_Size.f k x.f1).bind (fun t => if t = 0 then (provisoref05_Next.j0 k ([] : List Int) t true x.f0 x.f1 x.f2 x.f3) else ((provisoref05_placed.f x.f0 x.f1 x.f2 x.f3).bind fun t148 => (provisoref05_Next.j0 k ([] : List Int) t (!t148) x.f0 x.f1 x.f2 x.f3)))) (fun k => rfl) (Ev.bind (rsize_ev x.f1) ?_)
  by_cases h0 : szOf x.f1 = 0
  · simp only [h0, if_true]
    refine Ev.step (f := fun _ => some []) (fun k => ?_) (Ev.now _)
    simp only [provisoref05_Next.j0, if_true]
  · simp only [if_neg h0, rplaced_is, Option.bind_some]
    by_cases hp : placedB x.f0 = true
    · simp only [hp, if_true, Bool.not_true]
      have hz := szOf_range x.f1
      have hpl : 0 ≤ x.f0 ∧ x.f0 < 4096 := by unfold placedB at hp; simpa using hp
      have hw : wrap64 (x.f0 + szOf x.f1) = x.f0 + szOf x.f1 := by unfold wrap64; omega
      have hj : ∀ acc : List Int, acc.length ≤ 5 → Ev (fun k => provisoref05_Next.j1 k acc x.f0 x.f1 x.f2 x.f3) (if jumpsB x.f1 = true then ins x.f2 acc else acc) := fun acc ha => by
        by_cases hj : jumpsB x.f1 = true
        · rw [if_pos hj]
          refine Ev.step (f := fun k => (provisoref05_put.f k acc x.f2).bind (fun t => some t)) (fun k => ?_) (Ev.bind (put_ev x.f2 acc (by omega)) (Ev.now _))
          simp only [provisoref05_Next.j1, rjumps_is, Option.bind_some]
          rw [if_pos hj]
        · rw [if_neg hj]
          refine Ev.step (f := fun _ => some acc) (fun k => ?_) (Ev.now _)
          simp only [provisoref05_Next.j1, rjumps_is, Option.bind_some]
          rw [if_neg hj]
      by_cases he : endsB x.f1 = true
      · refine Ev.step (f := fun k => provisoref05_Next.j1 k [] x.f0 x.f1 x.f2 x.f3) (fun k => ?_) ?_
        · simp only [provisoref05_Next.j0, rends_is, Option.bind_some, Bool.false_eq_true, if_false]
          rw [if_pos he]
        · have h := hj [] (by simp)
          unfold nextKeys
          rw [if_pos he]
          split at h
          · rename_i hjj; rw [if_pos hjj]; exact h
          · rename_i hjj; rw [if_neg hjj]; exact h
      · refine Ev.step (f := fun k => (provisoref05_put.f k [] (x.f0 + szOf x.f1)).bind (fun t => provisoref05_Next.j1 k t x.f0 x.f1 x.f2 x.f3)) (fun k => ?_) ?_
        · simp only [provisoref05_Next.j0, rends_is, Option.bind_some, Bool.false_eq_true, if_false]
          rw [if_neg he, hw]
        · refine Ev.bind (put_ev _ [] (by simp)) ?_
          have h := hj (ins (x.f0 + szOf x.f1) []) (by simp [ins])
          unfold nextKeys
          rw [if_neg he]
          split at h
          · rename_i hjj; rw [if_pos hjj]; exact h
          · rename_i hjj; rw [if_neg hjj]; exact h
    · have hp' : placedB x.f0 = false := by simpa using hp
      simp only [hp', Bool.not_false, Bool.false_eq_true, if_false]
      refine Ev.step (f := fun _ => some []) (fun k => ?_) (Ev.now _)
      simp only [provisoref05_Next.j0, if_true]
theorem eq_ints (l : List Int) (hl : l.length ≤ 9223372036854775807) : ∀ (d i : Nat), l.length - i = d → i ≤ l.length → Ev (fun k => slices_Equal_int_int.l0 k l l (l.length : Int) (i : Int)) true
  | 0, i, hd, hi => by
    refine Ev.step (f := fun _ => some true) (fun k => ?_) (Ev.now _)
    simp only [slices_Equal_int_int.l0]
    rw [if_neg (by omega)]
  | d + 1, i, hd, hi => by
    have ih := eq_ints l hl d (i + 1) (by omega) (by omega)
    refine Ev.step (fun k => ?_) ih
    simp only [slices_Equal_int_int.l0]
    rw [if_pos (by omega), if_pos (by omega), if_pos (by omega), if_pos (by omega), if_pos True.intro, wrap_one (n := l.length) (by omega) hl]
theorem ints_ev (l : List Int) (hl : l.length ≤ 9223372036854775807) : Ev (fun k => slices_Equal_int_int.f k l l) true := by
  refine Ev.congr (fun k => ?_) (eq_ints l hl l.length 0 (by omega) (by omega))
  unfold slices_Equal_int_int.f
  rw [if_pos rfl]
  rfl
theorem i64_okB {x : Int} (h : (Lit.int .i64 x).wf = true) : okB x = true := by
  simp [Lit.wf, IntKind.min, IntKind.max, IntKind.signed, IntKind.bits] at h
  unfold okB
  rw [decide_eq_true (by omega), decide_eq_true (by omega)]
  rfl
theorem nextL_len (x : S46) : (nextL x).length ≤ 2 := by
  unfold nextL
  split
  · simp
  · split
    · unfold nextKeys srt
      have h1 := ins_len (x.f0 + szOf x.f1) []
      have h2 := ins_len x.f2 []
      have h3 := ins_len x.f2 (ins (x.f0 + szOf x.f1) [])
      split <;> split <;> simp at * <;> omega
    · simp
end Go.Proofs.Ytcffniaieegbgaa.Pure

end

section
namespace Go.Proofs.Ytcffniaieegbgaa.Pure
open Go.RowKit Go.Proofs.Ytcffniaieegbgaa.P Go.Proofs.YtcffniaieegbgaaW.PrintWords
set_option linter.unusedSimpArgs false
set_option linter.unusedVariables false
theorem nodup_len : ∀ (a m : List Int), a.Nodup → (∀ x ∈ a, x ∈ m) → a.length ≤ m.length
  | [], m, _, _ => by simp
  | x :: r, m, hn, hs => by
    have h1 := List.nodup_cons.1 hn
    have hx := hs x List.mem_cons_self
    have h2 : r.length ≤ (m.erase x).length := nodup_len r (m.erase x) h1.2 (fun y hy => by
      have hne : y ≠ x := fun e => h1.1 (e ▸ hy)
      exact (List.mem_erase_of_ne hne).2 (hs y (List.mem_cons_of_mem _ hy)))
    rw [List.length_erase_of_mem hx] at h2
    have : 0 < m.length := List.length_pos_of_mem hx
    simp
    omega
theorem firstAt_mem : ∀ (l : List S46) (j : Nat) (x v : Int), firstAt l j x = some v → x ∈ l.map (·.f0)
  | [], j, x, v, h => by cases h
  | y :: r, j, x, v, h => by
    unfold firstAt at h
    split at h
    · rename_i e; rw [← e]; simp
    · exact List.mem_map.2 (by
        obtain ⟨z, hz, e⟩ := List.mem_map.1 (firstAt_mem r (j + 1) x v h)
        exact ⟨z, List.mem_cons_of_mem _ hz, e⟩)
theorem firstAt_at : ∀ (l : List S46) (j i : Nat) (x : Int), firstAt l j x = some ((j + i : Nat) : Int) → i < l.length → (l.getD i z46).f0 = x
  | [], j, i, x, h, _ => by cases h
  | y :: r, j, i, x, h, hi => by
    unfold firstAt at h
    split at h
    · rename_i e
      have h9 := Option.some.inj h
      have : i = 0 := by omega
      subst this
      exact e
    · cases i with
      | zero =>
        obtain ⟨i', h1, h2⟩ := firstAt_lt r (j + 1) x _ h
        omega
      | succ i =>
        have h9 := firstAt_at r (j + 1) i x (by rw [h]; congr 2; omega) (by simpa using hi)
        simpa using h9
theorem firstAt_idx {l : List S46} {x v : Int} (h : firstAt l 0 x = some v) : ∃ i : Nat, v = (i : Int) ∧ i < l.length ∧ (rd_T46 l v).f0 = x := by
  obtain ⟨i, h1, h2⟩ := firstAt_lt l 0 x v h
  rw [Nat.zero_add] at h1
  subst h1
  refine ⟨i, rfl, h2, ?_⟩
  unfold rd_T46
  rw [Int.toNat_natCast]
  exact firstAt_at l 0 i x (by rw [Nat.zero_add]; exact h) h2
def nxA (l : List S46) (a : Int) : List Int := match firstAt l 0 a with | some i => nextL (rd_T46 l i) | none => []
inductive Rch (l : List S46) (a0 : Int) : Int → Prop
  | base : (firstAt l 0 a0).isSome = true → Rch l a0 a0
  | step {a b : Int} : Rch l a0 a → b ∈ nxA l a → (firstAt l 0 b).isSome = true → Rch l a0 b
theorem Rch.there {l : List S46} {a0 a : Int} (h : Rch l a0 a) : (firstAt l 0 a).isSome = true := by cases h <;> assumption
theorem Rch.le {l : List S46} {a0 : Int} {s : List Int} (hn : s.Nodup) (h : ∀ x ∈ s, Rch l a0 x) : s.length ≤ l.length := by
  have := nodup_len s (l.map (·.f0)) hn (fun x hx => by
    have h1 := (h x hx).there
    cases h2 : firstAt l 0 x with
    | none => rw [h2] at h1; cases h1
    | some v => exact firstAt_mem l 0 x v h2)
  simpa using this
theorem Rch.closed {l : List S46} {a0 : Int} {s : List Int} (h0 : (firstAt l 0 a0).isSome = true → a0 ∈ s) (hc : ∀ a ∈ s, ∀ b ∈ nxA l a, (firstAt l 0 b).isSome = true → b ∈ s) {a : Int} (h : Rch l a0 a) : a ∈ s := by
  induction h with
  | base h => exact h0 h
  | step _ hb hs ih => exact hc _ ih _ hb hs
theorem reach_go (l : List S46) (hl : l.length < 4398046511104) (a0 : Int) : ∀ (d : Nat) (st come : List Int), st.length + 3 * (l.length - come.length) ≤ d → st.length ≤ 1 + 2 * come.length → come.Nodup → (∀ x ∈ come, Rch l a0 x) → (∀ x ∈ st, (firstAt l 0 x).isSome = true → Rch l a0 x) → (∀ x ∈ come, ∀ b ∈ nxA l x, (firstAt l 0 b).isSome = true → b ∈ come ∨ b ∈ st) → ((firstAt l 0 a0).isSome = true → a0 ∈ come ∨ a0 ∈ st) →
    ∃ r, Ev (fun k => reachL k l st come) r ∧ r.Pairwise (· < ·) ∧ (∀ x, x ∈ r ↔ Rch l a0 x) := by
  intro d
  induction d using Nat.strongRecOn with
  | _ d ih =>
    intro st come hd hlen hn hc hs hcl h0
    have hcle := Rch.le hn hc
    rcases snoc_cases st with rfl | ⟨s, a, rfl⟩
    · refine ⟨srt come, Ev.step (f := fun _ => some (srt come)) (fun k => by rw [reachL_nil, if_pos (by omega)]) (Ev.now _), srt_strict _, fun x => ?_⟩
      rw [srt_mem]
      refine ⟨hc x, fun h => h.closed (s := come) (fun h9 => ?_) (fun a ha b hb hb2 => ?_)⟩
      · rcases h0 h9 with h | h
        · exact h
        · cases h
      · rcases hcl a ha b hb hb2 with h | h
        · exact h
        · cases h
    · simp only [List.length_append, List.length_singleton] at hd hlen
      cases hf : firstAt l 0 a with
      | none =>
        have hout : ∀ b, (firstAt l 0 b).isSome = true → b ∈ s ++ [a] → b ∈ s := fun b hb hm => by
          rcases List.mem_append.1 hm with h | h
          · exact h
          · rw [List.mem_singleton.1 h, hf] at hb; cases hb
        obtain ⟨r, h1, h2⟩ := ih (s.length + 3 * (l.length - come.length)) (by omega) s come (Nat.le_refl _) (by omega) hn hc (fun x hx => hs x (List.mem_append.2 (.inl hx)))
          (fun x hx b hb hb2 => (hcl x hx b hb hb2).imp id (hout b hb2)) (fun h9 => (h0 h9).imp id (hout _ h9))
        exact ⟨r, Ev.step (fun k => by rw [reachL_snoc, hf]) h1, h2⟩
      | some i =>
        by_cases hm : a ∈ come
        · have hout : ∀ b, b ∈ come ∨ b ∈ s ++ [a] → b ∈ come ∨ b ∈ s := fun b hb => by
            rcases hb with h | h
            · exact .inl h
            · rcases List.mem_append.1 h with h | h
              · exact .inr h
              · rw [List.mem_singleton.1 h]; exact .inl hm
          obtain ⟨r, h1, h2⟩ := ih (s.length + 3 * (l.length - come.length)) (by omega) s come (Nat.le_refl _) (by omega) hn hc (fun x hx => hs x (List.mem_append.2 (.inl hx)))
            (fun x hx b hb hb2 => hout b (hcl x hx b hb hb2)) (fun h9 => hout _ (h0 h9))
          exact ⟨r, Ev.step (fun k => by rw [reachL_snoc, hf]; simp only [if_pos hm]) h1, h2⟩
        · have hR : Rch l a0 a := hs a (by simp) (by rw [hf]; rfl)
          have hnl := nextL_len (rd_T46 l i)
          have hn2 : (come ++ [a]).Nodup := List.nodup_append.2 ⟨hn, by simp, fun x hx y hy => by
            rw [List.mem_singleton.1 hy]; exact fun e => hm (e ▸ hx)⟩
          have hc2 : ∀ x ∈ come ++ [a], Rch l a0 x := fun x hx => by
            rcases List.mem_append.1 hx with h | h
            · exact hc x h
            · rw [List.mem_singleton.1 h]; exact hR
          have hcle2 := Rch.le hn2 hc2
          simp only [List.length_append, List.length_singleton] at hcle2
          have hnx : nxA l a = nextL (rd_T46 l i) := by unfold nxA; rw [hf]
          obtain ⟨r, h1, h2⟩ := ih ((s ++ nextL (rd_T46 l i)).length + 3 * (l.length - (come ++ [a]).length)) (by simp only [List.length_append, List.length_singleton]; omega) (s ++ nextL (rd_T46 l i)) (come ++ [a]) (Nat.le_refl _) (by simp only [List.length_append, List.length_singleton]; omega) hn2 hc2
            (fun x hx hp => by
              rcases List.mem_append.1 hx with h | h
              · exact hs x (List.mem_append.2 (.inl h)) hp
              · exact Rch.step hR (by rw [hnx]; exact h) hp)
            (fun x hx b hb hb2 => by
              rcases List.mem_append.1 hx with h | h
              · rcases hcl x h b hb hb2 with h | h
                · exact .inl (List.mem_append.2 (.inl h))
                · rcases List.mem_append.1 h with h | h
                  · exact .inr (List.mem_append.2 (.inl h))
                  · exact .inl (List.mem_append.2 (.inr h))
              · rw [List.mem_singleton.1 h, hnx] at hb
                exact .inr (List.mem_append.2 (.inr hb)))
            (fun h9 => by
              rcases h0 h9 with h | h
              · exact .inl (List.mem_append.2 (.inl h))
              · rcases List.mem_append.1 h with h | h
                · exact .inr (List.mem_append.2 (.inl h))
                · exact .inl (List.mem_append.2 (.inr h)))
          refine ⟨r, Ev.step (fun k => ?_) h1, h2⟩
          rw [reachL_snoc, hf]
          simp only [if_neg hm]
          rw [if_pos (by simp only [List.length_append, List.length_singleton]; omega)]
theorem reach_ev (l : List S46) (hl : l.length < 4398046511104) (a0 : Int) (h1 : asOk l = true) (h2 : atsOk l = true) (h3 : okB a0 = true) : ∃ r, Ev (fun k => flow_Reach.f k l a0) r ∧ r.Pairwise (· < ·) ∧ (∀ x, x ∈ r ↔ Rch l a0 x) := by
  obtain ⟨r, h, hr⟩ := reach_go l hl a0 (1 + 3 * l.length) [a0] [] (by simp) (by simp) List.nodup_nil (fun x hx => by cases hx) (fun x hx hp => by rw [List.mem_singleton.1 hx] at hp ⊢; exact Rch.base hp) (fun x hx => by cases hx) (fun _ => .inr (by simp))
  refine ⟨r, Ev.congr (fun k => ?_) h, hr⟩
  unfold flow_Reach.f
  rw [if_pos hl, if_pos ⟨h1, h2, h3⟩]
end Go.Proofs.Ytcffniaieegbgaa.Pure

end

section
namespace Go.Proofs.Ytcffniaieegbgaa.Pure
open Go.RowKit Go.Proofs.Ytcffniaieegbgaa.P Go.Proofs.YtcffniaieegbgaaW.PrintWords
set_option linter.unusedSimpArgs false
set_option linter.unusedVariables false
def plc (l : List S46) (a : Int) : Int := (firstAt l 0 a).getD (-1)
theorem place_go (l : List S46) (hl : l.length ≤ 9223372036854775807) (a : Int) : ∀ (d i : Nat), l.length - i = d → i ≤ l.length → Ev (fun k => provisoref05_Place.l0 k a l (l.length : Int) (i : Int)) ((firstAt (l.drop i) i a).getD (-1))
  | 0, i, hd, hi => by
    obtain rfl : i = l.length := by omega
    refine Ev.step (f := fun _ => some (-1)) (fun k => ?_) (by rw [List.drop_length]; exact Ev.now _)
    simp only [provisoref05_Place.l0]
    rw [if_neg (by omega)]
  | d + 1, i, hd, hi => by
    have h1 : i < l.length := by omega
    rw [drop_atI h1]
    unfold firstAt
    by_cases h2 : (rd_T46 l (i : Int)).f0 = a
    · rw [if_pos h2]
      refine Ev.step (f := fun _ => some (i : Int)) (fun k => ?_) (Ev.now _)
      simp only [provisoref05_Place.l0]
      rw [if_pos (by omega), if_pos (by omega), if_pos (by omega), if_pos h2]
    · rw [if_neg h2]
      have ih := place_go l hl a d (i + 1) (by omega) (by omega)
      refine Ev.step (fun k => ?_) ih
      simp only [provisoref05_Place.l0]
      rw [if_pos (by omega), if_pos (by omega), if_pos (by omega), if_neg h2, wrap_one h1 hl]
theorem place_ev (l : List S46) (hl : l.length ≤ 9223372036854775807) (a : Int) : Ev (fun k => provisoref05_Place.f k l a) (plc l a) := by
  have h := place_go l hl a l.length 0 (by omega) (by omega)
  rw [List.drop_zero] at h
  exact h
def stepM (l : List S46) (s : List Bool × List Int) (b : Int) : List Bool × List Int := match firstAt l 0 b with
  | none => s
  | some j => if rdOf false s.1 j = true then s else (s.1.set j.toNat true, s.2 ++ [j])
theorem set_count : ∀ (m : List Bool) (j : Nat), j < m.length → m.getD j false = false → (m.set j true).count false + 1 = m.count false
  | [], j, h, _ => by simp at h
  | b :: m, 0, h, h2 => by
    have : b = false := h2
    subst this
    simp
  | b :: m, j + 1, h, h2 => by
    have ih := set_count m j (by simpa using h) (by simpa using h2)
    cases b <;> simp [List.set_cons_succ, List.count_cons] <;> omega
structure Inv (l : List S46) (a0 : Int) (met : List Bool) (op : List Int) : Prop where
  len : met.length = l.length
  inn : ∀ j ∈ op, ∃ i : Nat, j = (i : Int) ∧ i < l.length ∧ met.getD i false = true
  rch : ∀ i : Nat, met.getD i false = true → firstAt l 0 (l.getD i z46).f0 = some (i : Int) ∧ Rch l a0 (l.getD i z46).f0
def Marked (l : List S46) (met : List Bool) (b : Int) : Prop := ∃ i : Nat, firstAt l 0 b = some (i : Int) ∧ met.getD i false = true
theorem getD_set (m : List Bool) (j i : Nat) (hj : j < m.length) : (m.set j true).getD i false = if i = j then true else m.getD i false := by
  simp only [List.getD_eq_getElem?_getD, List.getElem?_set]
  by_cases e : j = i
  · subst e
    rw [if_pos rfl, if_pos hj, if_pos rfl]; rfl
  · rw [if_neg e, if_neg (Ne.symm e)]
theorem stepM_ok {l : List S46} {a0 : Int} {met : List Bool} {op : List Int} (h : Inv l a0 met op) {a : Int} (ha : Rch l a0 a) {b : Int} (hb : b ∈ nxA l a) :
    Inv l a0 (stepM l (met, op) b).1 (stepM l (met, op) b).2 ∧ (stepM l (met, op) b).2.length + (stepM l (met, op) b).1.count false = op.length + met.count false ∧ (∀ i : Nat, met.getD i false = true → (stepM l (met, op) b).1.getD i false = true) ∧ ((firstAt l 0 b).isSome = true → Marked l (stepM l (met, op) b).1 b) ∧ (∀ i : Nat, (stepM l (met, op) b).1.getD i false = true → met.getD i false = true ∨ (i : Int) ∈ (stepM l (met, op) b).2) ∧ (∀ j ∈ op, j ∈ (stepM l (met, op) b).2) := by
  unfold stepM
  cases hf : firstAt l 0 b with
  | none => exact ⟨h, rfl, fun _ h => h, (fun h => by cases h), fun _ h => .inl h, fun _ h => h⟩
  | some j =>
    obtain ⟨i, rfl, hi, he⟩ := firstAt_idx hf
    have hr : rdOf false met (i : Int) = met.getD i false := by unfold rdOf; rw [Int.toNat_natCast]
    simp only [hr, Int.toNat_natCast]
    by_cases hm : met.getD i false = true
    · rw [if_pos hm]
      exact ⟨h, rfl, fun _ h => h, fun _ => ⟨i, hf, hm⟩, fun _ h => .inl h, fun _ h => h⟩
    · rw [if_neg hm]
      have hml : i < met.length := by rw [h.len]; exact hi
      have hm' : met.getD i false = false := by simpa using hm
      have hg := fun x => getD_set met i x hml
      have hrch : Rch l a0 b := Rch.step ha hb (by rw [hf]; rfl)
      have he' : (l.getD i z46).f0 = b := by
        unfold rd_T46 at he
        rw [Int.toNat_natCast] at he
        exact he
      refine ⟨⟨by simp [h.len], fun j hj => ?_, fun x hx => ?_⟩, ?_, fun x hx => ?_, fun _ => ⟨i, hf, ?_⟩, fun x hx => ?_, fun j hj => List.mem_append.2 (.inl hj)⟩
      · rcases List.mem_append.1 hj with hj | hj
        · obtain ⟨x, h1, h2, h3⟩ := h.inn j hj
          exact ⟨x, h1, h2, by rw [hg]; split <;> first | rfl | exact h3⟩
        · exact ⟨i, List.mem_singleton.1 hj, hi, by rw [hg, if_pos rfl]⟩
      · rw [hg] at hx
        by_cases e : x = i
        · subst e
          rw [he']
          exact ⟨hf, hrch⟩
        · rw [if_neg e] at hx
          exact h.rch x hx
      · have := set_count met i hml hm'
        simp only [List.length_append, List.length_singleton]
        omega
      · rw [hg]; split <;> first | rfl | exact hx
      · rw [hg, if_pos rfl]
      · rw [hg] at hx
        by_cases e : x = i
        · subst e; exact .inr (by simp)
        · rw [if_neg e] at hx
          exact .inl hx
theorem fold_ok {l : List S46} {a0 : Int} {a : Int} (ha : Rch l a0 a) : ∀ (bs : List Int), (∀ b ∈ bs, b ∈ nxA l a) → ∀ (met : List Bool) (op : List Int), Inv l a0 met op →
    Inv l a0 (bs.foldl (stepM l) (met, op)).1 (bs.foldl (stepM l) (met, op)).2 ∧ (bs.foldl (stepM l) (met, op)).2.length + (bs.foldl (stepM l) (met, op)).1.count false = op.length + met.count false ∧ (∀ i : Nat, met.getD i false = true → (bs.foldl (stepM l) (met, op)).1.getD i false = true) ∧ (∀ b ∈ bs, (firstAt l 0 b).isSome = true → Marked l (bs.foldl (stepM l) (met, op)).1 b) ∧ (∀ i : Nat, (bs.foldl (stepM l) (met, op)).1.getD i false = true → met.getD i false = true ∨ (i : Int) ∈ (bs.foldl (stepM l) (met, op)).2) ∧ (∀ j ∈ op, j ∈ (bs.foldl (stepM l) (met, op)).2)
  | [], _, met, op, h => ⟨h, rfl, fun _ h => h, (fun b hb => by cases hb), fun _ h => .inl h, fun _ h => h⟩
  | b :: bs, hbs, met, op, h => by
    obtain ⟨i1, c1, k1, m1, w1, o1⟩ := stepM_ok h ha (hbs b List.mem_cons_self)
    obtain ⟨i2, c2, k2, m2, w2, o2⟩ := fold_ok ha bs (fun x hx => hbs x (List.mem_cons_of_mem _ hx)) (stepM l (met, op) b).1 (stepM l (met, op) b).2 i1
    rw [List.foldl_cons]
    refine ⟨i2, by rw [c2, c1], fun i hi => k2 i (k1 i hi), fun x hx hp => ?_, fun i hi => ?_, fun j hj => o2 j (o1 j hj)⟩
    · rcases List.mem_cons.1 hx with rfl | hx
      · obtain ⟨i, h1, h2⟩ := m1 hp
        exact ⟨i, h1, k2 i h2⟩
      · exact m2 x hx hp
    · rcases w2 i hi with h | h
      · rcases w1 i h with h | h
        · exact .inl h
        · exact .inr (o2 _ h)
      · exact .inr h
theorem inner_go (l : List S46) (hl : l.length < 4398046511104) (out bs : List Int) (hbl : bs.length ≤ 9223372036854775807) (r : List Int) : ∀ (d i : Nat) (met : List Bool) (op : List Int), bs.length - i = d → i ≤ bs.length → met.length = l.length → op.length + d ≤ 17592186044416 → Ev (fun k => provisoref05_Reach.l0 k l ((bs.drop i).foldl (stepM l) (met, op)).1 ((bs.drop i).foldl (stepM l) (met, op)).2 out) r → Ev (fun k => provisoref05_Reach.l1 k l met op out bs (bs.length : Int) (i : Int)) r
  | 0, i, met, op, hd, hi, hm, ho, h => by
    obtain rfl : i = bs.length := by omega
    rw [List.drop_length] at h
    refine Ev.step (fun k => ?_) h
    simp only [provisoref05_Reach.l1]
    rw [if_neg (by omega)]
    rfl
  | d + 1, i, met, op, hd, hi, hm, ho, h => by
    have h1 : i < bs.length := by omega
    rw [drop_at h1, List.foldl_cons] at h
    have hp := place_ev l (by omega) (rd bs (i : Int))
    refine Ev.step (f := fun k => (provisoref05_Place.f k l (rd bs (i : Int))).bind (fun t222 => (if t222 ≥ 0 then (if 0 ≤ t222 then (if t222 < (met.length : Int) then (if rdOf false met t222 = true then (provisoref05_Reach.l1 k l met op out bs (bs.length : Int) (wrap64 ((i : Int) + 1))) else (if op.length < 17592186044416 then (provisoref05_Reach.l1 k l (met.set (t222 : Int).toNat true) (op ++ [t222]) out bs (bs.length : Int) (wrap64 ((i : Int) + 1))) else (none))) else (none)) else (none)) else (provisoref05_Reach.l1 k l met op out bs (bs.length : Int) (wrap64 ((i : Int) + 1)))))) (fun k => ?_) (Ev.bind hp ?_)
    · simp only [provisoref05_Reach.l1]
      rw [if_pos (by omega), if_pos (by omega), if_pos (by omega)]
    · rw [wrap_one h1 hbl]
      unfold plc
      unfold stepM at h
      cases hf : firstAt l 0 (rd bs (i : Int)) with
      | none =>
        rw [hf] at h
        simp only [Option.getD_none]
        have ih := inner_go l hl out bs hbl r d (i + 1) met op (by omega) (by omega) hm (by omega) h
        refine Ev.congr (fun k => ?_) ih
        rw [if_neg (by omega)]
      | some j =>
        obtain ⟨jj, rfl, hj, _⟩ := firstAt_idx hf
        rw [hf] at h
        simp only [Option.getD_some]
        by_cases hm2 : rdOf false met (jj : Int) = true
        · simp only [if_pos hm2] at h
          have ih := inner_go l hl out bs hbl r d (i + 1) met op (by omega) (by omega) hm (by omega) h
          refine Ev.congr (fun k => ?_) ih
          rw [if_pos (by omega), if_pos (by omega), if_pos (by omega), if_pos hm2]
        · simp only [if_neg hm2] at h
          have ih := inner_go l hl out bs hbl r d (i + 1) (met.set (jj : Int).toNat true) (op ++ [(jj : Int)]) (by omega) (by omega) (by simp [hm]) (by simp; omega) h
          refine Ev.congr (fun k => ?_) ih
          rw [if_pos (by omega), if_pos (by omega), if_pos (by omega), if_neg hm2, if_pos (by omega)]
theorem strict_nodup {l : List Int} (h : l.Pairwise (· < ·)) : l.Nodup := h.imp (fun h => by omega)
theorem rreach_go (l : List S46) (hl : l.length < 4398046511104) (a0 : Int) : ∀ (d : Nat) (met : List Bool) (op out : List Int), op.length + met.count false = d → op.length + met.count false ≤ l.length → Inv l a0 met op → out.Pairwise (· < ·) → (∀ x ∈ out, Rch l a0 x) → (∀ x ∈ out, ∀ b ∈ nxA l x, (firstAt l 0 b).isSome = true → Marked l met b) → (∀ i : Nat, met.getD i false = true → (l.getD i z46).f0 ∈ out ∨ (i : Int) ∈ op) → ((firstAt l 0 a0).isSome = true → Marked l met a0) →
    ∃ r, Ev (fun k => provisoref05_Reach.l0 k l met op out) r ∧ r.Pairwise (· < ·) ∧ (∀ x, x ∈ r ↔ Rch l a0 x) := by
  intro d
  induction d with
  | zero =>
    intro met op out hd hlen hI hs hr hc hm h0
    have : op = [] := List.length_eq_zero_iff.1 (by omega)
    subst this
    refine ⟨out, Ev.step (f := fun _ => some out) (fun k => by simp only [provisoref05_Reach.l0]; rw [if_neg (by simp)]) (Ev.now _), hs, fun x => ⟨hr x, fun h => h.closed (s := out) (fun h9 => ?_) (fun a ha b hb hb2 => ?_)⟩⟩
    · obtain ⟨i, h1, h2⟩ := h0 h9
      rcases hm i h2 with h | h
      · obtain ⟨i', e1, _, e2⟩ := firstAt_idx h1
        have e1 : i = i' := by omega
        subst e1
        unfold rd_T46 at e2
        rw [Int.toNat_natCast] at e2
        rwa [e2] at h
      · cases h
    · obtain ⟨i, h1, h2⟩ := hc a ha b hb hb2
      rcases hm i h2 with h | h
      · obtain ⟨i', e1, _, e2⟩ := firstAt_idx h1
        have e1 : i = i' := by omega
        subst e1
        unfold rd_T46 at e2
        rw [Int.toNat_natCast] at e2
        rwa [e2] at h
      · cases h
  | succ d ih =>
    intro met op out hd hlen hI hs hr hc hm h0
    cases op with
    | nil =>
      refine ⟨out, Ev.step (f := fun _ => some out) (fun k => by simp only [provisoref05_Reach.l0]; rw [if_neg (by simp)]) (Ev.now _), hs, fun x => ⟨hr x, fun h => h.closed (s := out) (fun h9 => ?_) (fun a ha b hb hb2 => ?_)⟩⟩
      · obtain ⟨i, h1, h2⟩ := h0 h9
        rcases hm i h2 with h | h
        · obtain ⟨i', e1, _, e2⟩ := firstAt_idx h1
          have e1 : i = i' := by omega
          subst e1
          unfold rd_T46 at e2
          rw [Int.toNat_natCast] at e2
          rwa [e2] at h
        · cases h
      · obtain ⟨i, h1, h2⟩ := hc a ha b hb hb2
        rcases hm i h2 with h | h
        · obtain ⟨i', e1, _, e2⟩ := firstAt_idx h1
          have e1 : i = i' := by omega
          subst e1
          unfold rd_T46 at e2
          rw [Int.toNat_natCast] at e2
          rwa [e2] at h
        · cases h
    | cons j op =>
      obtain ⟨i, rfl, hi, hmi⟩ := hI.inn j List.mem_cons_self
      obtain ⟨hfi, hRi⟩ := hI.rch i hmi
      obtain ⟨x, hx⟩ : ∃ x, x = l.getD i z46 := ⟨_, rfl⟩
      have hxr : rd_T46 l (i : Int) = x := by rw [hx]; unfold rd_T46; rw [Int.toNat_natCast]
      rw [← hx] at hfi hRi
      have hnx : nxA l x.f0 = nextL x := by unfold nxA; rw [hfi]; simp only [hxr]
      have hnl := nextL_len x
      have hol := Rch.le (strict_nodup hs) hr
      simp only [List.length_cons] at hd hlen
      have hI2 : Inv l a0 met op := ⟨hI.len, fun j hj => hI.inn j (List.mem_cons_of_mem _ hj), hI.rch⟩
      obtain ⟨q1, q2, q3, q4, q5, q6⟩ := fold_ok hRi (nextL x) (fun b hb => by rw [hnx]; exact hb) met op hI2
      obtain ⟨r, h1, h2⟩ := ih ((nextL x).foldl (stepM l) (met, op)).1 ((nextL x).foldl (stepM l) (met, op)).2 (ins x.f0 out) (by omega) (by omega) q1 (ins_strict _ _ hs)
        (fun y hy => by
          rcases (ins_mem _ _ _).1 hy with rfl | h
          · exact hRi
          · exact hr y h)
        (fun y hy b hb hb2 => by
          rcases (ins_mem _ _ _).1 hy with rfl | h
          · exact q4 b (by rw [← hnx]; exact hb) hb2
          · obtain ⟨z, e1, e2⟩ := hc y h b hb hb2
            exact ⟨z, e1, q3 z e2⟩)
        (fun z hz => by
          rcases q5 z hz with h | h
          · rcases hm z h with h | h
            · exact .inl ((ins_mem _ _ _).2 (.inr h))
            · rcases List.mem_cons.1 h with h | h
              · have : z = i := by omega
                subst this
                rw [← hx]
                exact .inl ((ins_mem _ _ _).2 (.inl rfl))
              · exact .inr (q6 _ h)
          · exact .inr h)
        (fun h9 => by
          obtain ⟨z, e1, e2⟩ := h0 h9
          exact ⟨z, e1, q3 z e2⟩)
      refine ⟨r, ?_, h2⟩
      have hin := inner_go l hl (ins x.f0 out) (nextL x) (by omega) r (nextL x).length 0 met op (by omega) (by omega) hI.len (by omega) (by rw [List.drop_zero]; exact h1)
      refine Ev.step (f := fun k => (provisoref05_put.f k out x.f0).bind (fun t214 => ((provisoref05_Next.f k x.f0 x.f1 x.f2 x.f3).bind fun t218 => (provisoref05_Reach.l1 k l met op t214 t218 (t218.length : Int) 0)))) (fun k => ?_) (Ev.bind (put_ev _ _ (by omega)) (Ev.bind (next_ev x) hin))
      have hr0 : rd ((i : Int) :: op) 0 = (i : Int) := rfl
      simp only [provisoref05_Reach.l0, hr0, hxr]
      rw [if_pos (by simp only [List.length_cons]; omega), if_pos (by simp only [List.length_cons]; omega), if_pos (by simp only [List.length_cons]; omega), if_pos (by omega), if_pos (by omega)]
      rfl
theorem rreach_ev (l : List S46) (hl : l.length < 4398046511104) (a0 : Int) : ∃ r, Ev (fun k => provisoref05_Reach.f k l a0) r ∧ r.Pairwise (· < ·) ∧ (∀ x, x ∈ r ↔ Rch l a0 x) := by
  have hp := place_ev l (by omega) a0
  have hbeg : ∀ k, provisoref05_Reach.f k l a0 = (provisoref05_Place.f k l a0).bind fun t204 => (if t204 < 0 then (some ([] : List Int)) else (if 0 ≤ t204 then (if t204 < (l.length : Int) then (provisoref05_Reach.l0 k l ((List.replicate l.length false).set (t204 : Int).toNat true) (([t204] : List Int)) ([] : List Int)) else (none)) else (none))) := fun k => by
    unfold provisoref05_Reach.f
    rw [if_pos (by omega), if_pos (by omega)]
    simp only [Option.bind_some, Int.toNat_natCast, List.length_replicate]
  cases hf : firstAt l 0 a0 with
  | none =>
    refine ⟨[], Ev.congr hbeg (Ev.bind hp ?_), List.Pairwise.nil, fun x => ⟨fun h => (by cases h), fun h => ?_⟩⟩
    · unfold plc
      rw [hf]
      exact Ev.now _
    · have : ∀ x, Rch l a0 x → False := fun x h => by
        induction h with
        | base h => rw [hf] at h; cases h
        | step _ _ _ ih => exact ih
      exact (this x h).elim
  | some j =>
    obtain ⟨i, rfl, hi, he⟩ := firstAt_idx hf
    have he' : (l.getD i z46).f0 = a0 := by
      unfold rd_T46 at he
      rw [Int.toNat_natCast] at he
      exact he
    have hg : ∀ x, ((List.replicate l.length false).set i true).getD x false = if x = i then true else false := fun x => by
      rw [getD_set _ _ _ (by simpa using hi)]
      by_cases e : x = i
      · rw [if_pos e, if_pos e]
      · rw [if_neg e, if_neg e, List.getD_eq_getElem?_getD, List.getElem?_replicate]
        split <;> rfl
    have hcnt := set_count (List.replicate l.length false) i (by simpa using hi) (by rw [List.getD_eq_getElem?_getD, List.getElem?_replicate]; split <;> rfl)
    rw [List.count_replicate_self] at hcnt
    obtain ⟨r, h1, h2⟩ := rreach_go l hl a0 _ ((List.replicate l.length false).set i true) [(i : Int)] [] rfl (by simp only [List.length_singleton]; omega)
      ⟨by simp, fun j hj => ⟨i, List.mem_singleton.1 hj, hi, by rw [hg, if_pos rfl]⟩, fun x hx => by
        rw [hg] at hx
        by_cases e : x = i
        · subst e
          rw [he']
          exact ⟨hf, Rch.base (by rw [hf]; rfl)⟩
        · rw [if_neg e] at hx; cases hx⟩ List.Pairwise.nil (fun x hx => by cases hx) (fun x hx => by cases hx) (fun x hx => by
        rw [hg] at hx
        by_cases e : x = i
        · subst e; exact .inr (by simp)
        · rw [if_neg e] at hx; cases hx) (fun _ => ⟨i, hf, by rw [hg, if_pos rfl]⟩)
    refine ⟨r, Ev.congr hbeg (Ev.bind hp ?_), h2⟩
    unfold plc
    rw [hf]
    simp only [Option.getD_some]
    refine Ev.congr (fun k => ?_) h1
    rw [if_neg (by omega), if_pos (by omega), if_pos (by omega), Int.toNat_natCast]
theorem reach_same (l : List S46) (hl : l.length < 4398046511104) (a0 : Int) (h1 : asOk l = true) (h2 : atsOk l = true) (h3 : okB a0 = true) : ∃ r, Ev (fun k => flow_Reach.f k l a0) r ∧ Ev (fun k => provisoref05_Reach.f k l a0) r ∧ r.Pairwise (· < ·) ∧ (∀ x, x ∈ r ↔ Rch l a0 x) ∧ r.length ≤ l.length := by
  obtain ⟨r, e1, s1, m1⟩ := reach_ev l hl a0 h1 h2 h3
  obtain ⟨q, e2, s2, m2⟩ := rreach_ev l hl a0
  have e : q = r := strict_eq s2 s1 (fun y => by rw [m1, m2])
  subst e
  exact ⟨q, e1, e2, s1, m1, Rch.le (strict_nodup s1) (fun x hx => (m1 x).1 hx)⟩
end Go.Proofs.Ytcffniaieegbgaa.Pure

end

section
namespace Go.Proofs.Ytcffniaieegbgaa.Pure
open Go.RowKit Go.Proofs.Ytcffniaieegbgaa.P Go.Proofs.YtcffniaieegbgaaW.PrintWords
set_option linter.unusedSimpArgs false
set_option linter.unusedVariables false
theorem rd_mem {l : List Int} {i : Nat} (h : i < l.length) : rd l (i : Int) ∈ l := by
  have hr : rd l (i : Int) = l[i] := by simp [rd, List.getD_eq_getElem?_getD, h]
  rw [hr]; exact List.getElem_mem h
theorem take_go (l : List Int) (hb : ∀ x ∈ l, 0 ≤ x ∧ x ≤ 255) (wd : Nat) (h4 : wd ≤ 4) (hl : wd ≤ l.length) (hm : l.length ≤ 9223372036854775807) : ∀ (d i : Nat), wd - i = d → i ≤ wd → Ev (fun k => provisoref04_take.l0 k l (wd : Int) (numOf (l.take i)) (i : Int)) (opnd (l.take wd))
  | 0, i, hd, hi => by
    obtain rfl : i = wd := by omega
    have hlt : (l.take i).length = i := by rw [List.length_take]; omega
    have hs := num_small (l.take i) (fun x hx => hb x (List.mem_of_mem_take hx)) (by omega)
    refine Ev.step (f := fun _ => some (opnd (l.take i))) (fun k => ?_) (Ev.now _)
    simp only [provisoref04_take.l0]
    rw [if_neg (by omega)]
    unfold opnd
    rw [hlt]
    by_cases e : i = 4
    · rw [if_pos (by omega), if_pos e]
      split
      · congr 1
        unfold wrap64; omega
      · rfl
    · rw [if_neg (by omega), if_neg e]
  | d + 1, i, hd, hi => by
    have h1 : i < l.length := by omega
    have ih := take_go l hb wd h4 hl hm d (i + 1) (by omega) (by omega)
    have hs := num_small (l.take i) (fun x hx => hb x (List.mem_of_mem_take hx)) (by rw [List.length_take]; omega)
    have hx := hb _ (rd_mem h1)
    rw [num_take l i h1] at ih
    have hs2 : numOf (l.take i) < 16777216 := by
      have h9 := num_bound (l.take i) (fun x hx => hb x (List.mem_of_mem_take hx)) 0 (Int.le_refl _)
      rw [List.length_take, Nat.min_eq_left (by omega)] at h9
      have hp : (256 : Int) ^ i ≤ 16777216 := by
        have : i = 0 ∨ i = 1 ∨ i = 2 ∨ i = 3 := by omega
        rcases this with rfl | rfl | rfl | rfl <;> decide
      unfold numOf
      omega
    refine Ev.step (fun k => ?_) ih
    simp only [provisoref04_take.l0]
    rw [if_pos (by omega), if_pos (by omega), if_pos (by omega), wrap_one h1 hm]
    have e1 : wrap64 ((wrap64 (256 * numOf (l.take i))) + (wrap64 (rd l (i : Int)))) = numOf (l.take i) * 256 + rd l (i : Int) := by unfold wrap64; omega
    rw [e1]
theorem take_ev (l : List Int) (hb : ∀ x ∈ l, 0 ≤ x ∧ x ≤ 255) (wd : Nat) (h4 : wd ≤ 4) (hl : wd ≤ l.length) (hm : l.length ≤ 9223372036854775807) : Ev (fun k => provisoref04_take.f k l (wd : Int)) (opnd (l.take wd)) := by
  have h := take_go l hb wd h4 hl hm wd 0 (by omega) (by omega)
  exact h
theorem opnd_range (seg : List Int) (hb : ∀ x ∈ seg, 0 ≤ x ∧ x ≤ 255) (h4 : seg.length ≤ 4) : -2147483648 ≤ opnd seg ∧ opnd seg ≤ 4294967295 := by
  have := num_small seg hb h4
  unfold opnd
  split
  · split <;> omega
  · omega
theorem decW_nat (op : Int) : ∃ wa wb : Nat, (decW op).1 = (wa : Int) ∧ (decW op).2 = (wb : Int) ∧ wa ≤ 4 ∧ wb ≤ 1 := by
  have h := decW_range op
  generalize (decW op).1 = a at h ⊢
  generalize (decW op).2 = b at h ⊢
  exact ⟨a.toNat, b.toNat, by omega, by omega, by omega, by omega⟩
theorem dec_len (op : Int) (n i : Nat) (h0 : ¬ szOf op = 0) (h1 : ¬ (n : Int) - (i : Int) < szOf op) : ∃ wa wb : Nat, (decW op).1 = (wa : Int) ∧ (decW op).2 = (wb : Int) ∧ wa ≤ 4 ∧ wb ≤ 1 ∧ wa + wb + i + 1 ≤ n := by
  obtain ⟨wa, wb, hwa, hwb, hwa4, hwb1⟩ := decW_nat op
  have hsz : szOf op = if op ≥ 34 then 0 else 1 + (wa : Int) + (wb : Int) := by rw [szOf_is, hwa, hwb]
  refine ⟨wa, wb, hwa, hwb, hwa4, hwb1, ?_⟩
  clear hwa hwb
  generalize szOf op = s at h0 h1 hsz
  split at hsz
  · exact absurd hsz h0
  · omega
theorem decode_ev (l : List Int) (hb : ∀ x ∈ l, 0 ≤ x ∧ x ≤ 255) (hm : l.length ≤ 4096) (i : Nat) (hi : i < l.length) : Ev (fun k => provisoref04_Decode.f k l (i : Int)) (decL l i) := by
  unfold decL
  obtain ⟨op, hop⟩ : ∃ op, op = rd l (i : Int) := ⟨_, rfl⟩
  rw [← hop]
  have hbeg : ∀ k, provisoref04_Decode.f k l (i : Int) = provisoref04_Decode.j0 k l (i : Int) false 0 0 0 0 := fun k => by
    unfold provisoref04_Decode.f
    rw [if_neg (by omega), decide_eq_false (by omega)]
  refine Ev.congr hbeg ?_
  have hstep : ∀ k, provisoref04_Decode.j0 (k + 1) l (i : Int) false 0 0 0 0 = (provisoref04_Size.f k op).bind fun t107 => (if t107 = 0 then (some (0, 0, 0, 0, 40)) else (if ((l.length : Int) - (i : Int)) < t107 then (some (0, 0, 0, 0, 2)) else ((provisoref04_wide.f k op).bind fun bt108 => (if 0 ≤ ((i : Int) + 1) then (if ((i : Int) + 1) ≤ (l.length : Int) then ((provisoref04_take.f k (l.drop (i + 1)) bt108.1).bind fun t111 => (if 0 ≤ (wrap64 ((i : Int) + 1 + bt108.1)) then (if (wrap64 ((i : Int) + 1 + bt108.1)) ≤ (l.length : Int) then ((provisoref04_take.f k (l.drop ((wrap64 ((i : Int) + 1 + bt108.1)) : Int).toNat) bt108.2).bind fun t113 => (if op = 2 then (if t111 > 1 then (some (0, 0, 0, 0, 5)) else (some ((i : Int), op, t111, t113, 0))) else (some ((i : Int), op, t111, t113, 0)))) else (none)) else (none))) else (none)) else (none))))) := fun k => by
    simp only [provisoref04_Decode.j0]
    have e1 : wrap64 ((l.length : Int) - (i : Int)) = (l.length : Int) - (i : Int) := by unfold wrap64; omega
    have e2 : wrap64 ((i : Int) + 1) = (i : Int) + 1 := by unfold wrap64; omega
    rw [if_neg (by decide), if_neg (by omega), if_pos (by omega), if_pos (by omega), ← hop, e1, e2, show ((i : Int) + 1).toNat = i + 1 by omega]
  refine Ev.step hstep (Ev.bind (rsize_ev op) ?_)
  by_cases h0 : szOf op = 0
  · simp only [if_pos h0]
    exact Ev.now _
  simp only [if_neg h0]
  by_cases h1 : (l.length : Int) - (i : Int) < szOf op
  · simp only [if_pos h1]
    exact Ev.now _
  simp only [if_neg h1]
  obtain ⟨wa, wb, hwa, hwb, hwa4, hwb1, hlen⟩ := dec_len op l.length i h0 h1
  clear h1
  have hwide : Ev (fun k => provisoref04_wide.f k op) ((wa : Int), (wb : Int)) := ⟨2, fun k hk => by
    obtain ⟨m, rfl⟩ : ∃ m, k = m + 2 := ⟨k - 2, by omega⟩
    show provisoref04_wide.f (m + 2) op = _
    rw [wide_is, decW_is, hwa, hwb]⟩
  rw [hwa, hwb, Int.toNat_natCast, Int.toNat_natCast]
  refine Ev.bind hwide ?_
  have hbd : ∀ x ∈ l.drop (i + 1), 0 ≤ x ∧ x ≤ 255 := fun x hx => hb x (List.mem_of_mem_drop hx)
  have hta := take_ev (l.drop (i + 1)) hbd wa (by omega) (by rw [List.length_drop]; omega) (by rw [List.length_drop]; omega)
  have htb := take_ev ((l.drop (i + 1)).drop wa) (fun x hx => hbd x (List.mem_of_mem_drop hx)) wb (by omega) (by rw [List.length_drop, List.length_drop]; omega) (by rw [List.length_drop, List.length_drop]; omega)
  have e3 : wrap64 ((i : Int) + 1 + (wa : Int)) = ((i + 1 + wa : Nat) : Int) := by unfold wrap64; omega
  simp only [e3]
  refine Ev.congr (f := fun k => (provisoref04_take.f k (l.drop (i + 1)) (wa : Int)).bind fun t111 => ((provisoref04_take.f k ((l.drop (i + 1)).drop wa) (wb : Int)).bind fun t113 => (if op = 2 then (if t111 > 1 then (some (0, 0, 0, 0, 5)) else (some ((i : Int), op, t111, t113, 0))) else (some ((i : Int), op, t111, t113, 0))))) (fun k => ?_) (Ev.bind hta (Ev.bind htb ?_))
  · have c1 : (0 : Int) ≤ ((i + 1 + wa : Nat) : Int) := by omega
    have c2 : ((i + 1 + wa : Nat) : Int) ≤ (l.length : Int) := by omega
    rw [if_pos (by omega), if_pos (by omega)]
    simp only [if_pos c1, if_pos c2, Int.toNat_natCast, List.drop_drop]
  · by_cases h2 : op = 2
    · by_cases h3 : opnd ((l.drop (i + 1)).take wa) > 1
      · simp only [if_pos h2, if_pos h3, if_pos (And.intro h2 h3)]
        exact Ev.now _
      · simp only [if_pos h2, if_neg h3, if_neg (show ¬ (op = 2 ∧ opnd ((l.drop (i + 1)).take wa) > 1) from fun h => h3 h.2)]
        exact Ev.now _
    · simp only [if_neg h2, if_neg (show ¬ (op = 2 ∧ opnd ((l.drop (i + 1)).take wa) > 1) from fun h => h2 h.1)]
      exact Ev.now _
theorem pdecode_is (l : List Int) (hb : bytesOk l = true) (i : Nat) (hi : i < l.length) : code_Decode.f l (i : Int) = some (decL l i) := by
  unfold code_Decode.f
  rw [if_pos ⟨by omega, by omega, hb⟩, Int.toNat_natCast]
inductive Seq (l : List Int) : List S46 → Nat → Prop
  | nil : Seq l [] 0
  | snoc {acc : List S46} {i : Nat} {op a b : Int} : Seq l acc i → i < l.length → decL l i = ((i : Int), op, a, b, 0) → 1 ≤ szOf op → (i : Int) + szOf op ≤ (l.length : Int) → I64 a → Seq l (acc ++ [⟨(i : Int), op, a, b⟩]) (i + (szOf op).toNat)
theorem decL_ok {l : List Int} (hb : ∀ x ∈ l, 0 ≤ x ∧ x ≤ 255) {i : Nat} (hi : i < l.length) (h : (decL l i).2.2.2.2 = 0) : ∃ op a b, decL l i = ((i : Int), op, a, b, 0) ∧ 1 ≤ szOf op ∧ (i : Int) + szOf op ≤ (l.length : Int) ∧ I64 a := by
  have hbd : ∀ x ∈ l.drop (i + 1), 0 ≤ x ∧ x ≤ 255 := fun x hx => hb x (List.mem_of_mem_drop hx)
  obtain ⟨wa, wb, hwa, hwb, hwa4, hwb1⟩ := decW_nat (rd l (i : Int))
  have hge : 0 ≤ szOf (rd l (i : Int)) := (szOf_range _).1
  unfold decL at h ⊢
  by_cases h0 : szOf (rd l (i : Int)) = 0
  · rw [if_pos h0] at h
    simp at h
  rw [if_neg h0] at h ⊢
  by_cases h1 : (l.length : Int) - (i : Int) < szOf (rd l (i : Int))
  · rw [if_pos h1] at h
    simp at h
  rw [if_neg h1] at h ⊢
  split at h
  · simp at h
  · rename_i h2
    rw [if_neg h2]
    refine ⟨_, _, _, rfl, (by clear h h2 hwa hwb; generalize szOf (rd l (i : Int)) = s at *; omega), (by clear h h2 hwa hwb; generalize szOf (rd l (i : Int)) = s at *; omega), ?_⟩
    have := opnd_range ((l.drop (i + 1)).take (decW (rd l (i : Int))).1.toNat) (fun x hx => hbd x (List.mem_of_mem_take hx)) (by rw [List.length_take]; omega)
    constructor <;> omega
theorem Seq.le {l : List Int} {acc : List S46} {i : Nat} (h : Seq l acc i) : acc.length ≤ i ∧ i ≤ l.length := by
  induction h with
  | nil => simp
  | snoc _ h1 _ h2 h3 _ ih =>
    rw [List.length_append, List.length_singleton]
    omega
theorem scan_go (l : List Int) (hb : bytesOk l = true) (hm : l.length ≤ 4096) : ∀ (d i : Nat) (acc : List S46), l.length - i ≤ d → Seq l acc i → ∃ (ls : List S46) (a e : Int), Ev (fun k => flow_Scan.l0 k l acc (i : Int)) (ls, a, e) ∧ Ev (fun k => provisoref05_Scan.l0 k l acc (i : Int)) (ls, a, e) ∧ ((e = 0 ∧ a = 0 ∧ Seq l ls l.length) ∨ (e ≠ 0 ∧ ls = [] ∧ (l ≠ [] ∨ True))) := by
  intro d
  induction d with
  | zero =>
    intro i acc hd hs
    have := hs.le
    have e : i = l.length := by omega
    subst e
    refine ⟨acc, 0, 0, Ev.step (f := fun _ => some (acc, 0, 0)) (fun k => ?_) (Ev.now _), Ev.step (f := fun _ => some (acc, 0, 0)) (fun k => ?_) (Ev.now _), .inl ⟨rfl, rfl, hs⟩⟩
    · simp only [flow_Scan.l0]
      rw [if_neg (by omega)]
    · simp only [provisoref05_Scan.l0]
      rw [if_neg (by omega)]
  | succ d ih =>
    intro i acc hd hs
    have hle := hs.le
    by_cases hi : i < l.length
    · have hde := decode_ev l (bytesOk_is hb) hm i hi
      have hdp := pdecode_is l hb i hi
      by_cases h0 : (decL l i).2.2.2.2 = 0
      · obtain ⟨op, a, b, hd1, h1, h2, h3⟩ := decL_ok (bytesOk_is hb) hi h0
        have hz := szOf_range op
        have hs2 := Seq.snoc hs hi hd1 h1 h2 h3
        obtain ⟨ls, a9, e9, e1, e2, hr⟩ := ih (i + (szOf op).toNat) (acc ++ [⟨(i : Int), op, a, b⟩]) (by omega) hs2
        have hw : wrap64 ((i : Int) + szOf op) = ((i + (szOf op).toNat : Nat) : Int) := by unfold wrap64; omega
        refine ⟨ls, a9, e9, ?_, ?_, hr⟩
        · refine Ev.step (f := fun k => (code_Size.f k op).bind (fun t => flow_Scan.l0 k l (acc ++ [⟨(i : Int), op, a, b⟩]) (wrap64 ((i : Int) + t)))) (fun k => ?_) (Ev.bind ?_ (by rw [hw]; exact e1))
          · simp only [flow_Scan.l0]
            rw [if_pos (by omega), hdp, hd1]
            simp only [Option.bind_some, if_true]
            rw [if_pos (by omega)]
          · exact ⟨3, fun k hk => by
              obtain ⟨m, rfl⟩ : ∃ m, k = m + 3 := ⟨k - 3, by omega⟩
              exact size_is m op⟩
        · rw [hd1] at hde
          refine Ev.step (f := fun k => (provisoref04_Decode.f k l (i : Int)).bind (fun bt115 => (if bt115.2.2.2.2 = 0 then (if acc.length < 4398046511104 then ((provisoref04_Size.f k bt115.2.1).bind fun t124 => (provisoref05_Scan.l0 k l (acc ++ [(⟨bt115.1, bt115.2.1, bt115.2.2.1, bt115.2.2.2.1⟩ : S46)]) (wrap64 ((i : Int) + t124)))) else (none)) else (some (([] : List (S46)), (i : Int), bt115.2.2.2.2))))) (fun k => ?_) (Ev.bind hde ?_)
          · simp only [provisoref05_Scan.l0]
            rw [if_pos (by omega)]
          · simp only [if_true]
            refine Ev.congr (fun k => by rw [if_pos (by omega)]) (Ev.bind (rsize_ev op) (by rw [hw]; exact e2))
      · refine ⟨[], (i : Int), (decL l i).2.2.2.2, ?_, ?_, .inr ⟨h0, rfl, .inr trivial⟩⟩
        · refine Ev.step (f := fun _ => some ([], (i : Int), (decL l i).2.2.2.2)) (fun k => ?_) (Ev.now _)
          simp only [flow_Scan.l0]
          rw [if_pos (by omega), hdp]
          simp only [Option.bind_some]
          rw [if_neg h0]
        · refine Ev.step (f := fun k => (provisoref04_Decode.f k l (i : Int)).bind (fun bt115 => (if bt115.2.2.2.2 = 0 then (if acc.length < 4398046511104 then ((provisoref04_Size.f k bt115.2.1).bind fun t124 => (provisoref05_Scan.l0 k l (acc ++ [(⟨bt115.1, bt115.2.1, bt115.2.2.1, bt115.2.2.2.1⟩ : S46)]) (wrap64 ((i : Int) + t124)))) else (none)) else (some (([] : List (S46)), (i : Int), bt115.2.2.2.2))))) (fun k => ?_) (Ev.bind hde ?_)
          · simp only [provisoref05_Scan.l0]
            rw [if_pos (by omega)]
          · simp only [if_neg h0]
            exact Ev.now _
    · have e : i = l.length := by omega
      subst e
      refine ⟨acc, 0, 0, Ev.step (f := fun _ => some (acc, 0, 0)) (fun k => ?_) (Ev.now _), Ev.step (f := fun _ => some (acc, 0, 0)) (fun k => ?_) (Ev.now _), .inl ⟨rfl, rfl, hs⟩⟩
      · simp only [flow_Scan.l0]
        rw [if_neg (by omega)]
      · simp only [provisoref05_Scan.l0]
        rw [if_neg (by omega)]
theorem scan_ev (l : List Int) (hb : bytesOk l = true) : ∃ (ls : List S46) (a e : Int), Ev (fun k => flow_Scan.f k l) (ls, a, e) ∧ Ev (fun k => provisoref05_Scan.f k l) (ls, a, e) ∧ ((e = 0 ∧ a = 0 ∧ l.length ≤ 4096 ∧ Seq l ls l.length) ∨ (e ≠ 0 ∧ ls = [])) := by
  by_cases h : (l.length : Int) > 4096
  · refine ⟨[], 0, 4, Ev.congr (f := fun _ => some ([], 0, 4)) (fun k => ?_) (Ev.now _), Ev.congr (f := fun _ => some ([], 0, 4)) (fun k => ?_) (Ev.now _), .inr ⟨by decide, rfl⟩⟩
    · unfold flow_Scan.f; rw [if_pos h]
    · unfold provisoref05_Scan.f; rw [if_pos h]
  · obtain ⟨ls, a, e, e1, e2, hr⟩ := scan_go l hb (by omega) l.length 0 [] (by omega) Seq.nil
    refine ⟨ls, a, e, Ev.congr (fun k => ?_) e1, Ev.congr (fun k => ?_) e2, hr.imp (fun h9 => ⟨h9.1, h9.2.1, by omega, h9.2.2⟩) (fun h9 => ⟨h9.1, h9.2.1⟩)⟩
    · unfold flow_Scan.f; rw [if_neg h]; rfl
    · unfold provisoref05_Scan.f; rw [if_neg h]; rfl
theorem Seq.all {l : List Int} {acc : List S46} {i : Nat} (h : Seq l acc i) : ∀ x ∈ acc, 0 ≤ x.f0 ∧ x.f0 + szOf x.f1 ≤ (i : Int) ∧ 1 ≤ szOf x.f1 ∧ I64 x.f2 := by
  induction h with
  | nil => intro x hx; cases hx
  | @snoc acc i op a b h0 h1 hd h2 h3 h4 ih =>
    intro x hx
    rcases List.mem_append.1 hx with hx | hx
    · have := ih x hx
      exact ⟨this.1, by omega, this.2.2⟩
    · rw [List.mem_singleton.1 hx]
      exact ⟨(show (0 : Int) ≤ (i : Int) by omega), (show (i : Int) + szOf op ≤ ((i + (szOf op).toNat : Nat) : Int) by omega), h2, h4⟩
theorem Seq.ok {l : List Int} {acc : List S46} {i : Nat} (h : Seq l acc i) (hi : i ≤ 4096) : asOk acc = true ∧ atsOk acc = true := by
  constructor
  · refine List.all_eq_true.2 fun x hx => ?_
    obtain ⟨h1, h2, h3, h4⟩ := h.all x hx
    unfold I64 at h4
    simp [h4.1, h4.2]
  · refine List.all_eq_true.2 fun x hx => ?_
    obtain ⟨h1, h2, h3, h4⟩ := h.all x hx
    have hz := szOf_range x.f1
    simp
    omega
theorem Seq.next {l : List Int} {acc : List S46} {i : Nat} (h : Seq l acc i) : ∀ j : Nat, j < acc.length → (acc.getD j z46).f0 + szOf (acc.getD j z46).f1 = if j + 1 < acc.length then (acc.getD (j + 1) z46).f0 else (i : Int) := by
  induction h with
  | nil => intro j hj; simp at hj
  | @snoc acc i op a b h0 h1 _ h2 h3 h4 ih =>
    intro j hj
    rw [List.length_append, List.length_singleton] at hj ⊢
    have hz := szOf_range op
    simp only [List.getD_eq_getElem?_getD] at ih ⊢
    by_cases e : j = acc.length
    · subst e
      rw [if_neg (by omega)]
      simp
      omega
    · have hj' : j < acc.length := by omega
      rw [if_pos (by omega), List.getElem?_append_left hj', ih j hj']
      by_cases e2 : j + 1 < acc.length
      · rw [if_pos e2, List.getElem?_append_left e2]
      · have : j + 1 = acc.length := by omega
        rw [if_neg e2, this]
        simp
theorem Seq.zero {l : List Int} {acc : List S46} {i : Nat} (h : Seq l acc i) (h0 : acc = []) : i = 0 := by
  induction h with
  | nil => rfl
  | snoc => simp at h0
theorem Seq.first {l : List Int} {acc : List S46} {i : Nat} (h : Seq l acc i) (h0 : acc ≠ []) : (acc.getD 0 z46).f0 = 0 := by
  induction h with
  | nil => exact absurd rfl h0
  | @snoc acc i op a b h1 _ _ _ _ _ ih =>
    cases acc with
    | nil =>
      have hle := h1.zero rfl
      subst hle
      rfl
    | cons y r => exact ih (by simp)
end Go.Proofs.Ytcffniaieegbgaa.Pure

end

section
namespace Go.Proofs.Ytcffniaieegbgaa.Pure
open Go.RowKit Go.Proofs.Ytcffniaieegbgaa.P Go.Proofs.YtcffniaieegbgaaW.PrintWords
set_option linter.unusedSimpArgs false
set_option linter.unusedVariables false
theorem bytes_of {l : List Int} (h : ∀ x ∈ l, (Lit.int .u8 x).wf = true) : bytesOk l = true := by
  refine List.all_eq_true.2 fun x hx => ?_
  have := h x hx
  simp [Lit.wf, IntKind.min, IntKind.max, IntKind.signed, IntKind.bits] at this
  rw [decide_eq_true (by omega), decide_eq_true (by omega)]
  rfl
end Go.Proofs.Ytcffniaieegbgaa.Pure

end

section
namespace Go.Proofs.Ytcffniaieegbgaa.Pure
open Go.RowKit Go.Proofs.Ytcffniaieegbgaa.P Go.Proofs.YtcffniaieegbgaaW.PrintWords
set_option linter.unusedSimpArgs false
set_option linter.unusedVariables false
theorem firstAt_some : ∀ (l : List S46) (j : Nat) (x : Int), x ∈ l.map (·.f0) → (firstAt l j x).isSome = true
  | [], j, x, h => by cases h
  | y :: r, j, x, h => by
    unfold firstAt
    split
    · rfl
    · rename_i hne
      simp only [List.map_cons, List.mem_cons] at h
      exact firstAt_some r (j + 1) x (h.resolve_left (fun e => hne e.symm))
theorem getD_mem {l : List S46} {i : Nat} (h : i < l.length) : l.getD i z46 ∈ l := by
  rw [List.getD_eq_getElem?_getD, List.getElem?_eq_getElem h]
  exact List.getElem_mem h
theorem Seq.lt {l : List Int} {acc : List S46} {n : Nat} (h : Seq l acc n) : ∀ (d i : Nat), i + d + 1 < acc.length → (acc.getD i z46).f0 < (acc.getD (i + d + 1) z46).f0
  | 0, i, hi => by
    have h1 := h.next i (by omega)
    rw [if_pos (by omega)] at h1
    have h2 := (h.all _ (getD_mem (show i < acc.length by omega))).2.2.1
    show _ < (acc.getD (i + 1) z46).f0
    omega
  | d + 1, i, hi => by
    have ih := Seq.lt h d i (by omega)
    have h1 := h.next (i + d + 1) (by omega)
    rw [if_pos (by omega)] at h1
    have h2 := (h.all _ (getD_mem (show i + d + 1 < acc.length by omega))).2.2.1
    show _ < (acc.getD (i + d + 1 + 1) z46).f0
    omega
theorem Seq.inj {l : List Int} {acc : List S46} {n : Nat} (h : Seq l acc n) {i j : Nat} (hi : i < acc.length) (hj : j < acc.length) (he : (acc.getD i z46).f0 = (acc.getD j z46).f0) : i = j := by
  rcases Nat.lt_trichotomy i j with h1 | h1 | h1
  · have := h.lt (j - i - 1) i (by omega)
    rw [show i + (j - i - 1) + 1 = j by omega] at this
    omega
  · exact h1
  · have := h.lt (i - j - 1) j (by omega)
    rw [show j + (i - j - 1) + 1 = i by omega] at this
    omega
theorem Seq.place {l : List Int} {acc : List S46} {n : Nat} (h : Seq l acc n) {i : Nat} (hi : i < acc.length) : firstAt acc 0 (acc.getD i z46).f0 = some (i : Int) := by
  have h1 := firstAt_some acc 0 (acc.getD i z46).f0 (List.mem_map.2 ⟨_, getD_mem hi, rfl⟩)
  cases hf : firstAt acc 0 (acc.getD i z46).f0 with
  | none => rw [hf] at h1; cases h1
  | some v =>
    obtain ⟨j, rfl, hj, he⟩ := firstAt_idx hf
    unfold rd_T46 at he
    rw [Int.toNat_natCast] at he
    rw [h.inj hj hi he]
end Go.Proofs.Ytcffniaieegbgaa.Pure

end

section
namespace Go.Proofs.Ytcffniaieegbgaa.Pure
open Go.RowKit Go.Proofs.Ytcffniaieegbgaa.P Go.Proofs.YtcffniaieegbgaaW.PrintWords
set_option linter.unusedSimpArgs false
set_option linter.unusedVariables false
theorem blocks_len (l : List S46) : ∀ (d i fr : Nat), (blocksL l fr i d).length ≤ d
  | 0, i, fr => by simp [blocksL]
  | d + 1, i, fr => by
    unfold blocksL
    split
    · exact Nat.le_succ_of_le (blocks_len l d (i + 1) fr)
    · rw [List.length_cons]
      exact Nat.succ_le_succ (blocks_len l d (i + 1) (i + 1))
theorem blocks_head (l : List S46) (fr : Nat) : ∀ (d i : Nat), i + (d + 1) = l.length → ∃ e, i ≤ e ∧ e < l.length ∧ (∀ m, i ≤ m → m < e → goesOn l m = true) ∧ goesOn l e = false ∧ blocksL l fr i (d + 1) = blkOf l fr e :: blocksL l (e + 1) (e + 1) (l.length - (e + 1))
  | 0, i, h => by
    have hg : goesOn l i = false := by unfold goesOn; rw [decide_eq_false (by omega)]; rfl
    refine ⟨i, Nat.le_refl _, by omega, fun m h1 h2 => by omega, hg, ?_⟩
    rw [blocksL, hg, if_neg (by decide), show l.length - (i + 1) = 0 by omega]
  | d + 1, i, h => by
    by_cases hg : goesOn l i = true
    · obtain ⟨e, h1, h2, h3, h4, h5⟩ := blocks_head l fr d (i + 1) (by omega)
      refine ⟨e, by omega, h2, fun m h6 h7 => ?_, h4, ?_⟩
      · by_cases hm : m = i
        · rw [hm]; exact hg
        · exact h3 m (by omega) h7
      · rw [blocksL, if_pos hg]
        exact h5
    · refine ⟨i, Nat.le_refl _, by omega, fun m h1 h2 => by omega, by simpa using hg, ?_⟩
      rw [blocksL, if_neg hg, show l.length - (i + 1) = d + 1 by omega]
end Go.Proofs.Ytcffniaieegbgaa.Pure

end

section
namespace Go.Proofs.Ytcffniaieegbgaa.Pure
open Go.RowKit Go.Proofs.Ytcffniaieegbgaa.P Go.Proofs.YtcffniaieegbgaaW.PrintWords
set_option linter.unusedSimpArgs false
set_option linter.unusedVariables false
abbrev atD (l : List S46) (i : Nat) : S46 := l.getD i z46
theorem rdN (l : List S46) (i : Nat) : rd_T46 l (i : Int) = atD l i := by unfold rd_T46; rw [Int.toNat_natCast]
def Rise (l : List S46) : Prop := ∀ i j : Nat, i < j → j < l.length → (atD l i).f0 < (atD l j).f0
theorem riseTo_step {l : List S46} : ∀ n, riseTo l n = true → ∀ i, i + 1 < n → (atD l i).f0 < (atD l (i + 1)).f0
  | 0, h, i, hi => by omega
  | n + 1, h, i, hi => by
    rw [riseTo, Bool.and_eq_true] at h
    by_cases hn : i + 1 = n
    · have h2 := h.2
      rw [← hn, rdN, rdN, decide_eq_true (show 0 < i + 1 by omega), Bool.true_and, Bool.not_eq_true', decide_eq_false_iff_not, show i + 1 - 1 = i by omega] at h2
      omega
    · exact riseTo_step n h.1 i (by omega)
theorem riseTo_rise {l : List S46} (h : riseTo l l.length = true) : Rise l := by
  have h1 : ∀ d i : Nat, i + d + 1 < l.length → (atD l i).f0 < (atD l (i + d + 1)).f0 := by
    intro d
    induction d with
    | zero => intro i hi; exact riseTo_step _ h i hi
    | succ d ih =>
      intro i hi
      have h2 := ih i (by omega)
      have h3 := riseTo_step _ h (i + d + 1) hi
      show _ < (atD l (i + d + 1 + 1)).f0
      omega
  intro i j hij hj
  have := h1 (j - i - 1) i (by omega)
  rw [show i + (j - i - 1) + 1 = j by omega] at this
  exact this
theorem Rise.inj {l : List S46} (h : Rise l) {i j : Nat} (hi : i < l.length) (hj : j < l.length) (he : (atD l i).f0 = (atD l j).f0) : i = j := by
  rcases Nat.lt_trichotomy i j with h1 | h1 | h1
  · have := h i j h1 hj; omega
  · exact h1
  · have := h j i h1 hi; omega
theorem Rise.place {l : List S46} (h : Rise l) {j : Nat} (hj : j < l.length) (a : Int) : firstAt l 0 a = some (j : Int) ↔ (atD l j).f0 = a := by
  constructor
  · intro h1
    obtain ⟨i, h2, h3, h4⟩ := firstAt_idx h1
    rw [h2, rdN] at h4
    obtain rfl : j = i := by omega
    exact h4
  · intro h1
    have h2 := firstAt_some l 0 a (List.mem_map.2 ⟨_, getD_mem hj, h1⟩)
    cases hf : firstAt l 0 a with
    | none => rw [hf] at h2; cases h2
    | some v =>
      obtain ⟨i, rfl, h3, h4⟩ := firstAt_idx hf
      rw [rdN] at h4
      rw [h.inj h3 hj (h4.trans h1.symm)]
theorem placeI_nat {l : List S46} {a : Int} : (0 ≤ placeI l a ↔ (firstAt l 0 a).isSome = true) ∧ ∀ j : Nat, placeI l a = (j : Int) ↔ firstAt l 0 a = some (j : Int) := by
  unfold placeI
  cases hf : firstAt l 0 a with
  | none => exact ⟨by simp, fun j => ⟨fun h => (by exfalso; revert h; simp), fun h => (by cases h)⟩⟩
  | some v =>
    obtain ⟨i, rfl, _⟩ := firstAt_idx hf
    exact ⟨by simp, fun j => by simp⟩
theorem getD_set0 (m : List Bool) (j i : Nat) (hi : i < m.length) : (m.set j true).getD i false = (decide (i = j) || m.getD i false) := by
  by_cases h : i = j
  · subst h
    rw [decide_eq_true rfl, Bool.true_or, List.getD_eq_getElem?_getD, List.getElem?_set_self hi]
    rfl
  · rw [decide_eq_false h, Bool.false_or, List.getD_eq_getElem?_getD, List.getD_eq_getElem?_getD, List.getElem?_set_ne (fun e => h e.symm)]
theorem markR_is {l : List S46} {j : Nat} (hj : j < l.length) : ∀ n, n ≤ l.length → ((markR l n).getD j false = true ↔ (j = 0 ∧ 0 < n) ∨ (∃ m, m < n ∧ m + 1 = j ∧ followB (atD l m) = true) ∨ (∃ m, m < n ∧ jumpsB (atD l m).f1 = true ∧ placeI l (atD l m).f2 = (j : Int)))
  | 0, hn => by
    rw [markR, List.getD_eq_getElem?_getD, List.getElem?_replicate, if_pos hj]
    constructor
    · intro h; cases h
    · rintro (⟨_, h⟩ | ⟨m, h, _⟩ | ⟨m, h, _⟩) <;> omega
  | n + 1, hn => by
    have ih := markR_is hj n (by omega)
    have hlen := markR_len l n
    have e1 : (markR l (n + 1)).getD j false = ((markR l n).getD j false || (decide (n = 0) && decide (j = n)) || (followB (atD l n) && decide (n + 1 < l.length) && decide (j = n + 1)) || (jumpsB (atD l n).f1 && decide (placeI l (atD l n).f2 = (j : Int)))) := by
      simp only [markR]
      rw [rdN]
      have hf : (jumpsB (atD l n).f1 || endsB (atD l n).f1) = followB (atD l n) := rfl
      rw [hf]
      have s1 : (if n = 0 then (markR l n).set n true else markR l n).length = l.length := by split <;> simp [hlen]
      have v1 : (if n = 0 then (markR l n).set n true else markR l n).getD j false = ((markR l n).getD j false || (decide (n = 0) && decide (j = n))) := by
        by_cases h0 : n = 0
        · rw [if_pos h0, getD_set0 _ _ _ (by omega), decide_eq_true h0, Bool.true_and, Bool.or_comm]
        · rw [if_neg h0, decide_eq_false h0, Bool.false_and, Bool.or_false]
      generalize (if n = 0 then (markR l n).set n true else markR l n) = m1 at s1 v1 ⊢
      have s2 : (if (followB (atD l n) && decide (n + 1 < l.length)) = true then m1.set (n + 1) true else m1).length = l.length := by split <;> simp [s1]
      have v2 : (if (followB (atD l n) && decide (n + 1 < l.length)) = true then m1.set (n + 1) true else m1).getD j false = (m1.getD j false || (followB (atD l n) && decide (n + 1 < l.length) && decide (j = n + 1))) := by
        cases h0 : (followB (atD l n) && decide (n + 1 < l.length)) with
        | true => rw [if_pos rfl, getD_set0 _ _ _ (by omega), Bool.true_and, Bool.or_comm]
        | false => rw [if_neg (by decide), Bool.false_and, Bool.or_false]
      generalize (if (followB (atD l n) && decide (n + 1 < l.length)) = true then m1.set (n + 1) true else m1) = m2 at s2 v2 ⊢
      rw [← v1, ← v2]
      cases h0 : jumpsB (atD l n).f1 with
      | false => rw [Bool.false_and, if_neg (by decide), Bool.false_and, Bool.or_false]
      | true =>
        rw [Bool.true_and, Bool.true_and]
        by_cases h1 : 0 ≤ placeI l (atD l n).f2
        · rw [decide_eq_true h1, if_pos rfl, getD_set0 _ _ _ (by omega), Bool.or_comm]
          congr 1
          have : (j = (placeI l (atD l n).f2).toNat) ↔ placeI l (atD l n).f2 = (j : Int) := by omega
          exact decide_eq_decide.2 this
        · rw [decide_eq_false h1, if_neg (by decide), decide_eq_false (show ¬ placeI l (atD l n).f2 = (j : Int) by omega), Bool.or_false]
    rw [e1, Bool.or_eq_true, Bool.or_eq_true, Bool.or_eq_true, ih]
    simp only [Bool.and_eq_true, decide_eq_true_eq]
    constructor
    · rintro (((h | ⟨h1, h2⟩) | ⟨⟨h1, h2⟩, h3⟩) | ⟨h1, h2⟩)
      · rcases h with ⟨h1, h2⟩ | ⟨m, h1, h2, h3⟩ | ⟨m, h1, h2, h3⟩
        · exact .inl ⟨h1, by omega⟩
        · exact .inr (.inl ⟨m, by omega, h2, h3⟩)
        · exact .inr (.inr ⟨m, by omega, h2, h3⟩)
      · exact .inl ⟨by omega, by omega⟩
      · exact .inr (.inl ⟨n, by omega, h3.symm, h1⟩)
      · exact .inr (.inr ⟨n, by omega, h1, h2⟩)
    · rintro (⟨h1, h2⟩ | ⟨m, h1, h2, h3⟩ | ⟨m, h1, h2, h3⟩)
      · by_cases h0 : n = 0
        · exact .inl (.inl (.inr ⟨h0, by omega⟩))
        · exact .inl (.inl (.inl (.inl ⟨h1, by omega⟩)))
      · by_cases h0 : m = n
        · subst h0
          exact .inl (.inr ⟨⟨h3, by omega⟩, h2.symm⟩)
        · exact .inl (.inl (.inl (.inr (.inl ⟨m, by omega, h2, h3⟩))))
      · by_cases h0 : m = n
        · subst h0
          exact .inr ⟨h2, h3⟩
        · exact .inl (.inl (.inl (.inr (.inr ⟨m, by omega, h2, h3⟩))))
theorem follow_is (l : List S46) (x : Int) : ∀ n, x ∈ P.follow l n ↔ ∃ m, m < n ∧ m + 1 < l.length ∧ followB (atD l m) = true ∧ x = (atD l (m + 1)).f0
  | 0 => by
    rw [P.follow]
    exact ⟨fun h => (by cases h), fun ⟨m, h, _⟩ => (by omega)⟩
  | n + 1 => by
    rw [P.follow, List.mem_append, follow_is l x n, rdN, rdN]
    constructor
    · rintro (⟨m, h1, h2, h3, h4⟩ | h)
      · exact ⟨m, by omega, h2, h3, h4⟩
      · split at h
        · rename_i hc
          rw [Bool.and_eq_true, decide_eq_true_eq] at hc
          exact ⟨n, by omega, hc.1, hc.2, List.mem_singleton.1 h⟩
        · cases h
    · rintro ⟨m, h1, h2, h3, h4⟩
      by_cases hm : m = n
      · subst hm
        rw [decide_eq_true h2, h3]
        exact .inr (List.mem_singleton.2 h4)
      · exact .inl ⟨m, by omega, h2, h3, h4⟩
theorem mem_getD {l : List S46} {x : S46} (h : x ∈ l) : ∃ i, i < l.length ∧ atD l i = x := by
  obtain ⟨i, hi, he⟩ := List.getElem_of_mem h
  exact ⟨i, hi, by unfold atD; rw [List.getD_eq_getElem?_getD, List.getElem?_eq_getElem hi]; exact he⟩
theorem mark_lead {l : List S46} (h : Rise l) {j : Nat} (hj : j + 1 < l.length) : (markR l l.length).getD (j + 1) false = true ↔ (atD l (j + 1)).f0 ∈ leadK l := by
  rw [markR_is hj l.length (Nat.le_refl _)]
  unfold leadK
  rw [List.mem_append, follow_is, srt_mem]
  unfold tgts
  rw [List.mem_map]
  constructor
  · rintro (⟨h1, _⟩ | ⟨m, h1, h2, h3⟩ | ⟨m, h1, h2, h3⟩)
    · omega
    · exact .inr ⟨m, h1, by omega, h3, by rw [h2]⟩
    · refine .inl ⟨atD l m, List.mem_filter.2 ⟨getD_mem h1, h2⟩, ?_⟩
      exact (((Rise.place h hj _).1 ((placeI_nat.2 _).1 h3))).symm
  · rintro (⟨x, h1, h2⟩ | ⟨m, h1, h2, h3, h4⟩)
    · obtain ⟨h3, h4⟩ := List.mem_filter.1 h1
      obtain ⟨m, h5, rfl⟩ := mem_getD h3
      exact .inr (.inr ⟨m, h5, h4, (placeI_nat.2 _).2 ((Rise.place h hj _).2 h2.symm)⟩)
    · exact .inr (.inl ⟨m, h1, by have := h.inj hj h2 h4; omega, h3⟩)
theorem set_last (B : List S35) (x y : S35) : (B ++ [x]).set ((B ++ [x]).length - 1) y = B ++ [y] := by
  rw [List.length_append, List.length_singleton, Nat.add_sub_cancel, List.set_append_right _ _ (Nat.le_refl _), Nat.sub_self]
  rfl
theorem getD_last (B : List S35) (x : S35) : (B ++ [x]).getD ((B ++ [x]).length - 1) z35 = x := by
  rw [List.length_append, List.length_singleton, Nat.add_sub_cancel, List.getD_eq_getElem?_getD, List.getElem?_append_right (Nat.le_refl _), Nat.sub_self]
  rfl
theorem goesOn_is {l : List S46} (h : Rise l) (i : Nat) : goesOn l i = true ↔ i + 1 < l.length ∧ (markR l l.length).getD (i + 1) false = false := by
  unfold goesOn
  rw [rdN, Bool.and_eq_true, decide_eq_true_eq, Bool.not_eq_true', decide_eq_false_iff_not]
  constructor
  · rintro ⟨h1, h2⟩
    refine ⟨h1, ?_⟩
    cases hb : (markR l l.length).getD (i + 1) false with
    | false => rfl
    | true => exact absurd ((mark_lead h h1).1 hb) h2
  · rintro ⟨h1, h2⟩
    exact ⟨h1, fun h3 => by rw [(mark_lead h h1).2 h3] at h2; cases h2⟩
theorem outR_go {l : List S46} (h : Rise l) : ∀ (d i fr : Nat) (B : List S35), i + d = l.length → (d = 0 → outR l (markR l l.length) i = B) → (0 < d → ((markR l l.length).getD i false = true ∧ fr = i ∧ outR l (markR l l.length) i = B) ∨ ((markR l l.length).getD i false = false ∧ ∃ y z, outR l (markR l l.length) i = B ++ [⟨(atD l fr).f0, y, z⟩])) → outR l (markR l l.length) l.length = B ++ blocksL l fr i d
  | 0, i, fr, B, hd, h0, _ => by
    rw [blocksL, List.append_nil, ← h0 rfl, show i = l.length by omega]
  | d + 1, i, fr, B, hd, _, h1 => by
    have hfil : ((nextL (atD l i)).filter fun a => decide (0 ≤ placeI l a)) = (nextL (atD l i)).filter fun a => (firstAt l 0 a).isSome := by
      congr 1
      funext a
      have := (placeI_nat (l := l) (a := a)).1
      cases hb : (firstAt l 0 a).isSome with
      | true => exact decide_eq_true (this.2 hb)
      | false => exact decide_eq_false (fun h9 => by rw [this.1 h9] at hb; cases hb)
    have hs : outR l (markR l l.length) (i + 1) = B ++ [⟨(atD l fr).f0, (atD l i).f0, if i + 1 = l.length ∨ (markR l l.length).getD (i + 1) false = true then (nextL (atD l i)).filter (fun a => (firstAt l 0 a).isSome) else []⟩] := by
      rw [← hfil]
      simp only [outR]
      rw [rdN]
      rcases h1 (by omega) with ⟨h2, rfl, h3⟩ | ⟨h2, y, z, h3⟩
      · rw [h2, h3, if_pos rfl, set_last, getD_last]
      · rw [h2, h3, if_neg (by decide), set_last, getD_last]
    rw [blocksL]
    by_cases hg : goesOn l i = true
    · rw [if_pos hg]
      obtain ⟨h2, h3⟩ := (goesOn_is h i).1 hg
      refine outR_go h d (i + 1) fr B (by omega) (fun h9 => by omega) (fun _ => .inr ⟨h3, _, _, hs⟩)
    · rw [if_neg hg]
      have hc : i + 1 = l.length ∨ (markR l l.length).getD (i + 1) false = true := by
        by_cases h2 : i + 1 = l.length
        · exact .inl h2
        · right
          cases hb : (markR l l.length).getD (i + 1) false with
          | true => rfl
          | false => exact absurd ((goesOn_is h i).2 ⟨by omega, hb⟩) hg
      rw [if_pos hc] at hs
      have hb : blkOf l fr i = ⟨(atD l fr).f0, (atD l i).f0, (nextL (atD l i)).filter (fun a => (firstAt l 0 a).isSome)⟩ := by unfold blkOf; rw [rdN, rdN]
      rw [← hb] at hs
      have ih := outR_go h d (i + 1) (i + 1) (B ++ [blkOf l fr i]) (by omega) (fun _ => hs) (fun h9 => .inl ⟨hc.resolve_left (by omega), rfl, hs⟩)
      rw [ih, List.append_assoc, List.singleton_append]
theorem outR_is {l : List S46} (h : riseTo l l.length = true) : outR l (markR l l.length) l.length = blocksL l 0 0 l.length := by
  have h1 := outR_go (riseTo_rise h) l.length 0 0 [] (by omega) (fun _ => rfl) (fun h0 => .inl ⟨(markR_is h0 _ (Nat.le_refl _)).2 (.inl ⟨rfl, h0⟩), rfl, rfl⟩)
  rw [h1, List.nil_append]
theorem ordered_any (l : List S46) (hl : l.length ≤ 9223372036854775807) : ∀ (d i : Nat), l.length - i = d → 1 ≤ i → riseTo l (min i l.length) = true → Ev (fun k => flow_ordered.l0 k l (i : Int)) (riseTo l l.length)
  | 0, i, hd, h1, hr => by
    rw [show min i l.length = l.length by omega] at hr
    rw [hr]
    refine Ev.step (f := fun _ => some true) (fun k => ?_) (Ev.now _)
    simp only [flow_ordered.l0]
    rw [if_neg (by omega)]
  | d + 1, i, hd, h1, hr => by
    have hw : wrap64 ((i : Int) - 1) = ((i - 1 : Nat) : Int) := by unfold wrap64; omega
    rw [show min i l.length = i by omega] at hr
    have hstep : riseTo l (i + 1) = !(decide ((rd_T46 l (i : Int)).f0 ≤ (rd_T46 l ((i - 1 : Nat) : Int)).f0)) := by rw [riseTo, hr, Bool.true_and, decide_eq_true (show 0 < i by omega), Bool.true_and]
    by_cases hc : (rd_T46 l (i : Int)).f0 ≤ (rd_T46 l ((i - 1 : Nat) : Int)).f0
    · rw [decide_eq_true hc] at hstep
      have hno := riseTo_no hstep (l.length - (i + 1))
      rw [show i + 1 + (l.length - (i + 1)) = l.length by omega] at hno
      rw [hno]
      refine Ev.step (f := fun _ => some false) (fun k => ?_) (Ev.now _)
      simp only [flow_ordered.l0]
      rw [if_pos (by omega), if_pos (by omega), hw, if_pos (by omega), if_pos (by omega), if_pos hc]
    · rw [decide_eq_false hc] at hstep
      have ih := ordered_any l hl d (i + 1) (by omega) (by omega) (by rw [show min (i + 1) l.length = i + 1 by omega]; exact hstep)
      refine Ev.step (fun k => ?_) ih
      simp only [flow_ordered.l0]
      rw [if_pos (by omega), if_pos (by omega), hw, if_pos (by omega), if_pos (by omega), if_neg hc, wrap_one (show i < l.length by omega) hl]
theorem ordered_is (l : List S46) (hl : l.length ≤ 9223372036854775807) : Ev (fun k => flow_ordered.f k l) (riseTo l l.length) := by
  refine ordered_any l hl (l.length - 1) 1 rfl (Nat.le_refl _) ?_
  by_cases h : 1 ≤ l.length
  · rw [show min 1 l.length = 1 by omega, riseTo, riseTo]; rfl
  · rw [show min 1 l.length = 0 by omega, riseTo]
def blkL (l : List S46) : List S35 := if riseTo l l.length = true then blocksL l 0 0 l.length else []
theorem pblocks_ev (l : List S46) (hl : l.length < 4398046511104) (h1 : asOk l = true) (h2 : atsOk l = true) : Ev (fun k => flow_Blocks.f k l) (blkL l) := by
  refine Ev.congr (f := fun k => (flow_ordered.f k l).bind fun b => if b = true then some (blocksL l 0 0 l.length) else some []) (fun k => ?_) (Ev.bind (ordered_is l (by omega)) ?_)
  · unfold flow_Blocks.f
    rw [if_pos ⟨hl, h1, h2⟩]
  · unfold blkL
    split <;> exact Ev.now _
theorem all_ev {α : Type} (p : Nat → α → Bool) : ∀ l : List α, (∀ x ∈ l, ∃ K, ∀ k, K ≤ k → p k x = true) → ∃ K, ∀ k, K ≤ k → l.all (p k) = true
  | [], _ => ⟨0, fun _ _ => rfl⟩
  | x :: r, h => by
    obtain ⟨K1, h1⟩ := h x List.mem_cons_self
    obtain ⟨K2, h2⟩ := all_ev p r (fun y hy => h y (List.mem_cons_of_mem _ hy))
    exact ⟨max K1 K2, fun k hk => by rw [List.all_cons, h1 k (by omega), h2 k (by omega)]; rfl⟩
theorem okR_ev (l : List S46) (hl : l.length ≤ 9223372036854775807) : ∃ K, ∀ k, K ≤ k → okR k l = true := by
  refine all_ev (fun k x => decide (provisoref05_Next.f k x.f0 x.f1 x.f2 x.f3 = some (nextL x)) && (decide (provisoref05_Place.f k l x.f2 = some (placeI l x.f2)) && (nextL x).all fun b => decide (provisoref05_Place.f k l b = some (placeI l b)))) l (fun x _ => ?_)
  obtain ⟨K1, h1⟩ := next_ev x
  obtain ⟨K2, h2⟩ := place_ev l hl x.f2
  obtain ⟨K3, h3⟩ := all_ev (fun k b => decide (provisoref05_Place.f k l b = some (placeI l b))) (nextL x) (fun b _ => by
    obtain ⟨K, h⟩ := place_ev l hl b
    exact ⟨K, fun k hk => decide_eq_true (h k hk)⟩)
  refine ⟨K1 + K2 + K3, fun k hk => ?_⟩
  rw [Bool.and_eq_true, Bool.and_eq_true]
  exact ⟨decide_eq_true (h1 k (by omega)), decide_eq_true (h2 k (by omega)), h3 k (by omega)⟩
theorem rblocks_ev (l : List S46) (hl : l.length < 4398046511104) : Ev (fun k => provisoref05_Blocks.f k l) (blkL l) := by
  obtain ⟨K, h⟩ := okR_ev l (by omega)
  refine ⟨K, fun k hk => ?_⟩
  show provisoref05_Blocks.f k l = some (blkL l)
  unfold provisoref05_Blocks.f blkL
  rw [if_pos ⟨hl, h k hk⟩]
  split
  · rename_i hr
    rw [outR_is hr]
  · rfl
theorem blkL_len (l : List S46) : (blkL l).length ≤ l.length := by
  unfold blkL
  split
  · exact blocks_len l _ _ _
  · simp
end Go.Proofs.Ytcffniaieegbgaa.Pure

end

section
namespace Go.Proofs.Ytcffniaieegbgaa.Pure
open Go.RowKit Go.Proofs.Ytcffniaieegbgaa.P Go.Proofs.YtcffniaieegbgaaW.PrintWords
set_option linter.unusedSimpArgs false
set_option linter.unusedVariables false
theorem drop_atB {l : List S35} {i : Nat} (h : i < l.length) : l.drop i = rd_T35 l (i : Int) :: l.drop (i + 1) := by
  rw [List.drop_eq_getElem_cons h]
  congr 1
  show l[i] = l.getD (i : Int).toNat z35
  rw [Int.toNat_natCast, List.getD_eq_getElem?_getD, List.getElem?_eq_getElem h]
  rfl
theorem rdB_mem {l : List S35} {i : Nat} (h : i < l.length) : rd_T35 l (i : Int) ∈ l := by
  unfold rd_T35
  rw [Int.toNat_natCast, List.getD_eq_getElem?_getD, List.getElem?_eq_getElem h]
  exact List.getElem_mem h
def plb (l : List S35) (a : Int) : Int := (firstB l 0 a).getD (-1)
theorem rfrom_go (l : List S35) (hl : l.length ≤ 9223372036854775807) (a : Int) : ∀ (d i : Nat), l.length - i = d → i ≤ l.length → Ev (fun k => provisoref05_from.l0 k a l (l.length : Int) (i : Int)) ((firstB (l.drop i) i a).getD (-1))
  | 0, i, hd, hi => by
    obtain rfl : i = l.length := by omega
    refine Ev.step (f := fun _ => some (-1)) (fun k => ?_) (by rw [List.drop_length]; exact Ev.now _)
    simp only [provisoref05_from.l0]
    rw [if_neg (by omega)]
  | d + 1, i, hd, hi => by
    have h1 : i < l.length := by omega
    rw [drop_atB h1]
    unfold firstB
    by_cases h2 : (rd_T35 l (i : Int)).f0 = a
    · rw [if_pos h2]
      refine Ev.step (f := fun _ => some (i : Int)) (fun k => ?_) (Ev.now _)
      simp only [provisoref05_from.l0]
      rw [if_pos (by omega), if_pos (by omega), if_pos (by omega), if_pos h2]
    · rw [if_neg h2]
      have ih := rfrom_go l hl a d (i + 1) (by omega) (by omega)
      refine Ev.step (fun k => ?_) ih
      simp only [provisoref05_from.l0]
      rw [if_pos (by omega), if_pos (by omega), if_pos (by omega), if_neg h2, wrap_one h1 hl]
theorem rfrom_ev (l : List S35) (hl : l.length ≤ 9223372036854775807) (a : Int) : Ev (fun k => provisoref05_from.f k l a) (plb l a) := by
  have h := rfrom_go l hl a l.length 0 (by omega) (by omega)
  rw [List.drop_zero] at h
  exact h
def gOf (met : List Bool) : List Int := met.map fun b => if b = true then 1 else 0
theorem gOf_get (met : List Bool) (j : Nat) : ((gOf met).getD j 0 = 0) ↔ met.getD j false = false := by
  unfold gOf
  rw [List.getD_eq_getElem?_getD, List.getElem?_map, List.getD_eq_getElem?_getD]
  cases met[j]? with
  | none => simp
  | some b => cases b <;> simp
theorem gOf_set (met : List Bool) (j : Nat) : (gOf met).set j 1 = gOf (met.set j true) := by
  unfold gOf
  rw [List.map_set]
  rfl
theorem gOf_none (n : Nat) : gOf (List.replicate n false) = List.replicate n 0 := by simp [gOf]
def Leads (l : List S35) (i j : Nat) : Prop := ∃ a ∈ (rd_T35 l (i : Int)).f2, firstB l 0 a = some (j : Int)
inductive Star (l : List S35) : Nat → Nat → Prop
  | refl (i : Nat) : Star l i i
  | step {i j k : Nat} (h : Leads l i j) (r : Star l j k) : Star l i k
theorem Star.snoc {l : List S35} {i j k : Nat} (h : Star l i j) (r : Leads l j k) : Star l i k := by
  induction h with
  | refl i => exact .step r (.refl _)
  | step h _ ih => exact .step h (ih r)
theorem Star.trans {l : List S35} {i j k : Nat} (h : Star l i j) (r : Star l j k) : Star l i k := by
  induction h with
  | refl i => exact r
  | step h _ ih => exact .step h (ih r)
structure Dfs (l : List S35) (met met' : List Bool) (out out' : List Int) (d : List Nat) : Prop where
  len : met'.length = met.length
  mono : ∀ j, met.getD j false = true → met'.getD j false = true
  cnt : out'.length + met'.count false = out.length + met.count false
  ext : out' = out ++ d.map fun j => ((j : Nat) : Int)
  nodup : d.Nodup
  new : ∀ j, j ∈ d ↔ (met.getD j false = false ∧ met'.getD j false = true)
  low : ∀ j ∈ d, j < l.length
  closed : ∀ j ∈ d, ∀ s, Leads l j s → met'.getD s false = true
  topo : ∀ a j b, d = a ++ j :: b → ∀ s, Leads l j s → ((s : Int) ∈ out ++ a.map fun j => ((j : Nat) : Int)) ∨ Star l s j
def Gray (l : List S35) (met : List Bool) (out : List Int) (i : Nat) : Prop := ∀ g, met.getD g false = true → ((g : Int) ∈ out) ∨ Star l g i
theorem Dfs.gray {l : List S35} {met met' : List Bool} {out out' : List Int} {d : List Nat} (h : Dfs l met met' out out' d) {i : Nat} (hg : Gray l met out i) : Gray l met' out' i := by
  intro g h1
  rw [h.ext]
  cases hb : met.getD g false with
  | true =>
    rcases hg g hb with h2 | h2
    · exact .inl (List.mem_append_left _ h2)
    · exact .inr h2
  | false => exact .inl (List.mem_append_right _ (List.mem_map.2 ⟨g, (h.new g).2 ⟨hb, h1⟩, rfl⟩))
theorem Dfs.refl (l : List S35) (met : List Bool) (out : List Int) : Dfs l met met out out [] :=
  ⟨rfl, fun _ h => h, rfl, (by simp), List.nodup_nil, fun j => ⟨fun h => (by cases h), fun h => (by have h2 := h.2; rw [h.1] at h2; cases h2)⟩, fun _ h => (by cases h), fun _ h => (by cases h), fun a j b h => (by simp at h)⟩
theorem Dfs.trans {l : List S35} {m1 m2 m3 : List Bool} {o1 o2 o3 : List Int} {d1 d2 : List Nat} (h1 : Dfs l m1 m2 o1 o2 d1) (h2 : Dfs l m2 m3 o2 o3 d2) : Dfs l m1 m3 o1 o3 (d1 ++ d2) where
  len := h2.len.trans h1.len
  mono := fun j h => h2.mono j (h1.mono j h)
  cnt := h2.cnt.trans h1.cnt
  ext := by rw [h2.ext, h1.ext, List.map_append, List.append_assoc]
  nodup := by
    rw [List.nodup_append]
    refine ⟨h1.nodup, h2.nodup, fun a ha b hb e => ?_⟩
    subst e
    have := ((h1.new a).1 ha).2
    rw [((h2.new a).1 hb).1] at this
    cases this
  new := fun j => by
    rw [List.mem_append, h1.new, h2.new]
    constructor
    · rintro (⟨a, b⟩ | ⟨a, b⟩)
      · exact ⟨a, h2.mono j b⟩
      · refine ⟨?_, b⟩
        cases hb : m1.getD j false with
        | false => rfl
        | true => rw [h1.mono j hb] at a; cases a
    · rintro ⟨a, b⟩
      cases hb : m2.getD j false with
      | true => exact .inl ⟨a, rfl⟩
      | false => exact .inr ⟨rfl, b⟩
  low := fun j hj => (List.mem_append.1 hj).elim (h1.low j) (h2.low j)
  closed := fun j hj s hs => (List.mem_append.1 hj).elim (fun h => h2.mono s (h1.closed j h s hs)) (fun h => h2.closed j h s hs)
  topo := by
    intro a j b e s hs
    rcases List.append_eq_append_iff.1 e with ⟨a', e1, e2⟩ | ⟨c', e1, e2⟩
    · subst e1
      rcases h2.topo a' j b e2 s hs with h3 | h3
      · rw [h1.ext] at h3
        rw [List.map_append, ← List.append_assoc]
        exact .inl h3
      · exact .inr h3
    · cases c' with
      | nil =>
        rw [List.append_nil] at e1
        subst e1
        have e2 : d2 = [] ++ j :: b := e2.symm
        rcases h2.topo [] j b e2 s hs with h3 | h3
        · rw [h1.ext] at h3
          simpa using Or.inl h3
        · exact .inr h3
      | cons c cs =>
        rw [List.cons_append] at e2
        injection e2 with e3 e4
        subst e3
        exact h1.topo a j cs e1 s hs
def Into (l : List S35) (i : Nat) (met : List Bool) (out : List Int) (met' : List Bool) (out' : List Int) : Prop :=
  Ev (fun k => intoL k l i (gOf met, out)) (gOf met', out') ∧ Ev (fun k => provisoref05_leave.f k l (i : Int) met out) (out', met')
theorem visit_go (l : List S35) (hl : l.length ≤ 4398046511104) (hx : ∀ x ∈ l, x.f2.length ≤ 9223372036854775807) (i m : Nat)
    (ih : ∀ (met : List Bool) (out : List Int) (j : Nat), met.count false < m → met.length = l.length → out.length + met.count false ≤ 4398046511104 → j < l.length → met.getD j false = false → Gray l met out j → ∃ met' out' d, Into l j met out met' out' ∧ Dfs l met met' out out' d ∧ met'.getD j false = true ∧ ∃ e, d = e ++ [j]) (hi : i < l.length) :
    ∀ (d n : Nat) (met : List Bool) (out : List Int), (rd_T35 l (i : Int)).f2.length - n = d → n ≤ (rd_T35 l (i : Int)).f2.length → met.count false < m → met.length = l.length → out.length + met.count false ≤ 4398046511104 → Gray l met out i → ∃ met' out' e,
      Ev (fun k => visitL (intoL k l) l ((rd_T35 l (i : Int)).f2.drop n) (gOf met, out)) (gOf met', out') ∧
      (∀ R, Ev (fun k => provisoref05_leave.l0 k l (i : Int) met' out' (rd_T35 l (i : Int)).f2 ((rd_T35 l (i : Int)).f2.length : Int) ((rd_T35 l (i : Int)).f2.length : Int)) R → Ev (fun k => provisoref05_leave.l0 k l (i : Int) met out (rd_T35 l (i : Int)).f2 ((rd_T35 l (i : Int)).f2.length : Int) (n : Int)) R) ∧
      Dfs l met met' out out' e ∧ ∀ a ∈ (rd_T35 l (i : Int)).f2.drop n, ∀ s : Nat, firstB l 0 a = some (s : Int) → met'.getD s false = true
  | 0, n, met, out, hd, hn, hc, hm, ho, hg => by
    obtain rfl : n = (rd_T35 l (i : Int)).f2.length := by omega
    refine ⟨met, out, [], ?_, fun R h => h, Dfs.refl _ _ _, fun a ha => by rw [List.drop_length] at ha; cases ha⟩
    rw [List.drop_length]
    exact Ev.now _
  | d + 1, n, met, out, hd, hn, hc, hm, ho, hg => by
    have hb := hx _ (rdB_mem hi)
    generalize hnx : (rd_T35 l (i : Int)).f2 = nx at hd hn hb ⊢
    have h1 : n < nx.length := by omega
    have ihd := visit_go l hl hx i m ih hi d (n + 1)
    rw [hnx] at ihd
    rw [drop_at h1]
    have hrd : rd nx (n : Int) ∈ nx := rd_mem h1
    have hfr := rfrom_ev l (by omega) (rd nx (n : Int))
    unfold plb at hfr
    simp only [visitL]
    cases hf : firstB l 0 (rd nx (n : Int)) with
    | none =>
      rw [hf] at hfr
      obtain ⟨met', out', e, h2, h3, h4, h5⟩ := ihd met out (by omega) (by omega) hc hm ho hg
      refine ⟨met', out', e, h2, fun R hR => ?_, h4, fun a ha s hs => ?_⟩
      · refine Ev.step (f := fun k => (provisoref05_from.f k l (rd nx (n : Int))).bind (fun t => if t ≥ 0 then (if 0 ≤ t then (if t < (met.length : Int) then (if rdOf false met t = true then provisoref05_leave.l0 k l (i : Int) met out nx (nx.length : Int) ((n + 1 : Nat) : Int) else (provisoref05_leave.f k l t met out).bind fun bt => provisoref05_leave.l0 k l (i : Int) bt.2 bt.1 nx (nx.length : Int) ((n + 1 : Nat) : Int)) else none) else none) else provisoref05_leave.l0 k l (i : Int) met out nx (nx.length : Int) ((n + 1 : Nat) : Int))) (fun k => ?_) (Ev.bind hfr ?_)
        · simp only [provisoref05_leave.l0]
          rw [if_pos (by omega), if_pos (by omega), if_pos (by omega), wrap_one h1 hb]
        · refine Ev.congr (fun k => ?_) (h3 R hR)
          simp only [Option.getD_none]
          rw [if_neg (by decide)]
      · rcases List.mem_cons.1 ha with rfl | ha
        · rw [hf] at hs; cases hs
        · exact h5 a ha s hs
    | some v =>
      obtain ⟨j, e3, hj⟩ := firstB_lt l 0 _ v hf
      rw [Nat.zero_add] at e3
      subst e3
      rw [hf] at hfr
      simp only [Option.getD_some] at hfr
      simp only [Int.toNat_natCast]
      have hlead : Leads l i j := ⟨_, by rw [hnx]; exact hrd, hf⟩
      have hstep : ∀ R, Ev (fun k => if rdOf false met (j : Int) = true then provisoref05_leave.l0 k l (i : Int) met out nx (nx.length : Int) ((n + 1 : Nat) : Int) else (provisoref05_leave.f k l (j : Int) met out).bind fun bt => provisoref05_leave.l0 k l (i : Int) bt.2 bt.1 nx (nx.length : Int) ((n + 1 : Nat) : Int)) R → Ev (fun k => provisoref05_leave.l0 k l (i : Int) met out nx (nx.length : Int) (n : Int)) R := by
        intro R hR
        refine Ev.step (f := fun k => (provisoref05_from.f k l (rd nx (n : Int))).bind (fun t => if t ≥ 0 then (if 0 ≤ t then (if t < (met.length : Int) then (if rdOf false met t = true then provisoref05_leave.l0 k l (i : Int) met out nx (nx.length : Int) ((n + 1 : Nat) : Int) else (provisoref05_leave.f k l t met out).bind fun bt => provisoref05_leave.l0 k l (i : Int) bt.2 bt.1 nx (nx.length : Int) ((n + 1 : Nat) : Int)) else none) else none) else provisoref05_leave.l0 k l (i : Int) met out nx (nx.length : Int) ((n + 1 : Nat) : Int))) (fun k => ?_) (Ev.bind hfr ?_)
        · simp only [provisoref05_leave.l0]
          rw [if_pos (by omega), if_pos (by omega), if_pos (by omega), wrap_one h1 hb]
        · refine Ev.congr (fun k => ?_) hR
          rw [if_pos (by omega), if_pos (by omega), if_pos (by omega)]
      have hrb : rdOf false met (j : Int) = met.getD j false := by unfold rdOf; rw [Int.toNat_natCast]
      cases hmj : met.getD j false with
      | true =>
        obtain ⟨met', out', e, h2, h3, h4, h5⟩ := ihd met out (by omega) (by omega) hc hm ho hg
        refine ⟨met', out', e, ?_, fun R hR => hstep R ?_, h4, fun a ha s hs => ?_⟩
        · refine Ev.congr (fun k => ?_) h2
          rw [if_neg (fun h => by rw [gOf_get, hmj] at h; cases h)]
        · refine Ev.congr (fun k => ?_) (h3 R hR)
          rw [hrb, hmj, if_pos rfl]
        · rcases List.mem_cons.1 ha with rfl | ha
          · rw [hf] at hs
            have : j = s := by have := Option.some.inj hs; omega
            rw [← this]
            exact h4.mono j hmj
          · exact h5 a ha s hs
      | false =>
        obtain ⟨m1, o1, d1, ⟨k1, k2⟩, k3, k4, _⟩ := ih met out j hc hm ho hj hmj (fun g hg9 => (hg g hg9).imp id (fun h => h.snoc hlead))
        have hcnt := k3.cnt
        have hlo : o1.length = out.length + d1.length := by rw [k3.ext]; simp
        obtain ⟨met', out', e, h2, h3, h4, h5⟩ := ihd m1 o1 (by omega) (by omega) (by omega) (k3.len.trans hm) (by omega) (k3.gray hg)
        refine ⟨met', out', d1 ++ e, ?_, fun R hR => hstep R ?_, k3.trans h4, fun a ha s hs => ?_⟩
        · refine Ev.congr (f := fun k => (intoL k l j (gOf met, out)).bind (visitL (intoL k l) l (nx.drop (n + 1)))) (fun k => ?_) (Ev.bind k1 h2)
          rw [if_pos ((gOf_get met j).2 hmj)]
        · refine Ev.congr (f := fun k => (provisoref05_leave.f k l (j : Int) met out).bind fun bt => provisoref05_leave.l0 k l (i : Int) bt.2 bt.1 nx (nx.length : Int) ((n + 1 : Nat) : Int)) (fun k => ?_) (Ev.bind k2 (h3 R hR))
          rw [hrb, hmj, if_neg (by decide)]
        · rcases List.mem_cons.1 ha with rfl | ha
          · rw [hf] at hs
            have : j = s := by have := Option.some.inj hs; omega
            rw [← this]
            exact h4.mono j k4
          · exact h5 a ha s hs
theorem into_go (l : List S35) (hl : l.length ≤ 4398046511104) (hx : ∀ x ∈ l, x.f2.length ≤ 9223372036854775807) : ∀ (m : Nat) (met : List Bool) (out : List Int) (i : Nat), met.count false < m → met.length = l.length → out.length + met.count false ≤ 4398046511104 → i < l.length → met.getD i false = false → Gray l met out i → ∃ met' out' d, Into l i met out met' out' ∧ Dfs l met met' out out' d ∧ met'.getD i false = true ∧ ∃ e, d = e ++ [i]
  | 0, met, out, i, hc, hm, ho, hi, hmi, hg => by omega
  | m + 1, met, out, i, hc, hm, ho, hi, hmi, hg => by
    have hsc := set_count met i (by omega) hmi
    have hget := fun g => getD_set met i g (by omega)
    have hg1 : Gray l (met.set i true) out i := by
      intro g h1
      rw [hget] at h1
      by_cases e : g = i
      · rw [e]; exact .inr (.refl _)
      · rw [if_neg e] at h1; exact hg g h1
    have hb := hx _ (rdB_mem hi)
    obtain ⟨m1, o1, d, h2, h3, h4, h5⟩ := visit_go l hl hx i m (fun met out j a b c d e f => into_go l hl hx m met out j a b c d e f) hi _ 0 (met.set i true) out rfl (Nat.zero_le _) (by omega) (by rw [List.length_set]; exact hm) (by omega) hg1
    rw [List.drop_zero] at h2 h5
    have hcnt := h4.cnt
    have hlo : o1.length = out.length + d.length := by rw [h4.ext]; simp
    have hi1 : (met.set i true).getD i false = true := by rw [hget, if_pos rfl]
    have hmi1 := h4.mono i hi1
    have hnd : i ∉ d := fun h => by have := ((h4.new i).1 h).1; rw [hi1] at this; cases this
    have hlt : o1.length < 17592186044416 := by omega
    refine ⟨m1, o1 ++ [(i : Int)], d ++ [i], ⟨?_, ?_⟩, ?_, hmi1, d, rfl⟩
    · refine Ev.step (f := fun k => (visitL (intoL k l) l (rd_T35 l (i : Int)).f2 (gOf (met.set i true), out)).bind fun t => if fitsB t.2.length = true then some (t.1, t.2 ++ [(i : Int)]) else none) (fun k => ?_) (Ev.bind h2 ?_)
      · rw [intoL, gOf_set]
      · simp only [show fitsB o1.length = true from decide_eq_true hlt, if_true]
        exact Ev.now _
    · refine Ev.step (f := fun k => provisoref05_leave.l0 k l (i : Int) (met.set i true) out (rd_T35 l (i : Int)).f2 ((rd_T35 l (i : Int)).f2.length : Int) ((0 : Nat) : Int)) (fun k => ?_) (h3 _ ?_)
      · simp only [provisoref05_leave.f]
        rw [if_pos (by omega), if_pos (by omega), if_pos (by omega), Int.toNat_natCast]
        rfl
      · refine Ev.step (f := fun _ => some (o1 ++ [(i : Int)], m1)) (fun k => ?_) (Ev.now _)
        simp only [provisoref05_leave.l0]
        rw [if_neg (by omega), if_pos hlt]
    · refine ⟨by rw [h4.len, List.length_set], fun j h => h4.mono j (by rw [hget]; split; rfl; exact h), by rw [List.length_append, List.length_singleton]; omega, by rw [h4.ext, List.map_append, List.append_assoc]; rfl, ?_, fun j => ?_, fun j hj => ?_, fun j hj s hs => ?_, fun a j b e s hs => ?_⟩
      · rw [List.nodup_append]
        exact ⟨h4.nodup, by simp, fun a ha b hb e => hnd (by rw [List.mem_singleton.1 hb] at e; rw [← e]; exact ha)⟩
      · rw [List.mem_append, List.mem_singleton, h4.new, hget]
        constructor
        · rintro (⟨a, b⟩ | rfl)
          · by_cases e : j = i
            · rw [if_pos e] at a; cases a
            · rw [if_neg e] at a; exact ⟨a, b⟩
          · exact ⟨hmi, hmi1⟩
        · rintro ⟨a, b⟩
          by_cases e : j = i
          · exact .inr e
          · rw [if_neg e]; exact .inl ⟨a, b⟩
      · rcases List.mem_append.1 hj with hj | hj
        · exact h4.low j hj
        · rw [List.mem_singleton.1 hj]; exact hi
      · rcases List.mem_append.1 hj with hj | hj
        · exact h4.closed j hj s hs
        · obtain ⟨a, ha, hf⟩ := hs
          rw [List.mem_singleton.1 hj] at ha
          exact h5 a ha s hf
      · rcases List.append_eq_append_iff.1 e with ⟨a', e1, e2⟩ | ⟨c', e1, e2⟩
        · cases a' with
          | nil =>
            rw [List.nil_append] at e2
            injection e2 with e3 e4
            subst e3
            rw [List.append_nil] at e1
            subst e1
            obtain ⟨x, hx1, hf⟩ := hs
            have hm1 := h5 x hx1 s hf
            rw [← h4.ext]
            exact h4.gray hg1 s hm1
          | cons c cs =>
            exfalso
            rw [List.cons_append] at e2
            injection e2 with e3 e4
            simp at e4
        · cases c' with
          | nil =>
            rw [List.nil_append] at e2
            injection e2 with e3 e4
            subst e3
            rw [List.append_nil] at e1
            subst e1
            obtain ⟨x, hx1, hf⟩ := hs
            have hm1 := h5 x hx1 s hf
            rw [← h4.ext]
            exact h4.gray hg1 s hm1
          | cons c cs =>
            rw [List.cons_append] at e2
            injection e2 with e3 e4
            subst e3
            exact h4.topo a j cs e1 s hs
theorem ext_getD {a b : List Int} (hl : a.length = b.length) (h : ∀ p, p < a.length → a.getD p 0 = b.getD p 0) : a = b := by
  refine List.ext_getElem hl (fun p h1 h2 => ?_)
  have := h p h1
  rw [List.getD_eq_getElem?_getD, List.getD_eq_getElem?_getD, List.getElem?_eq_getElem h1, List.getElem?_eq_getElem h2] at this
  exact this
theorem getD_setI (m : List Int) (j i : Nat) (x : Int) (hj : j < m.length) : (m.set j x).getD i 0 = if i = j then x else m.getD i 0 := by
  simp only [List.getD_eq_getElem?_getD, List.getElem?_set]
  by_cases e : j = i
  · subst e
    rw [if_pos rfl, if_pos hj, if_pos rfl]; rfl
  · rw [if_neg e, if_neg (Ne.symm e)]
theorem rdI (l : List Int) (i : Nat) : rd l (i : Int) = l.getD i 0 := by unfold rd; rw [Int.toNat_natCast]
theorem turn_end (l : List Int) (i : Nat) (xs : List Int) (hlt : ¬ i + i + 1 < l.length) (hi : i + i ≤ l.length + 1) (h0 : 0 < l.length) (hxl : xs.length = l.length) (hx : ∀ p, p < l.length → xs.getD p 0 = if p < i ∨ l.length - i ≤ p then l.getD (l.length - 1 - p) 0 else l.getD p 0) : Ev (fun k => slices_Reverse_int_int.l0 k xs (i : Int) ((l.length : Int) - 1 - (i : Int))) l.reverse := by
  have hr : xs = l.reverse := by
    refine ext_getD (by simp [hxl]) (fun p hp => ?_)
    rw [hx p (by omega)]
    have hrev : l.reverse.getD p 0 = l.getD (l.length - 1 - p) 0 := by
      rw [List.getD_eq_getElem?_getD, List.getD_eq_getElem?_getD, List.getElem?_reverse (by omega)]
    rw [hrev]
    by_cases e3 : p < i ∨ l.length - i ≤ p
    · rw [if_pos e3]
    · rw [if_neg e3, show l.length - 1 - p = p by omega]
  rw [← hr]
  refine Ev.step (f := fun _ => some xs) (fun k => ?_) (Ev.now _)
  simp only [slices_Reverse_int_int.l0]
  rw [if_neg (by omega)]
theorem turn_go (l : List Int) (hl : l.length ≤ 9223372036854775807) : ∀ (d i : Nat) (xs : List Int), l.length - i = d → 0 < l.length → i + i ≤ l.length + 1 → xs.length = l.length → (∀ p, p < l.length → xs.getD p 0 = if p < i ∨ l.length - i ≤ p then l.getD (l.length - 1 - p) 0 else l.getD p 0) → Ev (fun k => slices_Reverse_int_int.l0 k xs (i : Int) ((l.length : Int) - 1 - (i : Int))) l.reverse
  | 0, i, xs, hd, h0, hi, hxl, hx => turn_end l i xs (by omega) hi h0 hxl hx
  | d + 1, i, xs, hd, h0, hi, hxl, hx => by
    by_cases hlt : i + i + 1 < l.length
    · obtain ⟨q, hq⟩ : ∃ q : Nat, q = l.length - 1 - i := ⟨_, rfl⟩
      have hqi : (l.length : Int) - 1 - (i : Int) = (q : Int) := by omega
      rw [hqi]
      have hw1 : wrap64 ((i : Int) + 1) = ((i + 1 : Nat) : Int) := wrap_one (n := l.length) (by omega) hl
      have hw2 : wrap64 ((q : Int) - 1) = (l.length : Int) - 1 - ((i + 1 : Nat) : Int) := by unfold wrap64; omega
      have ih := turn_go l hl d (i + 1) ((xs.set i (xs.getD q 0)).set q (xs.getD i 0)) (by omega) h0 (by omega) (by simp [hxl]) (fun p hp => ?_)
      · refine Ev.step (fun k => ?_) ih
        simp only [slices_Reverse_int_int.l0]
        rw [if_pos (by omega), if_pos (by omega), if_pos (by omega), if_pos (by omega), if_pos (by omega), hw1, hw2, rdI, rdI, Int.toNat_natCast, Int.toNat_natCast]
      · rw [getD_setI _ _ _ _ (by simp; omega), getD_setI _ _ _ _ (by omega)]
        by_cases e1 : p = q
        · rw [if_pos e1, if_pos (by omega), hx i (by omega), if_neg (by omega), e1, show l.length - 1 - q = i by omega]
        · rw [if_neg e1]
          by_cases e2 : p = i
          · rw [if_pos e2, if_pos (by omega), hx q (by omega), if_neg (by omega), e2, ← hq]
          · rw [if_neg e2, hx p hp]
            by_cases e3 : p < i ∨ l.length - i ≤ p
            · rw [if_pos e3, if_pos (by omega)]
            · rw [if_neg e3, if_neg (by omega)]
    · exact turn_end l i xs hlt hi h0 hxl hx
theorem turn_ev (l : List Int) (hl : l.length ≤ 9223372036854775807) : Ev (fun k => slices_Reverse_int_int.f k l) l.reverse := by
  unfold slices_Reverse_int_int.f
  by_cases h0 : 0 < l.length
  · have h := turn_go l hl l.length 0 l (by omega) h0 (by omega) rfl (fun p hp => by rw [if_neg (by omega)])
    rw [show wrap64 ((l.length : Int) - 1) = (l.length : Int) - 1 - ((0 : Nat) : Int) by unfold wrap64; omega]
    exact h
  · obtain rfl : l = [] := List.eq_nil_of_length_eq_zero (by omega)
    refine Ev.step (f := fun _ => some []) (fun k => ?_) (Ev.now _)
    simp only [slices_Reverse_int_int.l0]
    rw [if_neg (by unfold wrap64; simp)]
theorem left_go (l : List S35) (met : List Bool) (left : List Int) (hl : left.length ≤ 4398046511104) (R : List Int) : ∀ (m : Nat) (acc : List Int), m ≤ left.length → acc.length + m ≤ 4398046511104 → Ev (fun k => provisoref05_Order.l1 k met (acc ++ (left.take m).reverse) (l.length : Int) 0) R → Ev (fun k => provisoref05_Order.l0 k l met left acc ((m : Int) - 1)) R
  | 0, acc, hm, ha, h => by
    refine Ev.step (fun k => ?_) h
    simp only [provisoref05_Order.l0]
    rw [if_neg (by omega), List.take_zero, List.reverse_nil, List.append_nil]
  | m + 1, acc, hm, ha, h => by
    have hs : left.take (m + 1) = left.take m ++ [rd left (m : Int)] := by rw [take_snoc (show m < left.length by omega) (0 : Int), rdI]
    have ih := left_go l met left hl R m (acc ++ [rd left (m : Int)]) (by omega) (by simp; omega) (by rw [List.append_assoc, List.singleton_append]; rw [hs, List.reverse_append] at h; exact h)
    refine Ev.step (fun k => ?_) ih
    simp only [provisoref05_Order.l0]
    rw [show ((m + 1 : Nat) : Int) - 1 = (m : Int) by omega, if_pos (by omega), if_pos (by omega), if_pos (by omega), if_pos (by omega), show wrap64 ((m : Int) - 1) = (m : Int) - 1 by unfold wrap64; omega]
theorem rest_go (met : List Bool) (hm : met.length ≤ 4398046511104) (v : List Int) (hv : v.length ≤ 4398046511104) : ∀ (d i : Nat), met.length - i = d → i ≤ met.length → Ev (fun k => provisoref05_Order.l1 k met (v ++ restL (gOf met) i) (met.length : Int) (i : Int)) (v ++ restL (gOf met) met.length)
  | 0, i, hd, hi => by
    obtain rfl : i = met.length := by omega
    refine Ev.step (f := fun _ => some (v ++ restL (gOf met) met.length)) (fun k => ?_) (Ev.now _)
    simp only [provisoref05_Order.l1]
    rw [if_neg (by omega)]
  | d + 1, i, hd, hi => by
    have ih := rest_go met hm v hv d (i + 1) (by omega) (by omega)
    have hrl := restL_len (gOf met) i
    have hrb : rdOf false met (i : Int) = met.getD i false := by unfold rdOf; rw [Int.toNat_natCast]
    have hlt : (v ++ restL (gOf met) i).length < 17592186044416 := by rw [List.length_append]; omega
    refine Ev.step (fun k => ?_) ih
    simp only [provisoref05_Order.l1]
    rw [if_pos (by omega), if_pos (by omega), if_pos (by omega), hrb, restL, wrap_one (n := met.length) (by omega) (by omega)]
    have hgo := gOf_get met i
    cases hb : met.getD i false with
    | true => rw [if_pos rfl, if_neg (fun h => by rw [hgo, hb] at h; cases h)]
    | false => rw [if_neg (by decide), if_pos (hgo.2 hb), if_pos hlt, List.append_assoc]
theorem order_ev (l : List S35) (hl : l.length < 4398046511104) (hx : ∀ x ∈ l, x.f2.length ≤ 9223372036854775807) (hok : bsOk l = true) (h0 : 0 < l.length) : ∃ (met : List Bool) (d : List Nat), Dfs l (List.replicate l.length false) met [] (d.map fun j => ((j : Nat) : Int)) d ∧ met.getD 0 false = true ∧ (∃ e, d = e ++ [0]) ∧ Ev (fun k => flow_Order.f k l) ((d.map fun j => ((j : Nat) : Int)).reverse ++ restL (gOf met) l.length) ∧ Ev (fun k => provisoref05_Order.f k l) ((d.map fun j => ((j : Nat) : Int)).reverse ++ restL (gOf met) l.length) := by
  have hcf : (List.replicate l.length false).count false = l.length := by simp
  obtain ⟨met, out, d, ⟨h1, h2⟩, h3, h4, h5⟩ := into_go l (by omega) hx (l.length + 1) (List.replicate l.length false) [] 0 (by omega) (by simp) (by simp; omega) h0 (by rw [List.getD_eq_getElem?_getD, List.getElem?_replicate, if_pos h0]; rfl) (fun g hg => by
    rw [List.getD_eq_getElem?_getD, List.getElem?_replicate] at hg
    split at hg <;> simp at hg)
  have hout : out = d.map fun j => ((j : Nat) : Int) := by rw [h3.ext, List.nil_append]
  subst hout
  have hlen : met.length = l.length := by rw [h3.len]; simp
  have hcnt := h3.cnt
  rw [hcf] at hcnt
  simp only [List.length_map, List.length_nil] at hcnt
  have hrl := restL_len (gOf met) l.length
  refine ⟨met, d, h3, h4, h5, ?_, ?_⟩
  · refine Ev.congr (f := fun k => (startL k l).bind fun s => (slices_Reverse_int_int.f k s.2).bind fun v => if v.length ≤ 4398046511104 then some (v ++ restL s.1 l.length) else none) (fun k => ?_) (Ev.bind (a := (gOf met, d.map fun j => ((j : Nat) : Int))) ?_ (Ev.bind (turn_ev _ (by simp; omega)) ?_))
    · unfold flow_Order.f
      rw [if_pos ⟨hl, hok⟩]
    · refine Ev.congr (fun k => ?_) h1
      unfold startL
      rw [if_neg (by omega), ← gOf_none]
    · refine Ev.congr (fun k => ?_) (Ev.now _)
      rw [if_pos (by simp; omega)]
  · refine Ev.congr (f := fun k => (provisoref05_leave.f k l 0 (List.replicate l.length false) ([] : List Int)).bind fun bt => provisoref05_Order.l0 k l bt.2 bt.1 ([] : List Int) (wrap64 ((bt.1.length : Int) - 1))) (fun k => ?_) (Ev.bind h2 ?_)
    · unfold provisoref05_Order.f
      rw [if_neg (by omega), if_pos (by omega), Int.toNat_natCast, if_pos (by omega)]
    · simp only []
      rw [show wrap64 (((d.map fun j => ((j : Nat) : Int)).length : Int) - 1) = (d.length : Int) - 1 by rw [List.length_map]; unfold wrap64; omega]
      have hg := left_go l met (d.map fun j => ((j : Nat) : Int)) (by simp; omega) ((d.map fun j => ((j : Nat) : Int)).reverse ++ restL (gOf met) l.length) d.length [] (by simp) (by simp; omega) ?_
      · exact hg
      · rw [List.nil_append, List.take_of_length_le (by simp)]
        have hr := rest_go met (by omega) (d.map fun j => ((j : Nat) : Int)).reverse (by simp; omega) met.length 0 rfl (Nat.zero_le _)
        rw [restL, List.append_nil, hlen] at hr
        exact hr
theorem order_nil : Ev (fun k => flow_Order.f k []) [] ∧ Ev (fun k => provisoref05_Order.f k []) [] := by
  refine ⟨?_, ?_⟩
  · refine Ev.congr (f := fun k => (slices_Reverse_int_int.f k []).bind fun v => if v.length ≤ 4398046511104 then some (v ++ []) else none) (fun k => ?_) (Ev.bind (turn_ev [] (by simp)) (Ev.congr (f := fun _ => some []) (fun k => by simp) (Ev.now _)))
    unfold flow_Order.f
    rw [if_pos ⟨by decide, rfl⟩]
    rfl
  · refine Ev.congr (f := fun k => some []) (fun k => ?_) (Ev.now _)
    unfold provisoref05_Order.f
    rw [if_pos (by rfl)]
theorem sameB_go (l : List S35) (hl : l.length ≤ 9223372036854775807) (hx : ∀ x ∈ l, x.f2.length ≤ 9223372036854775807) : ∀ (d i : Nat), l.length - i = d → i ≤ l.length → Ev (fun k => provisoplain_SameBlocks.l0 k l l (l.length : Int) (i : Int)) true
  | 0, i, hd, hi => by
    refine Ev.step (f := fun _ => some true) (fun k => ?_) (Ev.now _)
    simp only [provisoplain_SameBlocks.l0]
    rw [if_neg (by omega)]
  | d + 1, i, hd, hi => by
    have h1 : i < l.length := by omega
    have ih := sameB_go l hl hx d (i + 1) (by omega) (by omega)
    refine Ev.step (f := fun k => (slices_Equal_int_int.f k (rd_T35 l (i : Int)).f2 (rd_T35 l (i : Int)).f2).bind fun t => if t = true then provisoplain_SameBlocks.l0 k l l (l.length : Int) ((i + 1 : Nat) : Int) else some false) (fun k => ?_) (Ev.bind (ints_ev _ (hx _ (rdB_mem h1))) ?_)
    · simp only [provisoplain_SameBlocks.l0]
      rw [if_pos (by omega), if_pos (by omega), if_pos (by omega), if_pos (by omega), if_pos True.intro, if_pos True.intro, wrap_one h1 hl]
    · simp only [if_true]
      exact ih
theorem sameB_ev (l : List S35) (hl : l.length ≤ 9223372036854775807) (hx : ∀ x ∈ l, x.f2.length ≤ 9223372036854775807) : Ev (fun k => provisoplain_SameBlocks.f k l l) true := by
  refine Ev.congr (fun k => ?_) (sameB_go l hl hx l.length 0 (by omega) (by omega))
  unfold provisoplain_SameBlocks.f
  rw [if_pos rfl]
  rfl
theorem blkL_f2 (l : List S46) : ∀ x ∈ blkL l, x.f2.length ≤ 2 := by
  have h : ∀ (d i fr : Nat), ∀ x ∈ blocksL l fr i d, x.f2.length ≤ 2 := by
    intro d
    induction d with
    | zero => intro i fr x hx; simp [blocksL] at hx
    | succ d ih =>
      intro i fr x hx
      unfold blocksL at hx
      split at hx
      · exact ih _ _ x hx
      · rcases List.mem_cons.1 hx with rfl | hx
        · exact Nat.le_trans (List.length_filter_le _ _) (nextL_len _)
        · exact ih _ _ x hx
  intro x hx
  unfold blkL at hx
  split at hx
  · exact h _ _ _ x hx
  · cases hx
end Go.Proofs.Ytcffniaieegbgaa.Pure

end

section
namespace Go.Proofs.Ytcffniaieegbgaa.Pure
open Go.RowKit Go.Proofs.Ytcffniaieegbgaa.P Go.Proofs.YtcffniaieegbgaaW.PrintWords
set_option linter.unusedSimpArgs false
set_option linter.unusedVariables false
theorem blocks_all (ls : List S46) : ∀ (d i fr : Nat), i + d = ls.length → fr ≤ i → (∀ q, fr ≤ q → q < i → goesOn ls q = true) → ∀ x ∈ blocksL ls fr i d, ∃ f e, x = blkOf ls f e ∧ fr ≤ f ∧ f ≤ e ∧ i ≤ e ∧ e < ls.length ∧ goesOn ls e = false ∧ (∀ q, f ≤ q → q < e → goesOn ls q = true) ∧ (f = fr ∨ i < f)
  | 0, i, fr, hd, hf, hg, x, hx => by simp [blocksL] at hx
  | d + 1, i, fr, hd, hf, hg, x, hx => by
    rw [blocksL] at hx
    by_cases hgi : goesOn ls i = true
    · rw [if_pos hgi] at hx
      obtain ⟨f, e, h1, h2, h3, h4, h5, h6, h7, h8⟩ := blocks_all ls d (i + 1) fr (by omega) (by omega) (fun q h1 h2 => by
        by_cases e : q = i
        · rw [e]; exact hgi
        · exact hg q h1 (by omega)) x hx
      exact ⟨f, e, h1, h2, h3, by omega, h5, h6, h7, by omega⟩
    · rw [if_neg hgi] at hx
      rcases List.mem_cons.1 hx with rfl | hx
      · exact ⟨fr, i, rfl, Nat.le_refl _, hf, Nat.le_refl _, by omega, by simpa using hgi, hg, .inl rfl⟩
      · obtain ⟨f, e, h1, h2, h3, h4, h5, h6, h7, h8⟩ := blocks_all ls d (i + 1) (i + 1) (by omega) (Nat.le_refl _) (fun q h1 h2 => by omega) x hx
        exact ⟨f, e, h1, by omega, h3, by omega, h5, h6, h7, by omega⟩
theorem seq_rise {l : List Int} {ls : List S46} {n : Nat} (h : Seq l ls n) : ∀ i j : Nat, i < j → j < ls.length → (atD ls i).f0 < (atD ls j).f0 := fun i j hij hj => by
  have := h.lt (j - i - 1) i (by omega)
  rw [show i + (j - i - 1) + 1 = j by omega] at this
  exact this
end Go.Proofs.Ytcffniaieegbgaa.Pure

end

section
namespace Go.Proofs.Ytcffniaieegbgaa.Pure
open Go.RowKit Go.Proofs.Ytcffniaieegbgaa.P Go.Proofs.YtcffniaieegbgaaW.PrintWords
set_option linter.unusedSimpArgs false
set_option linter.unusedVariables false
theorem targets_ev (l : List S46) (hl : l.length ≤ 8796093022208) : ∀ (d i : Nat) (acc : List Int), l.length - i = d → i ≤ l.length → acc.length + d + 3 ≤ 17592186044416 → Ev (fun k => provisoref05_Targets.l0 k acc l (l.length : Int) (i : Int)) ((tgts (l.drop i)).foldl (fun acc n => ins n acc) acc)
  | 0, i, acc, hd, hi, ha => by
    obtain rfl : i = l.length := by omega
    refine Ev.step (f := fun _ => some acc) (fun k => ?_) (by rw [List.drop_length]; exact Ev.now _)
    simp only [provisoref05_Targets.l0]
    rw [if_neg (by omega)]
  | d + 1, i, acc, hd, hi, ha => by
    have h1 : i < l.length := by omega
    rw [drop_atI h1]
    have hc : tgts (rd_T46 l (i : Int) :: l.drop (i + 1)) = (if jumpsB (rd_T46 l (i : Int)).f1 = true then [(rd_T46 l (i : Int)).f2] else []) ++ tgts (l.drop (i + 1)) := by
      unfold tgts
      rw [List.filter_cons]
      cases jumpsB (rd_T46 l (i : Int)).f1 <;> simp
    rw [hc]
    cases hj : jumpsB (rd_T46 l (i : Int)).f1 with
    | true =>
      rw [if_pos rfl, List.singleton_append, List.foldl_cons]
      have hin := ins_len (rd_T46 l (i : Int)).f2 acc
      have ih := targets_ev l hl d (i + 1) (ins (rd_T46 l (i : Int)).f2 acc) (by omega) (by omega) (by omega)
      refine Ev.step (f := fun k => (provisoref05_put.f k acc (rd_T46 l (i : Int)).f2).bind (fun t => provisoref05_Targets.l0 k t l (l.length : Int) ((i + 1 : Nat) : Int))) (fun k => ?_) (Ev.bind (put_ev _ acc (by omega)) ih)
      simp only [provisoref05_Targets.l0]
      rw [if_pos (by omega), if_pos (by omega), if_pos (by omega), rjumps_is, hj, wrap_one h1 (by omega)]
      simp only [Option.bind_some, if_true]
    | false =>
      rw [if_neg (by decide), List.nil_append]
      have ih := targets_ev l hl d (i + 1) acc (by omega) (by omega) (by omega)
      refine Ev.step (fun k => ?_) ih
      simp only [provisoref05_Targets.l0]
      rw [if_pos (by omega), if_pos (by omega), if_pos (by omega), rjumps_is, hj, wrap_one h1 (by omega)]
      simp only [Option.bind_some, Bool.false_eq_true, if_false]
theorem srt_len : ∀ (l acc : List Int), (l.foldl (fun acc n => ins n acc) acc).length ≤ l.length + acc.length
  | [], acc => by simp
  | x :: r, acc => by
    have h := srt_len r (ins x acc)
    have h2 := ins_len x acc
    simp only [List.foldl_cons, List.length_cons]
    omega
theorem rise_of {l : List S46} (h : ∀ i j : Nat, i < j → j < l.length → (atD l i).f0 < (atD l j).f0) : ∀ n, n ≤ l.length → riseTo l n = true
  | 0, _ => rfl
  | n + 1, hn => by
    rw [riseTo, rise_of h n (by omega), Bool.true_and]
    cases n with
    | zero => rfl
    | succ n =>
      have := h n (n + 1) (by omega) (by omega)
      rw [rdN, rdN, show n + 1 - 1 = n by omega, decide_eq_false (show ¬ (atD l (n + 1)).f0 ≤ (atD l n).f0 by omega)]
      simp
theorem own_order (ls : List S46) (l : List Int) (hs : Seq l ls l.length) (h4096 : l.length ≤ 4096) : ∃ od, Ev (fun k => flow_Order.f k (blkL ls)) od ∧ od.length ≤ 17592186044336 := by
  have hlen := hs.le.1
  by_cases h0 : ls.length = 0
  · obtain rfl : ls = [] := List.eq_nil_of_length_eq_zero h0
    exact ⟨[], order_nil.1, by simp⟩
  · have hrise : riseTo ls ls.length = true := rise_of (seq_rise hs) _ (Nat.le_refl _)
    have hbk : blkL ls = blocksL ls 0 0 ls.length := by unfold blkL; rw [if_pos hrise]
    have hf2 := blkL_f2 ls
    have hbl := blkL_len ls
    rw [hbk] at hf2 hbl ⊢
    have hI : ∀ x ∈ ls, 0 ≤ x.f0 ∧ x.f0 ≤ 4096 ∧ I64 x.f2 := fun x hx => by
      obtain ⟨g1, g2, g3, g4⟩ := hs.all x hx
      have := szOf_range x.f1
      exact ⟨g1, by omega, g4⟩
    have hpos : 0 < (blocksL ls 0 0 ls.length).length := by
      obtain ⟨e, _, _, _, _, h5⟩ := blocks_head ls 0 (ls.length - 1) 0 (by omega)
      rw [show ls.length - 1 + 1 = ls.length by omega] at h5
      rw [h5]; simp
    have hbo : bsOk (blocksL ls 0 0 ls.length) = true := List.all_eq_true.2 fun x hx => by
      obtain ⟨f, e, rfl, _, _, _, he, _⟩ := blocks_all ls ls.length 0 0 (by omega) (Nat.le_refl _) (fun q h1 h2 => by omega) x hx
      have hfr := hI _ (getD_mem (show f < ls.length by omega))
      have hfe := hI _ (getD_mem he)
      rw [Bool.and_eq_true]
      unfold blkOf
      rw [rdN, rdN]
      have hi64 : ∀ y : Int, I64 y → i64B y = true := fun y hy => by unfold i64B; rw [decide_eq_true hy.1, decide_eq_true hy.2]; rfl
      refine ⟨hi64 _ ⟨by have := hfr.1; show _ ≤ (atD ls f).f0; show _ ≤ (ls.getD f z46).f0; omega, by have := hfr.2.1; show (ls.getD f z46).f0 ≤ _; omega⟩, List.all_eq_true.2 fun y hy => ?_⟩
      have hy2 := (List.mem_filter.1 hy).1
      exact hi64 _ (nextL_ok (show I64 (atD ls e).f2 from hfe.2.2) y hy2)
    generalize hbs : blocksL ls 0 0 ls.length = bs at hf2 hbl hpos hbo ⊢
    obtain ⟨met, d, h3, _, _, h1, _⟩ := order_ev bs (by omega) (fun x hx => by have := hf2 x hx; omega) hbo hpos
    have hcnt := h3.cnt
    have hrl := restL_len (gOf met) bs.length
    have hcf : (List.replicate bs.length false).count false = bs.length := by simp
    rw [hcf] at hcnt
    simp only [List.length_map, List.length_nil] at hcnt
    exact ⟨_, h1, by simp; omega⟩
theorem FlowOwn : provisolaw05_FlowOwn.Pure := by
  intro l x0 x1 x2 x3 ⟨_, hl, hok⟩ ha hb hc hd
  obtain ⟨ls, a, e, e1, ⟨K0, e2⟩, hr⟩ := scan_ev l (bytes_of hok)
  obtain ⟨K1, n1⟩ := next_ev (⟨x0, x1, x2, x3⟩ : S46)
  have hnl := nextL_len (⟨x0, x1, x2, x3⟩ : S46)
  have hn2 : flow_Next.f x0 x1 x2 x3 = some (nextL ⟨x0, x1, x2, x3⟩) := by unfold flow_Next.f; rw [if_pos (i64_okB hc)]
  rcases hr with ⟨rfl, rfl, h4096, hs⟩ | ⟨h1, rfl⟩
  · have hlen := hs.le.1
    obtain ⟨ho1, ho2⟩ := hs.ok h4096
    have e1 : Ev (fun k => provisoref05_Targets.f k ls) (srt (tgts ls)) := by
      have h := targets_ev ls (by omega) ls.length 0 [] (by omega) (by omega) (by simp; omega)
      rw [List.drop_zero] at h
      exact h
    have l1 : (srt (tgts ls)).length ≤ ls.length := by
      have h := srt_len (tgts ls) []
      have h2 : (tgts ls).length ≤ ls.length := by unfold tgts; rw [List.length_map]; exact List.length_filter_le _ _
      unfold srt
      simp at h
      omega
    have l2 : (srt (bhds ls)).length ≤ ls.length := by
      have h := srt_len (bhds ls) []
      have h2 : (bhds ls).length ≤ ls.length := by unfold bhds; rw [List.length_map]; exact List.length_filter_le _ _
      unfold srt
      simp at h
      omega
    obtain ⟨r, ⟨K2, h2⟩, ⟨K3, h3⟩, _, _, hr⟩ := reach_same ls (by omega) 0 ho1 ho2 (by decide)
    obtain ⟨K4, h4⟩ := pblocks_ev ls (by omega) ho1 ho2
    obtain ⟨K5, h5⟩ := rblocks_ev ls (by omega)
    obtain ⟨od, ⟨K6, h6⟩, hol⟩ := own_order ls l hs h4096
    obtain ⟨K7, h7⟩ := ints_ev r (by omega)
    obtain ⟨K8, h8⟩ := e1
    obtain ⟨K9, h9⟩ := ints_ev (srt (tgts ls)) (by omega)
    have hbl := blkL_len ls
    obtain ⟨K10, h10⟩ := sameB_ev (blkL ls) (by omega) (fun x hx => by have := blkL_f2 ls x hx; omega)
    have ht : flow_Targets.f ls = some (srt (tgts ls)) := by unfold flow_Targets.f; rw [if_pos (by omega), if_pos ho1]
    have hb2 : flow_Behind.f ls = some (srt (bhds ls)) := by unfold flow_Behind.f; rw [if_pos (by omega)]
    refine ⟨K0 + K2 + K3 + K4 + K5 + K6 + K7 + K8 + K9 + K10, ls, 0, 0, e2 _ (by omega), .inr ⟨rfl, nextL ⟨x0, x1, x2, x3⟩, srt (tgts ls), srt (bhds ls), r, blkL ls, blkL ls, od, hn2, by omega, ht, by omega, hb2, by omega, h2 _ (by omega), by omega, h4 _ (by omega), fun x hx => by have := blkL_f2 ls x hx; omega, by omega, h5 _ (by omega), h6 _ (by omega), hol, h3 _ (by omega), h7 _ (by omega), h8 _ (by omega), h9 _ (by omega), h10 _ (by omega)⟩⟩
  · obtain ⟨K2, h2⟩ := ints_ev (nextL (⟨x0, x1, x2, x3⟩ : S46)) (by omega)
    exact ⟨K0 + K1 + K2, [], a, e, e2 _ (by omega), .inl ⟨h1, nextL ⟨x0, x1, x2, x3⟩, hn2, n1 _ (by omega), h2 _ (by omega)⟩⟩
end Go.Proofs.Ytcffniaieegbgaa.Pure

end

section
namespace Go.Proofs.Ytcffniaieegbgaa.flowOwn
open Go.ChangeShapes Go.WideShapes Go.ChangeAt Go.RowKit Go.Proofs.YtcffniaieegbgaaW.PrintWords Go.Proofs.Ytcffniaieegbgaa.Sees Go.Proofs.Ytcffniaieegbgaa.P
open Go.ChangeMaps (open_string shut_string)
set_option linter.unusedVariables false
set_option linter.unusedSimpArgs false
theorem own : ownKnob Try.prog.godebug = none := by kernel_rfl
theorem laidOut : laidOutB Try.prog = true := by kernel_rfl
set_option maxRecDepth 100000 in
theorem lifted (os : Os) (started : os.Started) (H : Type) (enc : TypeId × Value → H) :
    ReturnsInHanded {} Try.checked os 12 .any (Rows.flowOwnSpec.pre6 enc Try.prog Try.f12 Rows.flowOwnRow.domain false) (Rows.flowOwnSpec.post enc Try.prog Try.f12 false true false false) := by
  refine returnsInHanded_of_change_sized (C := Try.checked) own started (by kernel_rfl) Try.func12
    (ChangeSpec.witness6 (enc := enc) (C := Try.checked) false ⟨#[], #[.slice none 0 0, .agg #[.int .i64 0, .int .u8 0, .int .i64 0, .int .i64 0]], []⟩ 8 (by kernel_rfl) (by kernel_rfl) (by kernel_rfl) (by kernel_rfl)) ?_
  intro W base args ds gs before hval0 hW hcnd hsz0 _
  have hsz : (DataW.weightsEach Try.prog (Try.f12.params.toList ++ Rows.flowOwnSpec.plain.varTypes Try.prog) (ds ++ gs)).all (· ≤ reachBytes) = true := hsz0
  have hval : ∀ (j : Nat) t v, Try.f12.params[j]? = some t → args[j]? = some v → Value.okWide Try.prog W .any base t v := hval0
  have hW' := hW
  obtain ⟨p, q, hA0, hV, rfl, hfz, hnd⟩ := hW
  have hA : DataW.TrodAll enc Try.prog W 0 (fun _ => true) true Try.f12.params.toList args.toList ds p := hA0
  rw [Try.params12] at hA hval hsz
  obtain ⟨v0, vs0, d0, ds0, p0, q0, hargs, rfl, rfl, h0, r0⟩ := trodAll_cons hA
  obtain ⟨v1, vs1, d1, ds1, p1, q1, rfl, rfl, rfl, h1, r1⟩ := trodAll_cons r0
  obtain ⟨rfl, rfl, rfl⟩ := trodAll_nil r1
  obtain rfl : args = #[v0, v1] := by cases args; simp_all
  obtain ⟨rfl, rfl⟩ := trodVars_none hV
  have k0 := h0
  have lt0 : ∀ x ∈ p0, x.block < W.heap.size := by obtain ⟨m, hm⟩ := k0; exact DataW.trod_lt m _ _ _ hm
  obtain ⟨y0, hy0, oy0⟩ := see_arg (j := 0) (t := 22) (sees_slice (B := 1) Try.underlying22 (by kernel_rfl) (by kernel_rfl) (sees_int Try.underlying5)) hsz rfl rfl h0
  obtain ⟨a0, len0, cap0, rfl⟩ := okWide_slice Try.underlying22 (hval 0 22 v0 rfl rfl)
  obtain ⟨rfl, hc0, hr0⟩ := see_slice rfl hy0
  have k1 := h1
  have lt1 : ∀ x ∈ p1, x.block < W.heap.size := by obtain ⟨m, hm⟩ := k1; exact DataW.trod_lt m _ _ _ hm
  obtain ⟨y1, hy1, oy1⟩ := see_arg (j := 1) (t := 46) (sees_struct (fun y => y) (fun y => y) (fun _ => rfl) Try.underlying46 (by kernel_rfl) (sees_more rfl (by kernel_rfl) (sees_int Try.underlying3) (sees_more rfl (by kernel_rfl) (sees_int Try.underlying5) (sees_more rfl (by kernel_rfl) (sees_int Try.underlying3) (sees_last rfl (by kernel_rfl) (sees_int Try.underlying3)))))) hsz rfl rfl h1
  obtain ⟨cs1, rfl, hcs1⟩ := okWide_struct Try.underlying46 (hval 1 46 v1 rfl rfl)
  obtain ⟨_, _, e1, rfl, ⟨_, _, rfl, rfl, ⟨_, _, rfl, rfl, rfl⟩⟩⟩ := hy1
  obtain rfl : cs1 = #[.int .i64 (y1.1), .int .u8 (y1.2.1), .int .i64 (y1.2.2.1), .int .i64 (y1.2.2.2)] := by have e_ := congrArg List.toArray e1; simpa [Value.cells] using e_
  clear hA0 hval0 hsz0 hsz
  have hk := Pure.FlowOwn y0 y1.1 y1.2.1 y1.2.2.1 y1.2.2.2 oy0 oy1.1 oy1.2.1 oy1.2.2.1 oy1.2.2.2
  refine (provisolaw05_FlowOwn.calls _ _ y0 (y1.1) (y1.2.1) (y1.2.2.1) (y1.2.2.2) W hr0 hc0 hk).mono ?_
  rintro e W' ⟨rfl, bel0⟩
  have bel : Below W.heap.size W W' := bel0
  exact ⟨_, rfl, _, _, _, [], _, [], hW', trodAll_mk1 (shut_bool Try.underlying4 _), (trodAll_cons_mk (Below.trod laidOut (by kernel_rfl) (of_decide_eq_true (by kernel_rfl)) k0 bel lt0) (trodAll_cons_mk (Below.trod laidOut (by kernel_rfl) (of_decide_eq_true (by kernel_rfl)) k1 bel lt1) trodAll_mk0)), rfl, bel.frame _, fun h => by cases h⟩
theorem over : Rows.flowOwnRow.holds Try.pinned (OpenSpec.ofChange Rows.flowOwnSpec) :=
  OpenClaim.holds_of_wide 12 Try.f12 rfl rfl rfl rfl rfl rfl rfl ⟨rfl, rfl, rfl, rfl, rfl⟩ rfl rfl rfl rfl rfl (by kernel_rfl) Try.func12 (by kernel_rfl)
    (of_decide_eq_true (by kernel_rfl)) (by unfold Func.isWrapper; first | (rw [if_pos (by decide +kernel)]; kernel_rfl) | (rw [if_neg (by decide +kernel)]; exact ⟨rfl, rfl⟩))
    (fun os started H enc _ => lifted os started H enc)
theorem proved : Rows.FlowOwnSaid := over
end Go.Proofs.Ytcffniaieegbgaa.flowOwn
namespace Go.Proofs.Ytcffniaieegbgaa
theorem flowOwn_holds : Rows.FlowOwnSaid := flowOwn.proved
end Go.Proofs.Ytcffniaieegbgaa

end

