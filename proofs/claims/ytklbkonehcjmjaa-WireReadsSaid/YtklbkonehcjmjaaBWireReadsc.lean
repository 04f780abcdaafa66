/- Proved: the law WireReads holds for every input that the row lets in. No condition of ours. -/
import Derived.Test.YtklbkonehcjmjaaBWireReadsb
import Derived.Test.YtklbkonehcjmjaaProg
import Derived.WalkSpells
import Derived.ChangeKeysEq
import Derived.Deep.MidRow
section
namespace Go.Proofs.Ytklbkonehcjmjaa.P
open Go.RowKit Go.Proofs.YtklbkonehcjmjaaW.PrintWords Go.Proofs.YtklbkonehcjmjaaW.PrintLast Go.Proofs.YtklbkonehcjmjaaW.PrintMore
attribute [local go_sem] max2_int min2_int max_two min_two max_three min_three max_four min_four   -- for this text's walks alone
set_option linter.unusedVariables false
set_option linter.unusedSimpArgs false



def errW : Option Int → Value
  | none => .nilIface
  | some c => .iface 0 (.int .i64 c)
theorem errW_none : errW none = .nilIface := rfl
theorem errW_some (c : Int) : errW (some c) = .iface 0 (.int .i64 c) := rfl

theorem info5 : (Try.prog.info? 5).map (fun i => (i.zero, i.size, i.bytes)) = some (some (.int .u8 0), 1, 1) := by kernel_rfl
structure S68 where
  f0 : Int
  f1 : Int
  f2 : Int
def z68 : S68 := ⟨(0 : Int), (0 : Int), (0 : Int)⟩
def k68 : Kd S68 := Kd.iso (Kd.pair (Kd.int .i64) (Kd.pair (Kd.int .i64) (Kd.int .i64))) (fun x : S68 => (x.f0, x.f1, x.f2))
theorem k68_open {w : World} {x : S68} {cs : List Value} (h : k68.K w x cs) : cs = [.int .i64 x.f0, .int .i64 x.f1, .int .i64 x.f2] := by
  obtain ⟨_, _, rfl, rfl, ⟨_, _, rfl, rfl, rfl⟩⟩ := h
  exact rfl
def rd_T68 (xs : List S68) (i : Int) : S68 := xs.getD i.toNat z68
theorem at_T68 {w : World} {A : Option Addr} {n : Nat} {xs : List S68} (h : Kd.C k68 w A n xs) (i : Int) (h0 : 0 ≤ i) (h1 : i < n) : ∃ ad , A = some ad ∧ w.cell? (ad.add (i.toNat * 3)) = some (.int .i64 (rd_T68 xs i).f0) ∧ w.cell? ⟨(ad.add (i.toNat * 3)).block, (ad.add (i.toNat * 3)).off + 1, none⟩ = some (.int .i64 (rd_T68 xs i).f1) ∧ w.cell? ⟨(ad.add (i.toNat * 3)).block, (ad.add (i.toNat * 3)).off + 2, none⟩ = some (.int .i64 (rd_T68 xs i).f2) := by
  obtain ⟨ad, c, e, _, hK, hc0⟩ := Kd.C_get h z68 i h0 h1
  have hc : ∀ j u, c[j]? = some u → w.cell? (ad.add (i.toNat * 3 + j)) = some u := hc0
  obtain rfl := k68_open hK
  exact ⟨ad, e, hc 0 _ rfl, by rw [← add_field _ _ 1 (by omega)]; exact hc 1 _ rfl, by rw [← add_field _ _ 2 (by omega)]; exact hc 2 _ rfl⟩

end Go.Proofs.Ytklbkonehcjmjaa.P

end

section
namespace Go.Proofs.Ytklbkonehcjmjaa.P
open Go.RowKit Go.Proofs.YtklbkonehcjmjaaW.PrintWords Go.Proofs.Ytklbkonehcjmjaa.Sees

def Ok68 (x : S68) : Prop := (fun n : Int => (Lit.int .i64 n).wf = true) x.f0 ∧ (fun n : Int => (Lit.int .i64 n).wf = true) x.f1 ∧ (fun n : Int => (Lit.int .i64 n).wf = true) x.f2
theorem sees68 : Sees Try.prog 68 k68 Ok68 := sees_struct (fun x : S68 => (x.f0, x.f1, x.f2)) (fun y => ⟨y.1, y.2.1, y.2.2⟩) (fun _ => rfl) Try.underlying68 (by kernel_rfl) (sees_more rfl (by kernel_rfl) (sees_int Try.underlying3) (sees_more rfl (by kernel_rfl) (sees_int Try.underlying3) (sees_last rfl (by kernel_rfl) (sees_int Try.underlying3))))
end Go.Proofs.Ytklbkonehcjmjaa.P

end

section
namespace Go.Proofs.Ytklbkonehcjmjaa.P
open Go.RowKit Go.Proofs.YtklbkonehcjmjaaW.PrintWords Go.Proofs.YtklbkonehcjmjaaW.PrintLast Go.Proofs.YtklbkonehcjmjaaW.PrintMore
attribute [local go_sem] max2_int min2_int max_two min_two max_three min_three max_four min_four   -- for this text's walks alone
set_option linter.unusedVariables false
set_option linter.unusedSimpArgs false

mutual
def wire_IsName.j0 : Nat → ByteArray → Bool → Option (Bool)
  | 0, _, _ => none
  | k + 1, x0, x12 => if x12 = true then (some false) else (wire_IsName.l0 k x0 (x0.size : Int) 0)
def wire_IsName.l0 : Nat → ByteArray → Int → Int → Option (Bool)
  | 0, _, _, _ => none
  | k + 1, x0, x14, x15 => if x15 < x14 then (if 0 ≤ x15 then (if x15 < (x0.size : Int) then (if (bt x0 x15) ≥ 97 then (wire_IsName.j2 k x0 x15 (bt x0 x15) x14 x15 (decide ((bt x0 x15) ≤ 122))) else (wire_IsName.j2 k x0 x15 (bt x0 x15) x14 x15 false)) else (none)) else (none)) else (some true)
def wire_IsName.j2 : Nat → ByteArray → Int → Int → Int → Int → Bool → Option (Bool)
  | 0, _, _, _, _, _, _ => none
  | k + 1, x0, x3, x4, x14, x15, x21 => if x21 = true then (wire_IsName.j3 k x0 x3 x4 x14 x15 x21) else (if x4 ≥ 65 then (wire_IsName.j3 k x0 x3 x4 x14 x15 (decide (x4 ≤ 90))) else (wire_IsName.j3 k x0 x3 x4 x14 x15 false))
def wire_IsName.j3 : Nat → ByteArray → Int → Int → Int → Int → Bool → Option (Bool)
  | 0, _, _, _, _, _, _ => none
  | k + 1, x0, x3, x4, x14, x15, x21 => if x21 = true then (wire_IsName.l0 k x0 x14 (wrap64 (x15 + 1))) else (if x3 > 0 then (if x4 ≥ 48 then (if x4 ≤ 57 then (wire_IsName.l0 k x0 x14 (wrap64 (x15 + 1))) else (if x4 = 95 then (wire_IsName.l0 k x0 x14 (wrap64 (x15 + 1))) else (some false))) else (if x4 = 95 then (wire_IsName.l0 k x0 x14 (wrap64 (x15 + 1))) else (some false))) else (some false))
end
def wire_IsName.f (k : Nat) (a0 : ByteArray) : Option (Bool) := if (a0.size : Int) = 0 then (wire_IsName.j0 k a0 true) else (wire_IsName.j0 k a0 (decide ((a0.size : Int) > 24)))
theorem wire_IsName.mono_l : ∀ k, (∀ y0 y1, LeO (wire_IsName.j0 k y0 y1) (wire_IsName.j0 (k + 1) y0 y1)) ∧ (∀ y0 y1 y2, LeO (wire_IsName.l0 k y0 y1 y2) (wire_IsName.l0 (k + 1) y0 y1 y2)) ∧ (∀ y0 y1 y2 y3 y4 y5, LeO (wire_IsName.j2 k y0 y1 y2 y3 y4 y5) (wire_IsName.j2 (k + 1) y0 y1 y2 y3 y4 y5)) ∧ (∀ y0 y1 y2 y3 y4 y5, LeO (wire_IsName.j3 k y0 y1 y2 y3 y4 y5) (wire_IsName.j3 (k + 1) y0 y1 y2 y3 y4 y5))
  | 0 => ⟨fun _ _ r h => by simp [wire_IsName.j0] at h, fun _ _ _ r h => by simp [wire_IsName.l0] at h, fun _ _ _ _ _ _ r h => by simp [wire_IsName.j2] at h, fun _ _ _ _ _ _ r h => by simp [wire_IsName.j3] at h⟩
  | k + 1 => by
    obtain ⟨ih0, ih1, ih2, ih3⟩ := wire_IsName.mono_l k
    refine ⟨?_, ?_, ?_, ?_⟩
    · intro y0 y1
      unfold wire_IsName.j0
      repeat' first
      | (with_reducible exact ih0 _ _)
      | (with_reducible exact ih1 _ _ _)
      | (with_reducible exact ih2 _ _ _ _ _ _)
      | (with_reducible exact ih3 _ _ _ _ _ _)
      | (with_reducible exact LeO.refl _)
      | (with_reducible exact LeO.none _)
      | (with_reducible refine LeO.ite ?_ ?_)
      | (with_reducible refine LeO.bind ?_ (fun _ => ?_))
      | exact ih0 _ _
      | exact ih1 _ _ _
      | exact ih2 _ _ _ _ _ _
      | exact ih3 _ _ _ _ _ _
      | exact LeO.none _
      | refine LeO.ite ?_ ?_
      | refine LeO.bind ?_ (fun _ => ?_)
    · intro y0 y1 y2
      unfold wire_IsName.l0
      repeat' first
      | (with_reducible exact ih0 _ _)
      | (with_reducible exact ih1 _ _ _)
      | (with_reducible exact ih2 _ _ _ _ _ _)
      | (with_reducible exact ih3 _ _ _ _ _ _)
      | (with_reducible exact LeO.refl _)
      | (with_reducible exact LeO.none _)
      | (with_reducible refine LeO.ite ?_ ?_)
      | (with_reducible refine LeO.bind ?_ (fun _ => ?_))
      | exact ih0 _ _
      | exact ih1 _ _ _
      | exact ih2 _ _ _ _ _ _
      | exact ih3 _ _ _ _ _ _
      | exact LeO.none _
      | refine LeO.ite ?_ ?_
      | refine LeO.bind ?_ (fun _ => ?_)
    · intro y0 y1 y2 y3 y4 y5
      unfold wire_IsName.j2
      repeat' first
      | (with_reducible exact ih0 _ _)
      | (with_reducible exact ih1 _ _ _)
      | (with_reducible exact ih2 _ _ _ _ _ _)
      | (with_reducible exact ih3 _ _ _ _ _ _)
      | (with_reducible exact LeO.refl _)
      | (with_reducible exact LeO.none _)
      | (with_reducible refine LeO.ite ?_ ?_)
      | (with_reducible refine LeO.bind ?_ (fun _ => ?_))
      | exact ih0 _ _
      | exact ih1 _ _ _
      | exact ih2 _ _ _ _ _ _
      | exact ih3 _ _ _ _ _ _
      | exact LeO.none _
      | refine LeO.ite ?_ ?_
      | refine LeO.bind ?_ (fun _ => ?_)
    · intro y0 y1 y2 y3 y4 y5
      unfold wire_IsName.j3
      repeat' first
      | (with_reducible exact ih0 _ _)
      | (with_reducible exact ih1 _ _ _)
      | (with_reducible exact ih2 _ _ _ _ _ _)
      | (with_reducible exact ih3 _ _ _ _ _ _)
      | (with_reducible exact LeO.refl _)
      | (with_reducible exact LeO.none _)
      | (with_reducible refine LeO.ite ?_ ?_)
      | (with_reducible refine LeO.bind ?_ (fun _ => ?_))
      | exact ih0 _ _
      | exact ih1 _ _ _
      | exact ih2 _ _ _ _ _ _
      | exact ih3 _ _ _ _ _ _
      | exact LeO.none _
      | refine LeO.ite ?_ ?_
      | refine LeO.bind ?_ (fun _ => ?_)
theorem wire_IsName.mono : ∀ a0 k, LeO (wire_IsName.f k a0) (wire_IsName.f (k + 1) a0) := by
  intro a0 k
  obtain ⟨ih0, ih1, ih2, ih3⟩ := wire_IsName.mono_l k
  unfold wire_IsName.f
  repeat' first
      | (with_reducible exact ih0 _ _)
      | (with_reducible exact ih1 _ _ _)
      | (with_reducible exact ih2 _ _ _ _ _ _)
      | (with_reducible exact ih3 _ _ _ _ _ _)
      | (with_reducible exact LeO.refl _)
      | (with_reducible exact LeO.none _)
      | (with_reducible refine LeO.ite ?_ ?_)
      | (with_reducible refine LeO.bind ?_ (fun _ => ?_))
      | exact ih0 _ _
      | exact ih1 _ _ _
      | exact ih2 _ _ _ _ _ _
      | exact ih3 _ _ _ _ _ _
      | exact LeO.none _
      | refine LeO.ite ?_ ?_
      | refine LeO.bind ?_ (fun _ => ?_)
set_option maxHeartbeats 8000000 in
set_option maxRecDepth 100000 in
theorem wire_IsName.calls (k : Nat) (a0 : ByteArray) (r : Bool) (w : World) (h : wire_IsName.f k a0 = some r) :
    Calls Try.prog 11 #[.string a0] w fun e w' => e = .returned (.bool r) ∧ Drawn0 w w' := by
  have H : (if (a0.size : Int) = 0 then (wire_IsName.j0 k a0 true) else (wire_IsName.j0 k a0 (decide ((a0.size : Int) > 24)))) = some r := h
  clear h
  have HC2 := Aside0.mk H
  clear H
  go_enter Try.func11, Try.ntmps11
  go_upto_region 1 with (fail)
  go_cut [12] (fun v12 wc => ∃ (kq : Nat) (x12_1 : Bool), v12 = .bool x12_1 ∧ Aside0 (wire_IsName.j0 kq a0 x12_1 = some r) ∧ Aside0 (kq ≤ k) ∧ Drawn0 w wc)
  case first =>
    have H := HC2.out
    clear HC2
    by_cases c3 : (a0.size : Int) = 0
    · rw [if_pos c3] at H
      have c3b0 : ((a0.size : Int) == 0) = true := beq_iff_eq.mpr c3
      have c3b1 : ((a0.size : Int) != 0) = false := bne_eq_false_iff_eq.mpr c3
      clear c3
      (first | rw [c3b0] | (simp only [i64_w, i32_w]; rw [c3b0]) | skip)
      have H' := Aside0.mk H
      clear H
      go_wp2
      go_meet
      case rel => exact ⟨_, (true), (by first | rfl | (simp; done) | (simp [*]; done)), H', ⟨by first | omega | exact Nat.le_refl _⟩, by repeat (first | exact Drawn0.refl _ | apply Drawn0.step)⟩
    · rw [if_neg c3] at H
      have c3b0 : ((a0.size : Int) == 0) = false := beq_eq_false_iff_ne.mpr c3
      have c3b1 : ((a0.size : Int) != 0) = true := bne_iff_ne.mpr c3
      (first | rw [c3b0] | (simp only [i64_w, i32_w]; rw [c3b0]) | skip)
      have H' := Aside0.mk H
      clear H
      go_wp2
      go_meet
      case rel => exact ⟨_, (decide ((a0.size : Int) > 24)), (by first | rfl | (simp; done) | (simp [*]; done)), H', ⟨by first | omega | exact Nat.le_refl _⟩, by repeat (first | exact Drawn0.refl _ | apply Drawn0.step)⟩
  case rest =>
    clear HC2
    try clear c1
    try clear p2
    try clear c3
    try clear c3b0
    try clear c3b1
    obtain ⟨kq, x12_1, rfl, HA, HJ1, ⟨mc1, rfl⟩⟩ := hcut
    cases kq with
    | zero => exact absurd HA.out (by simp [wire_IsName.j0])
    | succ kj1 =>
      have H := HA.out
      clear HA
      simp only [wire_IsName.j0] at H
      by_cases c4 : x12_1 = true
      · subst c4
        have H1 : (some false) = some r := by rw [if_pos rfl] at H; exact H
        clear H
        have H := H1
        clear H1
        obtain rfl := Option.some.inj H
        go_wp2
        go_ret
        exact ⟨by first | rfl | (simp; done) | (simp [*]; done), by repeat (first | exact Drawn0.refl _ | apply Drawn0.step)⟩
      · replace c4 := Bool.eq_false_iff.mpr c4
        subst c4
        have H1 : (wire_IsName.l0 kj1 a0 (a0.size : Int) 0) = some r := by rw [if_neg (show ¬ (false = true) by decide)] at H; exact H
        clear H
        have H := H1
        clear H1
        have H' := Aside0.mk H
        clear H
        go_wp2
        go_loopg [15] kj1 (fun kq v15 w' => ∃ (x15_2 : Int), v15 = .int .i64 x15_2 ∧ Aside0 (wire_IsName.l0 kq a0 (a0.size : Int) x15_2 = some r) ∧ Aside0 (kq ≤ kj1) ∧ Drawn0 w w')
        case atStart => exact ⟨(0), (by first | rfl | (simp; done) | (simp [*]; done)), H', ⟨Nat.le_refl _⟩, by repeat (first | exact Drawn0.refl _ | apply Drawn0.step)⟩
        case round =>
          clear H'
          try clear c1
          try clear p2
          try clear c3
          try clear c3b0
          try clear c3b1
          try clear c4
          try clear p2
          obtain ⟨x15_2, rfl, HA, HK2, ⟨m2, rfl⟩⟩ := hrel
          cases gk with
          | zero => exact absurd HA.out (by simp [wire_IsName.l0])
          | succ k2 =>
            have H := HA.out
            clear HA
            simp only [wire_IsName.l0] at H
            by_cases c5 : x15_2 < (a0.size : Int)
            · rw [if_pos c5] at H
              have c5b0 : decide (x15_2 < (a0.size : Int)) = true := decide_eq_true c5
              clear c5
              by_cases c6 : 0 ≤ x15_2
              · rw [if_pos c6] at H
                have c6b0 : decide (0 ≤ x15_2) = true := decide_eq_true c6
                clear c6
                by_cases c7 : x15_2 < (a0.size : Int)
                · rw [if_pos c7] at H
                  have c7b0 : decide (x15_2 < (a0.size : Int)) = true := decide_eq_true c7
                  clear c7
                  have HC9 := Aside0.mk H
                  clear H
                  have p8 : 0 ≤ (x15_2 : Int) := of_decide_eq_true (by first | (with_reducible assumption) | assumption)
                  have q8 : x15_2 < (a0.size : Int) := of_decide_eq_true (by first | (with_reducible assumption) | assumption)
                  have hx8 := bt_at a0 x15_2
                  replace p8 := eq_true p8
                  replace q8 := eq_true q8
                  go_upto_region 8 with (fail)
                  go_cut [21] (fun v21 wc => ∃ (kq : Nat) (x21_8 : Bool), v21 = .bool x21_8 ∧ Aside0 (wire_IsName.j2 kq a0 x15_2 (bt a0 x15_2) (a0.size : Int) x15_2 x21_8 = some r) ∧ Aside0 (kq ≤ k2) ∧ Drawn0 w wc)
                  case first =>
                    have H := HC9.out
                    clear HC9
                    by_cases c10 : (bt a0 x15_2) ≥ 97
                    · rw [if_pos c10] at H
                      have c10b0 : decide (97 ≤ (bt a0 x15_2)) = true := decide_eq_true c10
                      clear c10
                      (first | rw [c10b0] | (simp only [i64_w, i32_w]; rw [c10b0]) | skip)
                      have H' := Aside0.mk H
                      clear H
                      go_wp2
                      go_meet
                      case rel => exact ⟨_, (decide ((bt a0 x15_2) ≤ 122)), (by first | rfl | (simp; done) | (simp [*]; done)), H', ⟨by have := HJ1.out; have := HK2.out; first | omega | exact Nat.le_refl _⟩, by repeat (first | exact Drawn0.refl _ | apply Drawn0.step)⟩
                    · rw [if_neg c10] at H
                      have c10b0 : decide (97 ≤ (bt a0 x15_2)) = false := decide_eq_false c10
                      clear c10
                      (first | rw [c10b0] | (simp only [i64_w, i32_w]; rw [c10b0]) | skip)
                      have H' := Aside0.mk H
                      clear H
                      go_wp2
                      go_meet
                      case rel => exact ⟨_, (false), (by first | rfl | (simp; done) | (simp [*]; done)), H', ⟨by have := HJ1.out; have := HK2.out; first | omega | exact Nat.le_refl _⟩, by repeat (first | exact Drawn0.refl _ | apply Drawn0.step)⟩
                  case rest =>
                    clear HC9
                    try clear c1
                    try clear p2
                    try clear c3
                    try clear c3b0
                    try clear c3b1
                    try clear c4
                    try clear c5
                    try clear c5b0
                    try clear c6
                    try clear c6b0
                    try clear c7
                    try clear c7b0
                    try clear p8
                    try clear q8
                    try clear hx8
                    try clear c10
                    try clear c10b0
                    try clear p2
                    try clear p8
                    try clear q8
                    obtain ⟨kq, x21_8, rfl, HA, HJ8, ⟨mc8, rfl⟩⟩ := hcut
                    cases kq with
                    | zero => exact absurd HA.out (by simp [wire_IsName.j2])
                    | succ kj8 =>
                      have H := HA.out
                      clear HA
                      simp only [wire_IsName.j2] at H
                      have HC11 := Aside0.mk H
                      clear H
                      go_upto_if 21 with (fail)
                      go_cut [21] (fun v21 wc => ∃ (kq : Nat) (x21_10 : Bool), v21 = .bool x21_10 ∧ Aside0 (wire_IsName.j3 kq a0 x15_2 (bt a0 x15_2) (a0.size : Int) x15_2 x21_10 = some r) ∧ Aside0 (kq ≤ kj8) ∧ Drawn0 w wc)
                      case first =>
                        have H := HC11.out
                        clear HC11
                        by_cases c12 : x21_8 = true
                        · subst c12
                          have H1 : (wire_IsName.j3 kj8 a0 x15_2 (bt a0 x15_2) (a0.size : Int) x15_2 true) = some r := by rw [if_pos rfl] at H; exact H
                          clear H
                          have H := H1
                          clear H1
                          have H' := Aside0.mk H
                          clear H
                          go_wp2
                          go_meet
                          case rel => exact ⟨_, (true), (by first | rfl | (simp; done) | (simp [*]; done)), H', ⟨by have := HJ1.out; have := HK2.out; have := HJ8.out; first | omega | exact Nat.le_refl _⟩, by repeat (first | exact Drawn0.refl _ | apply Drawn0.step)⟩
                        · replace c12 := Bool.eq_false_iff.mpr c12
                          subst c12
                          have H1 : (if (bt a0 x15_2) ≥ 65 then (wire_IsName.j3 kj8 a0 x15_2 (bt a0 x15_2) (a0.size : Int) x15_2 (decide ((bt a0 x15_2) ≤ 90))) else (wire_IsName.j3 kj8 a0 x15_2 (bt a0 x15_2) (a0.size : Int) x15_2 false)) = some r := by rw [if_neg (show ¬ (false = true) by decide)] at H; exact H
                          clear H
                          have H := H1
                          clear H1
                          by_cases c13 : (bt a0 x15_2) ≥ 65
                          · rw [if_pos c13] at H
                            have c13b0 : decide (65 ≤ (bt a0 x15_2)) = true := decide_eq_true c13
                            clear c13
                            (first | rw [c13b0] | (simp only [i64_w, i32_w]; rw [c13b0]) | skip)
                            have H' := Aside0.mk H
                            clear H
                            go_wp2
                            go_meet
                            case rel => exact ⟨_, (decide ((bt a0 x15_2) ≤ 90)), (by first | rfl | (simp; done) | (simp [*]; done)), H', ⟨by have := HJ1.out; have := HK2.out; have := HJ8.out; first | omega | exact Nat.le_refl _⟩, by repeat (first | exact Drawn0.refl _ | apply Drawn0.step)⟩
                          · rw [if_neg c13] at H
                            have c13b0 : decide (65 ≤ (bt a0 x15_2)) = false := decide_eq_false c13
                            clear c13
                            (first | rw [c13b0] | (simp only [i64_w, i32_w]; rw [c13b0]) | skip)
                            have H' := Aside0.mk H
                            clear H
                            go_wp2
                            go_meet
                            case rel => exact ⟨_, (false), (by first | rfl | (simp; done) | (simp [*]; done)), H', ⟨by have := HJ1.out; have := HK2.out; have := HJ8.out; first | omega | exact Nat.le_refl _⟩, by repeat (first | exact Drawn0.refl _ | apply Drawn0.step)⟩
                      case rest =>
                        clear HC11
                        try clear c1
                        try clear p2
                        try clear c3
                        try clear c3b0
                        try clear c3b1
                        try clear c4
                        try clear c5
                        try clear c5b0
                        try clear c6
                        try clear c6b0
                        try clear c7
                        try clear c7b0
                        try clear c8
                        try clear p8
                        try clear q8
                        try clear hx8
                        try clear c10
                        try clear c10b0
                        try clear c11
                        try clear c12
                        try clear c13
                        try clear c13b0
                        try clear p2
                        try clear p8
                        try clear q8
                        obtain ⟨kq, x21_10, rfl, HA, HJ10, ⟨mc10, rfl⟩⟩ := hcut
                        cases kq with
                        | zero => exact absurd HA.out (by simp [wire_IsName.j3])
                        | succ kj10 =>
                          have H := HA.out
                          clear HA
                          simp only [wire_IsName.j3] at H
                          by_cases c14 : x21_10 = true
                          · subst c14
                            have H1 : (wire_IsName.l0 kj10 a0 (a0.size : Int) (wrap64 (x15_2 + 1))) = some r := by rw [if_pos rfl] at H; exact H
                            clear H
                            have H := H1
                            clear H1
                            have H' := Aside0.mk H
                            clear H
                            go_wp2
                            go_roundg kj10
                            case measure => have := HJ1.out; have := HK2.out; have := HJ8.out; have := HJ10.out; omega
                            case rel => exact ⟨(wrap64 (x15_2 + 1)), (by first | rfl | (simp; done) | (simp [*]; done)), H', ⟨by have := HJ1.out; have := HK2.out; have := HJ8.out; have := HJ10.out; omega⟩, by repeat (first | exact Drawn0.refl _ | apply Drawn0.step)⟩
                          · replace c14 := Bool.eq_false_iff.mpr c14
                            subst c14
                            have H1 : (if x15_2 > 0 then (if (bt a0 x15_2) ≥ 48 then (if (bt a0 x15_2) ≤ 57 then (wire_IsName.l0 kj10 a0 (a0.size : Int) (wrap64 (x15_2 + 1))) else (if (bt a0 x15_2) = 95 then (wire_IsName.l0 kj10 a0 (a0.size : Int) (wrap64 (x15_2 + 1))) else (some false))) else (if (bt a0 x15_2) = 95 then (wire_IsName.l0 kj10 a0 (a0.size : Int) (wrap64 (x15_2 + 1))) else (some false))) else (some false)) = some r := by rw [if_neg (show ¬ (false = true) by decide)] at H; exact H
                            clear H
                            have H := H1
                            clear H1
                            by_cases c15 : x15_2 > 0
                            · rw [if_pos c15] at H
                              have c15b0 : decide (0 < x15_2) = true := decide_eq_true c15
                              clear c15
                              by_cases c16 : (bt a0 x15_2) ≥ 48
                              · rw [if_pos c16] at H
                                have c16b0 : decide (48 ≤ (bt a0 x15_2)) = true := decide_eq_true c16
                                clear c16
                                by_cases c17 : (bt a0 x15_2) ≤ 57
                                · rw [if_pos c17] at H
                                  have c17b0 : decide ((bt a0 x15_2) ≤ 57) = true := decide_eq_true c17
                                  clear c17
                                  have H' := Aside0.mk H
                                  clear H
                                  go_wp2
                                  go_roundg kj10
                                  case measure => have := HJ1.out; have := HK2.out; have := HJ8.out; have := HJ10.out; omega
                                  case rel => exact ⟨(wrap64 (x15_2 + 1)), (by first | rfl | (simp; done) | (simp [*]; done)), H', ⟨by have := HJ1.out; have := HK2.out; have := HJ8.out; have := HJ10.out; omega⟩, by repeat (first | exact Drawn0.refl _ | apply Drawn0.step)⟩
                                · rw [if_neg c17] at H
                                  have c17b0 : decide ((bt a0 x15_2) ≤ 57) = false := decide_eq_false c17
                                  clear c17
                                  by_cases c18 : (bt a0 x15_2) = 95
                                  · rw [if_pos c18] at H
                                    have c18b0 : ((bt a0 x15_2) == 95) = true := beq_iff_eq.mpr c18
                                    have c18b1 : ((bt a0 x15_2) != 95) = false := bne_eq_false_iff_eq.mpr c18
                                    clear c18
                                    have H' := Aside0.mk H
                                    clear H
                                    go_wp2
                                    go_roundg kj10
                                    case measure => have := HJ1.out; have := HK2.out; have := HJ8.out; have := HJ10.out; omega
                                    case rel => exact ⟨(wrap64 (x15_2 + 1)), (by first | rfl | (simp; done) | (simp [*]; done)), H', ⟨by have := HJ1.out; have := HK2.out; have := HJ8.out; have := HJ10.out; omega⟩, by repeat (first | exact Drawn0.refl _ | apply Drawn0.step)⟩
                                  · rw [if_neg c18] at H
                                    have c18b0 : ((bt a0 x15_2) == 95) = false := beq_eq_false_iff_ne.mpr c18
                                    have c18b1 : ((bt a0 x15_2) != 95) = true := bne_iff_ne.mpr c18
                                    obtain rfl := Option.some.inj H
                                    go_wp2
                                    go_ret
                                    exact ⟨by first | rfl | (simp; done) | (simp [*]; done), by repeat (first | exact Drawn0.refl _ | apply Drawn0.step)⟩
                              · rw [if_neg c16] at H
                                have c16b0 : decide (48 ≤ (bt a0 x15_2)) = false := decide_eq_false c16
                                clear c16
                                by_cases c19 : (bt a0 x15_2) = 95
                                · rw [if_pos c19] at H
                                  have c19b0 : ((bt a0 x15_2) == 95) = true := beq_iff_eq.mpr c19
                                  have c19b1 : ((bt a0 x15_2) != 95) = false := bne_eq_false_iff_eq.mpr c19
                                  clear c19
                                  have H' := Aside0.mk H
                                  clear H
                                  go_wp2
                                  go_roundg kj10
                                  case measure => have := HJ1.out; have := HK2.out; have := HJ8.out; have := HJ10.out; omega
                                  case rel => exact ⟨(wrap64 (x15_2 + 1)), (by first | rfl | (simp; done) | (simp [*]; done)), H', ⟨by have := HJ1.out; have := HK2.out; have := HJ8.out; have := HJ10.out; omega⟩, by repeat (first | exact Drawn0.refl _ | apply Drawn0.step)⟩
                                · rw [if_neg c19] at H
                                  have c19b0 : ((bt a0 x15_2) == 95) = false := beq_eq_false_iff_ne.mpr c19
                                  have c19b1 : ((bt a0 x15_2) != 95) = true := bne_iff_ne.mpr c19
                                  obtain rfl := Option.some.inj H
                                  go_wp2
                                  go_ret
                                  exact ⟨by first | rfl | (simp; done) | (simp [*]; done), by repeat (first | exact Drawn0.refl _ | apply Drawn0.step)⟩
                            · rw [if_neg c15] at H
                              have c15b0 : decide (0 < x15_2) = false := decide_eq_false c15
                              clear c15
                              obtain rfl := Option.some.inj H
                              go_wp2
                              go_ret
                              exact ⟨by first | rfl | (simp; done) | (simp [*]; done), by repeat (first | exact Drawn0.refl _ | apply Drawn0.step)⟩
                · rw [if_neg c7] at H
                  exact absurd H (by simp)
              · rw [if_neg c6] at H
                exact absurd H (by simp)
            · rw [if_neg c5] at H
              have c5b0 : decide (x15_2 < (a0.size : Int)) = false := decide_eq_false c5
              clear c5
              obtain rfl := Option.some.inj H
              go_wp2
              go_ret
              exact ⟨by first | rfl | (simp; done) | (simp [*]; done), by repeat (first | exact Drawn0.refl _ | apply Drawn0.step)⟩

end Go.Proofs.Ytklbkonehcjmjaa.P

end

section
namespace Go.Proofs.Ytklbkonehcjmjaa.P
open Go.RowKit Go.Proofs.YtklbkonehcjmjaaW.PrintWords Go.Proofs.YtklbkonehcjmjaaW.PrintLast Go.Proofs.YtklbkonehcjmjaaW.PrintMore
attribute [local go_sem] max2_int min2_int max_two min_two max_three min_three max_four min_four   -- for this text's walks alone
set_option linter.unusedVariables false
set_option linter.unusedSimpArgs false

mutual
def provisoref01_IsName.j0 : Nat → ByteArray → Bool → Option (Bool)
  | 0, _, _ => none
  | k + 1, x0, x13 => if x13 = true then (some false) else (provisoref01_IsName.l0 k x0 0)
def provisoref01_IsName.l0 : Nat → ByteArray → Int → Option (Bool)
  | 0, _, _ => none
  | k + 1, x0, x3 => if x3 < (x0.size : Int) then (if 0 ≤ x3 then (if (bt x0 x3) ≥ 97 then (if (bt x0 x3) ≤ 122 then (provisoref01_IsName.l0 k x0 (wrap64 (x3 + 1))) else (if (bt x0 x3) ≥ 65 then (if ((bt x0 x3) ≤ 90) then (provisoref01_IsName.l0 k x0 (wrap64 (x3 + 1))) else (if x3 = 0 then (some false) else (if (bt x0 x3) = 95 then (provisoref01_IsName.l0 k x0 (wrap64 (x3 + 1))) else (if (bt x0 x3) < 48 then (some false) else (if (bt x0 x3) > 57 then (some false) else (provisoref01_IsName.l0 k x0 (wrap64 (x3 + 1)))))))) else (if x3 = 0 then (some false) else (if (bt x0 x3) = 95 then (provisoref01_IsName.l0 k x0 (wrap64 (x3 + 1))) else (if (bt x0 x3) < 48 then (some false) else (if (bt x0 x3) > 57 then (some false) else (provisoref01_IsName.l0 k x0 (wrap64 (x3 + 1))))))))) else (if (bt x0 x3) ≥ 65 then (if ((bt x0 x3) ≤ 90) then (provisoref01_IsName.l0 k x0 (wrap64 (x3 + 1))) else (if x3 = 0 then (some false) else (if (bt x0 x3) = 95 then (provisoref01_IsName.l0 k x0 (wrap64 (x3 + 1))) else (if (bt x0 x3) < 48 then (some false) else (if (bt x0 x3) > 57 then (some false) else (provisoref01_IsName.l0 k x0 (wrap64 (x3 + 1)))))))) else (if x3 = 0 then (some false) else (if (bt x0 x3) = 95 then (provisoref01_IsName.l0 k x0 (wrap64 (x3 + 1))) else (if (bt x0 x3) < 48 then (some false) else (if (bt x0 x3) > 57 then (some false) else (provisoref01_IsName.l0 k x0 (wrap64 (x3 + 1))))))))) else (none)) else (some true)
end
def provisoref01_IsName.f (k : Nat) (a0 : ByteArray) : Option (Bool) := if (a0.size : Int) < 1 then (provisoref01_IsName.j0 k a0 true) else (provisoref01_IsName.j0 k a0 (decide ((a0.size : Int) > 24)))
theorem provisoref01_IsName.mono_l : ∀ k, (∀ y0 y1, LeO (provisoref01_IsName.j0 k y0 y1) (provisoref01_IsName.j0 (k + 1) y0 y1)) ∧ (∀ y0 y1, LeO (provisoref01_IsName.l0 k y0 y1) (provisoref01_IsName.l0 (k + 1) y0 y1))
  | 0 => ⟨fun _ _ r h => by simp [provisoref01_IsName.j0] at h, fun _ _ r h => by simp [provisoref01_IsName.l0] at h⟩
  | k + 1 => by
    obtain ⟨ih0, ih1⟩ := provisoref01_IsName.mono_l k
    refine ⟨?_, ?_⟩
    · intro y0 y1
      unfold provisoref01_IsName.j0
      repeat' first
      | (with_reducible exact ih0 _ _)
      | (with_reducible exact ih1 _ _)
      | (with_reducible exact LeO.refl _)
      | (with_reducible exact LeO.none _)
      | (with_reducible refine LeO.ite ?_ ?_)
      | (with_reducible refine LeO.bind ?_ (fun _ => ?_))
      | exact ih0 _ _
      | exact ih1 _ _
      | exact LeO.none _
      | refine LeO.ite ?_ ?_
      | refine LeO.bind ?_ (fun _ => ?_)
    · intro y0 y1
      unfold provisoref01_IsName.l0
      repeat' first
      | (with_reducible exact ih0 _ _)
      | (with_reducible exact ih1 _ _)
      | (with_reducible exact LeO.refl _)
      | (with_reducible exact LeO.none _)
      | (with_reducible refine LeO.ite ?_ ?_)
      | (with_reducible refine LeO.bind ?_ (fun _ => ?_))
      | exact ih0 _ _
      | exact ih1 _ _
      | exact LeO.none _
      | refine LeO.ite ?_ ?_
      | refine LeO.bind ?_ (fun _ => ?_)
theorem provisoref01_IsName.mono : ∀ a0 k, LeO (provisoref01_IsName.f k a0) (provisoref01_IsName.f (k + 1) a0) := by
  intro a0 k
  obtain ⟨ih0, ih1⟩ := provisoref01_IsName.mono_l k
  unfold provisoref01_IsName.f
  repeat' first
      | (with_reducible exact ih0 _ _)
      | (with_reducible exact ih1 _ _)
      | (with_reducible exact LeO.refl _)
      | (with_reducible exact LeO.none _)
      | (with_reducible refine LeO.ite ?_ ?_)
      | (with_reducible refine LeO.bind ?_ (fun _ => ?_))
      | exact ih0 _ _
      | exact ih1 _ _
      | exact LeO.none _
      | refine LeO.ite ?_ ?_
      | refine LeO.bind ?_ (fun _ => ?_)
set_option maxHeartbeats 8000000 in
set_option maxRecDepth 100000 in
theorem provisoref01_IsName.calls (k : Nat) (a0 : ByteArray) (r : Bool) (w : World) (h : provisoref01_IsName.f k a0 = some r) :
    Calls Try.prog 12 #[.string a0] w fun e w' => e = .returned (.bool r) ∧ Drawn0 w w' := by
  have H : (if (a0.size : Int) < 1 then (provisoref01_IsName.j0 k a0 true) else (provisoref01_IsName.j0 k a0 (decide ((a0.size : Int) > 24)))) = some r := h
  clear h
  have HC2 := Aside0.mk H
  clear H
  go_enter Try.func12, Try.ntmps12
  go_upto_region 1 with (fail)
  go_cut [13] (fun v13 wc => ∃ (kq : Nat) (x13_1 : Bool), v13 = .bool x13_1 ∧ Aside0 (provisoref01_IsName.j0 kq a0 x13_1 = some r) ∧ Aside0 (kq ≤ k) ∧ Drawn0 w wc)
  case first =>
    have H := HC2.out
    clear HC2
    by_cases c3 : (a0.size : Int) < 1
    · rw [if_pos c3] at H
      have c3b0 : decide ((a0.size : Int) < 1) = true := decide_eq_true c3
      have c3b1 : decide (a0.size < 1) = true := decide_eq_true (by omega)
      clear c3
      (first | rw [c3b0] | (simp only [i64_w, i32_w]; rw [c3b0]) | skip)
      have H' := Aside0.mk H
      clear H
      go_wp2
      go_meet
      case rel => exact ⟨_, (true), (by first | rfl | (simp; done) | (simp [*]; done)), H', ⟨by first | omega | exact Nat.le_refl _⟩, by repeat (first | exact Drawn0.refl _ | apply Drawn0.step)⟩
    · rw [if_neg c3] at H
      have c3b0 : decide ((a0.size : Int) < 1) = false := decide_eq_false c3
      have c3b1 : decide (a0.size < 1) = false := decide_eq_false (by omega)
      clear c3
      (first | rw [c3b0] | (simp only [i64_w, i32_w]; rw [c3b0]) | skip)
      have H' := Aside0.mk H
      clear H
      go_wp2
      go_meet
      case rel => exact ⟨_, (decide ((a0.size : Int) > 24)), (by first | rfl | (simp; done) | (simp [*]; done)), H', ⟨by first | omega | exact Nat.le_refl _⟩, by repeat (first | exact Drawn0.refl _ | apply Drawn0.step)⟩
  case rest =>
    clear HC2
    try clear c1
    try clear p2
    try clear c3
    try clear c3b0
    try clear c3b1
    obtain ⟨kq, x13_1, rfl, HA, HJ1, ⟨mc1, rfl⟩⟩ := hcut
    cases kq with
    | zero => exact absurd HA.out (by simp [provisoref01_IsName.j0])
    | succ kj1 =>
      have H := HA.out
      clear HA
      simp only [provisoref01_IsName.j0] at H
      by_cases c4 : x13_1 = true
      · subst c4
        have H1 : (some false) = some r := by rw [if_pos rfl] at H; exact H
        clear H
        have H := H1
        clear H1
        obtain rfl := Option.some.inj H
        go_wp2
        go_ret
        exact ⟨by first | rfl | (simp; done) | (simp [*]; done), by repeat (first | exact Drawn0.refl _ | apply Drawn0.step)⟩
      · replace c4 := Bool.eq_false_iff.mpr c4
        subst c4
        have H1 : (provisoref01_IsName.l0 kj1 a0 0) = some r := by rw [if_neg (show ¬ (false = true) by decide)] at H; exact H
        clear H
        have H := H1
        clear H1
        have H' := Aside0.mk H
        clear H
        go_wp2
        go_loopg [3] kj1 (fun kq v3 w' => ∃ (x3_2 : Int), v3 = .int .i64 x3_2 ∧ Aside0 (provisoref01_IsName.l0 kq a0 x3_2 = some r) ∧ Aside0 (kq ≤ kj1) ∧ Drawn0 w w')
        case atStart => exact ⟨(0), (by first | rfl | (simp; done) | (simp [*]; done)), H', ⟨Nat.le_refl _⟩, by repeat (first | exact Drawn0.refl _ | apply Drawn0.step)⟩
        case round =>
          clear H'
          try clear c1
          try clear p2
          try clear c3
          try clear c3b0
          try clear c3b1
          try clear c4
          try clear p2
          obtain ⟨x3_2, rfl, HA, HK2, ⟨m2, rfl⟩⟩ := hrel
          cases gk with
          | zero => exact absurd HA.out (by simp [provisoref01_IsName.l0])
          | succ k2 =>
            have H := HA.out
            clear HA
            simp only [provisoref01_IsName.l0] at H
            by_cases c5 : x3_2 < (a0.size : Int)
            · rw [if_pos c5] at H
              have c5b0 : decide (x3_2 < (a0.size : Int)) = true := decide_eq_true c5
              clear c5
              by_cases c6 : 0 ≤ x3_2
              · rw [if_pos c6] at H
                have c6b0 : decide (0 ≤ x3_2) = true := decide_eq_true c6
                clear c6
                by_cases c8 : (bt a0 x3_2) ≥ 97
                · rw [if_pos c8] at H
                  have c8b0 : decide (97 ≤ (bt a0 x3_2)) = true := decide_eq_true c8
                  clear c8
                  by_cases c9 : (bt a0 x3_2) ≤ 122
                  · rw [if_pos c9] at H
                    have c9b0 : decide ((bt a0 x3_2) ≤ 122) = true := decide_eq_true c9
                    clear c9
                    have H' := Aside0.mk H
                    clear H
                    have p7 : 0 ≤ (x3_2 : Int) := of_decide_eq_true (by first | (with_reducible assumption) | assumption)
                    have q7 : x3_2 < (a0.size : Int) := of_decide_eq_true (by first | (with_reducible assumption) | assumption)
                    have hx7 := bt_at a0 x3_2
                    replace p7 := eq_true p7
                    replace q7 := eq_true q7
                    go_wp2
                    go_roundg k2
                    case measure => have := HJ1.out; have := HK2.out; omega
                    case rel => exact ⟨(wrap64 (x3_2 + 1)), (by first | rfl | (simp; done) | (simp [*]; done)), H', ⟨by have := HJ1.out; have := HK2.out; omega⟩, by repeat (first | exact Drawn0.refl _ | apply Drawn0.step)⟩
                  · rw [if_neg c9] at H
                    have c9b0 : decide ((bt a0 x3_2) ≤ 122) = false := decide_eq_false c9
                    clear c9
                    by_cases c10 : (bt a0 x3_2) ≥ 65
                    · rw [if_pos c10] at H
                      have c10b0 : decide (65 ≤ (bt a0 x3_2)) = true := decide_eq_true c10
                      clear c10
                      by_cases c11 : ((bt a0 x3_2) ≤ 90)
                      · rw [if_pos c11] at H
                        have c11b0 : decide ((bt a0 x3_2) ≤ 90) = true := decide_eq_true c11
                        clear c11
                        have H' := Aside0.mk H
                        clear H
                        have p7 : 0 ≤ (x3_2 : Int) := of_decide_eq_true (by first | (with_reducible assumption) | assumption)
                        have q7 : x3_2 < (a0.size : Int) := of_decide_eq_true (by first | (with_reducible assumption) | assumption)
                        have hx7 := bt_at a0 x3_2
                        replace p7 := eq_true p7
                        replace q7 := eq_true q7
                        go_wp2
                        go_roundg k2
                        case measure => have := HJ1.out; have := HK2.out; omega
                        case rel => exact ⟨(wrap64 (x3_2 + 1)), (by first | rfl | (simp; done) | (simp [*]; done)), H', ⟨by have := HJ1.out; have := HK2.out; omega⟩, by repeat (first | exact Drawn0.refl _ | apply Drawn0.step)⟩
                      · rw [if_neg c11] at H
                        have c11b0 : decide ((bt a0 x3_2) ≤ 90) = false := decide_eq_false c11
                        clear c11
                        by_cases c12 : x3_2 = 0
                        · rw [if_pos c12] at H
                          have c12b0 : (x3_2 == 0) = true := beq_iff_eq.mpr c12
                          have c12b1 : (x3_2 != 0) = false := bne_eq_false_iff_eq.mpr c12
                          clear c12
                          obtain rfl := Option.some.inj H
                          have p7 : 0 ≤ (x3_2 : Int) := of_decide_eq_true (by first | (with_reducible assumption) | assumption)
                          have q7 : x3_2 < (a0.size : Int) := of_decide_eq_true (by first | (with_reducible assumption) | assumption)
                          have hx7 := bt_at a0 x3_2
                          replace p7 := eq_true p7
                          replace q7 := eq_true q7
                          go_wp2
                          go_ret
                          exact ⟨by first | rfl | (simp; done) | (simp [*]; done), by repeat (first | exact Drawn0.refl _ | apply Drawn0.step)⟩
                        · rw [if_neg c12] at H
                          have c12b0 : (x3_2 == 0) = false := beq_eq_false_iff_ne.mpr c12
                          have c12b1 : (x3_2 != 0) = true := bne_iff_ne.mpr c12
                          by_cases c13 : (bt a0 x3_2) = 95
                          · rw [if_pos c13] at H
                            have c13b0 : ((bt a0 x3_2) == 95) = true := beq_iff_eq.mpr c13
                            have c13b1 : ((bt a0 x3_2) != 95) = false := bne_eq_false_iff_eq.mpr c13
                            clear c13
                            have H' := Aside0.mk H
                            clear H
                            have p7 : 0 ≤ (x3_2 : Int) := of_decide_eq_true (by first | (with_reducible assumption) | assumption)
                            have q7 : x3_2 < (a0.size : Int) := of_decide_eq_true (by first | (with_reducible assumption) | assumption)
                            have hx7 := bt_at a0 x3_2
                            replace p7 := eq_true p7
                            replace q7 := eq_true q7
                            go_wp2
                            go_roundg k2
                            case measure => have := HJ1.out; have := HK2.out; omega
                            case rel => exact ⟨(wrap64 (x3_2 + 1)), (by first | rfl | (simp; done) | (simp [*]; done)), H', ⟨by have := HJ1.out; have := HK2.out; omega⟩, by repeat (first | exact Drawn0.refl _ | apply Drawn0.step)⟩
                          · rw [if_neg c13] at H
                            have c13b0 : ((bt a0 x3_2) == 95) = false := beq_eq_false_iff_ne.mpr c13
                            have c13b1 : ((bt a0 x3_2) != 95) = true := bne_iff_ne.mpr c13
                            by_cases c14 : (bt a0 x3_2) < 48
                            · rw [if_pos c14] at H
                              have c14b0 : decide ((bt a0 x3_2) < 48) = true := decide_eq_true c14
                              clear c14
                              obtain rfl := Option.some.inj H
                              have p7 : 0 ≤ (x3_2 : Int) := of_decide_eq_true (by first | (with_reducible assumption) | assumption)
                              have q7 : x3_2 < (a0.size : Int) := of_decide_eq_true (by first | (with_reducible assumption) | assumption)
                              have hx7 := bt_at a0 x3_2
                              replace p7 := eq_true p7
                              replace q7 := eq_true q7
                              go_wp2
                              go_ret
                              exact ⟨by first | rfl | (simp; done) | (simp [*]; done), by repeat (first | exact Drawn0.refl _ | apply Drawn0.step)⟩
                            · rw [if_neg c14] at H
                              have c14b0 : decide ((bt a0 x3_2) < 48) = false := decide_eq_false c14
                              clear c14
                              by_cases c15 : (bt a0 x3_2) > 57
                              · rw [if_pos c15] at H
                                have c15b0 : decide (57 < (bt a0 x3_2)) = true := decide_eq_true c15
                                clear c15
                                obtain rfl := Option.some.inj H
                                have p7 : 0 ≤ (x3_2 : Int) := of_decide_eq_true (by first | (with_reducible assumption) | assumption)
                                have q7 : x3_2 < (a0.size : Int) := of_decide_eq_true (by first | (with_reducible assumption) | assumption)
                                have hx7 := bt_at a0 x3_2
                                replace p7 := eq_true p7
                                replace q7 := eq_true q7
                                go_wp2
                                go_ret
                                exact ⟨by first | rfl | (simp; done) | (simp [*]; done), by repeat (first | exact Drawn0.refl _ | apply Drawn0.step)⟩
                              · rw [if_neg c15] at H
                                have c15b0 : decide (57 < (bt a0 x3_2)) = false := decide_eq_false c15
                                clear c15
                                have H' := Aside0.mk H
                                clear H
                                have p7 : 0 ≤ (x3_2 : Int) := of_decide_eq_true (by first | (with_reducible assumption) | assumption)
                                have q7 : x3_2 < (a0.size : Int) := of_decide_eq_true (by first | (with_reducible assumption) | assumption)
                                have hx7 := bt_at a0 x3_2
                                replace p7 := eq_true p7
                                replace q7 := eq_true q7
                                go_wp2
                                go_roundg k2
                                case measure => have := HJ1.out; have := HK2.out; omega
                                case rel => exact ⟨(wrap64 (x3_2 + 1)), (by first | rfl | (simp; done) | (simp [*]; done)), H', ⟨by have := HJ1.out; have := HK2.out; omega⟩, by repeat (first | exact Drawn0.refl _ | apply Drawn0.step)⟩
                    · rw [if_neg c10] at H
                      have c10b0 : decide (65 ≤ (bt a0 x3_2)) = false := decide_eq_false c10
                      clear c10
                      by_cases c16 : x3_2 = 0
                      · rw [if_pos c16] at H
                        have c16b0 : (x3_2 == 0) = true := beq_iff_eq.mpr c16
                        have c16b1 : (x3_2 != 0) = false := bne_eq_false_iff_eq.mpr c16
                        clear c16
                        obtain rfl := Option.some.inj H
                        have p7 : 0 ≤ (x3_2 : Int) := of_decide_eq_true (by first | (with_reducible assumption) | assumption)
                        have q7 : x3_2 < (a0.size : Int) := of_decide_eq_true (by first | (with_reducible assumption) | assumption)
                        have hx7 := bt_at a0 x3_2
                        replace p7 := eq_true p7
                        replace q7 := eq_true q7
                        go_wp2
                        go_ret
                        exact ⟨by first | rfl | (simp; done) | (simp [*]; done), by repeat (first | exact Drawn0.refl _ | apply Drawn0.step)⟩
                      · rw [if_neg c16] at H
                        have c16b0 : (x3_2 == 0) = false := beq_eq_false_iff_ne.mpr c16
                        have c16b1 : (x3_2 != 0) = true := bne_iff_ne.mpr c16
                        by_cases c17 : (bt a0 x3_2) = 95
                        · rw [if_pos c17] at H
                          have c17b0 : ((bt a0 x3_2) == 95) = true := beq_iff_eq.mpr c17
                          have c17b1 : ((bt a0 x3_2) != 95) = false := bne_eq_false_iff_eq.mpr c17
                          clear c17
                          have H' := Aside0.mk H
                          clear H
                          have p7 : 0 ≤ (x3_2 : Int) := of_decide_eq_true (by first | (with_reducible assumption) | assumption)
                          have q7 : x3_2 < (a0.size : Int) := of_decide_eq_true (by first | (with_reducible assumption) | assumption)
                          have hx7 := bt_at a0 x3_2
                          replace p7 := eq_true p7
                          replace q7 := eq_true q7
                          go_wp2
                          go_roundg k2
                          case measure => have := HJ1.out; have := HK2.out; omega
                          case rel => exact ⟨(wrap64 (x3_2 + 1)), (by first | rfl | (simp; done) | (simp [*]; done)), H', ⟨by have := HJ1.out; have := HK2.out; omega⟩, by repeat (first | exact Drawn0.refl _ | apply Drawn0.step)⟩
                        · rw [if_neg c17] at H
                          have c17b0 : ((bt a0 x3_2) == 95) = false := beq_eq_false_iff_ne.mpr c17
                          have c17b1 : ((bt a0 x3_2) != 95) = true := bne_iff_ne.mpr c17
                          by_cases c18 : (bt a0 x3_2) < 48
                          · rw [if_pos c18] at H
                            have c18b0 : decide ((bt a0 x3_2) < 48) = true := decide_eq_true c18
                            clear c18
                            obtain rfl := Option.some.inj H
                            have p7 : 0 ≤ (x3_2 : Int) := of_decide_eq_true (by first | (with_reducible assumption) | assumption)
                            have q7 : x3_2 < (a0.size : Int) := of_decide_eq_true (by first | (with_reducible assumption) | assumption)
                            have hx7 := bt_at a0 x3_2
                            replace p7 := eq_true p7
                            replace q7 := eq_true q7
                            go_wp2
                            go_ret
                            exact ⟨by first | rfl | (simp; done) | (simp [*]; done), by repeat (first | exact Drawn0.refl _ | apply Drawn0.step)⟩
                          · rw [if_neg c18] at H
                            have c18b0 : decide ((bt a0 x3_2) < 48) = false := decide_eq_false c18
                            clear c18
                            by_cases c19 : (bt a0 x3_2) > 57
                            · rw [if_pos c19] at H
                              have c19b0 : decide (57 < (bt a0 x3_2)) = true := decide_eq_true c19
                              clear c19
                              obtain rfl := Option.some.inj H
                              have p7 : 0 ≤ (x3_2 : Int) := of_decide_eq_true (by first | (with_reducible assumption) | assumption)
                              have q7 : x3_2 < (a0.size : Int) := of_decide_eq_true (by first | (with_reducible assumption) | assumption)
                              have hx7 := bt_at a0 x3_2
                              replace p7 := eq_true p7
                              replace q7 := eq_true q7
                              go_wp2
                              go_ret
                              exact ⟨by first | rfl | (simp; done) | (simp [*]; done), by repeat (first | exact Drawn0.refl _ | apply Drawn0.step)⟩
                            · rw [if_neg c19] at H
                              have c19b0 : decide (57 < (bt a0 x3_2)) = false := decide_eq_false c19
                              clear c19
                              have H' := Aside0.mk H
                              clear H
                              have p7 : 0 ≤ (x3_2 : Int) := of_decide_eq_true (by first | (with_reducible assumption) | assumption)
                              have q7 : x3_2 < (a0.size : Int) := of_decide_eq_true (by first | (with_reducible assumption) | assumption)
                              have hx7 := bt_at a0 x3_2
                              replace p7 := eq_true p7
                              replace q7 := eq_true q7
                              go_wp2
                              go_roundg k2
                              case measure => have := HJ1.out; have := HK2.out; omega
                              case rel => exact ⟨(wrap64 (x3_2 + 1)), (by first | rfl | (simp; done) | (simp [*]; done)), H', ⟨by have := HJ1.out; have := HK2.out; omega⟩, by repeat (first | exact Drawn0.refl _ | apply Drawn0.step)⟩
                · rw [if_neg c8] at H
                  have c8b0 : decide (97 ≤ (bt a0 x3_2)) = false := decide_eq_false c8
                  clear c8
                  by_cases c20 : (bt a0 x3_2) ≥ 65
                  · rw [if_pos c20] at H
                    have c20b0 : decide (65 ≤ (bt a0 x3_2)) = true := decide_eq_true c20
                    clear c20
                    by_cases c21 : ((bt a0 x3_2) ≤ 90)
                    · rw [if_pos c21] at H
                      have c21b0 : decide ((bt a0 x3_2) ≤ 90) = true := decide_eq_true c21
                      clear c21
                      have H' := Aside0.mk H
                      clear H
                      have p7 : 0 ≤ (x3_2 : Int) := of_decide_eq_true (by first | (with_reducible assumption) | assumption)
                      have q7 : x3_2 < (a0.size : Int) := of_decide_eq_true (by first | (with_reducible assumption) | assumption)
                      have hx7 := bt_at a0 x3_2
                      replace p7 := eq_true p7
                      replace q7 := eq_true q7
                      go_wp2
                      go_roundg k2
                      case measure => have := HJ1.out; have := HK2.out; omega
                      case rel => exact ⟨(wrap64 (x3_2 + 1)), (by first | rfl | (simp; done) | (simp [*]; done)), H', ⟨by have := HJ1.out; have := HK2.out; omega⟩, by repeat (first | exact Drawn0.refl _ | apply Drawn0.step)⟩
                    · rw [if_neg c21] at H
                      have c21b0 : decide ((bt a0 x3_2) ≤ 90) = false := decide_eq_false c21
                      clear c21
                      by_cases c22 : x3_2 = 0
                      · rw [if_pos c22] at H
                        have c22b0 : (x3_2 == 0) = true := beq_iff_eq.mpr c22
                        have c22b1 : (x3_2 != 0) = false := bne_eq_false_iff_eq.mpr c22
                        clear c22
                        obtain rfl := Option.some.inj H
                        have p7 : 0 ≤ (x3_2 : Int) := of_decide_eq_true (by first | (with_reducible assumption) | assumption)
                        have q7 : x3_2 < (a0.size : Int) := of_decide_eq_true (by first | (with_reducible assumption) | assumption)
                        have hx7 := bt_at a0 x3_2
                        replace p7 := eq_true p7
                        replace q7 := eq_true q7
                        go_wp2
                        go_ret
                        exact ⟨by first | rfl | (simp; done) | (simp [*]; done), by repeat (first | exact Drawn0.refl _ | apply Drawn0.step)⟩
                      · rw [if_neg c22] at H
                        have c22b0 : (x3_2 == 0) = false := beq_eq_false_iff_ne.mpr c22
                        have c22b1 : (x3_2 != 0) = true := bne_iff_ne.mpr c22
                        by_cases c23 : (bt a0 x3_2) = 95
                        · rw [if_pos c23] at H
                          have c23b0 : ((bt a0 x3_2) == 95) = true := beq_iff_eq.mpr c23
                          have c23b1 : ((bt a0 x3_2) != 95) = false := bne_eq_false_iff_eq.mpr c23
                          clear c23
                          have H' := Aside0.mk H
                          clear H
                          have p7 : 0 ≤ (x3_2 : Int) := of_decide_eq_true (by first | (with_reducible assumption) | assumption)
                          have q7 : x3_2 < (a0.size : Int) := of_decide_eq_true (by first | (with_reducible assumption) | assumption)
                          have hx7 := bt_at a0 x3_2
                          replace p7 := eq_true p7
                          replace q7 := eq_true q7
                          go_wp2
                          go_roundg k2
                          case measure => have := HJ1.out; have := HK2.out; omega
                          case rel => exact ⟨(wrap64 (x3_2 + 1)), (by first | rfl | (simp; done) | (simp [*]; done)), H', ⟨by have := HJ1.out; have := HK2.out; omega⟩, by repeat (first | exact Drawn0.refl _ | apply Drawn0.step)⟩
                        · rw [if_neg c23] at H
                          have c23b0 : ((bt a0 x3_2) == 95) = false := beq_eq_false_iff_ne.mpr c23
                          have c23b1 : ((bt a0 x3_2) != 95) = true := bne_iff_ne.mpr c23
                          by_cases c24 : (bt a0 x3_2) < 48
                          · rw [if_pos c24] at H
                            have c24b0 : decide ((bt a0 x3_2) < 48) = true := decide_eq_true c24
                            clear c24
                            obtain rfl := Option.some.inj H
                            have p7 : 0 ≤ (x3_2 : Int) := of_decide_eq_true (by first | (with_reducible assumption) | assumption)
                            have q7 : x3_2 < (a0.size : Int) := of_decide_eq_true (by first | (with_reducible assumption) | assumption)
                            have hx7 := bt_at a0 x3_2
                            replace p7 := eq_true p7
                            replace q7 := eq_true q7
                            go_wp2
                            go_ret
                            exact ⟨by first | rfl | (simp; done) | (simp [*]; done), by repeat (first | exact Drawn0.refl _ | apply Drawn0.step)⟩
                          · rw [if_neg c24] at H
                            have c24b0 : decide ((bt a0 x3_2) < 48) = false := decide_eq_false c24
                            clear c24
                            by_cases c25 : (bt a0 x3_2) > 57
                            · rw [if_pos c25] at H
                              have c25b0 : decide (57 < (bt a0 x3_2)) = true := decide_eq_true c25
                              clear c25
                              obtain rfl := Option.some.inj H
                              have p7 : 0 ≤ (x3_2 : Int) := of_decide_eq_true (by first | (with_reducible assumption) | assumption)
                              have q7 : x3_2 < (a0.size : Int) := of_decide_eq_true (by first | (with_reducible assumption) | assumption)
                              have hx7 := bt_at a0 x3_2
                              replace p7 := eq_true p7
                              replace q7 := eq_true q7
                              go_wp2
                              go_ret
                              exact ⟨by first | rfl | (simp; done) | (simp [*]; done), by repeat (first | exact Drawn0.refl _ | apply Drawn0.step)⟩
                            · rw [if_neg c25] at H
                              have c25b0 : decide (57 < (bt a0 x3_2)) = false := decide_eq_false c25
                              clear c25
                              have H' := Aside0.mk H
                              clear H
                              have p7 : 0 ≤ (x3_2 : Int) := of_decide_eq_true (by first | (with_reducible assumption) | assumption)
                              have q7 : x3_2 < (a0.size : Int) := of_decide_eq_true (by first | (with_reducible assumption) | assumption)
                              have hx7 := bt_at a0 x3_2
                              replace p7 := eq_true p7
                              replace q7 := eq_true q7
                              go_wp2
                              go_roundg k2
                              case measure => have := HJ1.out; have := HK2.out; omega
                              case rel => exact ⟨(wrap64 (x3_2 + 1)), (by first | rfl | (simp; done) | (simp [*]; done)), H', ⟨by have := HJ1.out; have := HK2.out; omega⟩, by repeat (first | exact Drawn0.refl _ | apply Drawn0.step)⟩
                  · rw [if_neg c20] at H
                    have c20b0 : decide (65 ≤ (bt a0 x3_2)) = false := decide_eq_false c20
                    clear c20
                    by_cases c26 : x3_2 = 0
                    · rw [if_pos c26] at H
                      have c26b0 : (x3_2 == 0) = true := beq_iff_eq.mpr c26
                      have c26b1 : (x3_2 != 0) = false := bne_eq_false_iff_eq.mpr c26
                      clear c26
                      obtain rfl := Option.some.inj H
                      have p7 : 0 ≤ (x3_2 : Int) := of_decide_eq_true (by first | (with_reducible assumption) | assumption)
                      have q7 : x3_2 < (a0.size : Int) := of_decide_eq_true (by first | (with_reducible assumption) | assumption)
                      have hx7 := bt_at a0 x3_2
                      replace p7 := eq_true p7
                      replace q7 := eq_true q7
                      go_wp2
                      go_ret
                      exact ⟨by first | rfl | (simp; done) | (simp [*]; done), by repeat (first | exact Drawn0.refl _ | apply Drawn0.step)⟩
                    · rw [if_neg c26] at H
                      have c26b0 : (x3_2 == 0) = false := beq_eq_false_iff_ne.mpr c26
                      have c26b1 : (x3_2 != 0) = true := bne_iff_ne.mpr c26
                      by_cases c27 : (bt a0 x3_2) = 95
                      · rw [if_pos c27] at H
                        have c27b0 : ((bt a0 x3_2) == 95) = true := beq_iff_eq.mpr c27
                        have c27b1 : ((bt a0 x3_2) != 95) = false := bne_eq_false_iff_eq.mpr c27
                        clear c27
                        have H' := Aside0.mk H
                        clear H
                        have p7 : 0 ≤ (x3_2 : Int) := of_decide_eq_true (by first | (with_reducible assumption) | assumption)
                        have q7 : x3_2 < (a0.size : Int) := of_decide_eq_true (by first | (with_reducible assumption) | assumption)
                        have hx7 := bt_at a0 x3_2
                        replace p7 := eq_true p7
                        replace q7 := eq_true q7
                        go_wp2
                        go_roundg k2
                        case measure => have := HJ1.out; have := HK2.out; omega
                        case rel => exact ⟨(wrap64 (x3_2 + 1)), (by first | rfl | (simp; done) | (simp [*]; done)), H', ⟨by have := HJ1.out; have := HK2.out; omega⟩, by repeat (first | exact Drawn0.refl _ | apply Drawn0.step)⟩
                      · rw [if_neg c27] at H
                        have c27b0 : ((bt a0 x3_2) == 95) = false := beq_eq_false_iff_ne.mpr c27
                        have c27b1 : ((bt a0 x3_2) != 95) = true := bne_iff_ne.mpr c27
                        by_cases c28 : (bt a0 x3_2) < 48
                        · rw [if_pos c28] at H
                          have c28b0 : decide ((bt a0 x3_2) < 48) = true := decide_eq_true c28
                          clear c28
                          obtain rfl := Option.some.inj H
                          have p7 : 0 ≤ (x3_2 : Int) := of_decide_eq_true (by first | (with_reducible assumption) | assumption)
                          have q7 : x3_2 < (a0.size : Int) := of_decide_eq_true (by first | (with_reducible assumption) | assumption)
                          have hx7 := bt_at a0 x3_2
                          replace p7 := eq_true p7
                          replace q7 := eq_true q7
                          go_wp2
                          go_ret
                          exact ⟨by first | rfl | (simp; done) | (simp [*]; done), by repeat (first | exact Drawn0.refl _ | apply Drawn0.step)⟩
                        · rw [if_neg c28] at H
                          have c28b0 : decide ((bt a0 x3_2) < 48) = false := decide_eq_false c28
                          clear c28
                          by_cases c29 : (bt a0 x3_2) > 57
                          · rw [if_pos c29] at H
                            have c29b0 : decide (57 < (bt a0 x3_2)) = true := decide_eq_true c29
                            clear c29
                            obtain rfl := Option.some.inj H
                            have p7 : 0 ≤ (x3_2 : Int) := of_decide_eq_true (by first | (with_reducible assumption) | assumption)
                            have q7 : x3_2 < (a0.size : Int) := of_decide_eq_true (by first | (with_reducible assumption) | assumption)
                            have hx7 := bt_at a0 x3_2
                            replace p7 := eq_true p7
                            replace q7 := eq_true q7
                            go_wp2
                            go_ret
                            exact ⟨by first | rfl | (simp; done) | (simp [*]; done), by repeat (first | exact Drawn0.refl _ | apply Drawn0.step)⟩
                          · rw [if_neg c29] at H
                            have c29b0 : decide (57 < (bt a0 x3_2)) = false := decide_eq_false c29
                            clear c29
                            have H' := Aside0.mk H
                            clear H
                            have p7 : 0 ≤ (x3_2 : Int) := of_decide_eq_true (by first | (with_reducible assumption) | assumption)
                            have q7 : x3_2 < (a0.size : Int) := of_decide_eq_true (by first | (with_reducible assumption) | assumption)
                            have hx7 := bt_at a0 x3_2
                            replace p7 := eq_true p7
                            replace q7 := eq_true q7
                            go_wp2
                            go_roundg k2
                            case measure => have := HJ1.out; have := HK2.out; omega
                            case rel => exact ⟨(wrap64 (x3_2 + 1)), (by first | rfl | (simp; done) | (simp [*]; done)), H', ⟨by have := HJ1.out; have := HK2.out; omega⟩, by repeat (first | exact Drawn0.refl _ | apply Drawn0.step)⟩
              · rw [if_neg c6] at H
                exact absurd H (by simp)
            · rw [if_neg c5] at H
              have c5b0 : decide (x3_2 < (a0.size : Int)) = false := decide_eq_false c5
              clear c5
              obtain rfl := Option.some.inj H
              go_wp2
              go_ret
              exact ⟨by first | rfl | (simp; done) | (simp [*]; done), by repeat (first | exact Drawn0.refl _ | apply Drawn0.step)⟩

def slices_Clone_byte_byte.f (l0 : List Int) : Option (List Int) := if l0.length < 140737488355328 then some l0 else none
set_option maxHeartbeats 800000 in
set_option maxRecDepth 100000 in
theorem slices_Clone_byte_byte.calls (A0 : Option Addr) (c0 : Nat) (l0 : List Int) (r : List Int) (w : World) (hr0 : Kd.C (Kd.int .u8) w A0 l0.length l0) (hc0 : l0.length ≤ c0) (h : slices_Clone_byte_byte.f l0 = some r) :
    Calls Try.prog 17 #[.slice A0 l0.length c0] w fun e w' => ∃ v0_ : Value, e = .returned v0_ ∧ Kd.R (Kd.int .u8) 5 w' w.heap.size (fun _ => True) v0_ r ∧ Below w.heap.size w w' := by
  obtain ⟨hlim, rfl⟩ : l0.length < 140737488355328 ∧ r = l0 := by
    unfold slices_Clone_byte_byte.f at h
    split at h
    · rename_i h9
      exact ⟨h9, (Option.some.inj h).symm⟩
    · cases h
  have hnil := Lib.run_eql_slice_nil (P := Try.prog) (h := Try.underlying23)
  have HR := Aside0.mk hr0
  have HL := Aside0.mk hlim
  cases A0 with
  | none =>
    have e0 : r = [] := by
      rcases Nat.eq_zero_or_pos r.length with h0 | h0
      · exact List.length_eq_zero_iff.1 h0
      · obtain ⟨ad, e, _⟩ := hr0.2.2 h0
        cases e
    have E0 := Aside0.mk e0
    clear h hr0 hlim e0
    go_enter Try.func17, Try.ntmps17
    go_wp2
    go_ret
    refine ⟨_, rfl, ?_, Below.refl _ _⟩
    rw [E0.out]
    exact Kd.R_nil _ _ _ _ _
  | some ad =>
    clear h hr0 hlim
    go_enter Try.func17, Try.ntmps17
    go_wp2_with (first | ((with_reducible refine gate_dst (N := 5) rfl ?_); refine Kd.R_lit (Kd.int .u8) _ 5 ?hg (N := 5) ?hd (xs := ([] : List Int)) (inner := []) (ok := fun _ => True) (okp := fun _ => True) ?hr ?hp (fun _ hk => hk) trivial (Below.refl _ _) (Nat.le_refl _) (by simp) ?_; (case hd => rfl); (case hg => rfl); (case hr => first | (go_simp; done) | (go_simp; rfl)); (case hp => exact (Reps.none _ _)); intro v1 w1 ho1 hb1 _ _; have n1 := Aside0.mk ho1; have n2 := Aside0.mk hb1; clear ho1 hb1; obtain ⟨A1, c1, e1⟩ := Kd.R_slice n1.out; subst e1) | ((with_reducible refine gate_builtin (b := .append) (xs := #[.tmp 5, .tmp 6]) rfl ?_); at_builtin; refine Kd.R_append_rows (Kd.int .u8) (w0 := w) w.heap.size rfl (.tmp 5) (.tmp 6) 23 5 (.int .u8 0) 1 rfl Try.underlying23 info5 rfl (by decide) (by omega) (.slice A1 (([] : List Int)).length c1) ([] : List Int) r _ _ _ (fun _ => True) (fun _ => False) rfl rfl ?aO ?aR (fun _ _ h => h) (fun _ h => h.elim) ?aF ?aB ?aS ?aL ?_; (case aR => exact Kd.C_below HR.out n2.out); (case aB => exact n2.out); (case aF => exact (fun _ _ => trivial)); (case aO => exact n1.out); (case aS => exact n2.out.size); (case aL => have h9 := HL.out; simp only [List.length_nil]; omega); intro v2 w2 ho2 hb2 _ _; have n3 := Aside0.mk ho2; have n4 := Aside0.mk hb2; clear ho2 hb2))
    go_ret
    exact ⟨_, rfl, n3.out, n4.out⟩

theorem C_of_lit {W : World} {gb : Nat} {cs : Array Value} {t : TypeId} {xs : List Int} (h : W.heap[gb]? = some (.cells cs t (0, 0))) (hl : xs.length ≤ 9223372036854775807) (hx : ∀ (j : Nat) (p : Int), xs[j]? = some p → cs[j]? = some (.int .u8 p)) : Kd.C (Kd.int .u8) W (some ⟨gb, 0, none⟩) xs.length xs :=
  ⟨rfl, hl, fun _ => ⟨⟨gb, 0, none⟩, rfl, fun j p hj => ⟨[.int .u8 p], rfl, rfl, fun i u hu => by
    cases i with
    | zero =>
      obtain rfl := Option.some.inj hu
      have h2 := (blk_cell h j).trans (hx j p hj)
      rcases Nat.eq_zero_or_pos j with rfl | hj0
      · simpa [Addr.add, show (Kd.int .u8).sz = 1 from rfl] using h2
      · have : ¬ j = 0 := by omega
        simpa [Addr.add, show (Kd.int .u8).sz = 1 from rfl, this] using h2
    | succ i => cases hu⟩⟩⟩
set_option maxHeartbeats 1600000 in
set_option maxRecDepth 100000 in
theorem Roomy_calls (A0 : Option Addr) (c0 : Nat) (l0 : List Int) (w : World) (hr0 : Kd.C (Kd.int .u8) w A0 l0.length l0) (hc0 : l0.length ≤ c0) (hlim : l0.length ≤ 140737488351232) :
    Calls Try.prog 13 #[.slice A0 l0.length c0] w fun e w' => ∃ A c, e = .returned (.tuple #[.slice A l0.length c, .slice A (l0.length + 4) c]) ∧ l0.length + 4 ≤ c ∧ Kd.R (Kd.int .u8) 5 w' w.heap.size (fun _ => True) (.slice A (l0.length + 4) c) (l0 ++ [165, 90, 195, 60]) ∧ Below w.heap.size w w' := by
  have HR := Aside0.mk hr0
  have HC := Aside0.mk hc0
  have HL := Aside0.mk hlim
  have HCL : Aside0 (slices_Clone_byte_byte.f l0 = some l0) := ⟨by unfold slices_Clone_byte_byte.f; rw [if_pos (by omega)]⟩
  clear hr0 hc0
  go_enter Try.func13, Try.ntmps13
  go_wp2_with fail
  refine (slices_Clone_byte_byte.calls A0 c0 l0 l0 _ HR.out HC.out HCL.out).mono ?_
  rintro e w1 ⟨v, rfl, hR, hb⟩
  obtain ⟨A1, c1, rfl⟩ := Kd.R_slice hR
  have n1 := Aside0.mk (Kd.R_below hR (below_alloc (Below.refl _ _) (.cells #[.int .u8 165, .int .u8 90, .int .u8 195, .int .u8 60] 5)))
  have n2 := Aside0.mk (below_alloc hb (.cells #[.int .u8 165, .int .u8 90, .int .u8 195, .int .u8 60] 5))
  have n3 : Aside0 (Kd.C (Kd.int .u8) (w1.alloc (.cells #[.int .u8 165, .int .u8 90, .int .u8 195, .int .u8 60] 5)) (some ⟨w1.heap.size, 0, none⟩) [165, 90, 195, 60].length [165, 90, 195, 60]) := ⟨C_of_lit (blk_new _ _) (by decide) (fun j p hj => by
    match j, hj with
    | 0, hj => obtain rfl := Option.some.inj hj; rfl
    | 1, hj => obtain rfl := Option.some.inj hj; rfl
    | 2, hj => obtain rfl := Option.some.inj hj; rfl
    | 3, hj => obtain rfl := Option.some.inj hj; rfl
    | j + 4, hj => simp at hj)⟩
  clear hR hb
  go_wp2_with (first | ((with_reducible refine gate_builtin (b := .append) (xs := #[.tmp 6, .tmp 7]) rfl ?_); at_builtin; refine Kd.R_append_rows (Kd.int .u8) (w0 := w) w.heap.size rfl (.tmp 6) (.tmp 7) 23 5 (.int .u8 0) 1 rfl Try.underlying23 info5 rfl (by decide) (by omega) (.slice A1 l0.length c1) l0 [165, 90, 195, 60] (some ⟨w1.heap.size, 0, none⟩) 4 4 (fun _ => True) (fun _ => False) rfl rfl n1.out n3.out (fun _ _ h => h) (fun _ h => h.elim) (fun _ _ => trivial) n2.out n2.out.size (by have := HL.out; omega) ?_; intro v1 w2 ho hb hg hat; obtain ⟨Av, cv, hcl, e7⟩ : ∃ A c, l0.length + 4 ≤ c ∧ v1 = .slice A (l0.length + 4) c := (by obtain ⟨A, c, e, h, _⟩ := Kd.R_reads ho; rw [List.length_append] at e h; exact ⟨A, c, h, e⟩); subst e7; have HO := Aside0.mk ho; have HB := Aside0.mk hb; have p1 : l0.length ≤ cv := (by omega); clear ho hb hg hat))
  go_ret2
  exact ⟨Av, cv, rfl, hcl, HO.out, HB.out⟩

section
variable {P : Program} {ops : Array Oper} {rest : List Oper} {o : Oper} {a : Act} {Q : Exit → Act → World → Prop}
end
end Go.Proofs.Ytklbkonehcjmjaa.P

end

section
namespace Go.Proofs.Ytklbkonehcjmjaa.P
open Go.RowKit Go.Proofs.YtklbkonehcjmjaaW.PrintWords Go.Proofs.YtklbkonehcjmjaaW.PrintLast Go.Proofs.YtklbkonehcjmjaaW.PrintMore
attribute [local go_sem] max2_int min2_int max_two min_two max_three min_three max_four min_four   -- for this text's walks alone
set_option linter.unusedVariables false
set_option linter.unusedSimpArgs false

def slices_Equal_byte_byte.l0 : Nat → List Int → List Int → Int → Int → Option (Bool)
  | 0, _, _, _, _ => none
  | k + 1, x0, x1, x12, x13 => if x13 < x12 then (if 0 ≤ x13 then (if x13 < (x0.length : Int) then (if x13 < (x1.length : Int) then (if (rd x0 x13) = (rd x1 x13) then (slices_Equal_byte_byte.l0 k x0 x1 x12 (wrap64 (x13 + 1))) else (some false)) else (none)) else (none)) else (none)) else (some true)
def slices_Equal_byte_byte.f (k : Nat) (l0 : List Int) (l1 : List Int) : Option (Bool) := if (l0.length : Int) = (l1.length : Int) then (slices_Equal_byte_byte.l0 k l0 l1 (l0.length : Int) 0) else (some false)
set_option maxHeartbeats 8000000 in
set_option maxRecDepth 100000 in
theorem slices_Equal_byte_byte.calls (k : Nat) (A0 : Option Addr) (c0 : Nat) (l0 : List Int) (A1 : Option Addr) (c1 : Nat) (l1 : List Int) (r : Bool) (w : World) (hr0 : Kd.C (Kd.int .u8) w A0 l0.length l0) (hc0 : l0.length ≤ c0) (hr1 : Kd.C (Kd.int .u8) w A1 l1.length l1) (hc1 : l1.length ≤ c1) (h : slices_Equal_byte_byte.f k l0 l1 = some r) :
    Calls Try.prog 28 #[.slice A0 l0.length c0, .slice A1 l1.length c1] w fun e w' => e = .returned (.bool r) ∧ Drawn0 w w' := by
  have HR0 := Aside0.mk hr0
  have HC0 := Aside0.mk hc0
  clear hr0 hc0
  have HR1 := Aside0.mk hr1
  have HC1 := Aside0.mk hc1
  clear hr1 hc1
  have H : (if (l0.length : Int) = (l1.length : Int) then (slices_Equal_byte_byte.l0 k l0 l1 (l0.length : Int) 0) else (some false)) = some r := h
  clear h
  by_cases c3 : (l0.length : Int) = (l1.length : Int)
  · rw [if_pos c3] at H
    have c3b0 : ((l0.length : Int) == (l1.length : Int)) = true := beq_iff_eq.mpr c3
    have c3b1 : ((l0.length : Int) != (l1.length : Int)) = false := bne_eq_false_iff_eq.mpr c3
    have c3b2 : (l0.length == l1.length) = true := by first | simpa using c3 | (simp at c3 ⊢; omega)
    clear c3
    have H' := Aside0.mk H
    clear H
    go_enter Try.func28, Try.ntmps28
    go_wp2
    repeat (go_quiet (fail); try go_wp2)
    go_loopg [13] k (fun kq v13 w' => ∃ (x13_1 : Int), v13 = .int .i64 x13_1 ∧ Aside0 (slices_Equal_byte_byte.l0 kq l0 l1 (l0.length : Int) x13_1 = some r) ∧ Aside0 (kq ≤ k) ∧ Drawn0 w w')
    case atStart => exact ⟨(0), (by first | rfl | (simp; done) | (simp [*]; done)), H', ⟨Nat.le_refl _⟩, by repeat (first | exact Drawn0.refl _ | apply Drawn0.step)⟩
    case round =>
      clear H'
      try clear c1
      try clear c2
      try clear p2
      try clear c3
      try clear c3b0
      try clear c3b1
      try clear c3b2
      obtain ⟨x13_1, rfl, HA, HK1, ⟨m1, rfl⟩⟩ := hrel
      cases gk with
      | zero => exact absurd HA.out (by simp [slices_Equal_byte_byte.l0])
      | succ k1 =>
        have H := HA.out
        clear HA
        simp only [slices_Equal_byte_byte.l0] at H
        by_cases c4 : x13_1 < (l0.length : Int)
        · rw [if_pos c4] at H
          have c4b0 : decide (x13_1 < (l0.length : Int)) = true := decide_eq_true c4
          clear c4
          by_cases c5 : 0 ≤ x13_1
          · rw [if_pos c5] at H
            have c5b0 : decide (0 ≤ x13_1) = true := decide_eq_true c5
            clear c5
            by_cases c6 : x13_1 < (l0.length : Int)
            · rw [if_pos c6] at H
              have c6b0 : decide (x13_1 < (l0.length : Int)) = true := decide_eq_true c6
              clear c6
              by_cases c7 : x13_1 < (l1.length : Int)
              · rw [if_pos c7] at H
                have c7b0 : decide (x13_1 < (l1.length : Int)) = true := decide_eq_true c7
                clear c7
                by_cases c8 : (rd l0 x13_1) = (rd l1 x13_1)
                · rw [if_pos c8] at H
                  have c8b0 : ((rd l0 x13_1) == (rd l1 x13_1)) = true := beq_iff_eq.mpr c8
                  have c8b1 : ((rd l0 x13_1) != (rd l1 x13_1)) = false := bne_eq_false_iff_eq.mpr c8
                  clear c8
                  have H' := Aside0.mk H
                  clear H
                  have p104 : 0 ≤ (x13_1 : Int) := of_decide_eq_true (by first | (with_reducible assumption) | assumption)
                  have q104 : x13_1 < (l0.length : Int) := of_decide_eq_true (by first | (with_reducible assumption) | assumption)
                  obtain ⟨ad104, e104, hx104_0⟩ := Kd.at_int HR0.out x13_1 p104 q104
                  cases e104
                  replace p104 := eq_true p104
                  replace q104 := eq_true q104
                  have p105 : 0 ≤ (x13_1 : Int) := of_decide_eq_true (by first | (with_reducible assumption) | assumption)
                  have q105 : x13_1 < (l1.length : Int) := of_decide_eq_true (by first | (with_reducible assumption) | assumption)
                  obtain ⟨ad105, e105, hx105_0⟩ := Kd.at_int HR1.out x13_1 p105 q105
                  cases e105
                  replace p105 := eq_true p105
                  replace q105 := eq_true q105
                  go_wp2
                  repeat (go_quiet (fail); try go_wp2)
                  go_roundg k1
                  case measure => have := HK1.out; omega
                  case rel => exact ⟨(wrap64 (x13_1 + 1)), (by first | rfl | (simp; done) | (simp [*]; done)), H', ⟨by have := HK1.out; omega⟩, by repeat (first | exact Drawn0.refl _ | apply Drawn0.step)⟩
                · rw [if_neg c8] at H
                  have c8b0 : ((rd l0 x13_1) == (rd l1 x13_1)) = false := beq_eq_false_iff_ne.mpr c8
                  have c8b1 : ((rd l0 x13_1) != (rd l1 x13_1)) = true := bne_iff_ne.mpr c8
                  obtain rfl := Option.some.inj H
                  have p104 : 0 ≤ (x13_1 : Int) := of_decide_eq_true (by first | (with_reducible assumption) | assumption)
                  have q104 : x13_1 < (l0.length : Int) := of_decide_eq_true (by first | (with_reducible assumption) | assumption)
                  obtain ⟨ad104, e104, hx104_0⟩ := Kd.at_int HR0.out x13_1 p104 q104
                  cases e104
                  replace p104 := eq_true p104
                  replace q104 := eq_true q104
                  have p105 : 0 ≤ (x13_1 : Int) := of_decide_eq_true (by first | (with_reducible assumption) | assumption)
                  have q105 : x13_1 < (l1.length : Int) := of_decide_eq_true (by first | (with_reducible assumption) | assumption)
                  obtain ⟨ad105, e105, hx105_0⟩ := Kd.at_int HR1.out x13_1 p105 q105
                  cases e105
                  replace p105 := eq_true p105
                  replace q105 := eq_true q105
                  go_wp2
                  repeat (go_quiet (fail); try go_wp2)
                  go_ret
                  exact ⟨by first | rfl | (simp; done) | (simp [*]; done), by repeat (first | exact Drawn0.refl _ | apply Drawn0.step)⟩
              · rw [if_neg c7] at H
                exact absurd H (by simp)
            · rw [if_neg c6] at H
              exact absurd H (by simp)
          · rw [if_neg c5] at H
            exact absurd H (by simp)
        · rw [if_neg c4] at H
          have c4b0 : decide (x13_1 < (l0.length : Int)) = false := decide_eq_false c4
          clear c4
          obtain rfl := Option.some.inj H
          go_wp2
          repeat (go_quiet (fail); try go_wp2)
          go_ret
          exact ⟨by first | rfl | (simp; done) | (simp [*]; done), by repeat (first | exact Drawn0.refl _ | apply Drawn0.step)⟩
  · rw [if_neg c3] at H
    have c3b0 : ((l0.length : Int) == (l1.length : Int)) = false := beq_eq_false_iff_ne.mpr c3
    have c3b1 : ((l0.length : Int) != (l1.length : Int)) = true := bne_iff_ne.mpr c3
    have c3b2 : (l0.length == l1.length) = false := by first | simpa using c3 | (simp at c3 ⊢; omega)
    obtain rfl := Option.some.inj H
    go_enter Try.func28, Try.ntmps28
    go_wp2
    repeat (go_quiet (fail); try go_wp2)
    go_ret
    exact ⟨by first | rfl | (simp; done) | (simp [*]; done), by repeat (first | exact Drawn0.refl _ | apply Drawn0.step)⟩

def provisoplain_Untouched.f (k : Nat) (l0 : List Int) (l1 : List Int) : Option (Bool) := if 0 ≤ (l1.length : Int) then (if (l1.length : Int) ≤ (l0.length : Int) then ((slices_Equal_byte_byte.f k (l0.take ((l1.length : Int) : Int).toNat) l1).bind fun t107 => (if t107 = true then (if (l1.length : Int) < (l0.length : Int) then (if (rd l0 (l1.length : Int)) = 165 then (if 0 ≤ (wrap64 ((l1.length : Int) + 1)) then (if (wrap64 ((l1.length : Int) + 1)) < (l0.length : Int) then (if (rd l0 (wrap64 ((l1.length : Int) + 1))) = 90 then (if 0 ≤ (wrap64 ((l1.length : Int) + 2)) then (if (wrap64 ((l1.length : Int) + 2)) < (l0.length : Int) then (if (rd l0 (wrap64 ((l1.length : Int) + 2))) = 195 then (if 0 ≤ (wrap64 ((l1.length : Int) + 3)) then (if (wrap64 ((l1.length : Int) + 3)) < (l0.length : Int) then (some ((rd l0 (wrap64 ((l1.length : Int) + 3))) == 60)) else (none)) else (none)) else (some false)) else (none)) else (none)) else (some false)) else (none)) else (none)) else (some false)) else (none)) else (some false))) else (none)) else (none)
set_option maxHeartbeats 8000000 in
set_option maxRecDepth 100000 in
theorem provisoplain_Untouched.calls (k : Nat) (A0 : Option Addr) (c0 : Nat) (l0 : List Int) (A1 : Option Addr) (c1 : Nat) (l1 : List Int) (r : Bool) (w : World) (hr0 : Kd.C (Kd.int .u8) w A0 l0.length l0) (hc0 : l0.length ≤ c0) (hr1 : Kd.C (Kd.int .u8) w A1 l1.length l1) (hc1 : l1.length ≤ c1) (h : provisoplain_Untouched.f k l0 l1 = some r) :
    Calls Try.prog 16 #[.slice A0 l0.length c0, .slice A1 l1.length c1] w fun e w' => e = .returned (.bool r) ∧ Drawn0 w w' := by
  have HR0 := Aside0.mk hr0
  have HC0 := Aside0.mk hc0
  clear hr0 hc0
  have HR1 := Aside0.mk hr1
  have HC1 := Aside0.mk hc1
  clear hr1 hc1
  have H : (if 0 ≤ (l1.length : Int) then (if (l1.length : Int) ≤ (l0.length : Int) then ((slices_Equal_byte_byte.f k (l0.take ((l1.length : Int) : Int).toNat) l1).bind fun t107 => (if t107 = true then (if (l1.length : Int) < (l0.length : Int) then (if (rd l0 (l1.length : Int)) = 165 then (if 0 ≤ (wrap64 ((l1.length : Int) + 1)) then (if (wrap64 ((l1.length : Int) + 1)) < (l0.length : Int) then (if (rd l0 (wrap64 ((l1.length : Int) + 1))) = 90 then (if 0 ≤ (wrap64 ((l1.length : Int) + 2)) then (if (wrap64 ((l1.length : Int) + 2)) < (l0.length : Int) then (if (rd l0 (wrap64 ((l1.length : Int) + 2))) = 195 then (if 0 ≤ (wrap64 ((l1.length : Int) + 3)) then (if (wrap64 ((l1.length : Int) + 3)) < (l0.length : Int) then (some ((rd l0 (wrap64 ((l1.length : Int) + 3))) == 60)) else (none)) else (none)) else (some false)) else (none)) else (none)) else (some false)) else (none)) else (none)) else (some false)) else (none)) else (some false))) else (none)) else (none)) = some r := h
  clear h
  by_cases c3 : 0 ≤ (l1.length : Int)
  · rw [if_pos c3] at H
    have c3b0 := eq_true c3
    have c3b1 : decide (0 ≤ (l1.length : Int)) = true := decide_eq_true c3
    clear c3
    by_cases c4 : (l1.length : Int) ≤ (l0.length : Int)
    · rw [if_pos c4] at H
      have c4b0 := eq_true c4
      have c4b1 : decide ((l1.length : Int) ≤ (l0.length : Int)) = true := decide_eq_true c4
      clear c4
      replace H := Option.bind_eq_some_iff.mp H
      obtain ⟨t107, A50, H⟩ := H
      replace H : (if t107 = true then (if (l1.length : Int) < (l0.length : Int) then (if (rd l0 (l1.length : Int)) = 165 then (if 0 ≤ (wrap64 ((l1.length : Int) + 1)) then (if (wrap64 ((l1.length : Int) + 1)) < (l0.length : Int) then (if (rd l0 (wrap64 ((l1.length : Int) + 1))) = 90 then (if 0 ≤ (wrap64 ((l1.length : Int) + 2)) then (if (wrap64 ((l1.length : Int) + 2)) < (l0.length : Int) then (if (rd l0 (wrap64 ((l1.length : Int) + 2))) = 195 then (if 0 ≤ (wrap64 ((l1.length : Int) + 3)) then (if (wrap64 ((l1.length : Int) + 3)) < (l0.length : Int) then (some ((rd l0 (wrap64 ((l1.length : Int) + 3))) == 60)) else (none)) else (none)) else (some false)) else (none)) else (none)) else (some false)) else (none)) else (none)) else (some false)) else (none)) else (some false)) = some r := H
      have A5 := Aside0.mk A50
      clear A50
      by_cases c6 : t107 = true
      · subst c6
        have H1 : (if (l1.length : Int) < (l0.length : Int) then (if (rd l0 (l1.length : Int)) = 165 then (if 0 ≤ (wrap64 ((l1.length : Int) + 1)) then (if (wrap64 ((l1.length : Int) + 1)) < (l0.length : Int) then (if (rd l0 (wrap64 ((l1.length : Int) + 1))) = 90 then (if 0 ≤ (wrap64 ((l1.length : Int) + 2)) then (if (wrap64 ((l1.length : Int) + 2)) < (l0.length : Int) then (if (rd l0 (wrap64 ((l1.length : Int) + 2))) = 195 then (if 0 ≤ (wrap64 ((l1.length : Int) + 3)) then (if (wrap64 ((l1.length : Int) + 3)) < (l0.length : Int) then (some ((rd l0 (wrap64 ((l1.length : Int) + 3))) == 60)) else (none)) else (none)) else (some false)) else (none)) else (none)) else (some false)) else (none)) else (none)) else (some false)) else (none)) = some r := by rw [if_pos rfl] at H; exact H
        clear H
        have H := H1
        clear H1
        by_cases c7 : (l1.length : Int) < (l0.length : Int)
        · rw [if_pos c7] at H
          have c7b0 : decide ((l1.length : Int) < (l0.length : Int)) = true := decide_eq_true c7
          have c7b1 : decide (l1.length < l0.length) = true := decide_eq_true (Int.ofNat_lt.mp c7)
          clear c7
          by_cases c8 : (rd l0 (l1.length : Int)) = 165
          · rw [if_pos c8] at H
            have c8b0 : ((rd l0 (l1.length : Int)) == 165) = true := beq_iff_eq.mpr c8
            have c8b1 : ((rd l0 (l1.length : Int)) != 165) = false := bne_eq_false_iff_eq.mpr c8
            clear c8
            obtain ⟨ji9, hji9⟩ : ∃ j_ : Int, (wrap64 ((l1.length : Int) + 1)) = j_ := ⟨_, rfl⟩
            replace H : (if 0 ≤ (ji9) then (if (ji9) < (l0.length : Int) then (if (rd l0 (ji9)) = 90 then (if 0 ≤ (wrap64 ((l1.length : Int) + 2)) then (if (wrap64 ((l1.length : Int) + 2)) < (l0.length : Int) then (if (rd l0 (wrap64 ((l1.length : Int) + 2))) = 195 then (if 0 ≤ (wrap64 ((l1.length : Int) + 3)) then (if (wrap64 ((l1.length : Int) + 3)) < (l0.length : Int) then (some ((rd l0 (wrap64 ((l1.length : Int) + 3))) == 60)) else (none)) else (none)) else (some false)) else (none)) else (none)) else (some false)) else (none)) else (none)) = some r := by first | (rw [hji9] at H; exact H) | (simp only [hji9] at H ⊢; exact H)
            (try rw [hji9] at A5)
            have hji9w : (IntKind.i64.wrap ((l1.length : Int) + 1)) = ji9 := (i64_w _).trans hji9
            by_cases c10 : 0 ≤ (ji9)
            · rw [if_pos c10] at H
              have c10b0 : decide (0 ≤ (ji9)) = true := decide_eq_true c10
              clear c10
              by_cases c11 : (ji9) < (l0.length : Int)
              · rw [if_pos c11] at H
                have c11b0 : decide ((ji9) < (l0.length : Int)) = true := decide_eq_true c11
                clear c11
                by_cases c12 : (rd l0 (ji9)) = 90
                · rw [if_pos c12] at H
                  have c12b0 : ((rd l0 (ji9)) == 90) = true := beq_iff_eq.mpr c12
                  have c12b1 : ((rd l0 (ji9)) != 90) = false := bne_eq_false_iff_eq.mpr c12
                  clear c12
                  obtain ⟨ji13, hji13⟩ : ∃ j_ : Int, (wrap64 ((l1.length : Int) + 2)) = j_ := ⟨_, rfl⟩
                  replace H : (if 0 ≤ (ji13) then (if (ji13) < (l0.length : Int) then (if (rd l0 (ji13)) = 195 then (if 0 ≤ (wrap64 ((l1.length : Int) + 3)) then (if (wrap64 ((l1.length : Int) + 3)) < (l0.length : Int) then (some ((rd l0 (wrap64 ((l1.length : Int) + 3))) == 60)) else (none)) else (none)) else (some false)) else (none)) else (none)) = some r := by first | (rw [hji13] at H; exact H) | (simp only [hji13] at H ⊢; exact H)
                  (try rw [hji13] at A5)
                  have hji13w : (IntKind.i64.wrap ((l1.length : Int) + 2)) = ji13 := (i64_w _).trans hji13
                  by_cases c14 : 0 ≤ (ji13)
                  · rw [if_pos c14] at H
                    have c14b0 : decide (0 ≤ (ji13)) = true := decide_eq_true c14
                    clear c14
                    by_cases c15 : (ji13) < (l0.length : Int)
                    · rw [if_pos c15] at H
                      have c15b0 : decide ((ji13) < (l0.length : Int)) = true := decide_eq_true c15
                      clear c15
                      by_cases c16 : (rd l0 (ji13)) = 195
                      · rw [if_pos c16] at H
                        have c16b0 : ((rd l0 (ji13)) == 195) = true := beq_iff_eq.mpr c16
                        have c16b1 : ((rd l0 (ji13)) != 195) = false := bne_eq_false_iff_eq.mpr c16
                        clear c16
                        obtain ⟨ji17, hji17⟩ : ∃ j_ : Int, (wrap64 ((l1.length : Int) + 3)) = j_ := ⟨_, rfl⟩
                        replace H : (if 0 ≤ (ji17) then (if (ji17) < (l0.length : Int) then (some ((rd l0 (ji17)) == 60)) else (none)) else (none)) = some r := by first | (rw [hji17] at H; exact H) | (simp only [hji17] at H ⊢; exact H)
                        (try rw [hji17] at A5)
                        have hji17w : (IntKind.i64.wrap ((l1.length : Int) + 3)) = ji17 := (i64_w _).trans hji17
                        by_cases c18 : 0 ≤ (ji17)
                        · rw [if_pos c18] at H
                          have c18b0 : decide (0 ≤ (ji17)) = true := decide_eq_true c18
                          clear c18
                          by_cases c19 : (ji17) < (l0.length : Int)
                          · rw [if_pos c19] at H
                            have c19b0 : decide ((ji17) < (l0.length : Int)) = true := decide_eq_true c19
                            clear c19
                            obtain rfl := Option.some.inj H
                            obtain ⟨i020, hi020, _, hsz20, _⟩ := info_parts info5
                            obtain ⟨hcut20, hA20, hC20⟩ := print_take_of (P := Try.prog) (Value.int .u8) 0 23 5 .i64 Try.underlying23 hi020 hsz20 A0 c0 l0 (l1.length : Int) (of_decide_eq_true (by first | (with_reducible assumption) | assumption)) (of_decide_eq_true (by first | (with_reducible assumption) | assumption)) HC0.out
                            have HR106 := Aside0.mk (Kd.C_of_reads (h1 := fun _ => rfl) (hA20 _ (Kd.reads_of_C HR0.out)))
                            have HC106 := Aside0.mk hC20
                            clear hA20 hC20 hi020 hsz20
                            go_enter Try.func16, Try.ntmps16
                            go_wp2_with (first | ((with_reducible refine gate_callee (f := 28) rfl ?_); refine goesL_ (some 12) rfl rfl Try.func28 (by kernel_rfl) rfl #[.slice A0 (l0.take ((l1.length : Int) : Int).toNat).length c0, .slice A1 l1.length c1] rfl (by (try simp only [List.map_toArray, List.map_cons, List.map_nil]); first | done | (rw [show (l0.take ((l1.length : Int) : Int).toNat).length = (l1.length : Int).toNat from (by rw [List.length_take]; have h_ : ((l1.length : Int) : Int) ≤ (l0.length : Int) := of_decide_eq_true (by first | (with_reducible assumption) | assumption); omega)] <;> rfl) | rfl | (simp only [List.length_drop, List.length_take]; rfl)) ?_; (with_reducible refine (slices_Equal_byte_byte.calls k _ _ (l0.take ((l1.length : Int) : Int).toNat) _ _ l1 true _ ?side1 ?side2 ?side3 ?side4 A5.out).mono ?_); (case side1 => repeat (first | exact HR106.out | (with_reducible refine Kd.C_alloc ?_ _) | (with_reducible refine Kd.C_drewN ?_ _) | (with_reducible refine Kd.C_drew ?_))); (case side2 => exact HC106.out); (case side3 => repeat (first | exact HR1.out | (with_reducible refine Kd.C_alloc ?_ _) | (with_reducible refine Kd.C_drewN ?_ _) | (with_reducible refine Kd.C_drew ?_))); (case side4 => exact HC1.out); rintro e w' ⟨rfl, ⟨nd, rfl⟩⟩; refine ⟨_, rfl, ?_⟩; have p108 : 0 ≤ ((l1.length : Int) : Int) := of_decide_eq_true (by first | (with_reducible assumption) | assumption); have q108 : (l1.length : Int) < (l0.length : Int) := of_decide_eq_true (by first | (with_reducible assumption) | assumption); obtain ⟨ad108, e108, hx108_0⟩ := Kd.at_int HR0.out (l1.length : Int) p108 q108; cases e108; (try simp only [Go.IntWalk.toNatUp] at hx108_0); replace p108 := eq_true p108; replace q108 := eq_true q108; have p109 : 0 ≤ ((ji9) : Int) := of_decide_eq_true (by first | (with_reducible assumption) | assumption); have q109 : (ji9) < (l0.length : Int) := of_decide_eq_true (by first | (with_reducible assumption) | assumption); obtain ⟨ad109, e109, hx109_0⟩ := Kd.at_int HR0.out (ji9) p109 q109; obtain rfl : ad108 = ad109 := (by injection e109); replace p109 := eq_true p109; replace q109 := eq_true q109; have p110 : 0 ≤ ((ji13) : Int) := of_decide_eq_true (by first | (with_reducible assumption) | assumption); have q110 : (ji13) < (l0.length : Int) := of_decide_eq_true (by first | (with_reducible assumption) | assumption); obtain ⟨ad110, e110, hx110_0⟩ := Kd.at_int HR0.out (ji13) p110 q110; obtain rfl : ad108 = ad110 := (by injection e110); replace p110 := eq_true p110; replace q110 := eq_true q110; have p111 : 0 ≤ ((ji17) : Int) := of_decide_eq_true (by first | (with_reducible assumption) | assumption); have q111 : (ji17) < (l0.length : Int) := of_decide_eq_true (by first | (with_reducible assumption) | assumption); obtain ⟨ad111, e111, hx111_0⟩ := Kd.at_int HR0.out (ji17) p111 q111; obtain rfl : ad108 = ad111 := (by injection e111); replace p111 := eq_true p111; replace q111 := eq_true q111))
                            go_ret
                            exact ⟨by first | rfl | (simp; done) | (simp only [← hji9, ← hji13, ← hji17] <;> (first | rfl | simp)) | (simp [*]; done), by repeat (first | exact Drawn0.refl _ | apply Drawn0.step)⟩
                          · rw [if_neg c19] at H
                            exact absurd H (by simp)
                        · rw [if_neg c18] at H
                          exact absurd H (by simp)
                      · rw [if_neg c16] at H
                        have c16b0 : ((rd l0 (ji13)) == 195) = false := beq_eq_false_iff_ne.mpr c16
                        have c16b1 : ((rd l0 (ji13)) != 195) = true := bne_iff_ne.mpr c16
                        obtain rfl := Option.some.inj H
                        obtain ⟨i021, hi021, _, hsz21, _⟩ := info_parts info5
                        obtain ⟨hcut21, hA21, hC21⟩ := print_take_of (P := Try.prog) (Value.int .u8) 0 23 5 .i64 Try.underlying23 hi021 hsz21 A0 c0 l0 (l1.length : Int) (of_decide_eq_true (by first | (with_reducible assumption) | assumption)) (of_decide_eq_true (by first | (with_reducible assumption) | assumption)) HC0.out
                        have HR106 := Aside0.mk (Kd.C_of_reads (h1 := fun _ => rfl) (hA21 _ (Kd.reads_of_C HR0.out)))
                        have HC106 := Aside0.mk hC21
                        clear hA21 hC21 hi021 hsz21
                        go_enter Try.func16, Try.ntmps16
                        go_wp2_with (first | ((with_reducible refine gate_callee (f := 28) rfl ?_); refine goesL_ (some 12) rfl rfl Try.func28 (by kernel_rfl) rfl #[.slice A0 (l0.take ((l1.length : Int) : Int).toNat).length c0, .slice A1 l1.length c1] rfl (by (try simp only [List.map_toArray, List.map_cons, List.map_nil]); first | done | (rw [show (l0.take ((l1.length : Int) : Int).toNat).length = (l1.length : Int).toNat from (by rw [List.length_take]; have h_ : ((l1.length : Int) : Int) ≤ (l0.length : Int) := of_decide_eq_true (by first | (with_reducible assumption) | assumption); omega)] <;> rfl) | rfl | (simp only [List.length_drop, List.length_take]; rfl)) ?_; (with_reducible refine (slices_Equal_byte_byte.calls k _ _ (l0.take ((l1.length : Int) : Int).toNat) _ _ l1 true _ ?side1 ?side2 ?side3 ?side4 A5.out).mono ?_); (case side1 => repeat (first | exact HR106.out | (with_reducible refine Kd.C_alloc ?_ _) | (with_reducible refine Kd.C_drewN ?_ _) | (with_reducible refine Kd.C_drew ?_))); (case side2 => exact HC106.out); (case side3 => repeat (first | exact HR1.out | (with_reducible refine Kd.C_alloc ?_ _) | (with_reducible refine Kd.C_drewN ?_ _) | (with_reducible refine Kd.C_drew ?_))); (case side4 => exact HC1.out); rintro e w' ⟨rfl, ⟨nd, rfl⟩⟩; refine ⟨_, rfl, ?_⟩; have p108 : 0 ≤ ((l1.length : Int) : Int) := of_decide_eq_true (by first | (with_reducible assumption) | assumption); have q108 : (l1.length : Int) < (l0.length : Int) := of_decide_eq_true (by first | (with_reducible assumption) | assumption); obtain ⟨ad108, e108, hx108_0⟩ := Kd.at_int HR0.out (l1.length : Int) p108 q108; cases e108; (try simp only [Go.IntWalk.toNatUp] at hx108_0); replace p108 := eq_true p108; replace q108 := eq_true q108; have p109 : 0 ≤ ((ji9) : Int) := of_decide_eq_true (by first | (with_reducible assumption) | assumption); have q109 : (ji9) < (l0.length : Int) := of_decide_eq_true (by first | (with_reducible assumption) | assumption); obtain ⟨ad109, e109, hx109_0⟩ := Kd.at_int HR0.out (ji9) p109 q109; obtain rfl : ad108 = ad109 := (by injection e109); replace p109 := eq_true p109; replace q109 := eq_true q109; have p110 : 0 ≤ ((ji13) : Int) := of_decide_eq_true (by first | (with_reducible assumption) | assumption); have q110 : (ji13) < (l0.length : Int) := of_decide_eq_true (by first | (with_reducible assumption) | assumption); obtain ⟨ad110, e110, hx110_0⟩ := Kd.at_int HR0.out (ji13) p110 q110; obtain rfl : ad108 = ad110 := (by injection e110); replace p110 := eq_true p110; replace q110 := eq_true q110))
                        go_ret
                        exact ⟨by first | rfl | (simp; done) | (simp only [← hji9, ← hji13] <;> (first | rfl | simp)) | (simp [*]; done), by repeat (first | exact Drawn0.refl _ | apply Drawn0.step)⟩
                    · rw [if_neg c15] at H
                      exact absurd H (by simp)
                  · rw [if_neg c14] at H
                    exact absurd H (by simp)
                · rw [if_neg c12] at H
                  have c12b0 : ((rd l0 (ji9)) == 90) = false := beq_eq_false_iff_ne.mpr c12
                  have c12b1 : ((rd l0 (ji9)) != 90) = true := bne_iff_ne.mpr c12
                  obtain rfl := Option.some.inj H
                  obtain ⟨i022, hi022, _, hsz22, _⟩ := info_parts info5
                  obtain ⟨hcut22, hA22, hC22⟩ := print_take_of (P := Try.prog) (Value.int .u8) 0 23 5 .i64 Try.underlying23 hi022 hsz22 A0 c0 l0 (l1.length : Int) (of_decide_eq_true (by first | (with_reducible assumption) | assumption)) (of_decide_eq_true (by first | (with_reducible assumption) | assumption)) HC0.out
                  have HR106 := Aside0.mk (Kd.C_of_reads (h1 := fun _ => rfl) (hA22 _ (Kd.reads_of_C HR0.out)))
                  have HC106 := Aside0.mk hC22
                  clear hA22 hC22 hi022 hsz22
                  go_enter Try.func16, Try.ntmps16
                  go_wp2_with (first | ((with_reducible refine gate_callee (f := 28) rfl ?_); refine goesL_ (some 12) rfl rfl Try.func28 (by kernel_rfl) rfl #[.slice A0 (l0.take ((l1.length : Int) : Int).toNat).length c0, .slice A1 l1.length c1] rfl (by (try simp only [List.map_toArray, List.map_cons, List.map_nil]); first | done | (rw [show (l0.take ((l1.length : Int) : Int).toNat).length = (l1.length : Int).toNat from (by rw [List.length_take]; have h_ : ((l1.length : Int) : Int) ≤ (l0.length : Int) := of_decide_eq_true (by first | (with_reducible assumption) | assumption); omega)] <;> rfl) | rfl | (simp only [List.length_drop, List.length_take]; rfl)) ?_; (with_reducible refine (slices_Equal_byte_byte.calls k _ _ (l0.take ((l1.length : Int) : Int).toNat) _ _ l1 true _ ?side1 ?side2 ?side3 ?side4 A5.out).mono ?_); (case side1 => repeat (first | exact HR106.out | (with_reducible refine Kd.C_alloc ?_ _) | (with_reducible refine Kd.C_drewN ?_ _) | (with_reducible refine Kd.C_drew ?_))); (case side2 => exact HC106.out); (case side3 => repeat (first | exact HR1.out | (with_reducible refine Kd.C_alloc ?_ _) | (with_reducible refine Kd.C_drewN ?_ _) | (with_reducible refine Kd.C_drew ?_))); (case side4 => exact HC1.out); rintro e w' ⟨rfl, ⟨nd, rfl⟩⟩; refine ⟨_, rfl, ?_⟩; have p108 : 0 ≤ ((l1.length : Int) : Int) := of_decide_eq_true (by first | (with_reducible assumption) | assumption); have q108 : (l1.length : Int) < (l0.length : Int) := of_decide_eq_true (by first | (with_reducible assumption) | assumption); obtain ⟨ad108, e108, hx108_0⟩ := Kd.at_int HR0.out (l1.length : Int) p108 q108; cases e108; (try simp only [Go.IntWalk.toNatUp] at hx108_0); replace p108 := eq_true p108; replace q108 := eq_true q108; have p109 : 0 ≤ ((ji9) : Int) := of_decide_eq_true (by first | (with_reducible assumption) | assumption); have q109 : (ji9) < (l0.length : Int) := of_decide_eq_true (by first | (with_reducible assumption) | assumption); obtain ⟨ad109, e109, hx109_0⟩ := Kd.at_int HR0.out (ji9) p109 q109; obtain rfl : ad108 = ad109 := (by injection e109); replace p109 := eq_true p109; replace q109 := eq_true q109))
                  go_ret
                  exact ⟨by first | rfl | (simp; done) | (simp only [← hji9] <;> (first | rfl | simp)) | (simp [*]; done), by repeat (first | exact Drawn0.refl _ | apply Drawn0.step)⟩
              · rw [if_neg c11] at H
                exact absurd H (by simp)
            · rw [if_neg c10] at H
              exact absurd H (by simp)
          · rw [if_neg c8] at H
            have c8b0 : ((rd l0 (l1.length : Int)) == 165) = false := beq_eq_false_iff_ne.mpr c8
            have c8b1 : ((rd l0 (l1.length : Int)) != 165) = true := bne_iff_ne.mpr c8
            obtain rfl := Option.some.inj H
            obtain ⟨i023, hi023, _, hsz23, _⟩ := info_parts info5
            obtain ⟨hcut23, hA23, hC23⟩ := print_take_of (P := Try.prog) (Value.int .u8) 0 23 5 .i64 Try.underlying23 hi023 hsz23 A0 c0 l0 (l1.length : Int) (of_decide_eq_true (by first | (with_reducible assumption) | assumption)) (of_decide_eq_true (by first | (with_reducible assumption) | assumption)) HC0.out
            have HR106 := Aside0.mk (Kd.C_of_reads (h1 := fun _ => rfl) (hA23 _ (Kd.reads_of_C HR0.out)))
            have HC106 := Aside0.mk hC23
            clear hA23 hC23 hi023 hsz23
            go_enter Try.func16, Try.ntmps16
            go_wp2_with (first | ((with_reducible refine gate_callee (f := 28) rfl ?_); refine goesL_ (some 12) rfl rfl Try.func28 (by kernel_rfl) rfl #[.slice A0 (l0.take ((l1.length : Int) : Int).toNat).length c0, .slice A1 l1.length c1] rfl (by (try simp only [List.map_toArray, List.map_cons, List.map_nil]); first | done | (rw [show (l0.take ((l1.length : Int) : Int).toNat).length = (l1.length : Int).toNat from (by rw [List.length_take]; have h_ : ((l1.length : Int) : Int) ≤ (l0.length : Int) := of_decide_eq_true (by first | (with_reducible assumption) | assumption); omega)] <;> rfl) | rfl | (simp only [List.length_drop, List.length_take]; rfl)) ?_; (with_reducible refine (slices_Equal_byte_byte.calls k _ _ (l0.take ((l1.length : Int) : Int).toNat) _ _ l1 true _ ?side1 ?side2 ?side3 ?side4 A5.out).mono ?_); (case side1 => repeat (first | exact HR106.out | (with_reducible refine Kd.C_alloc ?_ _) | (with_reducible refine Kd.C_drewN ?_ _) | (with_reducible refine Kd.C_drew ?_))); (case side2 => exact HC106.out); (case side3 => repeat (first | exact HR1.out | (with_reducible refine Kd.C_alloc ?_ _) | (with_reducible refine Kd.C_drewN ?_ _) | (with_reducible refine Kd.C_drew ?_))); (case side4 => exact HC1.out); rintro e w' ⟨rfl, ⟨nd, rfl⟩⟩; refine ⟨_, rfl, ?_⟩; have p108 : 0 ≤ ((l1.length : Int) : Int) := of_decide_eq_true (by first | (with_reducible assumption) | assumption); have q108 : (l1.length : Int) < (l0.length : Int) := of_decide_eq_true (by first | (with_reducible assumption) | assumption); obtain ⟨ad108, e108, hx108_0⟩ := Kd.at_int HR0.out (l1.length : Int) p108 q108; cases e108; (try simp only [Go.IntWalk.toNatUp] at hx108_0); replace p108 := eq_true p108; replace q108 := eq_true q108))
            go_ret
            exact ⟨by first | rfl | (simp; done) | (simp [*]; done), by repeat (first | exact Drawn0.refl _ | apply Drawn0.step)⟩
        · rw [if_neg c7] at H
          exact absurd H (by simp)
      · replace c6 := Bool.eq_false_iff.mpr c6
        subst c6
        have H1 : (some false) = some r := by rw [if_neg (show ¬ (false = true) by decide)] at H; exact H
        clear H
        have H := H1
        clear H1
        obtain rfl := Option.some.inj H
        obtain ⟨i024, hi024, _, hsz24, _⟩ := info_parts info5
        obtain ⟨hcut24, hA24, hC24⟩ := print_take_of (P := Try.prog) (Value.int .u8) 0 23 5 .i64 Try.underlying23 hi024 hsz24 A0 c0 l0 (l1.length : Int) (of_decide_eq_true (by first | (with_reducible assumption) | assumption)) (of_decide_eq_true (by first | (with_reducible assumption) | assumption)) HC0.out
        have HR106 := Aside0.mk (Kd.C_of_reads (h1 := fun _ => rfl) (hA24 _ (Kd.reads_of_C HR0.out)))
        have HC106 := Aside0.mk hC24
        clear hA24 hC24 hi024 hsz24
        go_enter Try.func16, Try.ntmps16
        go_wp2_with (first | ((with_reducible refine gate_callee (f := 28) rfl ?_); refine goesL_ (some 12) rfl rfl Try.func28 (by kernel_rfl) rfl #[.slice A0 (l0.take ((l1.length : Int) : Int).toNat).length c0, .slice A1 l1.length c1] rfl (by (try simp only [List.map_toArray, List.map_cons, List.map_nil]); first | done | (rw [show (l0.take ((l1.length : Int) : Int).toNat).length = (l1.length : Int).toNat from (by rw [List.length_take]; have h_ : ((l1.length : Int) : Int) ≤ (l0.length : Int) := of_decide_eq_true (by first | (with_reducible assumption) | assumption); omega)] <;> rfl) | rfl | (simp only [List.length_drop, List.length_take]; rfl)) ?_; (with_reducible refine (slices_Equal_byte_byte.calls k _ _ (l0.take ((l1.length : Int) : Int).toNat) _ _ l1 false _ ?side1 ?side2 ?side3 ?side4 A5.out).mono ?_); (case side1 => repeat (first | exact HR106.out | (with_reducible refine Kd.C_alloc ?_ _) | (with_reducible refine Kd.C_drewN ?_ _) | (with_reducible refine Kd.C_drew ?_))); (case side2 => exact HC106.out); (case side3 => repeat (first | exact HR1.out | (with_reducible refine Kd.C_alloc ?_ _) | (with_reducible refine Kd.C_drewN ?_ _) | (with_reducible refine Kd.C_drew ?_))); (case side4 => exact HC1.out); rintro e w' ⟨rfl, ⟨nd, rfl⟩⟩; refine ⟨_, rfl, ?_⟩))
        go_ret
        exact ⟨by first | rfl | (simp; done) | (simp [*]; done), by repeat (first | exact Drawn0.refl _ | apply Drawn0.step)⟩
    · rw [if_neg c4] at H
      exact absurd H (by simp)
  · rw [if_neg c3] at H
    exact absurd H (by simp)

theorem bytes_equal_self (xs : List Int) (hl : xs.length ≤ 9223372036854775807) : ∀ (d i k : Nat), i + d = xs.length → d < k → slices_Equal_byte_byte.l0 k xs xs (xs.length : Int) (i : Int) = some true
  | 0, i, k, hd, hk => by
    obtain ⟨k, rfl⟩ : ∃ m, k = m + 1 := ⟨k - 1, by omega⟩
    simp only [slices_Equal_byte_byte.l0]
    rw [if_neg (by omega)]
  | d + 1, i, k, hd, hk => by
    obtain ⟨k, rfl⟩ : ∃ m, k = m + 1 := ⟨k - 1, by omega⟩
    have hw : wrap64 ((i : Int) + 1) = ((i + 1 : Nat) : Int) := by unfold wrap64; omega
    have ih := bytes_equal_self xs hl d (i + 1) k (by omega) (by omega)
    simp only [slices_Equal_byte_byte.l0]
    rw [if_pos (by omega), if_pos (by omega), if_pos (by omega), if_pos (by omega), if_pos trivial, hw]
    exact ih
theorem bytes_equal_is (xs : List Int) (hl : xs.length ≤ 9223372036854775807) (k : Nat) (hk : xs.length < k) : slices_Equal_byte_byte.f k xs xs = some true := by
  unfold slices_Equal_byte_byte.f
  rw [if_pos rfl]
  exact bytes_equal_self xs hl xs.length 0 k (by omega) hk
theorem untouched_is (xs : List Int) (hl : xs.length ≤ 140737488351232) (k : Nat) (hk : xs.length < k) : provisoplain_Untouched.f k (xs ++ [165, 90, 195, 60]) xs = some true := by
  have ht : (xs ++ [165, 90, 195, 60]).take ((xs.length : Int) : Int).toNat = xs := by
    rw [Int.toNat_natCast, List.take_left]
  have h0 : rd (xs ++ [165, 90, 195, 60]) (xs.length : Int) = 165 := by simp [rd, List.getD_eq_getElem?_getD]
  have h1 : rd (xs ++ [165, 90, 195, 60]) ((xs.length : Int) + 1) = 90 := by
    simp only [rd, List.getD_eq_getElem?_getD, show ((xs.length : Int) + 1).toNat = xs.length + 1 by omega]
    rw [List.getElem?_append_right (by omega), show xs.length + 1 - xs.length = 1 by omega]
    rfl
  have h2 : rd (xs ++ [165, 90, 195, 60]) ((xs.length : Int) + 2) = 195 := by
    simp only [rd, List.getD_eq_getElem?_getD, show ((xs.length : Int) + 2).toNat = xs.length + 2 by omega]
    rw [List.getElem?_append_right (by omega), show xs.length + 2 - xs.length = 2 by omega]
    rfl
  have h3 : rd (xs ++ [165, 90, 195, 60]) ((xs.length : Int) + 3) = 60 := by
    simp only [rd, List.getD_eq_getElem?_getD, show ((xs.length : Int) + 3).toNat = xs.length + 3 by omega]
    rw [List.getElem?_append_right (by omega), show xs.length + 3 - xs.length = 3 by omega]
    rfl
  have hL : (xs ++ [165, 90, 195, 60]).length = xs.length + 4 := by simp
  have w1 : wrap64 ((xs.length : Int) + 1) = (xs.length : Int) + 1 := by unfold wrap64; omega
  have w2 : wrap64 ((xs.length : Int) + 2) = (xs.length : Int) + 2 := by unfold wrap64; omega
  have w3 : wrap64 ((xs.length : Int) + 3) = (xs.length : Int) + 3 := by unfold wrap64; omega
  unfold provisoplain_Untouched.f
  rw [ht, bytes_equal_is xs (by omega) k hk, hL, w1, w2, w3, h0, h1, h2, h3]
  simp only [Option.bind_some, if_true]
  repeat rw [if_pos (by omega)]
  rfl

def provisolaw01_pick.f (a0 : Int) (a1 : Int) : Option (Int) := if (IntKind.u64.wrap (a1)) = 0 then (none) else (some (wrap64 (Int.tmod (IntKind.u64.wrap (a0)) (IntKind.u64.wrap (a1)))))
set_option maxHeartbeats 8000000 in
set_option maxRecDepth 100000 in
theorem provisolaw01_pick.calls (a0 : Int) (a1 : Int) (r : Int) (w : World) (h : provisolaw01_pick.f a0 a1 = some r) :
    Calls Try.prog 18 #[.int .i64 a0, .int .i64 a1] w fun e w' => e = .returned (.int .i64 r) ∧ Drawn0 w w' := by
  have H : (if (IntKind.u64.wrap (a1)) = 0 then (none) else (some (wrap64 (Int.tmod (IntKind.u64.wrap (a0)) (IntKind.u64.wrap (a1)))))) = some r := h
  clear h
  by_cases c3 : (IntKind.u64.wrap (a1)) = 0
  · rw [if_pos c3] at H
    exact absurd H (by simp)
  · rw [if_neg c3] at H
    have c3b0 : ((IntKind.u64.wrap (a1)) == 0) = false := beq_eq_false_iff_ne.mpr c3
    have c3b1 : ((IntKind.u64.wrap (a1)) != 0) = true := bne_iff_ne.mpr c3
    obtain rfl := Option.some.inj H
    go_enter Try.func18, Try.ntmps18
    go_wp2
    go_ret
    exact ⟨by first | rfl | (simp; done) | (simp [*]; done), by repeat (first | exact Drawn0.refl _ | apply Drawn0.step)⟩

theorem pick_some (a : Int) (n : Nat) (hn : 0 < n) (h : n ≤ 9223372036854775807) : ∃ k : Nat, k < n ∧ provisolaw01_pick.f a (n : Int) = some (k : Int) := by
  have h1 : IntKind.u64.wrap (n : Int) = (n : Int) := IntWalk.u64_in _ (by omega)
  have h2 : 0 ≤ IntKind.u64.wrap a := by rw [IntKind.wrap_u64]; omega
  have h3 := Int.tmod_nonneg (n : Int) h2
  have h4 := Int.tmod_lt_of_pos (IntKind.u64.wrap a) (show (0 : Int) < (n : Int) by omega)
  refine ⟨(Int.tmod (IntKind.u64.wrap a) (n : Int)).toNat, by omega, ?_⟩
  unfold provisolaw01_pick.f
  rw [h1, if_neg (by omega)]
  congr 1
  generalize Int.tmod (IntKind.u64.wrap a) (n : Int) = q at h3 h4
  unfold wrap64
  omega

end Go.Proofs.Ytklbkonehcjmjaa.P

end

section
namespace Go.Proofs.Ytklbkonehcjmjaa.P
open Go.RowKit Go.Proofs.YtklbkonehcjmjaaW.PrintWords Go.Proofs.YtklbkonehcjmjaaW.PrintLast Go.Proofs.YtklbkonehcjmjaaW.PrintMore
attribute [local go_sem] max2_int min2_int max_two min_two max_three min_three max_four min_four   -- for this text's walks alone
set_option linter.unusedVariables false
set_option linter.unusedSimpArgs false

theorem copy_own {P : Program} {W : World} {base : Nat} {ok : Nat → Prop} {v : Value} {zs bs : List Int} {A : Option Addr} {cA : Nat} {ty : TypeId} (hu : P.underlying 23 = some (.slice 5)) (hi : (P.info? 5).map (·.size) = some 1)
    (HR : Kd.R (Kd.int .u8) 5 W base ok v zs) (HS : Kd.C (Kd.int .u8) W A bs.length bs) (hl : zs.length = bs.length) :
    ∃ W', (Builtin.copy_ #[23, 23] ty #[v, .slice A bs.length cA]).run P W = .ok (goInt bs.length) W' ∧ Kd.R (Kd.int .u8) 5 W' base ok v bs ∧ W.grownBy W' v.ownBlock := by
  have hrefl : ∀ row, W.grownBy W row := fun row => ⟨rfl, rfl, rfl, Nat.le_refl _, fun _ _ _ => rfl⟩
  obtain ⟨h0, inner, ⟨h1, h2⟩, hr⟩ := HR
  rcases h2 with ⟨rfl, hn⟩ | ⟨g, cap, cur, rfl, hg, hh, r1, r2, r3, r4⟩
  · have e : bs = [] := List.length_eq_zero_iff.1 (by omega)
    subst e
    exact ⟨W, run_copy_none W _ _ ty _ none A 0 0 0 cA hu hi rfl, Kd.R_nil _ _ _ _ _, hrefl _⟩
  · by_cases hz : bs.length = 0
    · have e : bs = [] := List.length_eq_zero_iff.1 hz
      subst e
      have ez : zs = [] := List.length_eq_zero_iff.1 (by simpa using hl)
      subst ez
      exact ⟨W, run_copy_none W _ _ ty _ _ A _ cap 0 cA hu hi rfl, ⟨h0, inner, ⟨h1, .inr ⟨g, cap, cur, rfl, hg, hh, r1, r2, r3, r4⟩⟩, hr⟩, hrefl _⟩
    · obtain ⟨ad, rfl, hc⟩ := HS.2.2 (by omega)
      have hlen : (bs.map (Value.int .u8)).length = bs.length := List.length_map _
      have hrun := run_copy_row (P := P) W 23 23 ty 5 g 0 zs.length cap ad bs.length cA cur 5 (bs.map (Value.int .u8)) hu hi hh (by rw [hlen, hl]; exact (Nat.min_self _).symm)
        (fun j u hj => by
          rw [List.getElem?_map] at hj
          cases hb : bs[j]? with
          | none => rw [hb] at hj; cases hj
          | some x =>
            rw [hb] at hj
            obtain ⟨c, _, hK, hcc⟩ := hc j x hb
            have hK' : c = [Value.int .u8 x] := hK
            subst hK'
            have := hcc 0 _ rfl
            have e1 : u = Value.int .u8 x := (Option.some.inj hj).symm
            rw [e1]
            simpa [show (Kd.int .u8).sz = 1 from rfl] using this)
        (by rw [hlen, r3, show (Kd.int .u8).sz = 1 from rfl]; omega) (fun u hu => by
          obtain ⟨x, _, rfl⟩ := List.mem_map.1 hu
          rfl)
      rw [hlen] at hrun
      refine ⟨_, hrun, ⟨h0, bs.map (Value.int .u8), ⟨by rw [hlen]; exact (Nat.mul_one _).symm, .inr ⟨g, cap, _, by rw [hl], hg, setRow_heap W g cur _ _ _ hh, by omega, r2, ?_, ?_⟩⟩, ?_⟩, ⟨rfl, rfl, rfl, by simp, fun k _ hk => setRow_other W g k _ (fun e => hk (by rw [e]; rfl))⟩⟩
      · simp [r3, show (Kd.int .u8).sz = 1 from rfl]
        have : bs.length ≤ cap := by omega
        omega
      · simp [show (Kd.int .u8).sz = 1 from rfl]
      · exact Kd.reps_scalar bs
theorem Kd.R_base_ {base : Nat} {W : World} {ok : Nat → Prop} {v : Value} {xs : List Int} (h : Kd.R (Kd.int .u8) 5 W base ok v xs) (k : Nat) (hk : v.ownBlock = some k) : base ≤ k := by
  obtain ⟨_, inner, ho, _⟩ := h
  exact own_base ho k hk
structure RdAt (base g : Nat) (bs : List Int) (at_ : Nat) (W : World) : Prop where
  le : at_ ≤ bs.length
  ge : base ≤ g
  now : ∃ v : Value, W.heap[g]? = some (.cells #[v, .int .i64 (at_ : Int), .bool true] 79 (0, 0)) ∧ Kd.R (Kd.int .u8) 5 W base (fun _ => True) v bs
set_option maxHeartbeats 1600000 in
set_option maxRecDepth 100000 in
theorem Over_calls (A0 : Option Addr) (c0 : Nat) (l0 : List Int) (w : World) (hr0 : Kd.C (Kd.int .u8) w A0 l0.length l0) (hc0 : l0.length ≤ c0) (hlim : l0.length ≤ 281474976710656) :
    Calls Try.prog 19 #[.slice A0 l0.length c0] w fun e w' => ∃ g, e = .returned (.pointer (some ⟨g, 0, none⟩)) ∧ RdAt w.heap.size g l0 0 w' ∧ Below w.heap.size w w' := by
  have HR := Aside0.mk hr0
  have HL := Aside0.mk hlim
  have hlen : l0.length ≤ 9223372036854775807 := hr0.2.1
  clear hr0 hc0 hlim
  go_enter Try.func19, Try.ntmps19
  go_wp2_with (first | ((with_reducible refine gate_dst (N := 6) rfl ?_); refine Kd.R_make (Kd.int .u8) (w0 := w) w.heap.size 5 rfl (N := 6) rfl 23 (.tmp 5) (.tmp 5) rfl (l0.length : Int) rfl rfl Try.underlying23 (.int .u8 0) 1 info5 rfl (by decide) (by decide) 0 (ok := fun _ => True) (okp := fun _ => True) rfl (fun _ h => h) trivial (by omega) ?hl (Below.refl _ _) (Nat.le_refl _) ?_; (case hl => have := HL.out; rw [Int.toNat_natCast]; omega); intro v1 w1 ho hb hg hat; rw [Int.toNat_natCast] at ho; have HB := Aside0.mk hb; obtain ⟨Av, cv, e1⟩ := Kd.R_slice ho; rw [List.length_replicate] at e1; subst e1; obtain ⟨w2, hrun, hR2, hg2⟩ := copy_own (P := Try.prog) (ty := 3) (cA := c0) Try.underlying23 (by kernel_rfl) ho (Kd.C_below HR.out hb) (by simp); have HR2 := Aside0.mk hR2; have HG2 := Aside0.mk (Below.grown hb hg2 hb.size (fun k hk => (Kd.R_base_ ho k hk))); clear ho hb hg hat hR2 hg2))
  have h1 := blk_new w2 (.cells #[.slice Av l0.length cv, .int .i64 0, .bool true] 79)
  have h2 := Kd.R_alloc HR2.out (.cells #[.slice Av l0.length cv, .int .i64 0, .bool true] 79)
  have h3 := below_alloc HG2.out (.cells #[.slice Av l0.length cv, .int .i64 0, .bool true] 79)
  have h4 := HG2.out.size
  go_ret
  exact ⟨w2.heap.size, rfl, ⟨Nat.zero_le _, h4, _, h1, h2⟩, h3⟩
theorem RdAt.drewN {base g : Nat} {bs : List Int} {at_ : Nat} {W : World} (h : RdAt base g bs at_ W) (m : Nat) : RdAt base g bs at_ (W.drewN m) := by
  obtain ⟨h1, h2, v, h3, h4⟩ := h
  exact ⟨h1, h2, v, blk_drewN h3 m, Kd.R_drewN h4 m⟩
theorem RdAt.step {base g : Nat} {bs : List Int} {at_ : Nat} {W W' : World} (h : RdAt base g bs at_ W) (hb : Below W.heap.size W W') : RdAt base g bs at_ W' := by
  obtain ⟨h1, h2, v, h3, h4⟩ := h
  exact ⟨h1, h2, v, blk_below h3 hb, Kd.R_below h4 hb⟩
theorem RdAt.set {base g : Nat} {bs : List Int} {at_ : Nat} {W : World} (h : RdAt base g bs at_ W) (n : Nat) (hn : n ≤ bs.length) : RdAt base g bs n (W.setCell ⟨g, 1, none⟩ (.int .i64 (n : Int))) := by
  obtain ⟨h1, h2, v, h3, h4⟩ := h
  exact ⟨hn, h2, v, blk_set h3 1 _, Kd.R_set h4 h3 (by decide) _ _⟩
theorem RdAt.far {base g : Nat} {bs : List Int} {at_ : Nat} {W : World} (h : RdAt base g bs at_ W) {g2 : Nat} {cs : Array Value} (h2 : W.heap[g2]? = some (.cells cs 79 (0, 0))) (hne : g ≠ g2) (j : Nat) (u : Value) : RdAt base g bs at_ (W.setCell ⟨g2, j, none⟩ u) := by
  obtain ⟨h1, h2', v, h3, h4⟩ := h
  exact ⟨h1, h2', v, blk_far h3 (by simpa using hne) _, Kd.R_set h4 h2 (by decide) _ _⟩
theorem RdAt.len {base g : Nat} {bs : List Int} {at_ : Nat} {W : World} (h : RdAt base g bs at_ W) : bs.length ≤ 9223372036854775807 := by
  obtain ⟨_, _, v, _, h4⟩ := h
  obtain ⟨A, c, rfl⟩ := Kd.R_slice h4
  exact (Kd.R_reads' h4).2.2.2.1
set_option maxHeartbeats 800000 in
set_option maxRecDepth 100000 in
theorem ready_rd {base g : Nat} {bs : List Int} {at_ : Nat} {w : World} (h : RdAt base g bs at_ w) : Calls Try.prog 45 #[.pointer (some ⟨g, 0, none⟩)] w fun e w' => e = .returned (.bool true) ∧ Drawn0 w w' := by
  obtain ⟨_, _, v, h3, _⟩ := h
  have hc := blk_cell h3 2
  clear h3
  go_enter Try.func45, Try.ntmps45
  go_wp2
  go_ret
  exact ⟨rfl, 0, rfl⟩
set_option maxHeartbeats 800000 in
set_option maxRecDepth 100000 in
theorem At_rd {base g : Nat} {bs : List Int} {at_ : Nat} {w : World} (h : RdAt base g bs at_ w) : Calls Try.prog 20 #[.pointer (some ⟨g, 0, none⟩)] w fun e w' => e = .returned (.int .i64 (at_ : Int)) ∧ Drawn0 w w' := by
  obtain ⟨v, h3, _⟩ := h.now
  have hc := blk_cell h3 1
  have H := Aside0.mk h
  clear h3 h
  go_enter Try.func20, Try.ntmps20
  go_wp2_with fail
  refine (ready_rd H.out).mono ?_
  rintro e w1 ⟨rfl, m, rfl⟩
  go_wp2
  go_ret
  exact ⟨rfl, m, rfl⟩
set_option maxHeartbeats 800000 in
set_option maxRecDepth 100000 in
theorem Left_rd {base g : Nat} {bs : List Int} {at_ : Nat} {w : World} (h : RdAt base g bs at_ w) : Calls Try.prog 21 #[.pointer (some ⟨g, 0, none⟩)] w fun e w' => e = .returned (.int .i64 ((bs.length : Int) - (at_ : Int))) ∧ Drawn0 w w' := by
  obtain ⟨v, h3, h4⟩ := h.now
  obtain ⟨A, c, rfl⟩ := Kd.R_slice h4
  have hc := blk_cell h3 1
  have hc0 := blk_cell h3 0
  have hlen := h.len
  have hle := h.le
  have H := Aside0.mk h
  clear h3 h h4
  go_enter Try.func21, Try.ntmps21
  go_wp2_with fail
  refine (ready_rd H.out).mono ?_
  rintro e w1 ⟨rfl, m, rfl⟩
  go_wp2
  go_quiet (fail)
  go_wp2
  go_ret
  exact ⟨rfl, _, World.drewN_drewN _ _ _⟩
set_option maxHeartbeats 800000 in
set_option maxRecDepth 100000 in
theorem next_bad {base g : Nat} {bs : List Int} {at_ : Nat} {w : World} (h : RdAt base g bs at_ w) (n : Int) (hn : n < 0 ∨ n > (bs.length : Int) - (at_ : Int)) : Calls Try.prog 46 #[.pointer (some ⟨g, 0, none⟩), .int .i64 n] w fun e w' => e = .returned (.tuple #[.slice none 0 0, .int .i64 (if n < 0 then 1 else 2)]) ∧ Drawn0 w w' := by
  have H := Aside0.mk h
  clear h
  by_cases c1 : n < 0
  · have c1b : decide (n < 0) = true := decide_eq_true c1
    rw [if_pos c1]
    clear hn c1
    go_enter Try.func46, Try.ntmps46
    go_wp2_with fail
    refine (ready_rd H.out).mono ?_
    rintro e w1 ⟨rfl, m, rfl⟩
    go_wp2
    go_ret2
    exact ⟨rfl, m, rfl⟩
  · have c1b : decide (n < 0) = false := decide_eq_false c1
    have c2 : (bs.length : Int) - (at_ : Int) < n := by omega
    have c2b : decide ((bs.length : Int) - (at_ : Int) < n) = true := decide_eq_true c2
    rw [if_neg c1]
    clear hn c1 c2
    go_enter Try.func46, Try.ntmps46
    go_wp2_with fail
    refine (ready_rd H.out).mono ?_
    rintro e w1 ⟨rfl, m, rfl⟩
    go_wp2_with fail
    refine (Left_rd (H.out.drewN m)).mono ?_
    rintro e w2 ⟨rfl, m2, rfl⟩
    go_wp2
    go_ret2
    exact ⟨rfl, _, rfl⟩
set_option maxHeartbeats 1600000 in
set_option maxRecDepth 100000 in
theorem next_good {base g : Nat} {bs : List Int} {at_ : Nat} {w : World} (h : RdAt base g bs at_ w) (n : Nat) (hn : at_ + n ≤ bs.length) : Calls Try.prog 46 #[.pointer (some ⟨g, 0, none⟩), .int .i64 (n : Int)] w fun e w' => ∃ (A : Option Addr) (c m m2 : Nat), e = .returned (.tuple #[.slice A n c, .int .i64 0]) ∧ n ≤ c ∧ w' = ((w.drewN m).setCell ⟨g, 1, none⟩ (.int .i64 ((at_ + n : Nat) : Int))).drewN m2 ∧ Kd.C (Kd.int .u8) w' A n ((bs.take (at_ + n)).drop at_) := by
  have hlen := h.len
  have hle := h.le
  have H := Aside0.mk h
  clear h
  have c1b : decide ((n : Int) < 0) = false := decide_eq_false (by omega)
  have c2b : decide ((bs.length : Int) - (at_ : Int) < (n : Int)) = false := decide_eq_false (by omega)
  go_enter Try.func46, Try.ntmps46
  go_wp2_with fail
  refine (ready_rd H.out).mono ?_
  rintro e w1 ⟨rfl, m, rfl⟩
  go_wp2_with fail
  refine (Left_rd (H.out.drewN m)).mono ?_
  rintro e w2 ⟨rfl, m2, rfl⟩
  have H2 := (H.out.drewN m).drewN m2
  rw [World.drewN_drewN] at H2 ⊢
  generalize hw3 : w.drewN (m + m2) = w3 at H2 ⊢
  obtain ⟨v, h3, h4⟩ := H2.now
  obtain ⟨A, c, rfl⟩ := Kd.R_slice h4
  have hc1 := blk_cell h3 1
  have hf1 := blk_frozen h3 1
  have h5 := blk_set h3 1 (.int .i64 ((at_ + n : Nat) : Int))
  have h6 := H2.set (at_ + n) hn
  have hc := blk_cell h5 0
  have hcc := blk_cell h5 1
  have H6 := Aside0.mk h6
  have HW3 := Aside0.mk hw3
  have hcap : at_ + n ≤ c := by have := (Kd.R_reads' h4).2.1; omega
  have hsl := Kd.C_mid (Kd.R_reads' (show Kd.R (Kd.int .u8) 5 (w3.setCell ⟨g, 1, none⟩ (.int .i64 ((at_ + n : Nat) : Int))) base (fun _ => True) (.slice A bs.length c) bs from Kd.R_set h4 h3 (by decide) _ _)).2.2 (lo := at_) (hi := at_ + n) (c := c) (Nat.le_add_right _ _) hn (Kd.R_reads' h4).2.1
  have HS := Aside0.mk hsl
  have en : ((at_ + n : Nat) : Int) = (at_ : Int) + (n : Int) := Int.natCast_add _ _
  have hgoal : w3.setCell ⟨g, 1, none⟩ (.int .i64 ((at_ + n : Nat) : Int)) = (w.drewN (m + m2)).setCell ⟨g, 1, none⟩ (.int .i64 ((at_ + n : Nat) : Int)) := by rw [HW3.out]
  have HG := Aside0.mk hgoal
  have q1 : decide (at_ ≤ at_ + n) = true := decide_eq_true (Nat.le_add_right _ _)
  have q2 : (at_ + n ≤ c) = True := eq_true hcap
  clear h3 h4 h5 h6 H2 H hw3 hsl hgoal hcap HW3
  rw [en] at HS HG H6 hc hcc
  clear en
  go_upto_region 8 with fail
  generalize w3.setCell ⟨g, 1, none⟩ (.int .i64 ((at_ : Int) + (n : Int))) = w4 at HS HG H6 hc hcc ⊢
  clear hc1 hf1
  have hA : w4.cell? ⟨g, 0, none⟩ = some (.slice A bs.length c) := hc.trans rfl
  have hB : w4.cell? ⟨g, 1, none⟩ = some (.int .i64 ((at_ : Int) + (n : Int))) := hcc.trans rfl
  have hw0 : IntKind.i64.wrap (at_ : Int) = (at_ : Int) := by rw [IntKind.wrap_i64]; omega
  have hw1 : IntKind.i64.wrap ((at_ : Int) + (n : Int)) = (at_ : Int) + (n : Int) := by rw [IntKind.wrap_i64]; omega
  have q3 : ((at_ : Int) + (n : Int)).toNat = at_ + n := by omega
  have q4 : (0 : Int) ≤ (at_ : Int) + (n : Int) := by omega
  have q5 : (at_ : Int) ≤ (at_ : Int) + (n : Int) := by omega
  have q6 : (at_ : Int) + (n : Int) ≤ (c : Int) := by have := of_eq_true q2; omega
  have q7 : (at_ : Int) ≤ (c : Int) := by have := of_eq_true q2; omega
  have q8 : at_ + n - at_ = n := by omega
  clear hc hcc
  go_region_held3 (fun w' => w'.cell? ⟨g, 0, none⟩ = some (.slice A bs.length c) ∧ w'.cell? ⟨g, 1, none⟩ = some (.int .i64 ((at_ : Int) + (n : Int))))
    (first | exact ⟨hA, hB⟩ | (refine ⟨?_, ?_⟩ <;> first | exact hA | exact hB | simpa using hA | simpa using hB))
    (first | fail)
  clear q1 q3 q4 q5 q6 q7 q8 hA hB hw0 hw1 c1b c2b
  have h9 := Kd.C_drewN HS.out 1
  rw [show (Kd.int .u8).sz = 1 from rfl, Nat.mul_one] at h9
  have h8 : ((bs.take (at_ + n)).drop at_).length = n := by rw [List.length_drop, List.length_take]; omega
  rw [h8] at h9
  clear HS h8
  generalize (if c = at_ then A else Option.map (fun x => x.add at_) A) = Ax at h9 ⊢
  have HS := Aside0.mk h9
  clear h9
  go_wp2
  go_ret2
  exact ⟨_, _, m + m2, 1, rfl, by have := of_eq_true q2; omega, by rw [Int.natCast_add, ← HG.out]; rfl, HS.out⟩
theorem u32_or8 (x y : Int) (hx₀ : 0 ≤ x) (hx : x % 256 = 0) (hx₁ : x < 4294967296) (h₀ : 0 ≤ y) (h₁ : y < 256) : bits .or .u32 x y = x + y :=
  bits_join .u32 32 (by decide) (fun n a b => by rw [IntKind.wrap_u32]; omega) 8 x y hx₀ hx hx₁ h₀ h₁ (by omega)
def numOf (bs : List Int) : Int := bs.foldl (fun x c => x * 256 + c) 0
theorem num_bound : ∀ (bs : List Int), (∀ x ∈ bs, 0 ≤ x ∧ x ≤ 255) → ∀ z : Int, 0 ≤ z → 0 ≤ bs.foldl (fun x c => x * 256 + c) z ∧ bs.foldl (fun x c => x * 256 + c) z < (z + 1) * 256 ^ bs.length
  | [], _, z, hz => ⟨hz, by simp; omega⟩
  | x :: bs, h, z, hz => by
    have hx := h x List.mem_cons_self
    obtain ⟨h1, h2⟩ := num_bound bs (fun y hy => h y (List.mem_cons_of_mem _ hy)) (z * 256 + x) (by omega)
    refine ⟨h1, Int.lt_of_lt_of_le h2 ?_⟩
    rw [List.length_cons, Int.pow_succ, ← Int.mul_assoc, Int.mul_right_comm]
    exact Int.mul_le_mul_of_nonneg_right (by omega) (Int.pow_nonneg (by decide))
theorem num_next (seg : List Int) (hb : ∀ x ∈ seg, 0 ≤ x ∧ x ≤ 255) (i : Nat) (hi : i < seg.length) (h4 : seg.length ≤ 4) : bits .or .u32 (numOf (seg.take i) * 256 % 4294967296) (rd seg (i : Int) % 4294967296) = numOf (seg.take (i + 1)) := by
  have hr : rd seg (i : Int) = seg[i] := by simp [rd, List.getD_eq_getElem?_getD, hi]
  have hx := hb _ (List.getElem_mem hi)
  have hz := num_bound (seg.take i) (fun x hx => hb x (List.mem_of_mem_take hx)) 0 (Int.le_refl _)
  rw [List.length_take, Nat.min_eq_left (by omega)] at hz
  have hp : (256 : Int) ^ i ≤ 16777216 := by
    have : i = 0 ∨ i = 1 ∨ i = 2 ∨ i = 3 := by omega
    rcases this with rfl | rfl | rfl | rfl <;> decide
  have e1 : numOf (seg.take (i + 1)) = numOf (seg.take i) * 256 + seg[i] := by
    unfold numOf
    rw [List.take_succ_eq_append_getElem hi, List.foldl_append]
    rfl
  have hz' : 0 ≤ numOf (seg.take i) ∧ numOf (seg.take i) < 16777216 := by
    unfold numOf
    omega
  rw [e1, hr, u32_or8 _ _ (by omega) (by omega) (by omega) (by omega) (by omega)]
  omega
set_option maxHeartbeats 800000 in
set_option maxRecDepth 100000 in
theorem number_bad {base g : Nat} {bs : List Int} {at_ : Nat} {w : World} (h : RdAt base g bs at_ w) (n : Int) (hn : n < 0 ∨ n > (bs.length : Int) - (at_ : Int)) : Calls Try.prog 47 #[.pointer (some ⟨g, 0, none⟩), .int .i64 n] w fun e w' => e = .returned (.tuple #[.int .u32 0, .int .i64 (if n < 0 then 1 else 2)]) ∧ Drawn0 w w' := by
  have HN := Aside0.mk (next_bad h n hn)
  clear h hn
  generalize (if n < 0 then (1 : Int) else 2) = z at HN ⊢
  go_enter Try.func47, Try.ntmps47
  go_wp2_with fail
  refine HN.out.mono ?_
  rintro e w1 ⟨rfl, m, rfl⟩
  go_wp2
  go_loopw [8, 19] (fun v8 v19 wr => v8 = .int .u32 0 ∧ v19 = .int .i64 0 ∧ wr = w.drewN m) (fun _ _ _ => 0)
  case atStart => exact ⟨rfl, rfl, rfl⟩
  obtain ⟨rfl, rfl, rfl⟩ := hrel
  go_wp2
  go_ret2
  exact ⟨rfl, m, rfl⟩
set_option maxHeartbeats 1600000 in
set_option maxRecDepth 100000 in
theorem number_good {base g : Nat} {bs : List Int} {at_ : Nat} {w : World} (h : RdAt base g bs at_ w) (hb : ∀ x ∈ bs, 0 ≤ x ∧ x ≤ 255) (n : Nat) (hn : at_ + n ≤ bs.length) (h4 : n ≤ 4) : Calls Try.prog 47 #[.pointer (some ⟨g, 0, none⟩), .int .i64 (n : Int)] w fun e w' => ∃ m m2 : Nat, e = .returned (.tuple #[.int .u32 (numOf ((bs.take (at_ + n)).drop at_)), .int .i64 0]) ∧ w' = ((w.drewN m).setCell ⟨g, 1, none⟩ (.int .i64 ((at_ + n : Nat) : Int))).drewN m2 := by
  have HN := Aside0.mk (next_good h n hn)
  have hn4 : (n : Int) ≤ 4 := by omega
  obtain ⟨seg, hseg⟩ : ∃ seg, seg = (bs.take (at_ + n)).drop at_ := ⟨_, rfl⟩
  have hsl : seg.length = n := by rw [hseg, List.length_drop, List.length_take]; omega
  have hsb : ∀ x ∈ seg, 0 ≤ x ∧ x ≤ 255 := fun x hx => hb x (by rw [hseg] at hx; exact List.mem_of_mem_take (List.mem_of_mem_drop hx))
  rw [← hseg] at HN ⊢
  have HSB := Aside0.mk hsb
  have HSL := Aside0.mk hsl
  clear h hn hseg hb hsb hsl
  go_enter Try.func47, Try.ntmps47
  go_wp2_with fail
  refine HN.out.mono ?_
  rintro e w1 ⟨A, c, m, m2, rfl, hc, hw, hC⟩
  have HW := Aside0.mk hw
  have HC := Aside0.mk hC
  clear hw hC HN hc
  go_wp2
  go_loopw [8, 19] (fun v8 v19 wr => ∃ i : Nat, v19 = .int .i64 (i : Int) ∧ i ≤ n ∧ v8 = .int .u32 (numOf (seg.take i)) ∧ wr = w1) (fun _ v19 _ => ((n : Int) - intOf v19).toNat)
  case atStart => exact ⟨0, rfl, Nat.zero_le _, rfl, rfl⟩
  case round =>
    obtain ⟨i, rfl, hi, rfl, rfl⟩ := hrel
    by_cases c1 : i < n
    · have c1b : decide ((i : Int) < (n : Int)) = true := decide_eq_true (by omega)
      have hC2 := HC.out
      rw [← HSL.out] at hC2
      obtain ⟨ad, e3, hx⟩ := Kd.at_int hC2 (i : Int) (by omega) (by have := HSL.out; omega)
      subst e3
      have p5 : (0 ≤ (i : Int)) = True := eq_true (by omega)
      have p6 : ((i : Int) < (n : Int)) = True := eq_true (by omega)
      simp only [Int.toNat_natCast] at hx
      generalize hz : numOf (seg.take i) = z
      have HZ := Aside0.mk hz
      clear hC2 hz
      go_wp2
      refine ⟨⟨i + 1, rfl, by omega, by rw [← HZ.out, num_next seg HSB.out i (by have := HSL.out; omega) (by have := HSL.out; omega)], trivial⟩, by simp [intOf]; omega⟩
    · have c1b : decide ((i : Int) < (n : Int)) = false := decide_eq_false (by omega)
      have e9 : seg.take i = seg := List.take_of_length_le (by have := HSL.out; omega)
      rw [e9]
      clear e9
      go_wp2
      go_ret2
      exact ⟨m, m2, rfl, HW.out⟩
set_option maxHeartbeats 800000 in
set_option maxRecDepth 100000 in
theorem Byte_good {base g : Nat} {bs : List Int} {at_ : Nat} {w : World} (h : RdAt base g bs at_ w) (hb : ∀ x ∈ bs, 0 ≤ x ∧ x ≤ 255) (hn : at_ + 1 ≤ bs.length) : Calls Try.prog 23 #[.pointer (some ⟨g, 0, none⟩)] w fun e w' => ∃ m m2 : Nat, e = .returned (.tuple #[.int .i64 (numOf ((bs.take (at_ + 1)).drop at_)), .int .i64 0]) ∧ w' = ((w.drewN m).setCell ⟨g, 1, none⟩ (.int .i64 ((at_ + 1 : Nat) : Int))).drewN m2 := by
  have HN := Aside0.mk (number_good h hb 1 hn (by decide))
  have hz := num_bound ((bs.take (at_ + 1)).drop at_) (fun x hx => hb x (List.mem_of_mem_take (List.mem_of_mem_drop hx))) 0 (Int.le_refl _)
  have hl : ((bs.take (at_ + 1)).drop at_).length = 1 := by rw [List.length_drop, List.length_take]; omega
  rw [hl] at hz
  have hz2 : 0 ≤ numOf ((bs.take (at_ + 1)).drop at_) ∧ numOf ((bs.take (at_ + 1)).drop at_) < 256 := by
    unfold numOf
    exact ⟨hz.1, by have := hz.2; simpa using this⟩
  clear h hb hn hz hl
  generalize numOf ((bs.take (at_ + 1)).drop at_) = z at HN hz2 ⊢
  obtain ⟨hz0, hz1⟩ := hz2
  have hzw : IntKind.i64.wrap z = z := by rw [IntKind.wrap_i64]; omega
  go_enter Try.func23, Try.ntmps23
  go_wp2_with fail
  refine HN.out.mono ?_
  rintro e w1 ⟨m, m2, rfl, rfl⟩
  go_wp2
  go_ret2
  exact ⟨m, m2, rfl, rfl⟩
set_option maxHeartbeats 800000 in
set_option maxRecDepth 100000 in
theorem Word_good {base g : Nat} {bs : List Int} {at_ : Nat} {w : World} (h : RdAt base g bs at_ w) (hb : ∀ x ∈ bs, 0 ≤ x ∧ x ≤ 255) (hn : at_ + 2 ≤ bs.length) : Calls Try.prog 60 #[.pointer (some ⟨g, 0, none⟩)] w fun e w' => ∃ m m2 : Nat, e = .returned (.tuple #[.int .i64 (numOf ((bs.take (at_ + 2)).drop at_)), .int .i64 0]) ∧ w' = ((w.drewN m).setCell ⟨g, 1, none⟩ (.int .i64 ((at_ + 2 : Nat) : Int))).drewN m2 := by
  have HN := Aside0.mk (number_good h hb 2 hn (by decide))
  have hz := num_bound ((bs.take (at_ + 2)).drop at_) (fun x hx => hb x (List.mem_of_mem_take (List.mem_of_mem_drop hx))) 0 (Int.le_refl _)
  have hl : ((bs.take (at_ + 2)).drop at_).length = 2 := by rw [List.length_drop, List.length_take]; omega
  rw [hl] at hz
  have hz2 : 0 ≤ numOf ((bs.take (at_ + 2)).drop at_) ∧ numOf ((bs.take (at_ + 2)).drop at_) < 65536 := by
    unfold numOf
    exact ⟨hz.1, by have := hz.2; simpa using this⟩
  clear h hb hn hz hl
  generalize numOf ((bs.take (at_ + 2)).drop at_) = z at HN hz2 ⊢
  obtain ⟨hz0, hz1⟩ := hz2
  have hzw : IntKind.i64.wrap z = z := by rw [IntKind.wrap_i64]; omega
  go_enter Try.func60, Try.ntmps60
  go_wp2_with fail
  refine HN.out.mono ?_
  rintro e w1 ⟨m, m2, rfl, rfl⟩
  go_wp2
  go_ret2
  exact ⟨m, m2, rfl, rfl⟩
set_option maxHeartbeats 800000 in
set_option maxRecDepth 100000 in
theorem Byte_bad {base g : Nat} {bs : List Int} {at_ : Nat} {w : World} (h : RdAt base g bs at_ w) (hn : bs.length < at_ + 1) : Calls Try.prog 23 #[.pointer (some ⟨g, 0, none⟩)] w fun e w' => e = .returned (.tuple #[.int .i64 0, .int .i64 2]) ∧ Drawn0 w w' := by
  have HN := Aside0.mk (number_bad h 1 (.inr (by omega)))
  clear h hn
  go_enter Try.func23, Try.ntmps23
  go_wp2_with fail
  refine HN.out.mono ?_
  rintro e w1 ⟨rfl, m, rfl⟩
  go_wp2
  go_ret2
  exact ⟨rfl, m, rfl⟩
set_option maxHeartbeats 800000 in
set_option maxRecDepth 100000 in
theorem Word_bad {base g : Nat} {bs : List Int} {at_ : Nat} {w : World} (h : RdAt base g bs at_ w) (hn : bs.length < at_ + 2) : Calls Try.prog 60 #[.pointer (some ⟨g, 0, none⟩)] w fun e w' => e = .returned (.tuple #[.int .i64 0, .int .i64 2]) ∧ Drawn0 w w' := by
  have HN := Aside0.mk (number_bad h 2 (.inr (by omega)))
  clear h hn
  go_enter Try.func60, Try.ntmps60
  go_wp2_with fail
  refine HN.out.mono ?_
  rintro e w1 ⟨rfl, m, rfl⟩
  go_wp2
  go_ret2
  exact ⟨rfl, m, rfl⟩
set_option maxHeartbeats 800000 in
set_option maxRecDepth 100000 in
theorem Long_bad {base g : Nat} {bs : List Int} {at_ : Nat} {w : World} (h : RdAt base g bs at_ w) (hn : bs.length < at_ + 4) : Calls Try.prog 61 #[.pointer (some ⟨g, 0, none⟩)] w fun e w' => e = .returned (.tuple #[.int .i64 0, .int .i64 2]) ∧ Drawn0 w w' := by
  have HN := Aside0.mk (number_bad h 4 (.inr (by omega)))
  clear h hn
  go_enter Try.func61, Try.ntmps61
  go_wp2_with fail
  refine HN.out.mono ?_
  rintro e w1 ⟨rfl, m, rfl⟩
  go_wp2
  go_ret2
  exact ⟨rfl, m, rfl⟩
set_option maxHeartbeats 800000 in
set_option maxRecDepth 100000 in
theorem End_rd {base g : Nat} {bs : List Int} {at_ : Nat} {w : World} (h : RdAt base g bs at_ w) : Calls Try.prog 24 #[.pointer (some ⟨g, 0, none⟩)] w fun e w' => e = .returned (.int .i64 (if at_ = bs.length then 0 else 3)) ∧ Drawn0 w w' := by
  have hle := h.le
  have H := Aside0.mk h
  clear h
  by_cases c1 : at_ = bs.length
  · have c1b : decide (at_ < bs.length) = false := decide_eq_false (by omega)
    rw [if_pos c1]
    clear c1
    go_enter Try.func24, Try.ntmps24
    go_wp2_with fail
    refine (ready_rd H.out).mono ?_
    rintro e w1 ⟨rfl, m, rfl⟩
    go_wp2_with fail
    refine (Left_rd (H.out.drewN m)).mono ?_
    rintro e w2 ⟨rfl, m2, rfl⟩
    go_wp2
    go_ret
    exact ⟨rfl, _, rfl⟩
  · have c1b : decide (at_ < bs.length) = true := decide_eq_true (by omega)
    rw [if_neg c1]
    clear c1
    go_enter Try.func24, Try.ntmps24
    go_wp2_with fail
    refine (ready_rd H.out).mono ?_
    rintro e w1 ⟨rfl, m, rfl⟩
    go_wp2_with fail
    refine (Left_rd (H.out.drewN m)).mono ?_
    rintro e w2 ⟨rfl, m2, rfl⟩
    go_wp2
    go_ret
    exact ⟨rfl, _, rfl⟩
set_option maxHeartbeats 800000 in
set_option maxRecDepth 100000 in
theorem Within_good {base g : Nat} {bs : List Int} {at_ : Nat} {w : World} (h : RdAt base g bs at_ w) (n : Nat) (hn : at_ + n ≤ bs.length) (hlim : bs.length ≤ 281474976710656) : Calls Try.prog 22 #[.pointer (some ⟨g, 0, none⟩), .int .i64 (n : Int)] w fun e w' => ∃ (g2 m m2 : Nat) (w2 : World), e = .returned (.tuple #[.pointer (some ⟨g2, 0, none⟩), .int .i64 0]) ∧ w2 = ((w.drewN m).setCell ⟨g, 1, none⟩ (.int .i64 ((at_ + n : Nat) : Int))).drewN m2 ∧ Below w2.heap.size w2 w' ∧ RdAt w2.heap.size g2 ((bs.take (at_ + n)).drop at_) 0 w' := by
  have HN := Aside0.mk (next_good h n hn)
  have hsl : ((bs.take (at_ + n)).drop at_).length = n := by rw [List.length_drop, List.length_take]; omega
  have HSL := Aside0.mk hsl
  have HLIM : Aside0 (n ≤ 281474976710656) := ⟨by omega⟩
  clear h hn hlim hsl
  go_enter Try.func22, Try.ntmps22
  go_wp2_with fail
  refine HN.out.mono ?_
  rintro e w1 ⟨A, c, m, m2, rfl, hc, hw, hC⟩
  have HW := Aside0.mk hw
  have HC := Aside0.mk hC
  have HCC := Aside0.mk hc
  clear hw hC hc HN
  go_wp2_with fail
  have hO := Over_calls A c ((bs.take (at_ + n)).drop at_) w1 (by rw [HSL.out]; exact HC.out) (by rw [HSL.out]; exact HCC.out) (by rw [HSL.out]; exact HLIM.out)
  rw [HSL.out] at hO
  refine hO.mono ?_
  clear hO
  rintro e w3 ⟨g2, rfl, hr, hb⟩
  have H1 := Aside0.mk hr
  have H2 := Aside0.mk hb
  clear hr hb
  go_wp2
  go_ret2
  exact ⟨g2, m, m2, w1, rfl, HW.out, H2.out, H1.out⟩
set_option maxHeartbeats 1600000 in
set_option maxRecDepth 100000 in
theorem Take_bad {base g : Nat} {bs : List Int} {at_ : Nat} {w : World} (h : RdAt base g bs at_ w) (n : Int) (hn : n < 0 ∨ n > (bs.length : Int) - (at_ : Int)) : Calls Try.prog 30 #[.pointer (some ⟨g, 0, none⟩), .int .i64 n] w fun e w' => e = .returned (.tuple #[.slice none 0 0, .int .i64 (if n < 0 then 1 else 2)]) ∧ Drawn0 w w' := by
  have HN := Aside0.mk (next_bad h n hn)
  clear h
  by_cases c1 : n < 0
  · rw [if_pos c1] at HN ⊢
    clear hn c1
    go_enter Try.func30, Try.ntmps30
    go_wp2_with fail
    refine HN.out.mono ?_
    rintro e w1 ⟨rfl, m, rfl⟩
    go_wp2
    go_ret2
    exact ⟨rfl, m, rfl⟩
  · rw [if_neg c1] at HN ⊢
    clear hn c1
    go_enter Try.func30, Try.ntmps30
    go_wp2_with fail
    refine HN.out.mono ?_
    rintro e w1 ⟨rfl, m, rfl⟩
    go_wp2
    go_ret2
    exact ⟨rfl, m, rfl⟩
set_option maxHeartbeats 1600000 in
set_option maxRecDepth 100000 in
theorem Take_good {base g : Nat} {bs : List Int} {at_ : Nat} {w : World} (h : RdAt base g bs at_ w) (n : Nat) (hn : at_ + n ≤ bs.length) (hlim : bs.length ≤ 281474976710656) : Calls Try.prog 30 #[.pointer (some ⟨g, 0, none⟩), .int .i64 (n : Int)] w fun e w' => ∃ (v : Value) (m m2 : Nat) (w1 : World), e = .returned (.tuple #[v, .int .i64 0]) ∧ w1 = ((w.drewN m).setCell ⟨g, 1, none⟩ (.int .i64 ((at_ + n : Nat) : Int))).drewN m2 ∧ Kd.R (Kd.int .u8) 5 w' w1.heap.size (fun _ => True) v ((bs.take (at_ + n)).drop at_) ∧ Below w1.heap.size w1 w' := by
  have HN := Aside0.mk (next_good h n hn)
  have hnl : (n : Int) ≤ 281474976710656 := by omega
  obtain ⟨seg, hseg⟩ : ∃ seg, seg = (bs.take (at_ + n)).drop at_ := ⟨_, rfl⟩
  have hsl : seg.length = n := by rw [hseg, List.length_drop, List.length_take]; omega
  rw [← hseg] at HN ⊢
  have HSL := Aside0.mk hsl
  clear h hn hlim hsl hseg
  go_enter Try.func30, Try.ntmps30
  go_wp2_with fail
  refine HN.out.mono ?_
  rintro e w1 ⟨A, c, m, m2, rfl, hc, hw, hC⟩
  have HW := Aside0.mk hw
  have HC := Aside0.mk hC
  clear hw hC HN hc
  go_wp2_with (first | ((with_reducible refine gate_dst (N := 20) rfl ?_); refine Kd.R_make (Kd.int .u8) (w0 := w1) w1.heap.size 5 rfl (N := 20) rfl 23 (.tmp 19) (.tmp 19) rfl (n : Int) rfl rfl Try.underlying23 (.int .u8 0) 1 info5 rfl (by decide) (by decide) 0 (ok := fun _ => True) (okp := fun _ => True) rfl (fun _ h => h) trivial (by omega) ?hl (Below.refl _ _) (Nat.le_refl _) ?_; (case hl => rw [Int.toNat_natCast]; omega); intro v1 w2 ho hb hg hat; rw [Int.toNat_natCast] at ho; obtain ⟨Av, cv, e1⟩ := Kd.R_slice ho; rw [List.length_replicate] at e1; subst e1; obtain ⟨w3, hrun, hR2, hg2⟩ := copy_own (P := Try.prog) (ty := 3) (cA := c) (A := A) (bs := seg) Try.underlying23 (by kernel_rfl) ho (by rw [HSL.out]; exact Kd.C_below HC.out hb) (by rw [HSL.out]; simp); rw [HSL.out] at hrun; have HR2 := Aside0.mk hR2; have HG2 := Aside0.mk (Below.grown hb hg2 hb.size (fun k hk => (Kd.R_base_ ho k hk))); clear ho hb hg hat hR2 hg2))
  go_ret2
  exact ⟨_, m, m2, w1, rfl, HW.out, HR2.out, HG2.out⟩
def signOf (z : Int) : Int := if z < 2147483648 then z else z - 4294967296
set_option maxHeartbeats 1600000 in
set_option maxRecDepth 100000 in
theorem Long_good {base g : Nat} {bs : List Int} {at_ : Nat} {w : World} (h : RdAt base g bs at_ w) (hb : ∀ x ∈ bs, 0 ≤ x ∧ x ≤ 255) (hn : at_ + 4 ≤ bs.length) : Calls Try.prog 61 #[.pointer (some ⟨g, 0, none⟩)] w fun e w' => ∃ m m2 : Nat, e = .returned (.tuple #[.int .i64 (signOf (numOf ((bs.take (at_ + 4)).drop at_))), .int .i64 0]) ∧ w' = ((w.drewN m).setCell ⟨g, 1, none⟩ (.int .i64 ((at_ + 4 : Nat) : Int))).drewN m2 := by
  have HN := Aside0.mk (number_good h hb 4 hn (by decide))
  have hz := num_bound ((bs.take (at_ + 4)).drop at_) (fun x hx => hb x (List.mem_of_mem_take (List.mem_of_mem_drop hx))) 0 (Int.le_refl _)
  have hl : ((bs.take (at_ + 4)).drop at_).length = 4 := by rw [List.length_drop, List.length_take]; omega
  rw [hl] at hz
  have hz2 : 0 ≤ numOf ((bs.take (at_ + 4)).drop at_) ∧ numOf ((bs.take (at_ + 4)).drop at_) < 4294967296 := by
    unfold numOf
    exact ⟨hz.1, by have := hz.2; simpa using this⟩
  clear h hb hn hz hl
  generalize numOf ((bs.take (at_ + 4)).drop at_) = z at HN hz2 ⊢
  obtain ⟨hz0, hz1⟩ := hz2
  obtain ⟨y, hy⟩ : ∃ y, y = signOf z := ⟨_, rfl⟩
  have hyb : -2147483648 ≤ y ∧ y < 2147483648 ∧ (y = z ∨ y = z - 4294967296) := by
    rw [hy]
    unfold signOf
    split <;> omega
  rw [← hy]
  have hw1 : IntKind.i32.wrap z = y := by rw [IntKind.wrap_i32]; omega
  have hw2 : IntKind.i64.wrap y = y := by rw [IntKind.wrap_i64]; omega
  clear hy hyb hz0 hz1
  go_enter Try.func61, Try.ntmps61
  go_wp2_with fail
  refine HN.out.mono ?_
  rintro e w1 ⟨m, m2, rfl, rfl⟩
  go_wp2
  go_ret2
  exact ⟨m, m2, rfl, rfl⟩
theorem RdAt.frozen {base g : Nat} {bs : List Int} {at_ : Nat} {W : World} (h : RdAt base g bs at_ W) : ∃ cs, W.heap[g]? = some (.cells cs 79 (0, 0)) := by
  obtain ⟨v, h3, _⟩ := h.now
  exact ⟨_, h3⟩
theorem num_one (bs : List Int) (i : Nat) (h : i < bs.length) : numOf ((bs.take (i + 1)).drop i) = rd bs (i : Int) := by
  have hr : rd bs (i : Int) = bs[i] := by simp [rd, List.getD_eq_getElem?_getD, h]
  have e : (bs.take (i + 1)).drop i = [bs[i]] := by
    rw [List.take_succ_eq_append_getElem h, List.drop_append_of_le_length (by rw [List.length_take]; omega), List.drop_of_length_le (by rw [List.length_take]; omega)]
    rfl
  rw [e, hr]
  simp [numOf]
end Go.Proofs.Ytklbkonehcjmjaa.P

end

section
namespace Go.Proofs.Ytklbkonehcjmjaa.P
open Go.RowKit Go.Proofs.YtklbkonehcjmjaaW.PrintWords Go.Proofs.YtklbkonehcjmjaaW.PrintLast Go.Proofs.YtklbkonehcjmjaaW.PrintMore
attribute [local go_sem] max2_int min2_int max_two min_two max_three min_three max_four min_four
set_option linter.unusedVariables false
set_option linter.unusedSimpArgs false
section
variable {P : Program} {ops : Array Oper} {rest : List Oper} {o : Oper} {a : Act} {Q : Exit → Act → World → Prop} {K : Act → World → Prop}
structure Rws (w0 : World) (l : List (Nat × TypeId × Array Value)) (W : World) : Prop where
  lies : ∀ p ∈ l, W.heap[p.1]? = some (.cells p.2.2 p.2.1 (0, 0)) ∧ w0.heap.size ≤ p.1
  ne : (l.map Prod.fst).Nodup
  below : Below w0.heap.size w0 W
theorem Rws.nil (w : World) : Rws w [] w := ⟨fun _ h => by simp at h, by simp, Below.refl _ _⟩
theorem Rws.step {w0 W W1 : World} {l : List (Nat × TypeId × Array Value)} (h : Rws w0 l W) (hb : Below W.heap.size W W1) : Rws w0 l W1 := ⟨fun p hp => ⟨blk_below (h.lies p hp).1 hb, (h.lies p hp).2⟩, h.ne, below_step h.below hb⟩
theorem Rws.drewN {w0 W : World} {l : List (Nat × TypeId × Array Value)} (h : Rws w0 l W) (m : Nat) : Rws w0 l (W.drewN m) := h.step (pw_below_drewN (Below.refl _ _) m)
theorem Rws.mem {w0 W : World} {l : List (Nat × TypeId × Array Value)} (h : Rws w0 l W) {g : Nat} {t : TypeId} {cs : Array Value} (hm : (g, t, cs) ∈ l) : W.heap[g]? = some (.cells cs t (0, 0)) := (h.lies _ hm).1
theorem Rws.add {w0 W : World} {l : List (Nat × TypeId × Array Value)} (h : Rws w0 l W) (t : TypeId) (cs : Array Value) : Rws w0 ((W.heap.size, t, cs) :: l) (W.alloc (.cells cs t (0, 0))) := by
  have hb : Below W.heap.size W (W.alloc (.cells cs t (0, 0))) := below_alloc (Below.refl _ _) _
  refine ⟨fun p hp => ?_, ?_, below_step h.below hb⟩
  · rcases List.mem_cons.1 hp with rfl | hp
    · exact ⟨blk_new W _, h.below.size⟩
    · exact ⟨blk_below (h.lies p hp).1 hb, (h.lies p hp).2⟩
  · rw [List.map_cons, List.nodup_cons]
    refine ⟨fun hm => ?_, h.ne⟩
    obtain ⟨p, hp, e⟩ := List.mem_map.1 hm
    have := blk_lt (h.lies p hp).1
    have e : p.1 = W.heap.size := e
    omega
theorem Rws.put {w0 W W1 : World} (l1 : List (Nat × TypeId × Array Value)) {l2 : List (Nat × TypeId × Array Value)} {g : Nat} {t : TypeId} {cs cs' : Array Value} (h : Rws w0 (l1 ++ (g, t, cs) :: l2) W) (hx : W1.heap[g]? = some (.cells cs' t (0, 0))) (hk : Kept W W1 (fun k => k = g)) (hb : ∀ (B : Nat) (w0 : World), B ≤ g → Below B w0 W → Below B w0 W1) : Rws w0 (l1 ++ (g, t, cs') :: l2) W1 := by
  have hn : ((l1 ++ (g, t, cs) :: l2).map Prod.fst) = ((l1 ++ (g, t, cs') :: l2).map Prod.fst) := by simp
  have hne := h.ne
  have hge := (h.lies (g, t, cs) (by simp)).2
  refine ⟨fun p hp => ?_, hn ▸ hne, hb _ _ hge h.below⟩
  have hnd : ∀ q ∈ l1 ++ l2, q.1 ≠ g := by
    rw [List.map_append, List.map_cons, List.nodup_append] at hne
    intro q hq e
    rcases List.mem_append.1 hq with hq | hq
    · exact hne.2.2 q.1 (List.mem_map.2 ⟨q, hq, rfl⟩) g (by simp) e
    · have := (List.nodup_cons.1 hne.2.1).1
      exact this (List.mem_map.2 ⟨q, hq, e⟩)
  rcases List.mem_append.1 hp with hp | hp
  · have hq := h.lies p (List.mem_append.2 (.inl hp))
    exact ⟨blk_kept hq.1 hk (fun e => hnd p (List.mem_append.2 (.inl hp)) e), hq.2⟩
  · rcases List.mem_cons.1 hp with rfl | hp
    · exact ⟨hx, hge⟩
    · have hq := h.lies p (List.mem_append.2 (.inr (List.mem_cons_of_mem _ hp)))
      exact ⟨blk_kept hq.1 hk (fun e => hnd p (List.mem_append.2 (.inr hp)) e), hq.2⟩
theorem rw_box (hgd : o.guard = none) (ty : TypeId) {x : Operand} (ho : o.op = .box ty x) {cs : Array Value} (hx : a.eval x = .agg cs) {w0 W : World} {l : List (Nat × TypeId × Array Value)} (hl : Rws w0 l W)
    (h : ∀ g w1, Rws w0 ((g, ty, cs) :: l) w1 → wpList P ops Q rest (a.put o.dst (.pointer (some ⟨g, 0, none⟩))) w1) : wpList P ops Q (o :: rest) a W :=
  Kd.event_run hgd (by
    unfold execOp
    simp only [ho, hx]
    simp [Instr.box, newVar, newRow, Value.cells, Sem.run_bind]) (h W.heap.size _ (hl.add ty cs))
theorem take_dst {S : World → Prop} {md : Region.Mode} {i : Nat} (N : Tmp) {oi : Oper} {v : Value} {fuel : Nat} {listed : Array Bool} {a : Act} {w : World} (hi : ops[i]? = some oi) (hN : oi.dst = some N)
    (hs : Region.noSelect ops = true) (hf : Region.free md ops listed i = true) (hr : (Region.ready md ops listed).contains i = true)
    (hQ : ∀ c a w, Q (.panic c) (a.put (some N) v) w → Q (.panic c) a w) (hy : YieldsIf P ops S oi v a) (hS : S w)
    (h : wpAnyH P md ops Q S fuel (listed.setIfInBounds i true) (a.put (some N) v) w) : wpAnyH P md ops Q S (fuel + 1) listed a w :=
  wpAnyH_take hi hs hf hr (by rw [hN]; exact hQ) hy hS (by rw [hN]; exact h)
end
section
variable {P : Program} {ops : Array Oper} {rest : List Oper} {o : Oper} {a : Act} {Q : Exit → Act → World → Prop} {K : Act → World → Prop}
theorem Rws.set {w0 W : World} (l1 : List (Nat × TypeId × Array Value)) {l2 : List (Nat × TypeId × Array Value)} {g : Nat} {t : TypeId} {cs : Array Value} (h : Rws w0 (l1 ++ (g, t, cs) :: l2) W) (i : Nat) (u : Value) : Rws w0 (l1 ++ (g, t, cs.setIfInBounds i u) :: l2) (W.setCell ⟨g, i, none⟩ u) :=
  h.put l1 (blk_set (h.mem (g := g) (t := t) (cs := cs) (by simp)) i u) ⟨by simp [World.setCell], fun k _ hn => Below.heap_setCell W ⟨g, i, none⟩ u k hn⟩ (fun B w0 hB hb => hb.setCell hB u)
end
section
variable {P : Program}
theorem run_append1 (w : World) (base : Nat) (t ty e : TypeId) (i : TypeInfo) (z : Value) (ht : P.underlying t = some (.slice e)) (hi : P.info? e = some i) (hz : i.zero = some z) (hzs : z.cells.size = i.size) (hsz : 0 < i.size)
    (v : Value) (n : Nat) (xs : List Value) (hown : w.ownsRow base e i.size v n xs) (a : Addr) (c : Nat) (news : List Value) (hl : news.length = 1 * i.size) (hnews : ∀ j u, news[j]? = some u → w.cell? (a.add j) = some u) (h1 : ∀ u ∈ news, u.oneCell' = true)
    (h63 : n + 1 ≤ maxLen) (hb1 : i.bytes ≤ 140737488355328) (hfit : Builtin.nextslicecap (n + 1) n * i.bytes ≤ 281474976710656) (hbase : base ≤ w.heap.size) :
    ∃ v' w', (Builtin.append_ #[t, t] ty #[v, .slice (some a) 1 c]).run P w = .ok v' w' ∧ w'.ownsRow base e i.size v' (n + 1) (xs ++ news) ∧ w.grownBy w' v.ownBlock ∧ (v'.ownBlock = v.ownBlock ∨ v'.ownBlock = some w.heap.size) := by
  rcases hown.2 with ⟨rfl, rfl⟩ | ⟨g, cap, cur, rfl, hbg, hg, hnc, hcm, hcs, htake⟩
  · obtain ⟨v', w', h2, h3, h4, _, h5⟩ := run_append_own_at (P := P) w base t ty e i z i.size i.bytes ht hi hz rfl rfl hzs hsz _ 0 xs hown a 1 c news hl hnews h1 (by omega) (by omega) hbase
    exact ⟨v', w', h2, h3, h4, h5⟩
  · have hsmall : n + 1 ≤ 9223372036854775807 := by simp only [maxLen] at h63; omega
    have hlen : (xs ++ news).length = (n + 1) * i.size := by rw [List.length_append, hown.1, hl, Nat.add_mul]
    by_cases hroom : n + 1 ≤ cap
    · have hfit2 : n * i.size + news.length ≤ cur.size := by rw [hl, hcs, ← Nat.add_mul]; exact Nat.mul_le_mul_right _ hroom
      have hr := run_append_room (P := P) w t ty e i ht hi g n cap cur hg a 1 c news hl hnews h1 hroom hfit2
      refine ⟨_, _, hr, ⟨hlen, .inr ⟨g, cap, _, rfl, hbg, setRow_heap w g cur _ e _ hg, hroom, hcm, ?_, ?_⟩⟩, ⟨rfl, rfl, rfl, by simp, fun k _ hk => setRow_other w g k _ (fun e => hk (by simp [Value.ownBlock, e]))⟩, Or.inl rfl⟩
      · simp only [List.size_toArray, List.length_append, List.length_take, List.length_drop, Array.length_toList]
        omega
      · rw [htake, ← hlen]
        exact List.take_left
    · have hcap : cap = n := by omega
      subst hcap
      have holds : ∀ j u, xs[j]? = some u → w.cell? ((⟨g, 0, none⟩ : Addr).add j) = some u := hown.cells (g := g) rfl
      have hr := run_append_grow (P := P) w t ty e i z ht hi hz ⟨g, 0, none⟩ cap cap xs hown.1 holds a 1 c news hl hnews (by omega) (by omega) hfit
      have hge := grownCap_ge w (cap + 1) cap e
      have hcm2 : grownCap w (cap + 1) cap e ≤ maxLen := grownCap_le_maxLen w (cap + 1) cap e h63
      refine ⟨_, _, hr, ⟨hlen, .inr ⟨w.heap.size, _, _, rfl, hbase, heap_alloc_new w.drew _, hge, hcm2, ?_, ?_⟩⟩, ⟨rfl, rfl, rfl, by simp, fun k hk _ => heap_alloc_old w.drew _ hk⟩, Or.inr rfl⟩
      · simp only [Array.size_append, List.size_toArray, size_zeroCells, hzs, hown.1, hl, ← Nat.add_mul]
        congr 1
        omega
      · simp only [Array.toList_append, List.append_assoc]
        rw [← List.append_assoc, ← hlen]
        exact List.take_left
section
variable {ops : Array Oper} {rest : List Oper} {o : Oper} {a : Act} {Q : Exit → Act → World → Prop}
theorem R_append1 {α : Type} (d : Kd α) {w0 W : World} (base : Nat) (hgd : o.guard = none) (s x : Operand) (t e : TypeId) (z : Value) (bytes : Nat)
    (ho : o.op = .call { callee := .builtin .append, args := #[s, x], argTypes := #[t, t] })
    (ht : P.underlying t = some (.slice e)) (hinfo : (P.info? e).map (fun i => (i.zero, i.size, i.bytes)) = some (some z, d.sz, bytes)) (hz : z.cells.size = d.sz) (hs0 : 0 < d.sz) (hb1 : bytes ≤ 140737488355328)
    (v : Value) (xs : List α) (p : α) (cs : List Value) (ok okp : Nat → Prop) (hs : a.eval s = v) (hx : a.eval x = .slice (some ⟨W.heap.size, 0, none⟩) 1 1) (hp : d.M W base okp p cs) (hokp : ∀ k, okp k → ok k ∧ some k ≠ v.ownBlock) (hfresh : ∀ k, W.heap.size ≤ k → ok k)
    (HO : d.R e W base ok v xs) (HB : Below base w0 W) (hbase : base ≤ W.heap.size) (hl : xs.length + 1 ≤ maxLen) (hfit : Builtin.nextslicecap (xs.length + 1) xs.length * bytes ≤ 281474976710656)
    (h : ∀ v1 w1, d.R e w1 base ok v1 (xs ++ [p]) → Below base w0 w1 → W.grownBy w1 v.ownBlock → (v1.ownBlock = v.ownBlock ∨ ∃ b, v1.ownBlock = some b ∧ W.heap.size ≤ b) → wpList P ops Q rest (a.put o.dst v1) w1) :
    wpList P ops Q (o :: rest) a (W.alloc (.cells cs.toArray e)) := by
  obtain ⟨h0, inner, hown, hr⟩ := HO
  obtain ⟨i0, hi, hzz⟩ := Option.map_eq_some_iff.1 hinfo
  simp only [Prod.mk.injEq] at hzz
  obtain ⟨hz0, hz1, hz2⟩ := hzz
  have hcl : cs.length = d.sz := d.K_len (d.K_of_M hp)
  rw [← hz1] at hown hz hs0 hcl
  refine wpList_plain hgd fun K hK => ?_
  obtain ⟨v1, w1, hrun, hown1, hg, hat⟩ := run_append1 (P := P) (W.alloc (.cells cs.toArray e)) base t o.type e i0 z ht hi hz0 hz hs0 v xs.length inner (hown.alloc _) ⟨W.heap.size, 0, none⟩ 1 cs (by rw [hcl]; simp)
    (by simpa using World.news_of_block (cs := cs.toArray) (t := e) (fr := (0, 0)) (heap_alloc_new W (.cells cs.toArray e))) (d.K_one (d.K_of_M hp)) hl (by rw [hz2]; exact hb1) (by rw [hz2]; exact hfit) (by simp; omega)
  unfold Oper.wp execOp
  simp only [ho, resolve, invoke, builtin, Sem.run_bind, Sem.run_pure, Result.andThen_ok, List.map_toArray, List.map_cons, List.map_nil, hs, hx, hrun]
  have hg2 : W.grownBy w1 v.ownBlock := World.grownBy.trans (World.grownBy_alloc W _ _) hg
  have hat2 : v1.ownBlock = v.ownBlock ∨ ∃ b, v1.ownBlock = some b ∧ W.heap.size ≤ b := by
    rcases hat with hat | hat
    · exact .inl hat
    · exact .inr ⟨_, hat, by simp⟩
  rw [hz1] at hown1 hown
  exact hK _ _ (h v1 w1 (Kd.R_appended h0 hr hp hokp hfresh hown1 hg2 hat2) ((HB.alloc hbase _).grown hg (by simp; omega) (own_base hown)) hg2 hat2)
end
end
end Go.Proofs.Ytklbkonehcjmjaa.P

end

section
namespace Go.Proofs.Ytklbkonehcjmjaa.P
open Go.RowKit Go.Proofs.YtklbkonehcjmjaaW.PrintWords Go.Proofs.YtklbkonehcjmjaaW.PrintLast Go.Proofs.YtklbkonehcjmjaaW.PrintMore
attribute [local go_sem] max2_int min2_int max_two min_two max_three min_three max_four min_four   -- for this text's walks alone
set_option linter.unusedVariables false
set_option linter.unusedSimpArgs false

structure WtAt (base g : Nat) (ok : Nat → Prop) (bs : List Int) (W : World) : Prop where
  ge : base ≤ g
  le : bs.length ≤ 1048576
  now : ∃ v : Value, W.heap[g]? = some (.cells #[v, .bool true] 81 (0, 0)) ∧ Kd.R (Kd.int .u8) 5 W base ok v bs
theorem WtAt.drewN {base g : Nat} {ok : Nat → Prop} {bs : List Int} {W : World} (h : WtAt base g ok bs W) (m : Nat) : WtAt base g ok bs (W.drewN m) := by
  obtain ⟨h1, h2, v, h3, h4⟩ := h
  exact ⟨h1, h2, v, blk_drewN h3 m, Kd.R_drewN h4 m⟩
theorem WtAt.step {base g : Nat} {ok : Nat → Prop} {bs : List Int} {W W' : World} (h : WtAt base g ok bs W) (hb : Below W.heap.size W W') : WtAt base g ok bs W' := by
  obtain ⟨h1, h2, v, h3, h4⟩ := h
  exact ⟨h1, h2, v, blk_below h3 hb, Kd.R_below h4 hb⟩
theorem WtAt.mono {base g : Nat} {ok ok' : Nat → Prop} {bs : List Int} {W : World} (h : WtAt base g ok bs W) (hk : ∀ k, ok k → ok' k) : WtAt base g ok' bs W := by
  obtain ⟨h1, h2, v, h3, h4⟩ := h
  exact ⟨h1, h2, v, h3, Kd.R_mono h4 hk⟩
theorem WtAt.kept {base g : Nat} {ok : Nat → Prop} {bs : List Int} {W W' : World} {S : Nat → Prop} (h : WtAt base g ok bs W) (hk : Kept W W' S) (h1 : ∀ k, ok k → ¬ S k) (h2 : ¬ S g) : WtAt base g ok bs W' := by
  obtain ⟨q1, q2, v, h3, h4⟩ := h
  exact ⟨q1, q2, v, blk_kept h3 hk h2, Kd.R_kept h4 hk h1⟩
end Go.Proofs.Ytklbkonehcjmjaa.P

end

section
namespace Go.Proofs.Ytklbkonehcjmjaa.P
open Go.RowKit Go.Proofs.YtklbkonehcjmjaaW.PrintWords Go.Proofs.YtklbkonehcjmjaaW.PrintLast Go.Proofs.YtklbkonehcjmjaaW.PrintMore
attribute [local go_sem] max2_int min2_int max_two min_two max_three min_three max_four min_four   -- for this text's walks alone
set_option linter.unusedVariables false
set_option linter.unusedSimpArgs false

structure PutAt (w : World) (g : Nat) (S T : Nat → Prop) (bw br : List Int) (v : Value) (W : World) : Prop where
  wt : WtAt w.heap.size g S bw W
  row : Kd.R (Kd.int .u8) 5 W w.heap.size T v br
  below : Below w.heap.size w W
  apart : ∀ k, T k → ¬ S k ∧ k ≠ g
  tl : ∀ k, T k → w.heap.size ≤ k
  sb : ∀ k, S k → k < W.heap.size
  tb : ∀ k, T k → k < W.heap.size
  gb : g < W.heap.size
theorem PutAt.step {w : World} {g : Nat} {S T : Nat → Prop} {bw br : List Int} {v : Value} {W W' : World} (h : PutAt w g S T bw br v W) (hb : Below W.heap.size W W') : PutAt w g S T bw br v W' :=
  ⟨h.wt.step hb, Kd.R_below h.row hb, below_step h.below hb, h.apart, h.tl, fun k hk => Nat.lt_of_lt_of_le (h.sb k hk) hb.size, fun k hk => Nat.lt_of_lt_of_le (h.tb k hk) hb.size, Nat.lt_of_lt_of_le h.gb hb.size⟩
theorem PutAt.kept {w : World} {g : Nat} {S T X : Nat → Prop} {bw br : List Int} {v : Value} {W W' : World} (h : PutAt w g S T bw br v W) (hk : Kept W W' X) (hb : Below w.heap.size w W') (hS : ∀ k, S k → ¬ X k) (hT : ∀ k, T k → ¬ X k) (hg : ¬ X g) : PutAt w g S T bw br v W' :=
  ⟨h.wt.kept hk hS hg, Kd.R_mono (Kd.R_keptB h.row hk hT) (fun k hk => hk.1), hb, h.apart, h.tl, fun k hk2 => Nat.lt_of_lt_of_le (h.sb k hk2) hk.1, fun k hk2 => Nat.lt_of_lt_of_le (h.tb k hk2) hk.1, Nat.lt_of_lt_of_le h.gb hk.1⟩
end Go.Proofs.Ytklbkonehcjmjaa.P

end

section
namespace Go.Proofs.Ytklbkonehcjmjaa.P
open Go.RowKit Go.Proofs.YtklbkonehcjmjaaW.PrintWords Go.Proofs.YtklbkonehcjmjaaW.PrintLast Go.Proofs.YtklbkonehcjmjaaW.PrintMore
attribute [local go_sem] max2_int min2_int max_two min_two max_three min_three max_four min_four   -- for this text's walks alone
set_option linter.unusedVariables false
set_option linter.unusedSimpArgs false

def provisoref01_Number.l0 : Nat → List Int → Int → Int → Int → Int → Option (Int × Int × Int)
  | 0, _, _, _, _, _ => none
  | k + 1, x0, x1, x2, x9, x10 => if x10 < x2 then (if 0 ≤ (wrap64 (x1 + x10)) then (if (wrap64 (x1 + x10)) < (x0.length : Int) then (provisoref01_Number.l0 k x0 x1 x2 (wrap64 ((wrap64 (x9 * 256)) + (wrap64 (rd x0 (wrap64 (x1 + x10)))))) (wrap64 (x10 + 1))) else (none)) else (none)) else (if x2 = 4 then (if x9 ≥ 2147483648 then (some (wrap64 (x9 - 4294967296), wrap64 (x1 + x2), 0)) else (some (x9, wrap64 (x1 + x2), 0))) else (some (x9, wrap64 (x1 + x2), 0)))
def provisoref01_Number.f (k : Nat) (l0 : List Int) (a1 : Int) (a2 : Int) : Option (Int × Int × Int) := if (wrap64 ((l0.length : Int) - a1)) < a2 then (some (0, a1, 2)) else (provisoref01_Number.l0 k l0 a1 a2 0 0)
set_option maxHeartbeats 8000000 in
set_option maxRecDepth 100000 in
theorem provisoref01_Number.calls (k : Nat) (A0 : Option Addr) (c0 : Nat) (l0 : List Int) (a1 : Int) (a2 : Int) (r1 : Int) (r2 : Int) (r3 : Int) (w : World) (hr0 : Kd.C (Kd.int .u8) w A0 l0.length l0) (hc0 : l0.length ≤ c0) (h : provisoref01_Number.f k l0 a1 a2 = some (r1, r2, r3)) :
    Calls Try.prog 59 #[.slice A0 l0.length c0, .int .i64 a1, .int .i64 a2] w fun e w' => e = .returned (.tuple #[.int .i64 r1, .int .i64 r2, .int .i64 r3]) ∧ Drawn0 w w' := by
  have HR0 := Aside0.mk hr0
  have HC0 := Aside0.mk hc0
  clear hr0 hc0
  have H : (if (wrap64 ((l0.length : Int) - a1)) < a2 then (some (0, a1, 2)) else (provisoref01_Number.l0 k l0 a1 a2 0 0)) = some (r1, r2, r3) := h
  clear h
  by_cases c4 : (wrap64 ((l0.length : Int) - a1)) < a2
  · rw [if_pos c4] at H
    have c4b0 : decide ((wrap64 ((l0.length : Int) - a1)) < a2) = true := decide_eq_true c4
    clear c4
    simp only [Option.some.injEq, Prod.mk.injEq] at H
    obtain ⟨rfl, rfl, rfl⟩ := H
    go_enter Try.func59, Try.ntmps59
    go_wp2
    go_ret3
    exact ⟨by first | rfl | (simp; done) | (simp [*]; done), by repeat (first | exact Drawn0.refl _ | apply Drawn0.step)⟩
  · rw [if_neg c4] at H
    have c4b0 : decide ((wrap64 ((l0.length : Int) - a1)) < a2) = false := decide_eq_false c4
    clear c4
    have H' := Aside0.mk H
    clear H
    go_enter Try.func59, Try.ntmps59
    go_wp2
    go_loopg [9, 10] k (fun kq v9 v10 w' => ∃ (x9_1 : Int) (x10_1 : Int), v9 = .int .i64 x9_1 ∧ v10 = .int .i64 x10_1 ∧ Aside0 (provisoref01_Number.l0 kq l0 a1 a2 x9_1 x10_1 = some (r1, r2, r3)) ∧ Aside0 (kq ≤ k) ∧ Drawn0 w w')
    case atStart => exact ⟨(0), (0), (by first | rfl | (simp; done) | (simp [*]; done)), (by first | rfl | (simp; done) | (simp [*]; done)), H', ⟨Nat.le_refl _⟩, by repeat (first | exact Drawn0.refl _ | apply Drawn0.step)⟩
    case round =>
      clear H'
      try clear p2
      try clear c4
      try clear c4b0
      obtain ⟨x9_1, x10_1, rfl, rfl, HA, HK1, ⟨m1, rfl⟩⟩ := hrel
      cases gk with
      | zero => exact absurd HA.out (by simp [provisoref01_Number.l0])
      | succ k1 =>
        have H := HA.out
        clear HA
        simp only [provisoref01_Number.l0] at H
        by_cases c5 : x10_1 < a2
        · rw [if_pos c5] at H
          have c5b0 : decide (x10_1 < a2) = true := decide_eq_true c5
          clear c5
          obtain ⟨ji6, hji6⟩ : ∃ j_ : Int, (wrap64 (a1 + x10_1)) = j_ := ⟨_, rfl⟩
          replace H : (if 0 ≤ (ji6) then (if (ji6) < (l0.length : Int) then (provisoref01_Number.l0 k1 l0 a1 a2 (wrap64 ((wrap64 (x9_1 * 256)) + (wrap64 (rd l0 (ji6))))) (wrap64 (x10_1 + 1))) else (none)) else (none)) = some (r1, r2, r3) := by first | (rw [hji6] at H; exact H) | (simp only [hji6] at H ⊢; exact H)
          have hji6w : (IntKind.i64.wrap (a1 + x10_1)) = ji6 := (i64_w _).trans hji6
          by_cases c7 : 0 ≤ (ji6)
          · rw [if_pos c7] at H
            have c7b0 : decide (0 ≤ (ji6)) = true := decide_eq_true c7
            clear c7
            by_cases c8 : (ji6) < (l0.length : Int)
            · rw [if_pos c8] at H
              have c8b0 : decide ((ji6) < (l0.length : Int)) = true := decide_eq_true c8
              clear c8
              have H' := Aside0.mk H
              clear H
              have p157 : 0 ≤ ((ji6) : Int) := of_decide_eq_true (by first | (with_reducible assumption) | assumption)
              have q157 : (ji6) < (l0.length : Int) := of_decide_eq_true (by first | (with_reducible assumption) | assumption)
              obtain ⟨ad157, e157, hx157_0⟩ := Kd.at_int HR0.out (ji6) p157 q157
              cases e157
              replace p157 := eq_true p157
              replace q157 := eq_true q157
              go_wp2
              go_roundg k1
              case measure => have := HK1.out; omega
              case rel => exact ⟨(wrap64 ((wrap64 (x9_1 * 256)) + (wrap64 (rd l0 (ji6))))), (wrap64 (x10_1 + 1)), (by first | rfl | (simp; done) | (simp only [← hji6] <;> (first | rfl | simp)) | (simp [*]; done)), (by first | rfl | (simp; done) | (simp [*]; done)), H', ⟨by have := HK1.out; omega⟩, by repeat (first | exact Drawn0.refl _ | apply Drawn0.step)⟩
            · rw [if_neg c8] at H
              exact absurd H (by simp)
          · rw [if_neg c7] at H
            exact absurd H (by simp)
        · rw [if_neg c5] at H
          have c5b0 : decide (x10_1 < a2) = false := decide_eq_false c5
          clear c5
          by_cases c9 : a2 = 4
          · rw [if_pos c9] at H
            have c9b0 : (a2 == 4) = true := beq_iff_eq.mpr c9
            have c9b1 : (a2 != 4) = false := bne_eq_false_iff_eq.mpr c9
            clear c9
            by_cases c10 : x9_1 ≥ 2147483648
            · rw [if_pos c10] at H
              have c10b0 : decide (2147483648 ≤ x9_1) = true := decide_eq_true c10
              clear c10
              simp only [Option.some.injEq, Prod.mk.injEq] at H
              obtain ⟨rfl, rfl, rfl⟩ := H
              go_wp2
              go_ret3
              exact ⟨by first | rfl | (simp; done) | (simp [*]; done), by repeat (first | exact Drawn0.refl _ | apply Drawn0.step)⟩
            · rw [if_neg c10] at H
              have c10b0 : decide (2147483648 ≤ x9_1) = false := decide_eq_false c10
              clear c10
              simp only [Option.some.injEq, Prod.mk.injEq] at H
              obtain ⟨rfl, rfl, rfl⟩ := H
              go_wp2
              go_ret3
              exact ⟨by first | rfl | (simp; done) | (simp [*]; done), by repeat (first | exact Drawn0.refl _ | apply Drawn0.step)⟩
          · rw [if_neg c9] at H
            have c9b0 : (a2 == 4) = false := beq_eq_false_iff_ne.mpr c9
            have c9b1 : (a2 != 4) = true := bne_iff_ne.mpr c9
            simp only [Option.some.injEq, Prod.mk.injEq] at H
            obtain ⟨rfl, rfl, rfl⟩ := H
            go_wp2
            go_ret3
            exact ⟨by first | rfl | (simp; done) | (simp [*]; done), by repeat (first | exact Drawn0.refl _ | apply Drawn0.step)⟩



def provisoref01_Take.l0 : Nat → List Int → Int → Int → List Int → Int → Option (List Int × Int × Int)
  | 0, _, _, _, _, _ => none
  | k + 1, x0, x1, x2, x9, x10 => if x10 < x2 then (if 0 ≤ (wrap64 (x1 + x10)) then (if (wrap64 (x1 + x10)) < (x0.length : Int) then (if x9.length < 140737488355328 then (provisoref01_Take.l0 k x0 x1 x2 (x9 ++ [rd x0 (wrap64 (x1 + x10))]) (wrap64 (x10 + 1))) else (none)) else (none)) else (none)) else (some (x9, wrap64 (x1 + x2), 0))
def provisoref01_Take.f (k : Nat) (l0 : List Int) (a1 : Int) (a2 : Int) : Option (List Int × Int × Int) := if a2 < 0 then (some (([] : List Int), a1, 1)) else (if (wrap64 ((l0.length : Int) - a1)) < a2 then (some (([] : List Int), a1, 2)) else (provisoref01_Take.l0 k l0 a1 a2 (([] : List Int)) 0))
set_option maxHeartbeats 8000000 in
set_option maxRecDepth 100000 in
theorem provisoref01_Take.calls (k : Nat) (A0 : Option Addr) (c0 : Nat) (l0 : List Int) (a1 : Int) (a2 : Int) (r1 : List Int) (r2 : Int) (r3 : Int) (w : World) (hr0 : Kd.C (Kd.int .u8) w A0 l0.length l0) (hc0 : l0.length ≤ c0) (h : provisoref01_Take.f k l0 a1 a2 = some (r1, r2, r3)) :
    Calls Try.prog 62 #[.slice A0 l0.length c0, .int .i64 a1, .int .i64 a2] w fun e w' => ∃ v0_ : Value, e = .returned (.tuple #[v0_, .int .i64 r2, .int .i64 r3]) ∧ Kd.R (Kd.int .u8) 5 w' w.heap.size (fun _ => True) v0_ r1 ∧ Below w.heap.size w w' := by
  have HR0 := Aside0.mk hr0
  have HC0 := Aside0.mk hc0
  clear hr0 hc0
  have HB := Aside0.mk (Below.refl w.heap.size w)
  have H : (if a2 < 0 then (some (([] : List Int), a1, 1)) else (if (wrap64 ((l0.length : Int) - a1)) < a2 then (some (([] : List Int), a1, 2)) else (provisoref01_Take.l0 k l0 a1 a2 (([] : List Int)) 0))) = some (r1, r2, r3) := h
  clear h
  by_cases c4 : a2 < 0
  · rw [if_pos c4] at H
    have c4b0 : decide (a2 < 0) = true := decide_eq_true c4
    clear c4
    simp only [Option.some.injEq, Prod.mk.injEq] at H
    obtain ⟨rfl, rfl, rfl⟩ := H
    go_enter Try.func62, Try.ntmps62
    go_wp2
    go_ret3
    exact ⟨_, by first | rfl | (simp [errW_none, errW_some] <;> rfl) | (simp [*, errW_none, errW_some] <;> rfl), by first | exact Kd.R_nil _ _ _ _ _ | exact Kd.N_nil _ _ _ _ _ | exact Kd.V_nil _ _ _ _ _ | exact Kd.Q_nil _ _ _ _ _ | exact Kd.S_nil _ _ _ _ _, by repeat (first | (with_reducible first | exact HB.out | apply below_alloc | apply pw_below_drewN | apply below_drew1) | exact HB.out)⟩
  · rw [if_neg c4] at H
    have c4b0 : decide (a2 < 0) = false := decide_eq_false c4
    clear c4
    by_cases c5 : (wrap64 ((l0.length : Int) - a1)) < a2
    · rw [if_pos c5] at H
      have c5b0 : decide ((wrap64 ((l0.length : Int) - a1)) < a2) = true := decide_eq_true c5
      clear c5
      simp only [Option.some.injEq, Prod.mk.injEq] at H
      obtain ⟨rfl, rfl, rfl⟩ := H
      go_enter Try.func62, Try.ntmps62
      go_wp2
      go_ret3
      exact ⟨_, by first | rfl | (simp [errW_none, errW_some] <;> rfl) | (simp [*, errW_none, errW_some] <;> rfl), by first | exact Kd.R_nil _ _ _ _ _ | exact Kd.N_nil _ _ _ _ _ | exact Kd.V_nil _ _ _ _ _ | exact Kd.Q_nil _ _ _ _ _ | exact Kd.S_nil _ _ _ _ _, by repeat (first | (with_reducible first | exact HB.out | apply below_alloc | apply pw_below_drewN | apply below_drew1) | exact HB.out)⟩
    · rw [if_neg c5] at H
      have c5b0 : decide ((wrap64 ((l0.length : Int) - a1)) < a2) = false := decide_eq_false c5
      clear c5
      obtain ⟨y158, hy158⟩ : ∃ y_ : List Int, y_ = (([] : List Int)) := ⟨_, rfl⟩
      replace H : (provisoref01_Take.l0 k l0 a1 a2 y158 0) = some (r1, r2, r3) := by first | (rw [hy158]; with_reducible exact H) | (have H2_ := (Option.bind_some _ _).symm.trans H; rw [hy158]; with_reducible exact H2_) | (have H2_ := (Option.bind_some _ _).symm.trans H; with_reducible exact H2_) | with_reducible exact H | (rw [hy158]; exact H) | exact H
      have Ny158 := Aside0.mk hy158
      clear hy158
      have H' := Aside0.mk H
      clear H
      go_enter Try.func62, Try.ntmps62
      go_wp2_with (first | ((with_reducible refine gate_dst (N := 21) rfl ?_); refine Kd.R_lit (Kd.int .u8) _ 5 ?hg (N := 21) ?hd (xs := ([] : List Int)) (inner := []) (ok := fun _ => True) (okp := fun _ => True) ?hr ?hp (fun _ hk => hk) trivial (Below.refl _ _) (Nat.le_refl _) (by simp) ?_; (case hd => rfl); (case hg => rfl); (case hr => first | (go_simp; done) | (go_simp; rfl)); (case hp => exact (Reps.none _ _)); intro v159 w6 ho7 hb hg_ hnew_; clear hg_ hnew_; (first | rw [← Ny158.out] at ho7 | (simp only [Int.reduceToNat] at ho7; rw [← Ny158.out] at ho7)); have n0_ := Aside0.mk (Kd.R_lower ho7 (below_size (by repeat (first | (with_reducible first | exact HB.out | apply below_alloc | apply pw_below_drewN | apply below_drew1) | exact HB.out)))); have n1_ := Aside0.mk (below_step (by repeat (first | (with_reducible first | exact HB.out | apply below_alloc | apply pw_below_drewN | apply below_drew1) | exact HB.out)) hb); clear HB; have HO160 := n0_; have HB := n1_; clear n0_ n1_; clear hb ho7))
      go_loopg [9, 10] k (fun kq v9 v10 w' => ∃ (x9_1 : List Int) (x10_1 : Int), v10 = .int .i64 x10_1 ∧ Aside0 (provisoref01_Take.l0 kq l0 a1 a2 x9_1 x10_1 = some (r1, r2, r3)) ∧ Aside0 (kq ≤ k) ∧ Aside0 (Kd.R (Kd.int .u8) 5 w' w.heap.size (fun _ => True) v9 x9_1) ∧ Aside0 (Below w.heap.size w w'))
      case atStart => exact ⟨(y158), (0), (by first | rfl | (simp; done) | (simp [*]; done)), H', ⟨Nat.le_refl _⟩, ⟨by (with_reducible repeat (first | apply Kd.R_alloc | apply Kd.R_drewN | apply Kd.R_drew)); exact HO160.out⟩, ⟨by repeat (first | (with_reducible first | exact HB.out | apply below_alloc | apply pw_below_drewN | apply below_drew1) | exact HB.out)⟩⟩
      case round =>
        clear H'
        try clear p2
        try clear c4
        try clear c4b0
        try clear c5
        try clear c5b0
        try clear c6
        try clear p6
        obtain ⟨x9_1, x10_1, rfl, HA, HK1, HO_9, HB⟩ := hrel
        cases gk with
        | zero => exact absurd HA.out (by simp [provisoref01_Take.l0])
        | succ k1 =>
          have H := HA.out
          clear HA
          simp only [provisoref01_Take.l0] at H
          by_cases c8 : x10_1 < a2
          · rw [if_pos c8] at H
            have c8b0 : decide (x10_1 < a2) = true := decide_eq_true c8
            clear c8
            obtain ⟨ji9, hji9⟩ : ∃ j_ : Int, (wrap64 (a1 + x10_1)) = j_ := ⟨_, rfl⟩
            replace H : (if 0 ≤ (ji9) then (if (ji9) < (l0.length : Int) then (if x9_1.length < 140737488355328 then (provisoref01_Take.l0 k1 l0 a1 a2 (x9_1 ++ [rd l0 (ji9)]) (wrap64 (x10_1 + 1))) else (none)) else (none)) else (none)) = some (r1, r2, r3) := by first | (rw [hji9] at H; exact H) | (simp only [hji9] at H ⊢; exact H)
            have hji9w : (IntKind.i64.wrap (a1 + x10_1)) = ji9 := (i64_w _).trans hji9
            by_cases c10 : 0 ≤ (ji9)
            · rw [if_pos c10] at H
              have c10b0 : decide (0 ≤ (ji9)) = true := decide_eq_true c10
              clear c10
              by_cases c11 : (ji9) < (l0.length : Int)
              · rw [if_pos c11] at H
                have c11b0 : decide ((ji9) < (l0.length : Int)) = true := decide_eq_true c11
                clear c11
                by_cases c12 : x9_1.length < 140737488355328
                · rw [if_pos c12] at H
                  have LMc12 := Aside0.mk c12
                  clear c12
                  obtain ⟨y162, hy162⟩ : ∃ y_ : List Int, y_ = (x9_1 ++ [rd l0 (ji9)]) := ⟨_, rfl⟩
                  replace H : (provisoref01_Take.l0 k1 l0 a1 a2 y162 (wrap64 (x10_1 + 1))) = some (r1, r2, r3) := by first | (rw [hy162]; with_reducible exact H) | (have H2_ := (Option.bind_some _ _).symm.trans H; rw [hy162]; with_reducible exact H2_) | (have H2_ := (Option.bind_some _ _).symm.trans H; with_reducible exact H2_) | with_reducible exact H | (rw [hy162]; exact H) | exact H
                  have Ny162 := Aside0.mk hy162
                  clear hy162
                  have H' := Aside0.mk H
                  clear H
                  have p161 : 0 ≤ ((ji9) : Int) := of_decide_eq_true (by first | (with_reducible assumption) | assumption)
                  have q161 : (ji9) < (l0.length : Int) := of_decide_eq_true (by first | (with_reducible assumption) | assumption)
                  obtain ⟨ad161, e161, hx161_0⟩ := Kd.at_int HR0.out (ji9) p161 q161
                  cases e161
                  replace hx161_0 := (HB.out.cell (World.block_lt_of_cell? w _ hx161_0)).trans hx161_0
                  replace p161 := eq_true p161
                  replace q161 := eq_true q161
                  go_wp2_with (first | ((with_reducible refine gate_builtin (b := .append) (xs := #[.tmp 27, .tmp 34]) rfl ?_); at_builtin; refine Kd.R_append (Kd.int .u8) (w0 := w) w.heap.size rfl (.tmp 27) (.tmp 34) 23 5 (.int .u8 0) 1 rfl Try.underlying23 info5 rfl (by decide) (by omega) u9 x9_1 (rd l0 (ji9)) [.int .u8 (rd l0 (ji9))] (fun _ => True) (fun _ => False) rfl rfl ?aP (fun _ hk => hk.elim) ?aF ?aO ?aB ?aS ?aL ?_; (case aP => exact rfl); (case aB => exact (by repeat (first | (with_reducible first | exact HB.out | apply below_alloc | apply pw_below_drewN | apply below_drew1) | exact HB.out))); (case aF => exact (fun _ _ => trivial)); (case aO => exact (by (with_reducible repeat (first | apply Kd.R_alloc | apply Kd.R_drewN | apply Kd.R_drew)); exact HO_9.out)); (case aS => exact (below_size (by repeat (first | (with_reducible first | exact HB.out | apply below_alloc | apply pw_below_drewN | apply below_drew1) | exact HB.out)))); (case aL => have := LMc12.out; omega); intro v163 w13 ho hb hg hat; rw [← Ny162.out] at ho; have n0_ := Aside0.mk (hb); have n1_ := Aside0.mk (ho); clear HB; clear HO_9; have HB := n0_; have HO164 := n1_; clear n0_ n1_; clear ho hb hg hat))
                  go_roundg k1
                  case measure => have := HK1.out; omega
                  case rel => exact ⟨(y162), (wrap64 (x10_1 + 1)), (by first | rfl | (simp; done) | (simp [*]; done)), H', ⟨by have := HK1.out; omega⟩, ⟨by (with_reducible repeat (first | apply Kd.R_alloc | apply Kd.R_drewN | apply Kd.R_drew)); exact HO164.out⟩, ⟨by repeat (first | (with_reducible first | exact HB.out | apply below_alloc | apply pw_below_drewN | apply below_drew1) | exact HB.out)⟩⟩
                · rw [if_neg c12] at H
                  exact absurd H (by simp)
              · rw [if_neg c11] at H
                exact absurd H (by simp)
            · rw [if_neg c10] at H
              exact absurd H (by simp)
          · rw [if_neg c8] at H
            have c8b0 : decide (x10_1 < a2) = false := decide_eq_false c8
            clear c8
            simp only [Option.some.injEq, Prod.mk.injEq] at H
            obtain ⟨rfl, rfl, rfl⟩ := H
            go_wp2
            go_ret3
            exact ⟨_, by first | rfl | (simp [errW_none, errW_some] <;> rfl) | (simp [*, errW_none, errW_some] <;> rfl), by (with_reducible repeat (first | apply Kd.R_alloc | apply Kd.R_drewN | apply Kd.R_drew)); exact HO_9.out, by repeat (first | (with_reducible first | exact HB.out | apply below_alloc | apply pw_below_drewN | apply below_drew1) | exact HB.out)⟩



end Go.Proofs.Ytklbkonehcjmjaa.P

end

section
namespace Go.Proofs.Ytklbkonehcjmjaa.P
open Go.RowKit Go.Proofs.YtklbkonehcjmjaaW.PrintWords Go.Proofs.YtklbkonehcjmjaaW.PrintLast Go.Proofs.YtklbkonehcjmjaaW.PrintMore
attribute [local go_sem] max2_int min2_int max_two min_two max_three min_three max_four min_four
set_option linter.unusedVariables false
set_option linter.unusedSimpArgs false
structure Ent where
  g : Nat
  p : Nat
  bs : List Int
  ar : Nat
  ap : Nat
def BsAt (w0 W : World) (A : Option Addr) (c : Nat) (bs : List Int) : Prop := bs.length ≤ c ∧ (Kd.C (Kd.int .u8) w0 A bs.length bs ∨ Kd.R (Kd.int .u8) 5 W w0.heap.size (fun _ => True) (.slice A bs.length c) bs)
theorem BsAt.step {w0 W W1 : World} {A : Option Addr} {c : Nat} {bs : List Int} (h : BsAt w0 W A c bs) (hb : Below W.heap.size W W1) : BsAt w0 W1 A c bs := ⟨h.1, h.2.imp id (fun q => Kd.R_below q hb)⟩
theorem BsAt.set {w0 W : World} {A : Option Addr} {c : Nat} {bs : List Int} (h : BsAt w0 W A c bs) {g t : Nat} {cs : Array Value} (hg : W.heap[g]? = some (.cells cs t (0, 0))) (ht : 5 ≠ t) (j : Nat) (u : Value) : BsAt w0 (W.setCell ⟨g, j, none⟩ u) A c bs := ⟨h.1, h.2.imp id (fun q => Kd.R_set q hg (fun z hz => by
  rcases List.mem_cons.1 hz with rfl | hz
  · exact ht
  · cases hz) j u)⟩
theorem BsAt.reads {w0 W : World} {A : Option Addr} {c : Nat} {bs : List Int} (h : BsAt w0 W A c bs) (hb : Below w0.heap.size w0 W) : Kd.C (Kd.int .u8) W A bs.length bs := h.2.elim (fun q => Kd.C_below q hb) (fun q => (Kd.R_reads' q).2.2)
structure EntAt (w0 : World) (e : Ent) (W : World) : Prop where
  rd : RdAt w0.heap.size e.g e.bs e.ar W
  ge : w0.heap.size ≤ e.p
  pl : ∃ A c, W.heap[e.p]? = some (.cells #[.slice A e.bs.length c, .int .i64 (e.ap : Int)] 65 (0, 0)) ∧ BsAt w0 W A c e.bs
  by_ : ∀ x ∈ e.bs, 0 ≤ x ∧ x ≤ 255
  lim : e.bs.length ≤ 140737488351232
theorem EntAt.step {w0 W W1 : World} {e : Ent} (h : EntAt w0 e W) (hb : Below W.heap.size W W1) : EntAt w0 e W1 := by
  obtain ⟨A, c, h1, h2⟩ := h.pl
  exact ⟨h.rd.step hb, h.ge, ⟨A, c, blk_below h1 hb, h2.step hb⟩, h.by_, h.lim⟩
theorem EntAt.blocks {w0 W : World} {e : Ent} (h : EntAt w0 e W) : (∃ cs, W.heap[e.g]? = some (.cells cs 79 (0, 0))) ∧ ∃ cs, W.heap[e.p]? = some (.cells cs 65 (0, 0)) := by
  obtain ⟨A, c, h1, h2⟩ := h.pl
  exact ⟨h.rd.frozen, ⟨_, h1⟩⟩
theorem typ_ne {W : World} {a b t u : Nat} {cs ds : Array Value} (h1 : W.heap[a]? = some (.cells cs t (0, 0))) (h2 : W.heap[b]? = some (.cells ds u (0, 0))) (hn : t ≠ u) : a ≠ b := fun e => by
  rw [e, h2] at h1
  injection h1 with h1
  injection h1 with _ h1 _
  exact hn h1.symm
theorem RdAt.away {base g : Nat} {bs : List Int} {at_ : Nat} {W : World} (h : RdAt base g bs at_ W) {g2 t : Nat} {cs : Array Value} (h2 : W.heap[g2]? = some (.cells cs t (0, 0))) (ht : 5 ≠ t) (hne : g ≠ g2) (j : Nat) (u : Value) : RdAt base g bs at_ (W.setCell ⟨g2, j, none⟩ u) := by
  obtain ⟨h1, h2', v, h3, h4⟩ := h
  exact ⟨h1, h2', v, blk_far h3 (by simpa using hne) _, Kd.R_set h4 h2 (fun z hz => by
    rcases List.mem_cons.1 hz with rfl | hz
    · exact ht
    · cases hz) _ _⟩
theorem EntAt.far {w0 W : World} {e : Ent} (h : EntAt w0 e W) {g2 t : Nat} {cs : Array Value} (h2 : W.heap[g2]? = some (.cells cs t (0, 0))) (ht : 5 ≠ t) (hg : e.g ≠ g2) (hp : e.p ≠ g2) (j : Nat) (u : Value) : EntAt w0 e (W.setCell ⟨g2, j, none⟩ u) := by
  obtain ⟨A, c, h1, h3⟩ := h.pl
  exact ⟨h.rd.away h2 ht hg j u, h.ge, ⟨A, c, blk_far h1 (by simpa using hp) _, h3.set h2 ht j u⟩, h.by_, h.lim⟩
structure RSt (w0 : World) (n : Nat) (f : Nat → Ent) (W : World) : Prop where
  below : Below w0.heap.size w0 W
  all : ∀ i, i < n → EntAt w0 (f i) W
  ng : ∀ i j, i < n → j < n → i ≠ j → (f i).g ≠ (f j).g
  np : ∀ i j, i < n → j < n → i ≠ j → (f i).p ≠ (f j).p
theorem RSt.step {w0 W W1 : World} {n : Nat} {f : Nat → Ent} (h : RSt w0 n f W) (hb : Below W.heap.size W W1) : RSt w0 n f W1 := ⟨below_step h.below hb, fun i hi => (h.all i hi).step hb, h.ng, h.np⟩
def upR (f : Nat → Ent) (i k : Nat) : Nat → Ent := fun j => if j = i then { f i with ar := k } else f j
def upP (f : Nat → Ent) (i k : Nat) : Nat → Ent := fun j => if j = i then { f i with ap := k } else f j
theorem upR_same (f : Nat → Ent) (i k j : Nat) : (upR f i k j).g = (f j).g ∧ (upR f i k j).p = (f j).p ∧ (upR f i k j).bs = (f j).bs ∧ (upR f i k j).ap = (f j).ap := by
  unfold upR
  split
  · subst_vars; exact ⟨rfl, rfl, rfl, rfl⟩
  · exact ⟨rfl, rfl, rfl, rfl⟩
theorem upP_same (f : Nat → Ent) (i k j : Nat) : (upP f i k j).g = (f j).g ∧ (upP f i k j).p = (f j).p ∧ (upP f i k j).bs = (f j).bs ∧ (upP f i k j).ar = (f j).ar := by
  unfold upP
  split
  · subst_vars; exact ⟨rfl, rfl, rfl, rfl⟩
  · exact ⟨rfl, rfl, rfl, rfl⟩
theorem upR_self (f : Nat → Ent) (i : Nat) : upR f i (f i).ar = f := by
  funext j
  unfold upR
  split
  · subst_vars; rfl
  · rfl
theorem RSt.gp {w0 W : World} {n : Nat} {f : Nat → Ent} (h : RSt w0 n f W) {i j : Nat} (hi : i < n) (hj : j < n) : (f i).g ≠ (f j).p := by
  obtain ⟨c1, h1⟩ := (h.all i hi).blocks.1
  obtain ⟨c2, h2⟩ := (h.all j hj).blocks.2
  exact typ_ne h1 h2 (by decide)
theorem RSt.rset0 {w0 W : World} {n : Nat} {f : Nat → Ent} (h : RSt w0 n f W) {i : Nat} (hi : i < n) (k : Nat) (hk : k ≤ (f i).bs.length) : RSt w0 n (upR f i k) (W.setCell ⟨(f i).g, 1, none⟩ (.int .i64 (k : Int))) := by
  obtain ⟨cs, hg⟩ := (h.all i hi).blocks.1
  have hge := (h.all i hi).rd.ge
  refine ⟨h.below.setCell hge _, fun j hj => ?_, fun a b ha hb hab => ?_, fun a b ha hb hab => ?_⟩
  · unfold upR
    by_cases e : j = i
    · rw [if_pos e]
      have h1 := h.all i hi
      obtain ⟨A, c, h2, h3⟩ := h1.pl
      exact ⟨h1.rd.set k hk, h1.ge, ⟨A, c, blk_far h2 (by simpa using (h.gp hi hi).symm) _, h3.set hg (by decide) _ _⟩, h1.by_, h1.lim⟩
    · rw [if_neg e]
      exact (h.all j hj).far hg (by decide) (h.ng j i hj hi e) (h.gp hi hj).symm _ _
  · rw [(upR_same f i k a).1, (upR_same f i k b).1]; exact h.ng a b ha hb hab
  · rw [(upR_same f i k a).2.1, (upR_same f i k b).2.1]; exact h.np a b ha hb hab
theorem RSt.rset {w0 W : World} {n : Nat} {f : Nat → Ent} (h : RSt w0 n f W) {i : Nat} (hi : i < n) (k : Nat) (hk : k ≤ (f i).bs.length) (m m2 : Nat) : RSt w0 n (upR f i k) (((W.drewN m).setCell ⟨(f i).g, 1, none⟩ (.int .i64 (k : Int))).drewN m2) :=
  ((h.step (pw_below_drewN (Below.refl _ _) m)).rset0 hi k hk).step (pw_below_drewN (Below.refl _ _) m2)
theorem RSt.pset {w0 W : World} {n : Nat} {f : Nat → Ent} (h : RSt w0 n f W) {i : Nat} (hi : i < n) (k : Nat) : RSt w0 n (upP f i k) (W.setCell ⟨(f i).p, 1, none⟩ (.int .i64 (k : Int))) := by
  obtain ⟨cs, hg⟩ := (h.all i hi).blocks.2
  have hge := (h.all i hi).ge
  refine ⟨h.below.setCell hge _, fun j hj => ?_, fun a b ha hb hab => ?_, fun a b ha hb hab => ?_⟩
  · unfold upP
    by_cases e : j = i
    · rw [if_pos e]
      have h1 := h.all i hi
      obtain ⟨A, c, h2, h3⟩ := h1.pl
      exact ⟨h1.rd.away hg (by decide) (h.gp hi hi) _ _, h1.ge, ⟨A, c, blk_set h2 1 _, h3.set hg (by decide) _ _⟩, h1.by_, h1.lim⟩
    · rw [if_neg e]
      exact (h.all j hj).far hg (by decide) (h.gp hj hi) (h.np j i hj hi e) _ _
  · rw [(upP_same f i k a).1, (upP_same f i k b).1]; exact h.ng a b ha hb hab
  · rw [(upP_same f i k a).2.1, (upP_same f i k b).2.1]; exact h.np a b ha hb hab
theorem RSt.push {w0 W : World} {n : Nat} {f : Nat → Ent} (h : RSt w0 n f W) (e : Ent) (he : EntAt w0 e W) (hg : ∀ i, i < n → (f i).g ≠ e.g) (hp : ∀ i, i < n → (f i).p ≠ e.p) : RSt w0 (n + 1) (fun j => if j = n then e else f j) W := by
  refine ⟨h.below, fun i hi => ?_, fun a b ha hb hab => ?_, fun a b ha hb hab => ?_⟩
  · show EntAt w0 (if i = n then e else f i) W
    by_cases q : i = n
    · rw [if_pos q]; exact he
    · rw [if_neg q]; exact h.all i (by omega)
  · show (if a = n then e else f a).g ≠ (if b = n then e else f b).g
    by_cases q : a = n <;> by_cases r : b = n
    · omega
    · rw [if_pos q, if_neg r]; exact (hg b (by omega)).symm
    · rw [if_neg q, if_pos r]; exact hg a (by omega)
    · rw [if_neg q, if_neg r]; exact h.ng a b (by omega) (by omega) hab
  · show (if a = n then e else f a).p ≠ (if b = n then e else f b).p
    by_cases q : a = n <;> by_cases r : b = n
    · omega
    · rw [if_pos q, if_neg r]; exact (hp b (by omega)).symm
    · rw [if_neg q, if_pos r]; exact hp a (by omega)
    · rw [if_neg q, if_neg r]; exact h.np a b (by omega) (by omega) hab
def seg (bs : List Int) (a n : Nat) : List Int := (bs.take (a + n)).drop a
def valR (k : Nat) (xs : List Int) : Int := if k = 4 then signOf (numOf xs) else numOf xs
def numR (k : Nat) (bs : List Int) (a : Nat) : Int × Nat × Int := if bs.length < a + k then (0, a, 2) else (valR k (seg bs a k), a + k, 0)
def takeR (bs : List Int) (a : Nat) (n : Int) : List Int × Nat × Int := if n < 0 then ([], a, 1) else if n > (bs.length : Int) - (a : Int) then ([], a, 2) else (seg bs a n.toNat, a + n.toNat, 0)
def nameR (nm : ByteArray → Bool) (bs : List Int) (a : Nat) : ByteArray × Nat × Int :=
  if bs.length < a + 1 then (.empty, a, 2) else
  if rd bs (a : Int) = 0 ∨ 24 < rd bs (a : Int) then (.empty, a, 6) else
  if bs.length < a + 1 + (rd bs (a : Int)).toNat then (.empty, a, 2) else
  if nm (strOfNums (seg bs (a + 1) (rd bs (a : Int)).toNat)) then (strOfNums (seg bs (a + 1) (rd bs (a : Int)).toNat), a + 1 + (rd bs (a : Int)).toNat, 0) else (.empty, a, 6)
structure RdFacts (K : Nat) (nm : ByteArray → Bool) : Prop where
  num : ∀ (k : Nat) bs (a : Nat), (k = 1 ∨ k = 2 ∨ k = 4) → (∀ x ∈ bs, 0 ≤ x ∧ x ≤ 255) → bs.length ≤ 140737488351232 → a ≤ bs.length → provisoref01_Number.f K bs (a : Int) (k : Int) = some ((numR k bs a).1, ((numR k bs a).2.1 : Int), (numR k bs a).2.2)
  take : ∀ bs (a : Nat) (n : Int), (∀ x ∈ bs, 0 ≤ x ∧ x ≤ 255) → bs.length ≤ 140737488351232 → a ≤ bs.length → provisoref01_Take.f K bs (a : Int) n = some ((takeR bs a n).1, ((takeR bs a n).2.1 : Int), (takeR bs a n).2.2)
  name : ∀ s, wire_IsName.f K s = some (nm s)
  rname : ∀ s, provisoref01_IsName.f K s = some (nm s)
  eq : ∀ xs : List Int, xs.length ≤ 140737488351232 → slices_Equal_byte_byte.f K xs xs = some true
def RPost (w0 : World) (n : Nat) (f : Nat → Ent) (i k : Nat) (W w' : World) : Prop := RSt w0 n (upR f i k) w' ∧ Kept W w' (fun b => b = (f i).g)
theorem RPost.drawn {w0 W w' : World} {n : Nat} {f : Nat → Ent} {i : Nat} (h : RSt w0 n f W) (hd : Drawn0 W w') : RPost w0 n f i (f i).ar W w' := by
  obtain ⟨m, rfl⟩ := hd
  refine ⟨?_, (Kept.refl W _).drewN m⟩
  rw [upR_self]
  exact h.step (pw_below_drewN (Below.refl _ _) m)
theorem RPost.moved {w0 W : World} {n : Nat} {f : Nat → Ent} {i : Nat} (h : RSt w0 n f W) (hi : i < n) (k : Nat) (hk : k ≤ (f i).bs.length) (m m2 : Nat) : RPost w0 n f i k W (((W.drewN m).setCell ⟨(f i).g, 1, none⟩ (.int .i64 (k : Int))).drewN m2) :=
  ⟨h.rset hi k hk m m2, ((Kept.refl W (fun b => b = (f i).g)).drewN m |>.setCell (p := ⟨(f i).g, 1, none⟩) (.inl rfl) _).drewN m2⟩
theorem Byte_s (w0 : World) (n : Nat) (f : Nat → Ent) (i : Nat) (hi : i < n) (W : World) (h : RSt w0 n f W) : Calls Try.prog 23 #[.pointer (some ⟨(f i).g, 0, none⟩)] W fun e w' => e = .returned (.tuple #[.int .i64 (numR 1 (f i).bs (f i).ar).1, .int .i64 (numR 1 (f i).bs (f i).ar).2.2]) ∧ RPost w0 n f i (numR 1 (f i).bs (f i).ar).2.1 W w' := by
  have ha := h.all i hi
  unfold numR
  by_cases c : (f i).bs.length < (f i).ar + 1
  · rw [if_pos c]
    refine (Byte_bad ha.rd c).mono ?_
    rintro e w1 ⟨rfl, hd⟩
    exact ⟨rfl, RPost.drawn h hd⟩
  · rw [if_neg c]
    refine (Byte_good ha.rd ha.by_ (by omega)).mono ?_
    rintro e w1 ⟨m, m2, rfl, rfl⟩
    exact ⟨rfl, RPost.moved h hi _ (by simp only; omega) m m2⟩
theorem Word_s (w0 : World) (n : Nat) (f : Nat → Ent) (i : Nat) (hi : i < n) (W : World) (h : RSt w0 n f W) : Calls Try.prog 60 #[.pointer (some ⟨(f i).g, 0, none⟩)] W fun e w' => e = .returned (.tuple #[.int .i64 (numR 2 (f i).bs (f i).ar).1, .int .i64 (numR 2 (f i).bs (f i).ar).2.2]) ∧ RPost w0 n f i (numR 2 (f i).bs (f i).ar).2.1 W w' := by
  have ha := h.all i hi
  unfold numR
  by_cases c : (f i).bs.length < (f i).ar + 2
  · rw [if_pos c]
    refine (Word_bad ha.rd c).mono ?_
    rintro e w1 ⟨rfl, hd⟩
    exact ⟨rfl, RPost.drawn h hd⟩
  · rw [if_neg c]
    refine (Word_good ha.rd ha.by_ (by omega)).mono ?_
    rintro e w1 ⟨m, m2, rfl, rfl⟩
    exact ⟨rfl, RPost.moved h hi _ (by simp only; omega) m m2⟩
theorem Long_s (w0 : World) (n : Nat) (f : Nat → Ent) (i : Nat) (hi : i < n) (W : World) (h : RSt w0 n f W) : Calls Try.prog 61 #[.pointer (some ⟨(f i).g, 0, none⟩)] W fun e w' => e = .returned (.tuple #[.int .i64 (numR 4 (f i).bs (f i).ar).1, .int .i64 (numR 4 (f i).bs (f i).ar).2.2]) ∧ RPost w0 n f i (numR 4 (f i).bs (f i).ar).2.1 W w' := by
  have ha := h.all i hi
  unfold numR
  by_cases c : (f i).bs.length < (f i).ar + 4
  · rw [if_pos c]
    refine (Long_bad ha.rd c).mono ?_
    rintro e w1 ⟨rfl, hd⟩
    exact ⟨rfl, RPost.drawn h hd⟩
  · rw [if_neg c]
    refine (Long_good ha.rd ha.by_ (by omega)).mono ?_
    rintro e w1 ⟨m, m2, rfl, rfl⟩
    exact ⟨rfl, RPost.moved h hi _ (by simp only; omega) m m2⟩
theorem seg_len (bs : List Int) (a n : Nat) (h : a + n ≤ bs.length) : (seg bs a n).length = n := by unfold seg; rw [List.length_drop, List.length_take]; omega
theorem seg_sub (bs : List Int) (a n : Nat) (x : Int) (h : x ∈ seg bs a n) : x ∈ bs := List.mem_of_mem_take (List.mem_of_mem_drop h)
theorem take_len (bs : List Int) (a : Nat) (n : Int) : (takeR bs a n).1.length ≤ bs.length := by
  unfold takeR
  split
  · simp
  · split
    · simp
    · unfold seg; simp; omega
theorem take_sub (bs : List Int) (a : Nat) (n x : Int) (h : x ∈ (takeR bs a n).1) : x ∈ bs := by
  unfold takeR at h
  split at h
  · simp at h
  · split at h
    · simp at h
    · exact seg_sub _ _ _ _ h
theorem Take_s (w0 : World) (n : Nat) (f : Nat → Ent) (i : Nat) (hi : i < n) (W : World) (h : RSt w0 n f W) (N : Int) : Calls Try.prog 30 #[.pointer (some ⟨(f i).g, 0, none⟩), .int .i64 N] W fun e w' => ∃ v, e = .returned (.tuple #[v, .int .i64 (takeR (f i).bs (f i).ar N).2.2]) ∧ RPost w0 n f i (takeR (f i).bs (f i).ar N).2.1 W w' ∧ Kd.R (Kd.int .u8) 5 w' W.heap.size (fun _ => True) v (takeR (f i).bs (f i).ar N).1 := by
  have ha := h.all i hi
  have hle := ha.rd.le
  unfold takeR
  by_cases c : N < 0
  · rw [if_pos c]
    refine (Take_bad ha.rd N (.inl c)).mono ?_
    rintro e w1 ⟨rfl, hd⟩
    rw [if_pos c]
    exact ⟨_, rfl, RPost.drawn h hd, Kd.R_nil _ _ _ _ _⟩
  · rw [if_neg c]
    by_cases c2 : N > ((f i).bs.length : Int) - ((f i).ar : Int)
    · rw [if_pos c2]
      refine (Take_bad ha.rd N (.inr c2)).mono ?_
      rintro e w1 ⟨rfl, hd⟩
      rw [if_neg c]
      exact ⟨_, rfl, RPost.drawn h hd, Kd.R_nil _ _ _ _ _⟩
    · rw [if_neg c2]
      obtain ⟨k, rfl⟩ : ∃ k : Nat, N = (k : Int) := ⟨N.toNat, by omega⟩
      rw [Int.toNat_natCast]
      refine (Take_good ha.rd k (by omega) (by have := ha.lim; omega)).mono ?_
      rintro e w1 ⟨v, m, m2, w2, rfl, rfl, hR, hb⟩
      have hm := RPost.moved h hi ((f i).ar + k) (by omega) m m2
      exact ⟨v, rfl, ⟨hm.1.step hb, hm.2.below hb⟩, Kd.R_lower hR (by simp [World.setCell])⟩
end Go.Proofs.Ytklbkonehcjmjaa.P

end

section
namespace Go.Proofs.Ytklbkonehcjmjaa.P
open Go.RowKit Go.Proofs.YtklbkonehcjmjaaW.PrintWords Go.Proofs.YtklbkonehcjmjaaW.PrintLast Go.Proofs.YtklbkonehcjmjaaW.PrintMore
attribute [local go_sem] max2_int min2_int max_two min_two max_three min_three max_four min_four
set_option linter.unusedVariables false
set_option linter.unusedSimpArgs false
set_option maxHeartbeats 1600000 in
set_option maxRecDepth 100000 in
theorem Within_bad {base g : Nat} {bs : List Int} {at_ : Nat} {w : World} (h : RdAt base g bs at_ w) (n : Int) (hn : n < 0 ∨ n > (bs.length : Int) - (at_ : Int)) : Calls Try.prog 22 #[.pointer (some ⟨g, 0, none⟩), .int .i64 n] w fun e w' => e = .returned (.tuple #[.pointer none, .int .i64 (if n < 0 then 1 else 2)]) ∧ Drawn0 w w' := by
  have HN := Aside0.mk (next_bad h n hn)
  clear h
  by_cases c1 : n < 0
  · rw [if_pos c1] at HN ⊢
    clear hn c1
    go_enter Try.func22, Try.ntmps22
    go_wp2_with fail
    refine HN.out.mono ?_
    rintro e w1 ⟨rfl, m, rfl⟩
    go_wp2
    go_ret2
    exact ⟨rfl, m, rfl⟩
  · rw [if_neg c1] at HN ⊢
    clear hn c1
    go_enter Try.func22, Try.ntmps22
    go_wp2_with fail
    refine HN.out.mono ?_
    rintro e w1 ⟨rfl, m, rfl⟩
    go_wp2
    go_ret2
    exact ⟨rfl, m, rfl⟩
theorem Within_s (w0 : World) (n : Nat) (f : Nat → Ent) (i : Nat) (hi : i < n) (W : World) (h : RSt w0 n f W) (N : Int) : Calls Try.prog 22 #[.pointer (some ⟨(f i).g, 0, none⟩), .int .i64 N] W fun e w' => RPost w0 n f i (takeR (f i).bs (f i).ar N).2.1 W w' ∧ (((takeR (f i).bs (f i).ar N).2.2 ≠ 0 ∧ e = .returned (.tuple #[.pointer none, .int .i64 (takeR (f i).bs (f i).ar N).2.2])) ∨
    ((takeR (f i).bs (f i).ar N).2.2 = 0 ∧ ∃ g2, e = .returned (.tuple #[.pointer (some ⟨g2, 0, none⟩), .int .i64 0]) ∧ W.heap.size ≤ g2 ∧ RdAt w0.heap.size g2 (takeR (f i).bs (f i).ar N).1 0 w')) := by
  have ha := h.all i hi
  have hle := ha.rd.le
  have hsz := h.below.size
  unfold takeR
  by_cases c : N < 0
  · rw [if_pos c]
    refine (Within_bad ha.rd N (.inl c)).mono ?_
    rintro e w1 ⟨rfl, hd⟩
    rw [if_pos c]
    exact ⟨RPost.drawn h hd, .inl ⟨by simp, rfl⟩⟩
  · rw [if_neg c]
    by_cases c2 : N > ((f i).bs.length : Int) - ((f i).ar : Int)
    · rw [if_pos c2]
      refine (Within_bad ha.rd N (.inr c2)).mono ?_
      rintro e w1 ⟨rfl, hd⟩
      rw [if_neg c]
      exact ⟨RPost.drawn h hd, .inl ⟨by simp, rfl⟩⟩
    · rw [if_neg c2]
      obtain ⟨k, rfl⟩ : ∃ k : Nat, N = (k : Int) := ⟨N.toNat, by omega⟩
      rw [Int.toNat_natCast]
      refine (Within_good ha.rd k (by omega) (by have := ha.lim; omega)).mono ?_
      rintro e w1 ⟨g2, m, m2, w2, rfl, rfl, hb, hr⟩
      have hm := RPost.moved h hi ((f i).ar + k) (by omega) m m2
      have hr2 := hr.ge
      rw [show ((((W.drewN m).setCell ⟨(f i).g, 1, none⟩ (.int .i64 (((f i).ar + k : Nat) : Int))).drewN m2).heap.size) = W.heap.size by simp [World.setCell]] at hr2
      obtain ⟨q1, q2, v, q3, q4⟩ := hr
      exact ⟨⟨hm.1.step hb, hm.2.below hb⟩, .inr ⟨rfl, g2, rfl, hr2, ⟨q1, by omega, v, q3, Kd.R_lower q4 (by simp [World.setCell]; exact hsz)⟩⟩⟩
theorem upR_upR (f : Nat → Ent) (i a b : Nat) : upR (upR f i a) i b = upR f i b := by
  funext j
  unfold upR
  by_cases e : j = i
  · rw [if_pos e, if_pos e, if_pos rfl]
  · rw [if_neg e, if_neg e, if_neg e]
theorem seg_one (bs : List Int) (a : Nat) (h : a + 1 ≤ bs.length) : valR 1 (seg bs a 1) = rd bs (a : Int) := by
  unfold valR seg
  rw [if_neg (by decide)]
  exact num_one bs a (by omega)
theorem numR_one (bs : List Int) (a : Nat) (h : a + 1 ≤ bs.length) : numR 1 bs a = (rd bs (a : Int), a + 1, 0) := by
  unfold numR
  rw [if_neg (by omega), seg_one bs a h]
theorem rd_range (bs : List Int) (h : ∀ x ∈ bs, 0 ≤ x ∧ x ≤ 255) (a : Nat) (ha : a < bs.length) : 0 ≤ rd bs (a : Int) ∧ rd bs (a : Int) ≤ 255 := by
  have hr : rd bs (a : Int) = bs[a] := by simp [rd, List.getD_eq_getElem?_getD, ha]
  rw [hr]
  exact h _ (List.getElem_mem ha)
theorem RPost.back {w0 : World} {n : Nat} {f : Nat → Ent} {i k : Nat} {W W1 : World} (h : RPost w0 n f i k W W1) (hi : i < n) (a : Nat) (ha : a ≤ (f i).bs.length) : RPost w0 n f i a W (W1.setCell ⟨(f i).g, 1, none⟩ (.int .i64 (a : Int))) := by
  have h1 := h.1.rset0 hi a (by rw [(upR_same f i k i).2.2.1]; exact ha)
  rw [upR_upR, (upR_same f i k i).1] at h1
  exact ⟨h1, h.2.setCell (p := ⟨(f i).g, 1, none⟩) (.inl rfl) _⟩
theorem RPost.drew {w0 : World} {n : Nat} {f : Nat → Ent} {i k : Nat} {W W1 : World} (h : RPost w0 n f i k W W1) (m : Nat) : RPost w0 n f i k W (W1.drewN m) := ⟨h.1.step (pw_below_drewN (Below.refl _ _) m), h.2.drewN m⟩
theorem RPost.cells {w0 : World} {n : Nat} {f : Nat → Ent} {i k : Nat} {W W1 : World} (h : RPost w0 n f i k W W1) (hi : i < n) : ∃ v, W1.heap[(f i).g]? = some (.cells #[v, .int .i64 (k : Int), .bool true] 79 (0, 0)) := by
  have h1 := (h.1.all i hi).rd
  rw [(upR_same f i k i).1] at h1
  obtain ⟨_, _, v, h3, _⟩ := h1
  rw [show (upR f i k i).ar = k by unfold upR; rw [if_pos rfl]] at h3
  exact ⟨v, h3⟩
theorem RPost.rdAt {w0 : World} {n : Nat} {f : Nat → Ent} {i k : Nat} {W W1 : World} (h : RPost w0 n f i k W W1) (hi : i < n) : RdAt w0.heap.size (f i).g (f i).bs k W1 := by
  have h1 := (h.1.all i hi).rd
  rw [(upR_same f i k i).1, (upR_same f i k i).2.2.1] at h1
  rw [show (upR f i k i).ar = k by unfold upR; rw [if_pos rfl]] at h1
  exact h1
theorem RPost.again {w0 : World} {n : Nat} {f : Nat → Ent} {i k : Nat} {W W1 : World} (h : RPost w0 n f i k W W1) (hi : i < n) (b : Nat) (hb : b ≤ (f i).bs.length) (m m2 : Nat) : RPost w0 n f i b W (((W1.drewN m).setCell ⟨(f i).g, 1, none⟩ (.int .i64 (b : Int))).drewN m2) := ((h.drew m).back hi b hb).drew m2
theorem Byte_bad' (w0 : World) (n : Nat) (f : Nat → Ent) (i : Nat) (hi : i < n) (W : World) (h : RSt w0 n f W) (c1 : (f i).bs.length < (f i).ar + 1) (m : Nat) : Calls Try.prog 23 #[.pointer (some ⟨(f i).g, 0, none⟩)] (W.drewN m) fun e w' => e = .returned (.tuple #[.int .i64 0, .int .i64 2]) ∧ RPost w0 n f i (f i).ar W w' := by
  refine (Byte_s w0 n f i hi (W.drewN m) (h.step (pw_below_drewN (Below.refl _ _) m))).mono ?_
  rintro e w1 ⟨rfl, h1, h2⟩
  unfold numR at h1 ⊢
  rw [if_pos c1] at h1 ⊢
  exact ⟨rfl, h1, h2⟩
theorem Byte_good' (w0 : World) (n : Nat) (f : Nat → Ent) (i : Nat) (hi : i < n) (W : World) (h : RSt w0 n f W) (c1 : (f i).ar + 1 ≤ (f i).bs.length) (m : Nat) : Calls Try.prog 23 #[.pointer (some ⟨(f i).g, 0, none⟩)] (W.drewN m) fun e w' => e = .returned (.tuple #[.int .i64 (rd (f i).bs ((f i).ar : Int)), .int .i64 0]) ∧ RPost w0 n f i ((f i).ar + 1) W w' := by
  refine (Byte_s w0 n f i hi (W.drewN m) (h.step (pw_below_drewN (Below.refl _ _) m))).mono ?_
  rintro e w1 ⟨rfl, h1, h2⟩
  rw [numR_one _ _ c1] at h1 ⊢
  exact ⟨rfl, h1, h2⟩
set_option maxHeartbeats 3200000 in
set_option maxRecDepth 100000 in
theorem Name_s (K : Nat) (nm : ByteArray → Bool) (hK : RdFacts K nm) (w0 : World) (n : Nat) (f : Nat → Ent) (i : Nat) (hi : i < n) (W : World) (h : RSt w0 n f W) : Calls Try.prog 63 #[.pointer (some ⟨(f i).g, 0, none⟩)] W fun e w' => e = .returned (.tuple #[.string (nameR nm (f i).bs (f i).ar).1, .int .i64 (nameR nm (f i).bs (f i).ar).2.2]) ∧ RPost w0 n f i (nameR nm (f i).bs (f i).ar).2.1 W w' := by
  have ha := h.all i hi
  have hle := ha.rd.le
  obtain ⟨v0, h3, h4⟩ := ha.rd.now
  have hc := blk_cell h3 1
  have H := Aside0.mk h
  have HI := Aside0.mk hi
  have HK := Aside0.mk hK
  have HA := Aside0.mk ha.rd
  have HLIM := Aside0.mk ha.lim
  have HBY := Aside0.mk ha.by_
  clear hK h3 ha h4
  obtain ⟨out, hout⟩ : ∃ out, out = nameR nm (f i).bs (f i).ar := ⟨_, rfl⟩
  rw [← hout]
  unfold nameR at hout
  by_cases c1 : (f i).bs.length < (f i).ar + 1
  · rw [if_pos c1] at hout
    subst hout
    have HB2 := Aside0.mk (Byte_bad' w0 n f i hi W h c1)
    clear c1 h hi
    go_enter Try.func63, Try.ntmps63
    go_wp2_with fail
    refine (ready_rd HA.out).mono ?_
    rintro e w1 ⟨rfl, m, rfl⟩
    go_wp2_with fail
    refine (HB2.out m).mono ?_
    rintro e w2 ⟨rfl, hp⟩
    obtain ⟨vz, h5⟩ := hp.cells HI.out
    have hf1 := blk_frozen h5 1
    have hc1 := blk_cell h5 1
    have HPB := Aside0.mk (hp.back HI.out _ hle)
    clear hp h5
    go_wp2_with fail
    go_ret2
    exact ⟨rfl, HPB.out⟩
  · rw [if_neg c1] at hout
    have hB := Byte_good' w0 n f i hi W h (by omega)
    have hrg := rd_range _ HBY.out (f i).ar (by omega)
    obtain ⟨z, hz⟩ : ∃ z, rd (f i).bs ((f i).ar : Int) = (z : Int) ∧ (0 : Int) ≤ z := ⟨_, rfl, hrg.1⟩
    obtain ⟨hz, hz0⟩ := hz
    rw [hz] at hB hout
    by_cases c2 : z = 0 ∨ 24 < z
    · rw [if_pos c2] at hout
      by_cases c3 : z = 0
      · subst c3
        subst hout
        have HB2 := Aside0.mk (hB)
        clear c1 h hi hB c2 hrg hz hz0
        go_enter Try.func63, Try.ntmps63
        go_wp2_with fail
        refine (ready_rd HA.out).mono ?_
        rintro e w1 ⟨rfl, m, rfl⟩
        go_wp2_with fail
        refine (HB2.out m).mono ?_
        rintro e w2 ⟨rfl, hp⟩
        obtain ⟨vz, h5⟩ := hp.cells HI.out
        have hf1 := blk_frozen h5 1
        have hc1 := blk_cell h5 1
        have HPB := Aside0.mk (hp.back HI.out _ hle)
        clear hp h5
        go_wp2_with fail
        go_ret2
        exact ⟨rfl, HPB.out⟩
      · have c3b : (z == 0) = false := beq_eq_false_iff_ne.mpr c3
        have c4b : decide ((24 : Int) < z) = true := decide_eq_true (by omega)
        subst hout
        have HB2 := Aside0.mk (hB)
        clear c1 h hi hB c2 c3 hrg hz hz0
        go_enter Try.func63, Try.ntmps63
        go_wp2_with fail
        refine (ready_rd HA.out).mono ?_
        rintro e w1 ⟨rfl, m, rfl⟩
        go_wp2_with fail
        refine (HB2.out m).mono ?_
        rintro e w2 ⟨rfl, hp⟩
        obtain ⟨vz, h5⟩ := hp.cells HI.out
        have hf1 := blk_frozen h5 1
        have hc1 := blk_cell h5 1
        have HPB := Aside0.mk (hp.back HI.out _ hle)
        clear hp h5
        go_wp2_with fail
        go_ret2
        exact ⟨rfl, HPB.out⟩
    · rw [if_neg c2] at hout
      have c3b : (z == 0) = false := beq_eq_false_iff_ne.mpr (by omega)
      have c4b : decide ((24 : Int) < z) = false := decide_eq_false (by omega)
      obtain ⟨y, hy⟩ : ∃ y : Nat, z = (y : Int) := ⟨z.toNat, by omega⟩
      subst hy
      rw [Int.toNat_natCast] at hout
      have hy1 : 1 ≤ y ∧ y ≤ 24 := by omega
      by_cases c5 : (f i).bs.length < (f i).ar + 1 + y
      · rw [if_pos c5] at hout
        subst hout
        have HB2 := Aside0.mk (hB)
        clear h hi hB c2 hrg hz hz0
        go_enter Try.func63, Try.ntmps63
        go_wp2_with fail
        refine (ready_rd HA.out).mono ?_
        rintro e w1 ⟨rfl, m, rfl⟩
        go_wp2_with fail
        refine (HB2.out m).mono ?_
        rintro e w2 ⟨rfl, hp⟩
        have hnb := next_bad (hp.rdAt HI.out) (y : Int) (.inr (by omega))
        rw [if_neg (by omega)] at hnb
        have HNB := Aside0.mk hnb
        have HP := Aside0.mk hp
        clear hp hnb hc c5 c1 hy1
        go_wp2_with fail
        refine HNB.out.mono ?_
        rintro e w3 ⟨rfl, m3, rfl⟩
        have hp := HP.out.drew m3
        obtain ⟨vz, h5⟩ := hp.cells HI.out
        have hf1 := blk_frozen h5 1
        have hc1 := blk_cell h5 1
        have HPB := Aside0.mk (hp.back HI.out _ hle)
        clear hp h5
        go_wp2_with fail
        go_ret2
        exact ⟨rfl, HPB.out⟩
      · rw [if_neg c5] at hout
        obtain ⟨sg, hsg⟩ : ∃ sg, sg = seg (f i).bs ((f i).ar + 1) y := ⟨_, rfl⟩
        have hsl := seg_len (f i).bs ((f i).ar + 1) y (by omega)
        rw [← hsg] at hout hsl
        by_cases c6 : nm (strOfNums sg) = true
        · rw [if_pos c6] at hout
          subst hout
          have HB2 := Aside0.mk (hB)
          clear h hi hB c2 hrg hz hz0
          go_enter Try.func63, Try.ntmps63
          go_wp2_with fail
          refine (ready_rd HA.out).mono ?_
          rintro e w1 ⟨rfl, m, rfl⟩
          go_wp2_with fail
          refine (HB2.out m).mono ?_
          rintro e w2 ⟨rfl, hp⟩
          have hng := next_good (hp.rdAt HI.out) y (by omega)
          rw [show ((f i).bs.take ((f i).ar + 1 + y)).drop ((f i).ar + 1) = sg from hsg.symm] at hng
          have HNB := Aside0.mk hng
          have HP := Aside0.mk hp
          have HLE := Aside0.mk (show (f i).ar + 1 + y ≤ (f i).bs.length by omega)
          clear hp hng hc c5 c1 hy1 hsg
          go_wp2_with fail
          refine HNB.out.mono ?_
          rintro e w3 ⟨A, cc, m4, m5, rfl, hcap, hw3, hC⟩
          have hp := HP.out.again HI.out _ HLE.out m4 m5
          rw [← hw3] at hp
          have hC1 : Kd.C (Kd.int .u8) w3 A sg.length sg := by rw [hsl]; exact hC
          have hconv := Kd.C_string (P := Try.prog) (c := cc) (src := 23) (dst := 9) Try.underlying23 Try.underlying5 Try.underlying9 hC1
          rw [hsl] at hconv
          have HC := Aside0.mk hC1
          have HP3 := Aside0.mk hp
          clear hcap hw3 hC hC1 HP HNB
          go_wp2_with fail
          refine (wire_IsName.calls K (strOfNums sg) _ _ (HK.out.name _)).mono ?_
          rintro e w4 ⟨rfl, m6, rfl⟩
          have hp := HP3.out.drew m6
          rw [c6]
          have hconv2 := Kd.C_string (P := Try.prog) (c := cc) (src := 23) (dst := 9) Try.underlying23 Try.underlying5 Try.underlying9 (Kd.C_drewN HC.out m6)
          rw [hsl] at hconv2
          have HPB := Aside0.mk hp
          clear hconv hp
          go_wp2_with fail
          go_ret2
          exact ⟨rfl, HPB.out⟩
        · rw [if_neg c6] at hout
          have c6 : nm (strOfNums sg) = false := by simpa using c6
          subst hout
          have HB2 := Aside0.mk (hB)
          clear h hi hB c2 hrg hz hz0
          go_enter Try.func63, Try.ntmps63
          go_wp2_with fail
          refine (ready_rd HA.out).mono ?_
          rintro e w1 ⟨rfl, m, rfl⟩
          go_wp2_with fail
          refine (HB2.out m).mono ?_
          rintro e w2 ⟨rfl, hp⟩
          have hng := next_good (hp.rdAt HI.out) y (by omega)
          rw [show ((f i).bs.take ((f i).ar + 1 + y)).drop ((f i).ar + 1) = sg from hsg.symm] at hng
          have HNB := Aside0.mk hng
          have HP := Aside0.mk hp
          have HLE := Aside0.mk (show (f i).ar + 1 + y ≤ (f i).bs.length by omega)
          clear hp hng hc c5 c1 hy1 hsg
          go_wp2_with fail
          refine HNB.out.mono ?_
          rintro e w3 ⟨A, cc, m4, m5, rfl, hcap, hw3, hC⟩
          have hp := HP.out.again HI.out _ HLE.out m4 m5
          rw [← hw3] at hp
          have hC1 : Kd.C (Kd.int .u8) w3 A sg.length sg := by rw [hsl]; exact hC
          have hconv := Kd.C_string (P := Try.prog) (c := cc) (src := 23) (dst := 9) Try.underlying23 Try.underlying5 Try.underlying9 hC1
          rw [hsl] at hconv
          have HC := Aside0.mk hC1
          have HP3 := Aside0.mk hp
          clear hcap hw3 hC hC1 HP HNB
          go_wp2_with fail
          refine (wire_IsName.calls K (strOfNums sg) _ _ (HK.out.name _)).mono ?_
          rintro e w4 ⟨rfl, m6, rfl⟩
          have hp := HP3.out.drew m6
          rw [c6]
          obtain ⟨vz, h5⟩ := hp.cells HI.out
          have hf1 := blk_frozen h5 1
          have hc1 := blk_cell h5 1
          have HPB := Aside0.mk (hp.back HI.out _ hle)
          clear hp h5
          go_wp2_with fail
          go_ret2
          exact ⟨rfl, HPB.out⟩
end Go.Proofs.Ytklbkonehcjmjaa.P

end

section
namespace Go.Proofs.Ytklbkonehcjmjaa.P
open Go.RowKit Go.Proofs.YtklbkonehcjmjaaW.PrintWords Go.Proofs.YtklbkonehcjmjaaW.PrintLast Go.Proofs.YtklbkonehcjmjaaW.PrintMore
attribute [local go_sem] max2_int min2_int max_two min_two max_three min_three max_four min_four
set_option linter.unusedVariables false
set_option linter.unusedSimpArgs false
set_option maxHeartbeats 3200000 in
set_option maxRecDepth 100000 in
theorem Name_d (K : Nat) (nm : ByteArray → Bool) (hK : RdFacts K nm) (bs : List Int) (hby : ∀ x ∈ bs, 0 ≤ x ∧ x ≤ 255) (hlim : bs.length ≤ 140737488351232) (a : Nat) (hle : a ≤ bs.length) (A : Option Addr) (c : Nat) (w : World) (hr : Kd.C (Kd.int .u8) w A bs.length bs) (hc : bs.length ≤ c) : Calls Try.prog 64 #[.slice A bs.length c, .int .i64 (a : Int)] w fun e w' => e = .returned (.tuple #[.string (nameR nm bs a).1, .int .i64 ((nameR nm bs a).2.1 : Int), .int .i64 (nameR nm bs a).2.2]) ∧ Below w.heap.size w w' := by
  have HR := Aside0.mk hr
  have HC := Aside0.mk hc
  have HK := Aside0.mk hK
  have HLIM := Aside0.mk hlim
  have HBY := Aside0.mk hby
  have hnum := provisoref01_Number.calls K A c bs a 1 _ _ _ w hr hc (hK.num 1 bs a (.inl rfl) hby hlim hle)
  clear hK hr hc hby
  obtain ⟨out, hout⟩ : ∃ out, out = nameR nm bs a := ⟨_, rfl⟩
  rw [← hout]
  unfold nameR at hout
  by_cases c1 : bs.length < a + 1
  · rw [if_pos c1] at hout
    rw [show numR 1 bs a = (0, a, 2) by unfold numR; rw [if_pos c1]] at hnum
    subst hout
    have HN := Aside0.mk hnum
    clear hnum c1
    go_enter Try.func64, Try.ntmps64
    go_wp2_with fail
    refine HN.out.mono ?_
    clear HN
    rintro e w1 ⟨rfl, m, rfl⟩
    go_wp2_with fail
    go_ret3
    exact ⟨rfl, pw_below_drewN (Below.refl _ _) _⟩
  · rw [if_neg c1] at hout
    rw [numR_one _ _ (by omega)] at hnum
    have hrg := rd_range _ HBY.out a (by omega)
    obtain ⟨z, hz⟩ : ∃ z, rd bs (a : Int) = (z : Int) ∧ (0 : Int) ≤ z := ⟨_, rfl, hrg.1⟩
    obtain ⟨hz, hz0⟩ := hz
    rw [hz] at hnum hout
    by_cases c2 : z = 0 ∨ 24 < z
    · rw [if_pos c2] at hout
      by_cases c3 : z = 0
      · subst c3
        subst hout
        have HN := Aside0.mk hnum
        clear hnum c1 c2 hrg hz hz0
        go_enter Try.func64, Try.ntmps64
        go_wp2_with fail
        refine HN.out.mono ?_
        clear HN
        rintro e w1 ⟨rfl, m, rfl⟩
        go_wp2_with fail
        go_ret3
        exact ⟨rfl, pw_below_drewN (Below.refl _ _) _⟩
      · have c3b : (z == 0) = false := beq_eq_false_iff_ne.mpr c3
        have c4b : decide ((24 : Int) < z) = true := decide_eq_true (by omega)
        subst hout
        have HN := Aside0.mk hnum
        clear hnum c1 c2 c3 hrg hz hz0
        go_enter Try.func64, Try.ntmps64
        go_wp2_with fail
        refine HN.out.mono ?_
        clear HN
        rintro e w1 ⟨rfl, m, rfl⟩
        go_wp2_with fail
        go_ret3
        exact ⟨rfl, pw_below_drewN (Below.refl _ _) _⟩
    · rw [if_neg c2] at hout
      have c3b : (z == 0) = false := beq_eq_false_iff_ne.mpr (by omega)
      have c4b : decide ((24 : Int) < z) = false := decide_eq_false (by omega)
      obtain ⟨y, hy⟩ : ∃ y : Nat, z = (y : Int) := ⟨z.toNat, by omega⟩
      subst hy
      rw [Int.toNat_natCast] at hout
      have hy1 : 1 ≤ y ∧ y ≤ 24 := by omega
      have htk := fun m => provisoref01_Take.calls K A c bs ((a + 1 : Nat) : Int) (y : Int) _ _ _ (w.drewN m) (Kd.C_drewN HR.out m) HC.out (HK.out.take bs (a + 1) (y : Int) HBY.out HLIM.out (by omega))
      unfold takeR at htk
      rw [if_neg (by omega)] at htk
      by_cases c5 : bs.length < a + 1 + y
      · rw [if_pos c5] at hout
        rw [if_pos (by omega)] at htk
        have HT := Aside0.mk htk
        clear htk
        subst hout
        have HN := Aside0.mk hnum
        clear hnum c1 c2 c5 hy1 hrg hz hz0 hlim hle
        go_enter Try.func64, Try.ntmps64
        go_wp2_with fail
        refine HN.out.mono ?_
        clear HN
        rintro e w1 ⟨rfl, m, rfl⟩
        go_wp2_with fail
        refine (HT.out _).mono ?_
        rintro e w2 ⟨v, rfl, hR, hb⟩
        have HB := Aside0.mk (below_step (pw_below_drewN (Below.refl w.heap.size w) m) hb)
        clear hR hb
        go_wp2_with fail
        go_ret3
        exact ⟨rfl, HB.out⟩
      · rw [if_neg c5] at hout
        rw [if_neg (by omega), Int.toNat_natCast] at htk
        obtain ⟨sg, hsg⟩ : ∃ sg, sg = seg bs (a + 1) y := ⟨_, rfl⟩
        have hsl := seg_len bs (a + 1) y (by omega)
        rw [← hsg] at hout hsl htk
        have HT := Aside0.mk htk
        clear htk
        by_cases c6 : nm (strOfNums sg) = true
        · rw [if_pos c6] at hout
          subst hout
          have HN := Aside0.mk hnum
          clear hnum c1 c2 c5 hy1 hrg hz hz0 hlim hle hsg
          go_enter Try.func64, Try.ntmps64
          go_wp2_with fail
          refine HN.out.mono ?_
          clear HN
          rintro e w1 ⟨rfl, m, rfl⟩
          go_wp2_with fail
          refine (HT.out _).mono ?_
          rintro e w2 ⟨v, rfl, hR, hb⟩
          have HB := Aside0.mk (below_step (pw_below_drewN (Below.refl w.heap.size w) m) hb)
          obtain ⟨A3, c3, e3, hc3, hC3⟩ := Kd.R_reads hR
          subst e3
          have hconv := Kd.C_string (P := Try.prog) (c := c3) (src := 23) (dst := 9) Try.underlying23 Try.underlying5 Try.underlying9 hC3
          rw [hsl] at hconv
          have HC3 := Aside0.mk hC3
          clear hR hb hc3 hC3
          go_wp2_with fail
          refine (provisoref01_IsName.calls K (strOfNums sg) _ _ (HK.out.rname _)).mono ?_
          rintro e w4 ⟨rfl, m6, rfl⟩
          rw [c6]
          have hconv2 := Kd.C_string (P := Try.prog) (c := c3) (src := 23) (dst := 9) Try.underlying23 Try.underlying5 Try.underlying9 (Kd.C_drewN HC3.out m6)
          rw [hsl] at hconv2
          clear hconv
          go_wp2_with fail
          go_ret3
          exact ⟨rfl, pw_below_drewN HB.out m6⟩
        · rw [if_neg c6] at hout
          have c6 : nm (strOfNums sg) = false := by simpa using c6
          subst hout
          have HN := Aside0.mk hnum
          clear hnum c1 c2 c5 hy1 hrg hz hz0 hlim hle hsg
          go_enter Try.func64, Try.ntmps64
          go_wp2_with fail
          refine HN.out.mono ?_
          clear HN
          rintro e w1 ⟨rfl, m, rfl⟩
          go_wp2_with fail
          refine (HT.out _).mono ?_
          rintro e w2 ⟨v, rfl, hR, hb⟩
          have HB := Aside0.mk (below_step (pw_below_drewN (Below.refl w.heap.size w) m) hb)
          obtain ⟨A3, c3, e3, hc3, hC3⟩ := Kd.R_reads hR
          subst e3
          have hconv := Kd.C_string (P := Try.prog) (c := c3) (src := 23) (dst := 9) Try.underlying23 Try.underlying5 Try.underlying9 hC3
          rw [hsl] at hconv
          have HC3 := Aside0.mk hC3
          clear hR hb hc3 hC3
          go_wp2_with fail
          refine (provisoref01_IsName.calls K (strOfNums sg) _ _ (HK.out.rname _)).mono ?_
          rintro e w4 ⟨rfl, m6, rfl⟩
          rw [c6]
          go_wp2_with fail
          go_ret3
          exact ⟨rfl, pw_below_drewN HB.out m6⟩
end Go.Proofs.Ytklbkonehcjmjaa.P

end

section
namespace Go.Proofs.Ytklbkonehcjmjaa.P
open Go.RowKit Go.Proofs.YtklbkonehcjmjaaW.PrintWords Go.Proofs.YtklbkonehcjmjaaW.PrintLast Go.Proofs.YtklbkonehcjmjaaW.PrintMore
attribute [local go_sem] max2_int min2_int max_two min_two max_three min_three max_four min_four
set_option linter.unusedVariables false
set_option linter.unusedSimpArgs false
theorem RSt.plc {w0 W : World} {n : Nat} {f : Nat → Ent} (h : RSt w0 n f W) {i : Nat} (hi : i < n) (he : (f i).ar = (f i).ap) : ∃ A c, W.heap[(f i).p]? = some (.cells #[.slice A (f i).bs.length c, .int .i64 ((f i).ar : Int)] 65 (0, 0)) ∧ BsAt w0 W A c (f i).bs := by
  obtain ⟨A, c, h1, h2⟩ := (h.all i hi).pl
  rw [← he] at h1
  exact ⟨A, c, h1, h2⟩
theorem RPost.plc {w0 W0 W : World} {n : Nat} {f : Nat → Ent} {i k : Nat} (h : RPost w0 n f i k W0 W) (hi : i < n) (he : (f i).ar = (f i).ap) : ∃ A c, W.heap[(f i).p]? = some (.cells #[.slice A (f i).bs.length c, .int .i64 ((f i).ar : Int)] 65 (0, 0)) ∧ BsAt w0 W A c (f i).bs := by
  obtain ⟨A, c, h1, h2⟩ := (h.1.all i hi).pl
  obtain ⟨e1, e2, e3, e4⟩ := upR_same f i k i
  rw [e2, e3, e4, ← he] at h1
  rw [e3] at h2
  exact ⟨A, c, h1, h2⟩
theorem kept_then {W W1 W2 : World} {S S' : Nat → Prop} (h : Kept W W1 S) (k : Kept W1 W2 S') (hs : ∀ b, S' b → S b) : Kept W W2 S := ⟨Nat.le_trans h.1 k.1, fun b hb hn => (k.2 b (Nat.lt_of_lt_of_le hb h.1) (fun q => hn (hs b q))).trans (h.2 b hb hn)⟩
def LkPost (w0 : World) (n : Nat) (f : Nat → Ent) (i : Nat) (W : World) (e : Ending) (w' : World) : Prop :=
  ∃ k, (e = .returned (.tuple #[.bool true, .pointer none, .pointer none]) ∧ RSt w0 n (upP (upR f i k) i k) w' ∧ Kept W w' (fun b => b = (f i).g ∨ b = (f i).p)) ∨
  (∃ e2 : Ent, e = .returned (.tuple #[.bool true, .pointer (some ⟨e2.g, 0, none⟩), .pointer (some ⟨e2.p, 0, none⟩)]) ∧ e2.ar = e2.ap ∧ W.heap.size ≤ e2.g ∧ W.heap.size ≤ e2.p ∧ RSt w0 (n + 1) (fun j => if j = n then e2 else upP (upR f i k) i k j) w' ∧ Kept W w' (fun b => b = (f i).g ∨ b = (f i).p))
theorem upP_self (f : Nat → Ent) (i k : Nat) (h : (f i).ap = k) : upP f i k = f := by
  funext j
  unfold upP
  split
  · subst_vars; rfl
  · rfl
theorem LkPost.same {w0 : World} {n : Nat} {f : Nat → Ent} {i : Nat} {W w' : World} (h : RSt w0 n f W) (he : (f i).ar = (f i).ap) (hb : Below W.heap.size W w') : LkPost w0 n f i W (.returned (.tuple #[.bool true, .pointer none, .pointer none])) w' := by
  refine ⟨(f i).ar, .inl ⟨rfl, ?_, (Kept.refl W _).below hb⟩⟩
  rw [upR_self, upP_self f i _ he.symm]
  exact h.step hb
theorem LkPost.turned {w0 : World} {n : Nat} {f : Nat → Ent} {i k : Nat} {W w4 w5 w6 : World} (hi : i < n) (h1 : Below W.heap.size W w4) (h2 : RPost w0 n f i k w4 w5) (h3 : Below w5.heap.size w5 w6) : RSt w0 n (upP (upR f i k) i k) (w6.setCell ⟨(f i).p, 1, none⟩ (.int .i64 (k : Int))) ∧ Kept W (w6.setCell ⟨(f i).p, 1, none⟩ (.int .i64 (k : Int))) (fun b => b = (f i).g ∨ b = (f i).p) := by
  have q := (h2.1.step h3).pset hi k
  rw [(upR_same f i k i).2.1] at q
  exact ⟨q, ((kept_then ((Kept.refl W (fun b => b = (f i).g ∨ b = (f i).p)).below h1) h2.2 (fun b hb => .inl hb)).below h3).setCell (p := ⟨(f i).p, 1, none⟩) (.inl (.inr rfl)) _⟩
set_option maxHeartbeats 3200000 in
set_option maxRecDepth 100000 in
theorem look_0 (KK : Nat) (nm : ByteArray → Bool) (hK : RdFacts KK nm) (w0 : World) (n : Nat) (f : Nat → Ent) (i : Nat) (hi : i < n) (W : World) (h : RSt w0 n f W) (he : (f i).ar = (f i).ap) (who op N : Int) (hp : provisolaw01_pick.f op 9 = some 0) :
    Calls Try.prog 38 #[.pointer (some ⟨(f i).g, 0, none⟩), .pointer (some ⟨(f i).p, 0, none⟩), .agg #[.int .i64 who, .int .i64 op, .int .i64 N]] W fun e w' => LkPost w0 n f i W e w' := by
  have HI := Aside0.mk hi
  have HK := Aside0.mk hK
  have HE := Aside0.mk he
  have hle := (h.all i hi).rd.le
  have HBY := Aside0.mk (h.all i hi).by_
  have HLIM := Aside0.mk (h.all i hi).lim
  have HLE := Aside0.mk hle
  have HP := Aside0.mk hp
  have H0 := Aside0.mk h
  clear hK hi hp he hle
  go_enter Try.func38, Try.ntmps38
  go_wp2_with ((with_reducible refine gate_dst (N := 5) rfl ?_); refine rw_box rfl 68 rfl (cs := #[.int .i64 who, .int .i64 op, .int .i64 N]) rfl (Rws.nil W) ?_; intro b2 w1 hX; have HX := Aside0.mk (hX.mem List.mem_cons_self); have HG := Aside0.mk (hX.lies _ List.mem_cons_self).2; have H := Aside0.mk (h.step hX.below); have HB1 := Aside0.mk hX.below; clear hX h)
  obtain ⟨A, c, hpl, hbs⟩ := H.out.plc HI.out HE.out
  have HSS := Aside0.mk (show ∀ W' : World, Below w1.heap.size w1 W' → W'.cell? ⟨(f i).p, 0, none⟩ = some (.slice A (f i).bs.length c) ∧ W'.cell? ⟨(f i).p, 1, none⟩ = some (.int .i64 ((f i).ar : Int)) ∧ W'.cell? ⟨b2, 2, none⟩ = some (.int .i64 N) from fun W' hW => ⟨blk_cell (blk_below hpl hW) 0, blk_cell (blk_below hpl hW) 1, blk_cell (blk_below HX.out hW) 2⟩)
  have HPL := Aside0.mk hpl
  have HBS := Aside0.mk hbs
  have HB := Aside0.mk (Below.refl w1.heap.size w1)
  clear hpl hbs
  (try simp only [Act.put, List.setIfInBounds_toArray, List.set_cons_zero, List.set_cons_succ])
  refine wp_region_held_drew (S := fun w' => w'.cell? ⟨(f i).p, 0, none⟩ = some (.slice A (f i).bs.length c) ∧ w'.cell? ⟨(f i).p, 1, none⟩ = some (.int .i64 ((f i).ar : Int)) ∧ w'.cell? ⟨b2, 2, none⟩ = some (.int .i64 N)) (by kernel_rfl) ?_ (fun hHeld => ?_)
  · exact HSS.out _ (pw_below_drewN HB.out 1)
  replace HB := Aside0.mk (show Below w1.heap.size w1 w1.drew from pw_below_drewN HB.out 1)
  generalize w1.drew = wd at HB hHeld ⊢
  refine take_dst (i := 0) (v := ?_) 30 rfl rfl (by kernel_rfl) (by kernel_rfl) (by kernel_rfl) (fun _ _ _ h => h) (Or.inl ⟨by rfl, ?_⟩) (by assumption) ?_
  rotate_left
  · intro w hSw
    obtain ⟨q1, q2, q3⟩ := hSw
    go_simp
    try with_reducible rfl
  (try simp only [Act.put, List.setIfInBounds_toArray, List.set_cons_zero, List.set_cons_succ])
  refine take_dst (i := 1) (v := ?_) 31 rfl rfl (by kernel_rfl) (by kernel_rfl) (by kernel_rfl) (fun _ _ _ h => h) (Or.inl ⟨by rfl, ?_⟩) (by assumption) ?_
  rotate_left
  · intro w hSw
    obtain ⟨q1, q2, q3⟩ := hSw
    go_simp
    try with_reducible rfl
  (try simp only [Act.put, List.setIfInBounds_toArray, List.set_cons_zero, List.set_cons_succ])
  refine take_dst (i := 2) (v := ?_) 32 rfl rfl (by kernel_rfl) (by kernel_rfl) (by kernel_rfl) (fun _ _ _ h => h) (Or.inl ⟨by rfl, ?_⟩) (by assumption) ?_
  rotate_left
  · intro w hSw
    obtain ⟨q1, q2, q3⟩ := hSw
    go_simp
    try with_reducible rfl
  (try simp only [Act.put, List.setIfInBounds_toArray, List.set_cons_zero, List.set_cons_succ])
  refine take_dst (i := 3) (v := ?_) 33 rfl rfl (by kernel_rfl) (by kernel_rfl) (by kernel_rfl) (fun _ _ _ h => h) (Or.inl ⟨by rfl, ?_⟩) (by assumption) ?_
  rotate_left
  · intro w hSw
    obtain ⟨q1, q2, q3⟩ := hSw
    go_simp
    try with_reducible rfl
  (try simp only [Act.put, List.setIfInBounds_toArray, List.set_cons_zero, List.set_cons_succ])
  refine take_dst (i := 4) (v := ?_) 9 rfl rfl (by kernel_rfl) (by kernel_rfl) (by kernel_rfl) (fun _ _ _ h => h) (Or.inl ⟨by rfl, ?_⟩) (by assumption) ?_
  rotate_left
  · intro w hSw
    obtain ⟨q1, q2, q3⟩ := hSw
    go_simp
    try with_reducible rfl
  (try simp only [Act.put, List.setIfInBounds_toArray, List.set_cons_zero, List.set_cons_succ])
  refine take_dst (i := 5) (v := ?_) 10 rfl rfl (by kernel_rfl) (by kernel_rfl) (by kernel_rfl) (fun _ _ _ h => h) (Or.inl ⟨by rfl, ?_⟩) (by assumption) ?_
  rotate_left
  · intro w hSw
    obtain ⟨q1, q2, q3⟩ := hSw
    go_simp
    try with_reducible rfl
  (try simp only [Act.put, List.setIfInBounds_toArray, List.set_cons_zero, List.set_cons_succ])
  refine take_dst (i := 6) (v := ?_) 11 rfl rfl (by kernel_rfl) (by kernel_rfl) (by kernel_rfl) (fun _ _ _ h => h) (Or.inl ⟨by rfl, ?_⟩) (by assumption) ?_
  rotate_left
  · intro w hSw
    obtain ⟨q1, q2, q3⟩ := hSw
    go_simp
    try with_reducible rfl
  (try simp only [Act.put, List.setIfInBounds_toArray, List.set_cons_zero, List.set_cons_succ])
  refine wpAnyH_done (by kernel_rfl) ?_ _
  clear HSS HBS HPL hHeld
  have HX1 := Aside0.mk (blk_below HX.out HB.out)
  have H1 := Aside0.mk (H.out.step HB.out)
  have HB2 := Aside0.mk (below_step HB1.out HB.out)
  clear HX H HB HB1
  have hc1 := blk_cell HX1.out 1
  have hc2 := blk_cell HX1.out 2
  go_wp2_with fail
  refine (provisolaw01_pick.calls op 9 0 _ HP.out).mono ?_
  rintro e w3 ⟨rfl, m3, rfl⟩
  have HX := Aside0.mk (show (wd.drewN m3).heap[b2]? = _ from HX1.out)
  have H := Aside0.mk (H1.out.step (pw_below_drewN (Below.refl _ _) m3))
  have HBA := Aside0.mk (pw_below_drewN HB2.out m3)
  clear HX1 H1 HB2 hc1 hc2
  generalize wd.drewN m3 = w4 at HX H HBA ⊢
  go_wp2_with fail
  obtain ⟨A, c, hpl, hbs⟩ := H.out.plc HI.out HE.out
  have HSS := Aside0.mk (show ∀ W' : World, Below w4.heap.size w4 W' → W'.cell? ⟨(f i).p, 0, none⟩ = some (.slice A (f i).bs.length c) ∧ W'.cell? ⟨(f i).p, 1, none⟩ = some (.int .i64 ((f i).ar : Int)) ∧ W'.cell? ⟨b2, 2, none⟩ = some (.int .i64 N) from fun W' hW => ⟨blk_cell (blk_below hpl hW) 0, blk_cell (blk_below hpl hW) 1, blk_cell (blk_below HX.out hW) 2⟩)
  have HPL := Aside0.mk hpl
  have HBS := Aside0.mk hbs
  have HB := Aside0.mk (Below.refl w4.heap.size w4)
  clear hpl hbs
  (try simp only [Act.put, List.setIfInBounds_toArray, List.set_cons_zero, List.set_cons_succ])
  refine wp_region_held_drew (S := fun w' => w'.cell? ⟨(f i).p, 0, none⟩ = some (.slice A (f i).bs.length c) ∧ w'.cell? ⟨(f i).p, 1, none⟩ = some (.int .i64 ((f i).ar : Int)) ∧ w'.cell? ⟨b2, 2, none⟩ = some (.int .i64 N)) (by kernel_rfl) ?_ (fun hHeld => ?_)
  · exact HSS.out _ (pw_below_drewN HB.out 1)
  replace HB := Aside0.mk (show Below w4.heap.size w4 w4.drew from pw_below_drewN HB.out 1)
  generalize w4.drew = wd at HB hHeld ⊢
  refine take_dst (i := 0) (v := ?_) 53 rfl rfl (by kernel_rfl) (by kernel_rfl) (by kernel_rfl) (fun _ _ _ h => h) (Or.inl ⟨by rfl, ?_⟩) (by assumption) ?_
  rotate_left
  · intro w hSw
    obtain ⟨q1, q2, q3⟩ := hSw
    go_simp
    try with_reducible rfl
  (try simp only [Act.put, List.setIfInBounds_toArray, List.set_cons_zero, List.set_cons_succ])
  refine take_dst (i := 2) (v := ?_) 55 rfl rfl (by kernel_rfl) (by kernel_rfl) (by kernel_rfl) (fun _ _ _ h => h) (Or.inl ⟨by rfl, ?_⟩) (by assumption) ?_
  rotate_left
  · intro w hSw
    obtain ⟨q1, q2, q3⟩ := hSw
    go_simp
    try with_reducible rfl
  (try simp only [Act.put, List.setIfInBounds_toArray, List.set_cons_zero, List.set_cons_succ])
  refine take_dst (i := 3) (v := ?_) 56 rfl rfl (by kernel_rfl) (by kernel_rfl) (by kernel_rfl) (fun _ _ _ h => h) (Or.inl ⟨by rfl, ?_⟩) (by assumption) ?_
  rotate_left
  · intro w hSw
    obtain ⟨q1, q2, q3⟩ := hSw
    go_simp
    try with_reducible rfl
  (try simp only [Act.put, List.setIfInBounds_toArray, List.set_cons_zero, List.set_cons_succ])
  refine take_dst (i := 4) (v := ?_) 57 rfl rfl (by kernel_rfl) (by kernel_rfl) (by kernel_rfl) (fun _ _ _ h => h) (Or.inl ⟨by rfl, ?_⟩) (by assumption) ?_
  rotate_left
  · intro w hSw
    obtain ⟨q1, q2, q3⟩ := hSw
    go_simp
    try with_reducible rfl
  (try simp only [Act.put, List.setIfInBounds_toArray, List.set_cons_zero, List.set_cons_succ])
  refine take_dst (i := 5) (v := ?_) 58 rfl rfl (by kernel_rfl) (by kernel_rfl) (by kernel_rfl) (fun _ _ _ h => h) (Or.inl ⟨by rfl, ?_⟩) (by assumption) ?_
  rotate_left
  · intro w hSw
    obtain ⟨q1, q2, q3⟩ := hSw
    go_simp
    try with_reducible rfl
  (try simp only [Act.put, List.setIfInBounds_toArray, List.set_cons_zero, List.set_cons_succ])
  refine wpAnyH_ready (rs := [1]) (by kernel_rfl) (by simp) ?_
  refine AllReadyH.cons rfl (fun K hK => ?_) AllReadyH.nil
  go_simp
  refine (At_rd ((H.out.step HB.out).all i HI.out).rd).mono ?_
  rintro e w5 ⟨rfl, m5, rfl⟩
  replace HB := Aside0.mk (pw_below_drewN HB.out m5)
  go_simp
  refine hK.out _ _ (HSS.out _ HB.out) (fun hHeld => ?_)
  (try simp only [Act.put, List.setIfInBounds_toArray, List.set_cons_zero, List.set_cons_succ])
  clear hK K
  refine take_dst (i := 6) (v := ?_) 59 rfl rfl (by kernel_rfl) (by kernel_rfl) (by kernel_rfl) (fun _ _ _ h => h) (Or.inl ⟨by rfl, ?_⟩) (by assumption) ?_
  rotate_left
  · intro w hSw
    obtain ⟨q1, q2, q3⟩ := hSw
    go_simp
    try with_reducible rfl
  (try simp only [Act.put, List.setIfInBounds_toArray, List.set_cons_zero, List.set_cons_succ])
  refine take_dst (i := 7) (v := ?_) 6 rfl rfl (by kernel_rfl) (by kernel_rfl) (by kernel_rfl) (fun _ _ _ h => h) (Or.inl ⟨by rfl, ?_⟩) (by assumption) ?_
  rotate_left
  · intro w hSw
    obtain ⟨q1, q2, q3⟩ := hSw
    go_simp
    try with_reducible rfl
  (try simp only [Act.put, List.setIfInBounds_toArray, List.set_cons_zero, List.set_cons_succ])
  refine take_dst (i := 8) (v := ?_) 7 rfl rfl (by kernel_rfl) (by kernel_rfl) (by kernel_rfl) (fun _ _ _ h => h) (Or.inl ⟨by rfl, ?_⟩) (by assumption) ?_
  rotate_left
  · intro w hSw
    obtain ⟨q1, q2, q3⟩ := hSw
    go_simp
    try with_reducible rfl
  (try simp only [Act.put, List.setIfInBounds_toArray, List.set_cons_zero, List.set_cons_succ])
  refine take_dst (i := 9) (v := ?_) 8 rfl rfl (by kernel_rfl) (by kernel_rfl) (by kernel_rfl) (fun _ _ _ h => h) (Or.inl ⟨by rfl, ?_⟩) (by assumption) ?_
  rotate_left
  · intro w hSw
    obtain ⟨q1, q2, q3⟩ := hSw
    go_simp
    try with_reducible rfl
  (try simp only [Act.put, List.setIfInBounds_toArray, List.set_cons_zero, List.set_cons_succ])
  refine wpAnyH_done (by kernel_rfl) ?_ _
  go_wp2_with fail
  go_ret3
  exact LkPost.same H0.out HE.out (below_step HBA.out HB.out)
set_option maxHeartbeats 3200000 in
set_option maxRecDepth 100000 in
theorem look_1 (KK : Nat) (nm : ByteArray → Bool) (hK : RdFacts KK nm) (w0 : World) (n : Nat) (f : Nat → Ent) (i : Nat) (hi : i < n) (W : World) (h : RSt w0 n f W) (he : (f i).ar = (f i).ap) (who op N : Int) (hp : provisolaw01_pick.f op 9 = some 1) :
    Calls Try.prog 38 #[.pointer (some ⟨(f i).g, 0, none⟩), .pointer (some ⟨(f i).p, 0, none⟩), .agg #[.int .i64 who, .int .i64 op, .int .i64 N]] W fun e w' => LkPost w0 n f i W e w' := by
  have HI := Aside0.mk hi
  have HK := Aside0.mk hK
  have HE := Aside0.mk he
  have hle := (h.all i hi).rd.le
  have HBY := Aside0.mk (h.all i hi).by_
  have HLIM := Aside0.mk (h.all i hi).lim
  have HLE := Aside0.mk hle
  have HP := Aside0.mk hp
  have H0 := Aside0.mk h
  clear hK hi hp he hle
  go_enter Try.func38, Try.ntmps38
  go_wp2_with ((with_reducible refine gate_dst (N := 5) rfl ?_); refine rw_box rfl 68 rfl (cs := #[.int .i64 who, .int .i64 op, .int .i64 N]) rfl (Rws.nil W) ?_; intro b2 w1 hX; have HX := Aside0.mk (hX.mem List.mem_cons_self); have HG := Aside0.mk (hX.lies _ List.mem_cons_self).2; have H := Aside0.mk (h.step hX.below); have HB1 := Aside0.mk hX.below; clear hX h)
  obtain ⟨A, c, hpl, hbs⟩ := H.out.plc HI.out HE.out
  have HSS := Aside0.mk (show ∀ W' : World, Below w1.heap.size w1 W' → W'.cell? ⟨(f i).p, 0, none⟩ = some (.slice A (f i).bs.length c) ∧ W'.cell? ⟨(f i).p, 1, none⟩ = some (.int .i64 ((f i).ar : Int)) ∧ W'.cell? ⟨b2, 2, none⟩ = some (.int .i64 N) from fun W' hW => ⟨blk_cell (blk_below hpl hW) 0, blk_cell (blk_below hpl hW) 1, blk_cell (blk_below HX.out hW) 2⟩)
  have HPL := Aside0.mk hpl
  have HBS := Aside0.mk hbs
  have HB := Aside0.mk (Below.refl w1.heap.size w1)
  clear hpl hbs
  (try simp only [Act.put, List.setIfInBounds_toArray, List.set_cons_zero, List.set_cons_succ])
  refine wp_region_held_drew (S := fun w' => w'.cell? ⟨(f i).p, 0, none⟩ = some (.slice A (f i).bs.length c) ∧ w'.cell? ⟨(f i).p, 1, none⟩ = some (.int .i64 ((f i).ar : Int)) ∧ w'.cell? ⟨b2, 2, none⟩ = some (.int .i64 N)) (by kernel_rfl) ?_ (fun hHeld => ?_)
  · exact HSS.out _ (pw_below_drewN HB.out 1)
  replace HB := Aside0.mk (show Below w1.heap.size w1 w1.drew from pw_below_drewN HB.out 1)
  generalize w1.drew = wd at HB hHeld ⊢
  refine take_dst (i := 0) (v := ?_) 30 rfl rfl (by kernel_rfl) (by kernel_rfl) (by kernel_rfl) (fun _ _ _ h => h) (Or.inl ⟨by rfl, ?_⟩) (by assumption) ?_
  rotate_left
  · intro w hSw
    obtain ⟨q1, q2, q3⟩ := hSw
    go_simp
    try with_reducible rfl
  (try simp only [Act.put, List.setIfInBounds_toArray, List.set_cons_zero, List.set_cons_succ])
  refine take_dst (i := 1) (v := ?_) 31 rfl rfl (by kernel_rfl) (by kernel_rfl) (by kernel_rfl) (fun _ _ _ h => h) (Or.inl ⟨by rfl, ?_⟩) (by assumption) ?_
  rotate_left
  · intro w hSw
    obtain ⟨q1, q2, q3⟩ := hSw
    go_simp
    try with_reducible rfl
  (try simp only [Act.put, List.setIfInBounds_toArray, List.set_cons_zero, List.set_cons_succ])
  refine take_dst (i := 2) (v := ?_) 32 rfl rfl (by kernel_rfl) (by kernel_rfl) (by kernel_rfl) (fun _ _ _ h => h) (Or.inl ⟨by rfl, ?_⟩) (by assumption) ?_
  rotate_left
  · intro w hSw
    obtain ⟨q1, q2, q3⟩ := hSw
    go_simp
    try with_reducible rfl
  (try simp only [Act.put, List.setIfInBounds_toArray, List.set_cons_zero, List.set_cons_succ])
  refine take_dst (i := 3) (v := ?_) 33 rfl rfl (by kernel_rfl) (by kernel_rfl) (by kernel_rfl) (fun _ _ _ h => h) (Or.inl ⟨by rfl, ?_⟩) (by assumption) ?_
  rotate_left
  · intro w hSw
    obtain ⟨q1, q2, q3⟩ := hSw
    go_simp
    try with_reducible rfl
  (try simp only [Act.put, List.setIfInBounds_toArray, List.set_cons_zero, List.set_cons_succ])
  refine take_dst (i := 4) (v := ?_) 9 rfl rfl (by kernel_rfl) (by kernel_rfl) (by kernel_rfl) (fun _ _ _ h => h) (Or.inl ⟨by rfl, ?_⟩) (by assumption) ?_
  rotate_left
  · intro w hSw
    obtain ⟨q1, q2, q3⟩ := hSw
    go_simp
    try with_reducible rfl
  (try simp only [Act.put, List.setIfInBounds_toArray, List.set_cons_zero, List.set_cons_succ])
  refine take_dst (i := 5) (v := ?_) 10 rfl rfl (by kernel_rfl) (by kernel_rfl) (by kernel_rfl) (fun _ _ _ h => h) (Or.inl ⟨by rfl, ?_⟩) (by assumption) ?_
  rotate_left
  · intro w hSw
    obtain ⟨q1, q2, q3⟩ := hSw
    go_simp
    try with_reducible rfl
  (try simp only [Act.put, List.setIfInBounds_toArray, List.set_cons_zero, List.set_cons_succ])
  refine take_dst (i := 6) (v := ?_) 11 rfl rfl (by kernel_rfl) (by kernel_rfl) (by kernel_rfl) (fun _ _ _ h => h) (Or.inl ⟨by rfl, ?_⟩) (by assumption) ?_
  rotate_left
  · intro w hSw
    obtain ⟨q1, q2, q3⟩ := hSw
    go_simp
    try with_reducible rfl
  (try simp only [Act.put, List.setIfInBounds_toArray, List.set_cons_zero, List.set_cons_succ])
  refine wpAnyH_done (by kernel_rfl) ?_ _
  clear HSS HBS HPL hHeld
  have HX1 := Aside0.mk (blk_below HX.out HB.out)
  have H1 := Aside0.mk (H.out.step HB.out)
  have HB2 := Aside0.mk (below_step HB1.out HB.out)
  clear HX H HB HB1
  have hc1 := blk_cell HX1.out 1
  have hc2 := blk_cell HX1.out 2
  go_wp2_with fail
  refine (provisolaw01_pick.calls op 9 1 _ HP.out).mono ?_
  rintro e w3 ⟨rfl, m3, rfl⟩
  have HX := Aside0.mk (show (wd.drewN m3).heap[b2]? = _ from HX1.out)
  have H := Aside0.mk (H1.out.step (pw_below_drewN (Below.refl _ _) m3))
  have HBA := Aside0.mk (pw_below_drewN HB2.out m3)
  clear HX1 H1 HB2 hc1 hc2
  generalize wd.drewN m3 = w4 at HX H HBA ⊢
  have hwr : IntKind.i64.wrap (((f i).bs.length : Int) - ((f i).ar : Int)) = ((f i).bs.length : Int) - ((f i).ar : Int) := by have := HLE.out; have := HLIM.out; rw [IntKind.wrap_i64]; omega
  go_wp2_with fail
  obtain ⟨A, c, hpl, hbs⟩ := H.out.plc HI.out HE.out
  have HSS := Aside0.mk (show ∀ W' : World, Below w4.heap.size w4 W' → W'.cell? ⟨(f i).p, 0, none⟩ = some (.slice A (f i).bs.length c) ∧ W'.cell? ⟨(f i).p, 1, none⟩ = some (.int .i64 ((f i).ar : Int)) ∧ W'.cell? ⟨b2, 2, none⟩ = some (.int .i64 N) from fun W' hW => ⟨blk_cell (blk_below hpl hW) 0, blk_cell (blk_below hpl hW) 1, blk_cell (blk_below HX.out hW) 2⟩)
  have HPL := Aside0.mk hpl
  have HBS := Aside0.mk hbs
  have HB := Aside0.mk (Below.refl w4.heap.size w4)
  clear hpl hbs
  (try simp only [Act.put, List.setIfInBounds_toArray, List.set_cons_zero, List.set_cons_succ])
  refine wp_region_held_drew (S := fun w' => w'.cell? ⟨(f i).p, 0, none⟩ = some (.slice A (f i).bs.length c) ∧ w'.cell? ⟨(f i).p, 1, none⟩ = some (.int .i64 ((f i).ar : Int)) ∧ w'.cell? ⟨b2, 2, none⟩ = some (.int .i64 N)) (by kernel_rfl) ?_ (fun hHeld => ?_)
  · exact HSS.out _ (pw_below_drewN HB.out 1)
  replace HB := Aside0.mk (show Below w4.heap.size w4 w4.drew from pw_below_drewN HB.out 1)
  generalize w4.drew = wd at HB hHeld ⊢
  refine take_dst (i := 0) (v := ?_) 62 rfl rfl (by kernel_rfl) (by kernel_rfl) (by kernel_rfl) (fun _ _ _ h => h) (Or.inl ⟨by rfl, ?_⟩) (by assumption) ?_
  rotate_left
  · intro w hSw
    obtain ⟨q1, q2, q3⟩ := hSw
    go_simp
    try with_reducible rfl
  (try simp only [Act.put, List.setIfInBounds_toArray, List.set_cons_zero, List.set_cons_succ])
  refine take_dst (i := 2) (v := ?_) 64 rfl rfl (by kernel_rfl) (by kernel_rfl) (by kernel_rfl) (fun _ _ _ h => h) (Or.inl ⟨by rfl, ?_⟩) (by assumption) ?_
  rotate_left
  · intro w hSw
    obtain ⟨q1, q2, q3⟩ := hSw
    go_simp
    try with_reducible rfl
  (try simp only [Act.put, List.setIfInBounds_toArray, List.set_cons_zero, List.set_cons_succ])
  refine take_dst (i := 3) (v := ?_) 65 rfl rfl (by kernel_rfl) (by kernel_rfl) (by kernel_rfl) (fun _ _ _ h => h) (Or.inl ⟨by rfl, ?_⟩) (by assumption) ?_
  rotate_left
  · intro w hSw
    obtain ⟨q1, q2, q3⟩ := hSw
    go_simp
    try with_reducible rfl
  (try simp only [Act.put, List.setIfInBounds_toArray, List.set_cons_zero, List.set_cons_succ])
  refine take_dst (i := 4) (v := ?_) 66 rfl rfl (by kernel_rfl) (by kernel_rfl) (by kernel_rfl) (fun _ _ _ h => h) (Or.inl ⟨by rfl, ?_⟩) (by assumption) ?_
  rotate_left
  · intro w hSw
    obtain ⟨q1, q2, q3⟩ := hSw
    go_simp
    try with_reducible rfl
  (try simp only [Act.put, List.setIfInBounds_toArray, List.set_cons_zero, List.set_cons_succ])
  refine take_dst (i := 5) (v := ?_) 67 rfl rfl (by kernel_rfl) (by kernel_rfl) (by kernel_rfl) (fun _ _ _ h => h) (Or.inl ⟨by rfl, ?_⟩) (by assumption) ?_
  rotate_left
  · intro w hSw
    obtain ⟨q1, q2, q3⟩ := hSw
    go_simp
    try with_reducible rfl
  (try simp only [Act.put, List.setIfInBounds_toArray, List.set_cons_zero, List.set_cons_succ])
  refine take_dst (i := 6) (v := ?_) 68 rfl rfl (by kernel_rfl) (by kernel_rfl) (by kernel_rfl) (fun _ _ _ h => h) (Or.inl ⟨by rfl, ?_⟩) (by assumption) ?_
  rotate_left
  · intro w hSw
    obtain ⟨q1, q2, q3⟩ := hSw
    go_simp
    try with_reducible rfl
  (try simp only [Act.put, List.setIfInBounds_toArray, List.set_cons_zero, List.set_cons_succ])
  refine take_dst (i := 7) (v := ?_) 69 rfl rfl (by kernel_rfl) (by kernel_rfl) (by kernel_rfl) (fun _ _ _ h => h) (Or.inl ⟨by rfl, ?_⟩) (by assumption) ?_
  rotate_left
  · intro w hSw
    obtain ⟨q1, q2, q3⟩ := hSw
    go_simp
    try with_reducible rfl
  (try simp only [Act.put, List.setIfInBounds_toArray, List.set_cons_zero, List.set_cons_succ])
  refine take_dst (i := 8) (v := ?_) 70 rfl rfl (by kernel_rfl) (by kernel_rfl) (by kernel_rfl) (fun _ _ _ h => h) (Or.inl ⟨by rfl, ?_⟩) (by assumption) ?_
  rotate_left
  · intro w hSw
    obtain ⟨q1, q2, q3⟩ := hSw
    go_simp
    try with_reducible rfl
  (try simp only [Act.put, List.setIfInBounds_toArray, List.set_cons_zero, List.set_cons_succ])
  refine take_dst (i := 9) (v := ?_) 71 rfl rfl (by kernel_rfl) (by kernel_rfl) (by kernel_rfl) (fun _ _ _ h => h) (Or.inl ⟨by rfl, ?_⟩) (by assumption) ?_
  rotate_left
  · intro w hSw
    obtain ⟨q1, q2, q3⟩ := hSw
    go_simp
    try with_reducible rfl
  (try simp only [Act.put, List.setIfInBounds_toArray, List.set_cons_zero, List.set_cons_succ])
  refine take_dst (i := 10) (v := ?_) 72 rfl rfl (by kernel_rfl) (by kernel_rfl) (by kernel_rfl) (fun _ _ _ h => h) (Or.inl ⟨by rfl, ?_⟩) (by assumption) ?_
  rotate_left
  · intro w hSw
    obtain ⟨q1, q2, q3⟩ := hSw
    go_simp
    try with_reducible rfl
  (try simp only [Act.put, List.setIfInBounds_toArray, List.set_cons_zero, List.set_cons_succ])
  refine take_dst (i := 11) (v := ?_) 73 rfl rfl (by kernel_rfl) (by kernel_rfl) (by kernel_rfl) (fun _ _ _ h => h) (Or.inl ⟨by rfl, ?_⟩) (by assumption) ?_
  rotate_left
  · intro w hSw
    obtain ⟨q1, q2, q3⟩ := hSw
    go_simp
    try with_reducible rfl
  (try simp only [Act.put, List.setIfInBounds_toArray, List.set_cons_zero, List.set_cons_succ])
  refine wpAnyH_ready (rs := [1]) (by kernel_rfl) (by simp) ?_
  refine AllReadyH.cons rfl (fun K hK => ?_) AllReadyH.nil
  go_simp
  refine (Left_rd ((H.out.step HB.out).all i HI.out).rd).mono ?_
  rintro e w5 ⟨rfl, m5, rfl⟩
  replace HB := Aside0.mk (pw_below_drewN HB.out m5)
  go_simp
  refine hK.out _ _ (HSS.out _ HB.out) (fun hHeld => ?_)
  (try simp only [Act.put, List.setIfInBounds_toArray, List.set_cons_zero, List.set_cons_succ])
  clear hK K
  refine take_dst (i := 12) (v := ?_) 74 rfl rfl (by kernel_rfl) (by kernel_rfl) (by kernel_rfl) (fun _ _ _ h => h) (Or.inl ⟨by rfl, ?_⟩) (by assumption) ?_
  rotate_left
  · intro w hSw
    obtain ⟨q1, q2, q3⟩ := hSw
    go_simp
    try with_reducible rfl
  (try simp only [Act.put, List.setIfInBounds_toArray, List.set_cons_zero, List.set_cons_succ])
  refine take_dst (i := 13) (v := ?_) 6 rfl rfl (by kernel_rfl) (by kernel_rfl) (by kernel_rfl) (fun _ _ _ h => h) (Or.inl ⟨by rfl, ?_⟩) (by assumption) ?_
  rotate_left
  · intro w hSw
    obtain ⟨q1, q2, q3⟩ := hSw
    go_simp
    try with_reducible rfl
  (try simp only [Act.put, List.setIfInBounds_toArray, List.set_cons_zero, List.set_cons_succ])
  refine take_dst (i := 14) (v := ?_) 7 rfl rfl (by kernel_rfl) (by kernel_rfl) (by kernel_rfl) (fun _ _ _ h => h) (Or.inl ⟨by rfl, ?_⟩) (by assumption) ?_
  rotate_left
  · intro w hSw
    obtain ⟨q1, q2, q3⟩ := hSw
    go_simp
    try with_reducible rfl
  (try simp only [Act.put, List.setIfInBounds_toArray, List.set_cons_zero, List.set_cons_succ])
  refine take_dst (i := 15) (v := ?_) 8 rfl rfl (by kernel_rfl) (by kernel_rfl) (by kernel_rfl) (fun _ _ _ h => h) (Or.inl ⟨by rfl, ?_⟩) (by assumption) ?_
  rotate_left
  · intro w hSw
    obtain ⟨q1, q2, q3⟩ := hSw
    go_simp
    try with_reducible rfl
  (try simp only [Act.put, List.setIfInBounds_toArray, List.set_cons_zero, List.set_cons_succ])
  refine wpAnyH_done (by kernel_rfl) ?_ _
  go_wp2_with fail
  go_ret3
  exact LkPost.same H0.out HE.out (below_step HBA.out HB.out)
set_option maxHeartbeats 3200000 in
set_option maxRecDepth 100000 in
theorem look_2 (KK : Nat) (nm : ByteArray → Bool) (hK : RdFacts KK nm) (w0 : World) (n : Nat) (f : Nat → Ent) (i : Nat) (hi : i < n) (W : World) (h : RSt w0 n f W) (he : (f i).ar = (f i).ap) (who op N : Int) (hp : provisolaw01_pick.f op 9 = some 2) :
    Calls Try.prog 38 #[.pointer (some ⟨(f i).g, 0, none⟩), .pointer (some ⟨(f i).p, 0, none⟩), .agg #[.int .i64 who, .int .i64 op, .int .i64 N]] W fun e w' => LkPost w0 n f i W e w' := by
  have HI := Aside0.mk hi
  have HK := Aside0.mk hK
  have HE := Aside0.mk he
  have hle := (h.all i hi).rd.le
  have HBY := Aside0.mk (h.all i hi).by_
  have HLIM := Aside0.mk (h.all i hi).lim
  have HLE := Aside0.mk hle
  have HP := Aside0.mk hp
  have H0 := Aside0.mk h
  clear hK hi hp he hle
  go_enter Try.func38, Try.ntmps38
  go_wp2_with ((with_reducible refine gate_dst (N := 5) rfl ?_); refine rw_box rfl 68 rfl (cs := #[.int .i64 who, .int .i64 op, .int .i64 N]) rfl (Rws.nil W) ?_; intro b2 w1 hX; have HX := Aside0.mk (hX.mem List.mem_cons_self); have HG := Aside0.mk (hX.lies _ List.mem_cons_self).2; have H := Aside0.mk (h.step hX.below); have HB1 := Aside0.mk hX.below; clear hX h)
  obtain ⟨A, c, hpl, hbs⟩ := H.out.plc HI.out HE.out
  have HSS := Aside0.mk (show ∀ W' : World, Below w1.heap.size w1 W' → W'.cell? ⟨(f i).p, 0, none⟩ = some (.slice A (f i).bs.length c) ∧ W'.cell? ⟨(f i).p, 1, none⟩ = some (.int .i64 ((f i).ar : Int)) ∧ W'.cell? ⟨b2, 2, none⟩ = some (.int .i64 N) from fun W' hW => ⟨blk_cell (blk_below hpl hW) 0, blk_cell (blk_below hpl hW) 1, blk_cell (blk_below HX.out hW) 2⟩)
  have HPL := Aside0.mk hpl
  have HBS := Aside0.mk hbs
  have HB := Aside0.mk (Below.refl w1.heap.size w1)
  clear hpl hbs
  (try simp only [Act.put, List.setIfInBounds_toArray, List.set_cons_zero, List.set_cons_succ])
  refine wp_region_held_drew (S := fun w' => w'.cell? ⟨(f i).p, 0, none⟩ = some (.slice A (f i).bs.length c) ∧ w'.cell? ⟨(f i).p, 1, none⟩ = some (.int .i64 ((f i).ar : Int)) ∧ w'.cell? ⟨b2, 2, none⟩ = some (.int .i64 N)) (by kernel_rfl) ?_ (fun hHeld => ?_)
  · exact HSS.out _ (pw_below_drewN HB.out 1)
  replace HB := Aside0.mk (show Below w1.heap.size w1 w1.drew from pw_below_drewN HB.out 1)
  generalize w1.drew = wd at HB hHeld ⊢
  refine take_dst (i := 0) (v := ?_) 30 rfl rfl (by kernel_rfl) (by kernel_rfl) (by kernel_rfl) (fun _ _ _ h => h) (Or.inl ⟨by rfl, ?_⟩) (by assumption) ?_
  rotate_left
  · intro w hSw
    obtain ⟨q1, q2, q3⟩ := hSw
    go_simp
    try with_reducible rfl
  (try simp only [Act.put, List.setIfInBounds_toArray, List.set_cons_zero, List.set_cons_succ])
  refine take_dst (i := 1) (v := ?_) 31 rfl rfl (by kernel_rfl) (by kernel_rfl) (by kernel_rfl) (fun _ _ _ h => h) (Or.inl ⟨by rfl, ?_⟩) (by assumption) ?_
  rotate_left
  · intro w hSw
    obtain ⟨q1, q2, q3⟩ := hSw
    go_simp
    try with_reducible rfl
  (try simp only [Act.put, List.setIfInBounds_toArray, List.set_cons_zero, List.set_cons_succ])
  refine take_dst (i := 2) (v := ?_) 32 rfl rfl (by kernel_rfl) (by kernel_rfl) (by kernel_rfl) (fun _ _ _ h => h) (Or.inl ⟨by rfl, ?_⟩) (by assumption) ?_
  rotate_left
  · intro w hSw
    obtain ⟨q1, q2, q3⟩ := hSw
    go_simp
    try with_reducible rfl
  (try simp only [Act.put, List.setIfInBounds_toArray, List.set_cons_zero, List.set_cons_succ])
  refine take_dst (i := 3) (v := ?_) 33 rfl rfl (by kernel_rfl) (by kernel_rfl) (by kernel_rfl) (fun _ _ _ h => h) (Or.inl ⟨by rfl, ?_⟩) (by assumption) ?_
  rotate_left
  · intro w hSw
    obtain ⟨q1, q2, q3⟩ := hSw
    go_simp
    try with_reducible rfl
  (try simp only [Act.put, List.setIfInBounds_toArray, List.set_cons_zero, List.set_cons_succ])
  refine take_dst (i := 4) (v := ?_) 9 rfl rfl (by kernel_rfl) (by kernel_rfl) (by kernel_rfl) (fun _ _ _ h => h) (Or.inl ⟨by rfl, ?_⟩) (by assumption) ?_
  rotate_left
  · intro w hSw
    obtain ⟨q1, q2, q3⟩ := hSw
    go_simp
    try with_reducible rfl
  (try simp only [Act.put, List.setIfInBounds_toArray, List.set_cons_zero, List.set_cons_succ])
  refine take_dst (i := 5) (v := ?_) 10 rfl rfl (by kernel_rfl) (by kernel_rfl) (by kernel_rfl) (fun _ _ _ h => h) (Or.inl ⟨by rfl, ?_⟩) (by assumption) ?_
  rotate_left
  · intro w hSw
    obtain ⟨q1, q2, q3⟩ := hSw
    go_simp
    try with_reducible rfl
  (try simp only [Act.put, List.setIfInBounds_toArray, List.set_cons_zero, List.set_cons_succ])
  refine take_dst (i := 6) (v := ?_) 11 rfl rfl (by kernel_rfl) (by kernel_rfl) (by kernel_rfl) (fun _ _ _ h => h) (Or.inl ⟨by rfl, ?_⟩) (by assumption) ?_
  rotate_left
  · intro w hSw
    obtain ⟨q1, q2, q3⟩ := hSw
    go_simp
    try with_reducible rfl
  (try simp only [Act.put, List.setIfInBounds_toArray, List.set_cons_zero, List.set_cons_succ])
  refine wpAnyH_done (by kernel_rfl) ?_ _
  clear HSS HBS HPL hHeld
  have HX1 := Aside0.mk (blk_below HX.out HB.out)
  have H1 := Aside0.mk (H.out.step HB.out)
  have HB2 := Aside0.mk (below_step HB1.out HB.out)
  clear HX H HB HB1
  have hc1 := blk_cell HX1.out 1
  have hc2 := blk_cell HX1.out 2
  go_wp2_with fail
  refine (provisolaw01_pick.calls op 9 2 _ HP.out).mono ?_
  rintro e w3 ⟨rfl, m3, rfl⟩
  have HX := Aside0.mk (show (wd.drewN m3).heap[b2]? = _ from HX1.out)
  have H := Aside0.mk (H1.out.step (pw_below_drewN (Below.refl _ _) m3))
  have HBA := Aside0.mk (pw_below_drewN HB2.out m3)
  clear HX1 H1 HB2 hc1 hc2
  generalize wd.drewN m3 = w4 at HX H HBA ⊢
  go_wp2_with fail
  refine (Byte_s w0 n f i HI.out w4 H.out).mono ?_
  rintro e w5 ⟨rfl, hp⟩
  obtain ⟨q, hq⟩ : ∃ q, q = numR 1 (f i).bs (f i).ar := ⟨_, rfl⟩
  rw [← hq] at hp ⊢
  have HQ := Aside0.mk hq
  clear hq
  obtain ⟨v, k, er⟩ := q
  have HP5 := Aside0.mk hp
  have HX4 := HX
  replace HX := Aside0.mk ((hp.2.2 b2 (blk_lt HX4.out) (fun q => by obtain ⟨cs, hg⟩ := (H.out.all i HI.out).blocks.1; exact typ_ne HX4.out hg (by decide) q)).trans HX4.out)
  clear hp HX4
  go_wp2_with fail
  obtain ⟨A, c, hpl, hbs⟩ := HP5.out.plc HI.out HE.out
  have HSS := Aside0.mk (show ∀ W' : World, Below w5.heap.size w5 W' → W'.cell? ⟨(f i).p, 0, none⟩ = some (.slice A (f i).bs.length c) ∧ W'.cell? ⟨(f i).p, 1, none⟩ = some (.int .i64 ((f i).ar : Int)) ∧ W'.cell? ⟨b2, 2, none⟩ = some (.int .i64 N) from fun W' hW => ⟨blk_cell (blk_below hpl hW) 0, blk_cell (blk_below hpl hW) 1, blk_cell (blk_below HX.out hW) 2⟩)
  have HPL := Aside0.mk hpl
  have HBS := Aside0.mk hbs
  have HB := Aside0.mk (Below.refl w5.heap.size w5)
  clear hpl hbs
  (try simp only [Act.put, List.setIfInBounds_toArray, List.set_cons_zero, List.set_cons_succ])
  refine wp_region_held_drew (S := fun w' => w'.cell? ⟨(f i).p, 0, none⟩ = some (.slice A (f i).bs.length c) ∧ w'.cell? ⟨(f i).p, 1, none⟩ = some (.int .i64 ((f i).ar : Int)) ∧ w'.cell? ⟨b2, 2, none⟩ = some (.int .i64 N)) (by kernel_rfl) ?_ (fun hHeld => ?_)
  · exact HSS.out _ (pw_below_drewN HB.out 1)
  replace HB := Aside0.mk (show Below w5.heap.size w5 w5.drew from pw_below_drewN HB.out 1)
  generalize w5.drew = wd at HB hHeld ⊢
  refine take_dst (i := 0) (v := ?_) 83 rfl rfl (by kernel_rfl) (by kernel_rfl) (by kernel_rfl) (fun _ _ _ h => h) (Or.inl ⟨by rfl, ?_⟩) (by assumption) ?_
  rotate_left
  · intro w hSw
    obtain ⟨q1, q2, q3⟩ := hSw
    go_simp
    try with_reducible rfl
  (try simp only [Act.put, List.setIfInBounds_toArray, List.set_cons_zero, List.set_cons_succ])
  refine take_dst (i := 1) (v := ?_) 84 rfl rfl (by kernel_rfl) (by kernel_rfl) (by kernel_rfl) (fun _ _ _ h => h) (Or.inl ⟨by rfl, ?_⟩) (by assumption) ?_
  rotate_left
  · intro w hSw
    obtain ⟨q1, q2, q3⟩ := hSw
    go_simp
    try with_reducible rfl
  (try simp only [Act.put, List.setIfInBounds_toArray, List.set_cons_zero, List.set_cons_succ])
  refine take_dst (i := 2) (v := ?_) 85 rfl rfl (by kernel_rfl) (by kernel_rfl) (by kernel_rfl) (fun _ _ _ h => h) (Or.inl ⟨by rfl, ?_⟩) (by assumption) ?_
  rotate_left
  · intro w hSw
    obtain ⟨q1, q2, q3⟩ := hSw
    go_simp
    try with_reducible rfl
  (try simp only [Act.put, List.setIfInBounds_toArray, List.set_cons_zero, List.set_cons_succ])
  refine take_dst (i := 3) (v := ?_) 86 rfl rfl (by kernel_rfl) (by kernel_rfl) (by kernel_rfl) (fun _ _ _ h => h) (Or.inl ⟨by rfl, ?_⟩) (by assumption) ?_
  rotate_left
  · intro w hSw
    obtain ⟨q1, q2, q3⟩ := hSw
    go_simp
    try with_reducible rfl
  (try simp only [Act.put, List.setIfInBounds_toArray, List.set_cons_zero, List.set_cons_succ])
  refine take_dst (i := 4) (v := ?_) 87 rfl rfl (by kernel_rfl) (by kernel_rfl) (by kernel_rfl) (fun _ _ _ h => h) (Or.inl ⟨by rfl, ?_⟩) (by assumption) ?_
  rotate_left
  · intro w hSw
    obtain ⟨q1, q2, q3⟩ := hSw
    go_simp
    try with_reducible rfl
  (try simp only [Act.put, List.setIfInBounds_toArray, List.set_cons_zero, List.set_cons_succ])
  refine take_dst (i := 5) (v := ?_) 88 rfl rfl (by kernel_rfl) (by kernel_rfl) (by kernel_rfl) (fun _ _ _ h => h) (Or.inl ⟨by rfl, ?_⟩) (by assumption) ?_
  rotate_left
  · intro w hSw
    obtain ⟨q1, q2, q3⟩ := hSw
    go_simp
    try with_reducible rfl
  (try simp only [Act.put, List.setIfInBounds_toArray, List.set_cons_zero, List.set_cons_succ])
  refine take_dst (i := 6) (v := ?_) 89 rfl rfl (by kernel_rfl) (by kernel_rfl) (by kernel_rfl) (fun _ _ _ h => h) (Or.inl ⟨by rfl, ?_⟩) (by assumption) ?_
  rotate_left
  · intro w hSw
    obtain ⟨q1, q2, q3⟩ := hSw
    go_simp
    try with_reducible rfl
  (try simp only [Act.put, List.setIfInBounds_toArray, List.set_cons_zero, List.set_cons_succ])
  refine take_dst (i := 7) (v := ?_) 90 rfl rfl (by kernel_rfl) (by kernel_rfl) (by kernel_rfl) (fun _ _ _ h => h) (Or.inl ⟨by rfl, ?_⟩) (by assumption) ?_
  rotate_left
  · intro w hSw
    obtain ⟨q1, q2, q3⟩ := hSw
    go_simp
    try with_reducible rfl
  (try simp only [Act.put, List.setIfInBounds_toArray, List.set_cons_zero, List.set_cons_succ])
  refine wpAnyH_ready (rs := [8]) (by kernel_rfl) (by simp) ?_
  refine AllReadyH.cons rfl (fun K hK => ?_) AllReadyH.nil
  go_simp
  refine (provisoref01_Number.calls KK A c (f i).bs ((f i).ar : Int) 1 _ _ _ _ ((HBS.out.step HB.out).reads (below_step HP5.out.1.below HB.out)) HBS.out.1 (HK.out.num 1 (f i).bs (f i).ar (by decide) HBY.out HLIM.out HLE.out)).mono ?_
  rintro e w6 ⟨rfl, m6, rfl⟩
  replace HB := Aside0.mk (pw_below_drewN HB.out m6)
  rw [← HQ.out]
  go_simp
  refine hK.out _ _ (HSS.out _ HB.out) (fun hHeld => ?_)
  (try simp only [Act.put, List.setIfInBounds_toArray, List.set_cons_zero, List.set_cons_succ])
  clear hK K
  refine take_dst (i := 9) (v := ?_) 82 rfl rfl (by kernel_rfl) (by kernel_rfl) (by kernel_rfl) (fun _ _ _ h => h) (Or.inl ⟨by rfl, ?_⟩) (by assumption) ?_
  rotate_left
  · intro w hSw
    obtain ⟨q1, q2, q3⟩ := hSw
    go_simp
    try with_reducible rfl
  (try simp only [Act.put, List.setIfInBounds_toArray, List.set_cons_zero, List.set_cons_succ])
  refine take_dst (i := 10) (v := ?_) 92 rfl rfl (by kernel_rfl) (by kernel_rfl) (by kernel_rfl) (fun _ _ _ h => h) (Or.inl ⟨by rfl, ?_⟩) (by assumption) ?_
  rotate_left
  · intro w hSw
    obtain ⟨q1, q2, q3⟩ := hSw
    go_simp
    try with_reducible rfl
  (try simp only [Act.put, List.setIfInBounds_toArray, List.set_cons_zero, List.set_cons_succ])
  refine take_dst (i := 11) (v := ?_) 93 rfl rfl (by kernel_rfl) (by kernel_rfl) (by kernel_rfl) (fun _ _ _ h => h) (Or.inl ⟨by rfl, ?_⟩) (by assumption) ?_
  rotate_left
  · intro w hSw
    obtain ⟨q1, q2, q3⟩ := hSw
    go_simp
    try with_reducible rfl
  (try simp only [Act.put, List.setIfInBounds_toArray, List.set_cons_zero, List.set_cons_succ])
  refine take_dst (i := 12) (v := ?_) 94 rfl rfl (by kernel_rfl) (by kernel_rfl) (by kernel_rfl) (fun _ _ _ h => h) (Or.inl ⟨by rfl, ?_⟩) (by assumption) ?_
  rotate_left
  · intro w hSw
    obtain ⟨q1, q2, q3⟩ := hSw
    go_simp
    try with_reducible rfl
  (try simp only [Act.put, List.setIfInBounds_toArray, List.set_cons_zero, List.set_cons_succ])
  refine take_dst (i := 13) (v := ?_) 9 rfl rfl (by kernel_rfl) (by kernel_rfl) (by kernel_rfl) (fun _ _ _ h => h) (Or.inl ⟨by rfl, ?_⟩) (by assumption) ?_
  rotate_left
  · intro w hSw
    obtain ⟨q1, q2, q3⟩ := hSw
    go_simp
    try with_reducible rfl
  (try simp only [Act.put, List.setIfInBounds_toArray, List.set_cons_zero, List.set_cons_succ])
  refine take_dst (i := 14) (v := ?_) 10 rfl rfl (by kernel_rfl) (by kernel_rfl) (by kernel_rfl) (fun _ _ _ h => h) (Or.inl ⟨by rfl, ?_⟩) (by assumption) ?_
  rotate_left
  · intro w hSw
    obtain ⟨q1, q2, q3⟩ := hSw
    go_simp
    try with_reducible rfl
  (try simp only [Act.put, List.setIfInBounds_toArray, List.set_cons_zero, List.set_cons_succ])
  refine take_dst (i := 15) (v := ?_) 11 rfl rfl (by kernel_rfl) (by kernel_rfl) (by kernel_rfl) (fun _ _ _ h => h) (Or.inl ⟨by rfl, ?_⟩) (by assumption) ?_
  rotate_left
  · intro w hSw
    obtain ⟨q1, q2, q3⟩ := hSw
    go_simp
    try with_reducible rfl
  (try simp only [Act.put, List.setIfInBounds_toArray, List.set_cons_zero, List.set_cons_succ])
  refine wpAnyH_done (by kernel_rfl) ?_ _
  have hT := LkPost.turned HI.out HBA.out HP5.out HB.out
  have hpc := blk_cell (blk_below HPL.out HB.out) 1
  have hpf := blk_frozen (blk_below HPL.out HB.out) 1
  have HT := Aside0.mk hT
  clear hT
  go_wp2_with fail
  go_ret3
  exact ⟨k, .inl ⟨rfl, HT.out.1, HT.out.2⟩⟩
set_option maxHeartbeats 3200000 in
set_option maxRecDepth 100000 in
theorem look_3 (KK : Nat) (nm : ByteArray → Bool) (hK : RdFacts KK nm) (w0 : World) (n : Nat) (f : Nat → Ent) (i : Nat) (hi : i < n) (W : World) (h : RSt w0 n f W) (he : (f i).ar = (f i).ap) (who op N : Int) (hp : provisolaw01_pick.f op 9 = some 3) :
    Calls Try.prog 38 #[.pointer (some ⟨(f i).g, 0, none⟩), .pointer (some ⟨(f i).p, 0, none⟩), .agg #[.int .i64 who, .int .i64 op, .int .i64 N]] W fun e w' => LkPost w0 n f i W e w' := by
  have HI := Aside0.mk hi
  have HK := Aside0.mk hK
  have HE := Aside0.mk he
  have hle := (h.all i hi).rd.le
  have HBY := Aside0.mk (h.all i hi).by_
  have HLIM := Aside0.mk (h.all i hi).lim
  have HLE := Aside0.mk hle
  have HP := Aside0.mk hp
  have H0 := Aside0.mk h
  clear hK hi hp he hle
  go_enter Try.func38, Try.ntmps38
  go_wp2_with ((with_reducible refine gate_dst (N := 5) rfl ?_); refine rw_box rfl 68 rfl (cs := #[.int .i64 who, .int .i64 op, .int .i64 N]) rfl (Rws.nil W) ?_; intro b2 w1 hX; have HX := Aside0.mk (hX.mem List.mem_cons_self); have HG := Aside0.mk (hX.lies _ List.mem_cons_self).2; have H := Aside0.mk (h.step hX.below); have HB1 := Aside0.mk hX.below; clear hX h)
  obtain ⟨A, c, hpl, hbs⟩ := H.out.plc HI.out HE.out
  have HSS := Aside0.mk (show ∀ W' : World, Below w1.heap.size w1 W' → W'.cell? ⟨(f i).p, 0, none⟩ = some (.slice A (f i).bs.length c) ∧ W'.cell? ⟨(f i).p, 1, none⟩ = some (.int .i64 ((f i).ar : Int)) ∧ W'.cell? ⟨b2, 2, none⟩ = some (.int .i64 N) from fun W' hW => ⟨blk_cell (blk_below hpl hW) 0, blk_cell (blk_below hpl hW) 1, blk_cell (blk_below HX.out hW) 2⟩)
  have HPL := Aside0.mk hpl
  have HBS := Aside0.mk hbs
  have HB := Aside0.mk (Below.refl w1.heap.size w1)
  clear hpl hbs
  (try simp only [Act.put, List.setIfInBounds_toArray, List.set_cons_zero, List.set_cons_succ])
  refine wp_region_held_drew (S := fun w' => w'.cell? ⟨(f i).p, 0, none⟩ = some (.slice A (f i).bs.length c) ∧ w'.cell? ⟨(f i).p, 1, none⟩ = some (.int .i64 ((f i).ar : Int)) ∧ w'.cell? ⟨b2, 2, none⟩ = some (.int .i64 N)) (by kernel_rfl) ?_ (fun hHeld => ?_)
  · exact HSS.out _ (pw_below_drewN HB.out 1)
  replace HB := Aside0.mk (show Below w1.heap.size w1 w1.drew from pw_below_drewN HB.out 1)
  generalize w1.drew = wd at HB hHeld ⊢
  refine take_dst (i := 0) (v := ?_) 30 rfl rfl (by kernel_rfl) (by kernel_rfl) (by kernel_rfl) (fun _ _ _ h => h) (Or.inl ⟨by rfl, ?_⟩) (by assumption) ?_
  rotate_left
  · intro w hSw
    obtain ⟨q1, q2, q3⟩ := hSw
    go_simp
    try with_reducible rfl
  (try simp only [Act.put, List.setIfInBounds_toArray, List.set_cons_zero, List.set_cons_succ])
  refine take_dst (i := 1) (v := ?_) 31 rfl rfl (by kernel_rfl) (by kernel_rfl) (by kernel_rfl) (fun _ _ _ h => h) (Or.inl ⟨by rfl, ?_⟩) (by assumption) ?_
  rotate_left
  · intro w hSw
    obtain ⟨q1, q2, q3⟩ := hSw
    go_simp
    try with_reducible rfl
  (try simp only [Act.put, List.setIfInBounds_toArray, List.set_cons_zero, List.set_cons_succ])
  refine take_dst (i := 2) (v := ?_) 32 rfl rfl (by kernel_rfl) (by kernel_rfl) (by kernel_rfl) (fun _ _ _ h => h) (Or.inl ⟨by rfl, ?_⟩) (by assumption) ?_
  rotate_left
  · intro w hSw
    obtain ⟨q1, q2, q3⟩ := hSw
    go_simp
    try with_reducible rfl
  (try simp only [Act.put, List.setIfInBounds_toArray, List.set_cons_zero, List.set_cons_succ])
  refine take_dst (i := 3) (v := ?_) 33 rfl rfl (by kernel_rfl) (by kernel_rfl) (by kernel_rfl) (fun _ _ _ h => h) (Or.inl ⟨by rfl, ?_⟩) (by assumption) ?_
  rotate_left
  · intro w hSw
    obtain ⟨q1, q2, q3⟩ := hSw
    go_simp
    try with_reducible rfl
  (try simp only [Act.put, List.setIfInBounds_toArray, List.set_cons_zero, List.set_cons_succ])
  refine take_dst (i := 4) (v := ?_) 9 rfl rfl (by kernel_rfl) (by kernel_rfl) (by kernel_rfl) (fun _ _ _ h => h) (Or.inl ⟨by rfl, ?_⟩) (by assumption) ?_
  rotate_left
  · intro w hSw
    obtain ⟨q1, q2, q3⟩ := hSw
    go_simp
    try with_reducible rfl
  (try simp only [Act.put, List.setIfInBounds_toArray, List.set_cons_zero, List.set_cons_succ])
  refine take_dst (i := 5) (v := ?_) 10 rfl rfl (by kernel_rfl) (by kernel_rfl) (by kernel_rfl) (fun _ _ _ h => h) (Or.inl ⟨by rfl, ?_⟩) (by assumption) ?_
  rotate_left
  · intro w hSw
    obtain ⟨q1, q2, q3⟩ := hSw
    go_simp
    try with_reducible rfl
  (try simp only [Act.put, List.setIfInBounds_toArray, List.set_cons_zero, List.set_cons_succ])
  refine take_dst (i := 6) (v := ?_) 11 rfl rfl (by kernel_rfl) (by kernel_rfl) (by kernel_rfl) (fun _ _ _ h => h) (Or.inl ⟨by rfl, ?_⟩) (by assumption) ?_
  rotate_left
  · intro w hSw
    obtain ⟨q1, q2, q3⟩ := hSw
    go_simp
    try with_reducible rfl
  (try simp only [Act.put, List.setIfInBounds_toArray, List.set_cons_zero, List.set_cons_succ])
  refine wpAnyH_done (by kernel_rfl) ?_ _
  clear HSS HBS HPL hHeld
  have HX1 := Aside0.mk (blk_below HX.out HB.out)
  have H1 := Aside0.mk (H.out.step HB.out)
  have HB2 := Aside0.mk (below_step HB1.out HB.out)
  clear HX H HB HB1
  have hc1 := blk_cell HX1.out 1
  have hc2 := blk_cell HX1.out 2
  go_wp2_with fail
  refine (provisolaw01_pick.calls op 9 3 _ HP.out).mono ?_
  rintro e w3 ⟨rfl, m3, rfl⟩
  have HX := Aside0.mk (show (wd.drewN m3).heap[b2]? = _ from HX1.out)
  have H := Aside0.mk (H1.out.step (pw_below_drewN (Below.refl _ _) m3))
  have HBA := Aside0.mk (pw_below_drewN HB2.out m3)
  clear HX1 H1 HB2 hc1 hc2
  generalize wd.drewN m3 = w4 at HX H HBA ⊢
  go_wp2_with fail
  refine (Word_s w0 n f i HI.out w4 H.out).mono ?_
  rintro e w5 ⟨rfl, hp⟩
  obtain ⟨q, hq⟩ : ∃ q, q = numR 2 (f i).bs (f i).ar := ⟨_, rfl⟩
  rw [← hq] at hp ⊢
  have HQ := Aside0.mk hq
  clear hq
  obtain ⟨v, k, er⟩ := q
  have HP5 := Aside0.mk hp
  have HX4 := HX
  replace HX := Aside0.mk ((hp.2.2 b2 (blk_lt HX4.out) (fun q => by obtain ⟨cs, hg⟩ := (H.out.all i HI.out).blocks.1; exact typ_ne HX4.out hg (by decide) q)).trans HX4.out)
  clear hp HX4
  go_wp2_with fail
  obtain ⟨A, c, hpl, hbs⟩ := HP5.out.plc HI.out HE.out
  have HSS := Aside0.mk (show ∀ W' : World, Below w5.heap.size w5 W' → W'.cell? ⟨(f i).p, 0, none⟩ = some (.slice A (f i).bs.length c) ∧ W'.cell? ⟨(f i).p, 1, none⟩ = some (.int .i64 ((f i).ar : Int)) ∧ W'.cell? ⟨b2, 2, none⟩ = some (.int .i64 N) from fun W' hW => ⟨blk_cell (blk_below hpl hW) 0, blk_cell (blk_below hpl hW) 1, blk_cell (blk_below HX.out hW) 2⟩)
  have HPL := Aside0.mk hpl
  have HBS := Aside0.mk hbs
  have HB := Aside0.mk (Below.refl w5.heap.size w5)
  clear hpl hbs
  (try simp only [Act.put, List.setIfInBounds_toArray, List.set_cons_zero, List.set_cons_succ])
  refine wp_region_held_drew (S := fun w' => w'.cell? ⟨(f i).p, 0, none⟩ = some (.slice A (f i).bs.length c) ∧ w'.cell? ⟨(f i).p, 1, none⟩ = some (.int .i64 ((f i).ar : Int)) ∧ w'.cell? ⟨b2, 2, none⟩ = some (.int .i64 N)) (by kernel_rfl) ?_ (fun hHeld => ?_)
  · exact HSS.out _ (pw_below_drewN HB.out 1)
  replace HB := Aside0.mk (show Below w5.heap.size w5 w5.drew from pw_below_drewN HB.out 1)
  generalize w5.drew = wd at HB hHeld ⊢
  refine take_dst (i := 0) (v := ?_) 103 rfl rfl (by kernel_rfl) (by kernel_rfl) (by kernel_rfl) (fun _ _ _ h => h) (Or.inl ⟨by rfl, ?_⟩) (by assumption) ?_
  rotate_left
  · intro w hSw
    obtain ⟨q1, q2, q3⟩ := hSw
    go_simp
    try with_reducible rfl
  (try simp only [Act.put, List.setIfInBounds_toArray, List.set_cons_zero, List.set_cons_succ])
  refine take_dst (i := 1) (v := ?_) 104 rfl rfl (by kernel_rfl) (by kernel_rfl) (by kernel_rfl) (fun _ _ _ h => h) (Or.inl ⟨by rfl, ?_⟩) (by assumption) ?_
  rotate_left
  · intro w hSw
    obtain ⟨q1, q2, q3⟩ := hSw
    go_simp
    try with_reducible rfl
  (try simp only [Act.put, List.setIfInBounds_toArray, List.set_cons_zero, List.set_cons_succ])
  refine take_dst (i := 2) (v := ?_) 105 rfl rfl (by kernel_rfl) (by kernel_rfl) (by kernel_rfl) (fun _ _ _ h => h) (Or.inl ⟨by rfl, ?_⟩) (by assumption) ?_
  rotate_left
  · intro w hSw
    obtain ⟨q1, q2, q3⟩ := hSw
    go_simp
    try with_reducible rfl
  (try simp only [Act.put, List.setIfInBounds_toArray, List.set_cons_zero, List.set_cons_succ])
  refine take_dst (i := 3) (v := ?_) 106 rfl rfl (by kernel_rfl) (by kernel_rfl) (by kernel_rfl) (fun _ _ _ h => h) (Or.inl ⟨by rfl, ?_⟩) (by assumption) ?_
  rotate_left
  · intro w hSw
    obtain ⟨q1, q2, q3⟩ := hSw
    go_simp
    try with_reducible rfl
  (try simp only [Act.put, List.setIfInBounds_toArray, List.set_cons_zero, List.set_cons_succ])
  refine take_dst (i := 4) (v := ?_) 107 rfl rfl (by kernel_rfl) (by kernel_rfl) (by kernel_rfl) (fun _ _ _ h => h) (Or.inl ⟨by rfl, ?_⟩) (by assumption) ?_
  rotate_left
  · intro w hSw
    obtain ⟨q1, q2, q3⟩ := hSw
    go_simp
    try with_reducible rfl
  (try simp only [Act.put, List.setIfInBounds_toArray, List.set_cons_zero, List.set_cons_succ])
  refine take_dst (i := 5) (v := ?_) 108 rfl rfl (by kernel_rfl) (by kernel_rfl) (by kernel_rfl) (fun _ _ _ h => h) (Or.inl ⟨by rfl, ?_⟩) (by assumption) ?_
  rotate_left
  · intro w hSw
    obtain ⟨q1, q2, q3⟩ := hSw
    go_simp
    try with_reducible rfl
  (try simp only [Act.put, List.setIfInBounds_toArray, List.set_cons_zero, List.set_cons_succ])
  refine take_dst (i := 6) (v := ?_) 109 rfl rfl (by kernel_rfl) (by kernel_rfl) (by kernel_rfl) (fun _ _ _ h => h) (Or.inl ⟨by rfl, ?_⟩) (by assumption) ?_
  rotate_left
  · intro w hSw
    obtain ⟨q1, q2, q3⟩ := hSw
    go_simp
    try with_reducible rfl
  (try simp only [Act.put, List.setIfInBounds_toArray, List.set_cons_zero, List.set_cons_succ])
  refine take_dst (i := 7) (v := ?_) 110 rfl rfl (by kernel_rfl) (by kernel_rfl) (by kernel_rfl) (fun _ _ _ h => h) (Or.inl ⟨by rfl, ?_⟩) (by assumption) ?_
  rotate_left
  · intro w hSw
    obtain ⟨q1, q2, q3⟩ := hSw
    go_simp
    try with_reducible rfl
  (try simp only [Act.put, List.setIfInBounds_toArray, List.set_cons_zero, List.set_cons_succ])
  refine wpAnyH_ready (rs := [8]) (by kernel_rfl) (by simp) ?_
  refine AllReadyH.cons rfl (fun K hK => ?_) AllReadyH.nil
  go_simp
  refine (provisoref01_Number.calls KK A c (f i).bs ((f i).ar : Int) 2 _ _ _ _ ((HBS.out.step HB.out).reads (below_step HP5.out.1.below HB.out)) HBS.out.1 (HK.out.num 2 (f i).bs (f i).ar (by decide) HBY.out HLIM.out HLE.out)).mono ?_
  rintro e w6 ⟨rfl, m6, rfl⟩
  replace HB := Aside0.mk (pw_below_drewN HB.out m6)
  rw [← HQ.out]
  go_simp
  refine hK.out _ _ (HSS.out _ HB.out) (fun hHeld => ?_)
  (try simp only [Act.put, List.setIfInBounds_toArray, List.set_cons_zero, List.set_cons_succ])
  clear hK K
  refine take_dst (i := 9) (v := ?_) 102 rfl rfl (by kernel_rfl) (by kernel_rfl) (by kernel_rfl) (fun _ _ _ h => h) (Or.inl ⟨by rfl, ?_⟩) (by assumption) ?_
  rotate_left
  · intro w hSw
    obtain ⟨q1, q2, q3⟩ := hSw
    go_simp
    try with_reducible rfl
  (try simp only [Act.put, List.setIfInBounds_toArray, List.set_cons_zero, List.set_cons_succ])
  refine take_dst (i := 10) (v := ?_) 112 rfl rfl (by kernel_rfl) (by kernel_rfl) (by kernel_rfl) (fun _ _ _ h => h) (Or.inl ⟨by rfl, ?_⟩) (by assumption) ?_
  rotate_left
  · intro w hSw
    obtain ⟨q1, q2, q3⟩ := hSw
    go_simp
    try with_reducible rfl
  (try simp only [Act.put, List.setIfInBounds_toArray, List.set_cons_zero, List.set_cons_succ])
  refine take_dst (i := 11) (v := ?_) 113 rfl rfl (by kernel_rfl) (by kernel_rfl) (by kernel_rfl) (fun _ _ _ h => h) (Or.inl ⟨by rfl, ?_⟩) (by assumption) ?_
  rotate_left
  · intro w hSw
    obtain ⟨q1, q2, q3⟩ := hSw
    go_simp
    try with_reducible rfl
  (try simp only [Act.put, List.setIfInBounds_toArray, List.set_cons_zero, List.set_cons_succ])
  refine take_dst (i := 12) (v := ?_) 114 rfl rfl (by kernel_rfl) (by kernel_rfl) (by kernel_rfl) (fun _ _ _ h => h) (Or.inl ⟨by rfl, ?_⟩) (by assumption) ?_
  rotate_left
  · intro w hSw
    obtain ⟨q1, q2, q3⟩ := hSw
    go_simp
    try with_reducible rfl
  (try simp only [Act.put, List.setIfInBounds_toArray, List.set_cons_zero, List.set_cons_succ])
  refine take_dst (i := 13) (v := ?_) 9 rfl rfl (by kernel_rfl) (by kernel_rfl) (by kernel_rfl) (fun _ _ _ h => h) (Or.inl ⟨by rfl, ?_⟩) (by assumption) ?_
  rotate_left
  · intro w hSw
    obtain ⟨q1, q2, q3⟩ := hSw
    go_simp
    try with_reducible rfl
  (try simp only [Act.put, List.setIfInBounds_toArray, List.set_cons_zero, List.set_cons_succ])
  refine take_dst (i := 14) (v := ?_) 10 rfl rfl (by kernel_rfl) (by kernel_rfl) (by kernel_rfl) (fun _ _ _ h => h) (Or.inl ⟨by rfl, ?_⟩) (by assumption) ?_
  rotate_left
  · intro w hSw
    obtain ⟨q1, q2, q3⟩ := hSw
    go_simp
    try with_reducible rfl
  (try simp only [Act.put, List.setIfInBounds_toArray, List.set_cons_zero, List.set_cons_succ])
  refine take_dst (i := 15) (v := ?_) 11 rfl rfl (by kernel_rfl) (by kernel_rfl) (by kernel_rfl) (fun _ _ _ h => h) (Or.inl ⟨by rfl, ?_⟩) (by assumption) ?_
  rotate_left
  · intro w hSw
    obtain ⟨q1, q2, q3⟩ := hSw
    go_simp
    try with_reducible rfl
  (try simp only [Act.put, List.setIfInBounds_toArray, List.set_cons_zero, List.set_cons_succ])
  refine wpAnyH_done (by kernel_rfl) ?_ _
  have hT := LkPost.turned HI.out HBA.out HP5.out HB.out
  have hpc := blk_cell (blk_below HPL.out HB.out) 1
  have hpf := blk_frozen (blk_below HPL.out HB.out) 1
  have HT := Aside0.mk hT
  clear hT
  go_wp2_with fail
  go_ret3
  exact ⟨k, .inl ⟨rfl, HT.out.1, HT.out.2⟩⟩
set_option maxHeartbeats 3200000 in
set_option maxRecDepth 100000 in
theorem look_4 (KK : Nat) (nm : ByteArray → Bool) (hK : RdFacts KK nm) (w0 : World) (n : Nat) (f : Nat → Ent) (i : Nat) (hi : i < n) (W : World) (h : RSt w0 n f W) (he : (f i).ar = (f i).ap) (who op N : Int) (hp : provisolaw01_pick.f op 9 = some 4) :
    Calls Try.prog 38 #[.pointer (some ⟨(f i).g, 0, none⟩), .pointer (some ⟨(f i).p, 0, none⟩), .agg #[.int .i64 who, .int .i64 op, .int .i64 N]] W fun e w' => LkPost w0 n f i W e w' := by
  have HI := Aside0.mk hi
  have HK := Aside0.mk hK
  have HE := Aside0.mk he
  have hle := (h.all i hi).rd.le
  have HBY := Aside0.mk (h.all i hi).by_
  have HLIM := Aside0.mk (h.all i hi).lim
  have HLE := Aside0.mk hle
  have HP := Aside0.mk hp
  have H0 := Aside0.mk h
  clear hK hi hp he hle
  go_enter Try.func38, Try.ntmps38
  go_wp2_with ((with_reducible refine gate_dst (N := 5) rfl ?_); refine rw_box rfl 68 rfl (cs := #[.int .i64 who, .int .i64 op, .int .i64 N]) rfl (Rws.nil W) ?_; intro b2 w1 hX; have HX := Aside0.mk (hX.mem List.mem_cons_self); have HG := Aside0.mk (hX.lies _ List.mem_cons_self).2; have H := Aside0.mk (h.step hX.below); have HB1 := Aside0.mk hX.below; clear hX h)
  obtain ⟨A, c, hpl, hbs⟩ := H.out.plc HI.out HE.out
  have HSS := Aside0.mk (show ∀ W' : World, Below w1.heap.size w1 W' → W'.cell? ⟨(f i).p, 0, none⟩ = some (.slice A (f i).bs.length c) ∧ W'.cell? ⟨(f i).p, 1, none⟩ = some (.int .i64 ((f i).ar : Int)) ∧ W'.cell? ⟨b2, 2, none⟩ = some (.int .i64 N) from fun W' hW => ⟨blk_cell (blk_below hpl hW) 0, blk_cell (blk_below hpl hW) 1, blk_cell (blk_below HX.out hW) 2⟩)
  have HPL := Aside0.mk hpl
  have HBS := Aside0.mk hbs
  have HB := Aside0.mk (Below.refl w1.heap.size w1)
  clear hpl hbs
  (try simp only [Act.put, List.setIfInBounds_toArray, List.set_cons_zero, List.set_cons_succ])
  refine wp_region_held_drew (S := fun w' => w'.cell? ⟨(f i).p, 0, none⟩ = some (.slice A (f i).bs.length c) ∧ w'.cell? ⟨(f i).p, 1, none⟩ = some (.int .i64 ((f i).ar : Int)) ∧ w'.cell? ⟨b2, 2, none⟩ = some (.int .i64 N)) (by kernel_rfl) ?_ (fun hHeld => ?_)
  · exact HSS.out _ (pw_below_drewN HB.out 1)
  replace HB := Aside0.mk (show Below w1.heap.size w1 w1.drew from pw_below_drewN HB.out 1)
  generalize w1.drew = wd at HB hHeld ⊢
  refine take_dst (i := 0) (v := ?_) 30 rfl rfl (by kernel_rfl) (by kernel_rfl) (by kernel_rfl) (fun _ _ _ h => h) (Or.inl ⟨by rfl, ?_⟩) (by assumption) ?_
  rotate_left
  · intro w hSw
    obtain ⟨q1, q2, q3⟩ := hSw
    go_simp
    try with_reducible rfl
  (try simp only [Act.put, List.setIfInBounds_toArray, List.set_cons_zero, List.set_cons_succ])
  refine take_dst (i := 1) (v := ?_) 31 rfl rfl (by kernel_rfl) (by kernel_rfl) (by kernel_rfl) (fun _ _ _ h => h) (Or.inl ⟨by rfl, ?_⟩) (by assumption) ?_
  rotate_left
  · intro w hSw
    obtain ⟨q1, q2, q3⟩ := hSw
    go_simp
    try with_reducible rfl
  (try simp only [Act.put, List.setIfInBounds_toArray, List.set_cons_zero, List.set_cons_succ])
  refine take_dst (i := 2) (v := ?_) 32 rfl rfl (by kernel_rfl) (by kernel_rfl) (by kernel_rfl) (fun _ _ _ h => h) (Or.inl ⟨by rfl, ?_⟩) (by assumption) ?_
  rotate_left
  · intro w hSw
    obtain ⟨q1, q2, q3⟩ := hSw
    go_simp
    try with_reducible rfl
  (try simp only [Act.put, List.setIfInBounds_toArray, List.set_cons_zero, List.set_cons_succ])
  refine take_dst (i := 3) (v := ?_) 33 rfl rfl (by kernel_rfl) (by kernel_rfl) (by kernel_rfl) (fun _ _ _ h => h) (Or.inl ⟨by rfl, ?_⟩) (by assumption) ?_
  rotate_left
  · intro w hSw
    obtain ⟨q1, q2, q3⟩ := hSw
    go_simp
    try with_reducible rfl
  (try simp only [Act.put, List.setIfInBounds_toArray, List.set_cons_zero, List.set_cons_succ])
  refine take_dst (i := 4) (v := ?_) 9 rfl rfl (by kernel_rfl) (by kernel_rfl) (by kernel_rfl) (fun _ _ _ h => h) (Or.inl ⟨by rfl, ?_⟩) (by assumption) ?_
  rotate_left
  · intro w hSw
    obtain ⟨q1, q2, q3⟩ := hSw
    go_simp
    try with_reducible rfl
  (try simp only [Act.put, List.setIfInBounds_toArray, List.set_cons_zero, List.set_cons_succ])
  refine take_dst (i := 5) (v := ?_) 10 rfl rfl (by kernel_rfl) (by kernel_rfl) (by kernel_rfl) (fun _ _ _ h => h) (Or.inl ⟨by rfl, ?_⟩) (by assumption) ?_
  rotate_left
  · intro w hSw
    obtain ⟨q1, q2, q3⟩ := hSw
    go_simp
    try with_reducible rfl
  (try simp only [Act.put, List.setIfInBounds_toArray, List.set_cons_zero, List.set_cons_succ])
  refine take_dst (i := 6) (v := ?_) 11 rfl rfl (by kernel_rfl) (by kernel_rfl) (by kernel_rfl) (fun _ _ _ h => h) (Or.inl ⟨by rfl, ?_⟩) (by assumption) ?_
  rotate_left
  · intro w hSw
    obtain ⟨q1, q2, q3⟩ := hSw
    go_simp
    try with_reducible rfl
  (try simp only [Act.put, List.setIfInBounds_toArray, List.set_cons_zero, List.set_cons_succ])
  refine wpAnyH_done (by kernel_rfl) ?_ _
  clear HSS HBS HPL hHeld
  have HX1 := Aside0.mk (blk_below HX.out HB.out)
  have H1 := Aside0.mk (H.out.step HB.out)
  have HB2 := Aside0.mk (below_step HB1.out HB.out)
  clear HX H HB HB1
  have hc1 := blk_cell HX1.out 1
  have hc2 := blk_cell HX1.out 2
  go_wp2_with fail
  refine (provisolaw01_pick.calls op 9 4 _ HP.out).mono ?_
  rintro e w3 ⟨rfl, m3, rfl⟩
  have HX := Aside0.mk (show (wd.drewN m3).heap[b2]? = _ from HX1.out)
  have H := Aside0.mk (H1.out.step (pw_below_drewN (Below.refl _ _) m3))
  have HBA := Aside0.mk (pw_below_drewN HB2.out m3)
  clear HX1 H1 HB2 hc1 hc2
  generalize wd.drewN m3 = w4 at HX H HBA ⊢
  go_wp2_with fail
  refine (Long_s w0 n f i HI.out w4 H.out).mono ?_
  rintro e w5 ⟨rfl, hp⟩
  obtain ⟨q, hq⟩ : ∃ q, q = numR 4 (f i).bs (f i).ar := ⟨_, rfl⟩
  rw [← hq] at hp ⊢
  have HQ := Aside0.mk hq
  clear hq
  obtain ⟨v, k, er⟩ := q
  have HP5 := Aside0.mk hp
  have HX4 := HX
  replace HX := Aside0.mk ((hp.2.2 b2 (blk_lt HX4.out) (fun q => by obtain ⟨cs, hg⟩ := (H.out.all i HI.out).blocks.1; exact typ_ne HX4.out hg (by decide) q)).trans HX4.out)
  clear hp HX4
  go_wp2_with fail
  obtain ⟨A, c, hpl, hbs⟩ := HP5.out.plc HI.out HE.out
  have HSS := Aside0.mk (show ∀ W' : World, Below w5.heap.size w5 W' → W'.cell? ⟨(f i).p, 0, none⟩ = some (.slice A (f i).bs.length c) ∧ W'.cell? ⟨(f i).p, 1, none⟩ = some (.int .i64 ((f i).ar : Int)) ∧ W'.cell? ⟨b2, 2, none⟩ = some (.int .i64 N) from fun W' hW => ⟨blk_cell (blk_below hpl hW) 0, blk_cell (blk_below hpl hW) 1, blk_cell (blk_below HX.out hW) 2⟩)
  have HPL := Aside0.mk hpl
  have HBS := Aside0.mk hbs
  have HB := Aside0.mk (Below.refl w5.heap.size w5)
  clear hpl hbs
  (try simp only [Act.put, List.setIfInBounds_toArray, List.set_cons_zero, List.set_cons_succ])
  refine wp_region_held_drew (S := fun w' => w'.cell? ⟨(f i).p, 0, none⟩ = some (.slice A (f i).bs.length c) ∧ w'.cell? ⟨(f i).p, 1, none⟩ = some (.int .i64 ((f i).ar : Int)) ∧ w'.cell? ⟨b2, 2, none⟩ = some (.int .i64 N)) (by kernel_rfl) ?_ (fun hHeld => ?_)
  · exact HSS.out _ (pw_below_drewN HB.out 1)
  replace HB := Aside0.mk (show Below w5.heap.size w5 w5.drew from pw_below_drewN HB.out 1)
  generalize w5.drew = wd at HB hHeld ⊢
  refine take_dst (i := 0) (v := ?_) 123 rfl rfl (by kernel_rfl) (by kernel_rfl) (by kernel_rfl) (fun _ _ _ h => h) (Or.inl ⟨by rfl, ?_⟩) (by assumption) ?_
  rotate_left
  · intro w hSw
    obtain ⟨q1, q2, q3⟩ := hSw
    go_simp
    try with_reducible rfl
  (try simp only [Act.put, List.setIfInBounds_toArray, List.set_cons_zero, List.set_cons_succ])
  refine take_dst (i := 1) (v := ?_) 124 rfl rfl (by kernel_rfl) (by kernel_rfl) (by kernel_rfl) (fun _ _ _ h => h) (Or.inl ⟨by rfl, ?_⟩) (by assumption) ?_
  rotate_left
  · intro w hSw
    obtain ⟨q1, q2, q3⟩ := hSw
    go_simp
    try with_reducible rfl
  (try simp only [Act.put, List.setIfInBounds_toArray, List.set_cons_zero, List.set_cons_succ])
  refine take_dst (i := 2) (v := ?_) 125 rfl rfl (by kernel_rfl) (by kernel_rfl) (by kernel_rfl) (fun _ _ _ h => h) (Or.inl ⟨by rfl, ?_⟩) (by assumption) ?_
  rotate_left
  · intro w hSw
    obtain ⟨q1, q2, q3⟩ := hSw
    go_simp
    try with_reducible rfl
  (try simp only [Act.put, List.setIfInBounds_toArray, List.set_cons_zero, List.set_cons_succ])
  refine take_dst (i := 3) (v := ?_) 126 rfl rfl (by kernel_rfl) (by kernel_rfl) (by kernel_rfl) (fun _ _ _ h => h) (Or.inl ⟨by rfl, ?_⟩) (by assumption) ?_
  rotate_left
  · intro w hSw
    obtain ⟨q1, q2, q3⟩ := hSw
    go_simp
    try with_reducible rfl
  (try simp only [Act.put, List.setIfInBounds_toArray, List.set_cons_zero, List.set_cons_succ])
  refine take_dst (i := 4) (v := ?_) 127 rfl rfl (by kernel_rfl) (by kernel_rfl) (by kernel_rfl) (fun _ _ _ h => h) (Or.inl ⟨by rfl, ?_⟩) (by assumption) ?_
  rotate_left
  · intro w hSw
    obtain ⟨q1, q2, q3⟩ := hSw
    go_simp
    try with_reducible rfl
  (try simp only [Act.put, List.setIfInBounds_toArray, List.set_cons_zero, List.set_cons_succ])
  refine take_dst (i := 5) (v := ?_) 128 rfl rfl (by kernel_rfl) (by kernel_rfl) (by kernel_rfl) (fun _ _ _ h => h) (Or.inl ⟨by rfl, ?_⟩) (by assumption) ?_
  rotate_left
  · intro w hSw
    obtain ⟨q1, q2, q3⟩ := hSw
    go_simp
    try with_reducible rfl
  (try simp only [Act.put, List.setIfInBounds_toArray, List.set_cons_zero, List.set_cons_succ])
  refine take_dst (i := 6) (v := ?_) 129 rfl rfl (by kernel_rfl) (by kernel_rfl) (by kernel_rfl) (fun _ _ _ h => h) (Or.inl ⟨by rfl, ?_⟩) (by assumption) ?_
  rotate_left
  · intro w hSw
    obtain ⟨q1, q2, q3⟩ := hSw
    go_simp
    try with_reducible rfl
  (try simp only [Act.put, List.setIfInBounds_toArray, List.set_cons_zero, List.set_cons_succ])
  refine take_dst (i := 7) (v := ?_) 130 rfl rfl (by kernel_rfl) (by kernel_rfl) (by kernel_rfl) (fun _ _ _ h => h) (Or.inl ⟨by rfl, ?_⟩) (by assumption) ?_
  rotate_left
  · intro w hSw
    obtain ⟨q1, q2, q3⟩ := hSw
    go_simp
    try with_reducible rfl
  (try simp only [Act.put, List.setIfInBounds_toArray, List.set_cons_zero, List.set_cons_succ])
  refine wpAnyH_ready (rs := [8]) (by kernel_rfl) (by simp) ?_
  refine AllReadyH.cons rfl (fun K hK => ?_) AllReadyH.nil
  go_simp
  refine (provisoref01_Number.calls KK A c (f i).bs ((f i).ar : Int) 4 _ _ _ _ ((HBS.out.step HB.out).reads (below_step HP5.out.1.below HB.out)) HBS.out.1 (HK.out.num 4 (f i).bs (f i).ar (by decide) HBY.out HLIM.out HLE.out)).mono ?_
  rintro e w6 ⟨rfl, m6, rfl⟩
  replace HB := Aside0.mk (pw_below_drewN HB.out m6)
  rw [← HQ.out]
  go_simp
  refine hK.out _ _ (HSS.out _ HB.out) (fun hHeld => ?_)
  (try simp only [Act.put, List.setIfInBounds_toArray, List.set_cons_zero, List.set_cons_succ])
  clear hK K
  refine take_dst (i := 9) (v := ?_) 122 rfl rfl (by kernel_rfl) (by kernel_rfl) (by kernel_rfl) (fun _ _ _ h => h) (Or.inl ⟨by rfl, ?_⟩) (by assumption) ?_
  rotate_left
  · intro w hSw
    obtain ⟨q1, q2, q3⟩ := hSw
    go_simp
    try with_reducible rfl
  (try simp only [Act.put, List.setIfInBounds_toArray, List.set_cons_zero, List.set_cons_succ])
  refine take_dst (i := 10) (v := ?_) 132 rfl rfl (by kernel_rfl) (by kernel_rfl) (by kernel_rfl) (fun _ _ _ h => h) (Or.inl ⟨by rfl, ?_⟩) (by assumption) ?_
  rotate_left
  · intro w hSw
    obtain ⟨q1, q2, q3⟩ := hSw
    go_simp
    try with_reducible rfl
  (try simp only [Act.put, List.setIfInBounds_toArray, List.set_cons_zero, List.set_cons_succ])
  refine take_dst (i := 11) (v := ?_) 133 rfl rfl (by kernel_rfl) (by kernel_rfl) (by kernel_rfl) (fun _ _ _ h => h) (Or.inl ⟨by rfl, ?_⟩) (by assumption) ?_
  rotate_left
  · intro w hSw
    obtain ⟨q1, q2, q3⟩ := hSw
    go_simp
    try with_reducible rfl
  (try simp only [Act.put, List.setIfInBounds_toArray, List.set_cons_zero, List.set_cons_succ])
  refine take_dst (i := 12) (v := ?_) 134 rfl rfl (by kernel_rfl) (by kernel_rfl) (by kernel_rfl) (fun _ _ _ h => h) (Or.inl ⟨by rfl, ?_⟩) (by assumption) ?_
  rotate_left
  · intro w hSw
    obtain ⟨q1, q2, q3⟩ := hSw
    go_simp
    try with_reducible rfl
  (try simp only [Act.put, List.setIfInBounds_toArray, List.set_cons_zero, List.set_cons_succ])
  refine take_dst (i := 13) (v := ?_) 9 rfl rfl (by kernel_rfl) (by kernel_rfl) (by kernel_rfl) (fun _ _ _ h => h) (Or.inl ⟨by rfl, ?_⟩) (by assumption) ?_
  rotate_left
  · intro w hSw
    obtain ⟨q1, q2, q3⟩ := hSw
    go_simp
    try with_reducible rfl
  (try simp only [Act.put, List.setIfInBounds_toArray, List.set_cons_zero, List.set_cons_succ])
  refine take_dst (i := 14) (v := ?_) 10 rfl rfl (by kernel_rfl) (by kernel_rfl) (by kernel_rfl) (fun _ _ _ h => h) (Or.inl ⟨by rfl, ?_⟩) (by assumption) ?_
  rotate_left
  · intro w hSw
    obtain ⟨q1, q2, q3⟩ := hSw
    go_simp
    try with_reducible rfl
  (try simp only [Act.put, List.setIfInBounds_toArray, List.set_cons_zero, List.set_cons_succ])
  refine take_dst (i := 15) (v := ?_) 11 rfl rfl (by kernel_rfl) (by kernel_rfl) (by kernel_rfl) (fun _ _ _ h => h) (Or.inl ⟨by rfl, ?_⟩) (by assumption) ?_
  rotate_left
  · intro w hSw
    obtain ⟨q1, q2, q3⟩ := hSw
    go_simp
    try with_reducible rfl
  (try simp only [Act.put, List.setIfInBounds_toArray, List.set_cons_zero, List.set_cons_succ])
  refine wpAnyH_done (by kernel_rfl) ?_ _
  have hT := LkPost.turned HI.out HBA.out HP5.out HB.out
  have hpc := blk_cell (blk_below HPL.out HB.out) 1
  have hpf := blk_frozen (blk_below HPL.out HB.out) 1
  have HT := Aside0.mk hT
  clear hT
  go_wp2_with fail
  go_ret3
  exact ⟨k, .inl ⟨rfl, HT.out.1, HT.out.2⟩⟩
end Go.Proofs.Ytklbkonehcjmjaa.P

end


