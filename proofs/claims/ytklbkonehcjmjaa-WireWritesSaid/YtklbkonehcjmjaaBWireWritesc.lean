/- Proved: the law WireWrites holds for every input that the row lets in. No condition of ours. -/
import Derived.Test.YtklbkonehcjmjaaBWireWritesb
import Derived.Test.YtklbkonehcjmjaaProg
import Derived.WalkSpells
import Derived.ChangeKeysEq
import Derived.Deep.MidRow
section
namespace Go.Proofs.Ytklbkonehcjmjaa.P
open Go.RowKit Go.Proofs.YtklbkonehcjmjaaW.PrintWords Go.Proofs.YtklbkonehcjmjaaW.PrintLast Go.Proofs.YtklbkonehcjmjaaW.PrintMore
attribute [local go_sem] max2_int min2_int max_two min_two max_three min_three max_four min_four   -- for this text's walks alone
set_option linter.unusedVariables false
set_option linter.unusedSimpArgs false



def errW : Option Int → Value
  | none => .nilIface
  | some c => .iface 0 (.int .i64 c)
theorem errW_none : errW none = .nilIface := rfl
theorem errW_some (c : Int) : errW (some c) = .iface 0 (.int .i64 c) := rfl

theorem info5 : (Try.prog.info? 5).map (fun i => (i.zero, i.size, i.bytes)) = some (some (.int .u8 0), 1, 1) := by kernel_rfl
structure S44 where
  f0 : Int
  f1 : Int
  f2 : Int
  f3 : ByteArray
  f4 : (List Int)
def z44 : S44 := ⟨(0 : Int), (0 : Int), (0 : Int), (⟨#[]⟩ : ByteArray), ([] : List Int)⟩
def k44 : Kd S44 := Kd.iso (Kd.pair (Kd.int .i64) (Kd.pair (Kd.int .i64) (Kd.pair (Kd.int .i64) (Kd.pair Kd.string (Kd.slice 5 (Kd.int .u8)))))) (fun x : S44 => (x.f0, x.f1, x.f2, x.f3, x.f4))
theorem k44_open {w : World} {x : S44} {cs : List Value} (h : k44.K w x cs) : ∃ A4 c4, cs = [.int .i64 x.f0, .int .i64 x.f1, .int .i64 x.f2, .string x.f3, .slice A4 x.f4.length c4] ∧ x.f4.length ≤ c4 ∧ (Kd.int .u8).C w A4 x.f4.length x.f4 := by
  obtain ⟨_, _, rfl, rfl, ⟨_, _, rfl, rfl, ⟨_, _, rfl, rfl, ⟨_, _, rfl, rfl, ⟨A4, c4, rfl, l4, g4⟩⟩⟩⟩⟩ := h
  exact ⟨A4, c4, rfl, l4, g4⟩
def rd_T44 (xs : List S44) (i : Int) : S44 := xs.getD i.toNat z44
theorem at_T44 {w : World} {A : Option Addr} {n : Nat} {xs : List S44} (h : Kd.C k44 w A n xs) (i : Int) (h0 : 0 ≤ i) (h1 : i < n) : ∃ ad A4 c4, A = some ad ∧ w.cell? (ad.add (i.toNat * 5)) = some (.int .i64 (rd_T44 xs i).f0) ∧ w.cell? ⟨(ad.add (i.toNat * 5)).block, (ad.add (i.toNat * 5)).off + 1, none⟩ = some (.int .i64 (rd_T44 xs i).f1) ∧ w.cell? ⟨(ad.add (i.toNat * 5)).block, (ad.add (i.toNat * 5)).off + 2, none⟩ = some (.int .i64 (rd_T44 xs i).f2) ∧ w.cell? ⟨(ad.add (i.toNat * 5)).block, (ad.add (i.toNat * 5)).off + 3, none⟩ = some (.string (rd_T44 xs i).f3) ∧ w.cell? ⟨(ad.add (i.toNat * 5)).block, (ad.add (i.toNat * 5)).off + 4, none⟩ = some (.slice A4 (rd_T44 xs i).f4.length c4) ∧ (rd_T44 xs i).f4.length ≤ c4 ∧ (Kd.int .u8).C w A4 (rd_T44 xs i).f4.length (rd_T44 xs i).f4 := by
  obtain ⟨ad, c, e, _, hK, hc0⟩ := Kd.C_get h z44 i h0 h1
  have hc : ∀ j u, c[j]? = some u → w.cell? (ad.add (i.toNat * 5 + j)) = some u := hc0
  obtain ⟨A4, c4, rfl, l4, g4⟩ := k44_open hK
  exact ⟨ad, A4, c4, e, hc 0 _ rfl, by rw [← add_field _ _ 1 (by omega)]; exact hc 1 _ rfl, by rw [← add_field _ _ 2 (by omega)]; exact hc 2 _ rfl, by rw [← add_field _ _ 3 (by omega)]; exact hc 3 _ rfl, by rw [← add_field _ _ 4 (by omega)]; exact hc 4 _ rfl, l4, g4⟩

end Go.Proofs.Ytklbkonehcjmjaa.P

end

section
namespace Go.Proofs.Ytklbkonehcjmjaa.P
open Go.RowKit Go.Proofs.YtklbkonehcjmjaaW.PrintWords Go.Proofs.Ytklbkonehcjmjaa.Sees

def Ok44 (x : S44) : Prop := (fun n : Int => (Lit.int .i64 n).wf = true) x.f0 ∧ (fun n : Int => (Lit.int .i64 n).wf = true) x.f1 ∧ (fun n : Int => (Lit.int .i64 n).wf = true) x.f2 ∧ (fun s : ByteArray => s.size ≤ 140737488351232) x.f3 ∧ (fun l : List (Int) => l.length ≤ 9223372036854775807 ∧ l.length * 1 ≤ 140737488351232 ∧ ∀ x ∈ l, (fun n : Int => (Lit.int .u8 n).wf = true) x) x.f4
theorem sees44 : Sees Try.prog 44 k44 Ok44 := sees_struct (fun x : S44 => (x.f0, x.f1, x.f2, x.f3, x.f4)) (fun y => ⟨y.1, y.2.1, y.2.2.1, y.2.2.2.1, y.2.2.2.2⟩) (fun _ => rfl) Try.underlying44 (by kernel_rfl) (sees_more rfl (by kernel_rfl) (sees_int Try.underlying3) (sees_more rfl (by kernel_rfl) (sees_int Try.underlying3) (sees_more rfl (by kernel_rfl) (sees_int Try.underlying3) (sees_more rfl (by kernel_rfl) (sees_string Try.underlying9) (sees_last rfl (by kernel_rfl) (sees_slice (B := 1) Try.underlying23 (by kernel_rfl) (by kernel_rfl) (sees_int Try.underlying5)))))))
end Go.Proofs.Ytklbkonehcjmjaa.P

end

section
namespace Go.Proofs.Ytklbkonehcjmjaa.P
open Go.RowKit Go.Proofs.YtklbkonehcjmjaaW.PrintWords Go.Proofs.YtklbkonehcjmjaaW.PrintLast Go.Proofs.YtklbkonehcjmjaaW.PrintMore
attribute [local go_sem] max2_int min2_int max_two min_two max_three min_three max_four min_four   -- for this text's walks alone
set_option linter.unusedVariables false
set_option linter.unusedSimpArgs false

mutual
def wire_IsName.j0 : Nat → ByteArray → Bool → Option (Bool)
  | 0, _, _ => none
  | k + 1, x0, x12 => if x12 = true then (some false) else (wire_IsName.l0 k x0 (x0.size : Int) 0)
def wire_IsName.l0 : Nat → ByteArray → Int → Int → Option (Bool)
  | 0, _, _, _ => none
  | k + 1, x0, x14, x15 => if x15 < x14 then (if 0 ≤ x15 then (if x15 < (x0.size : Int) then (if (bt x0 x15) ≥ 97 then (wire_IsName.j2 k x0 x15 (bt x0 x15) x14 x15 (decide ((bt x0 x15) ≤ 122))) else (wire_IsName.j2 k x0 x15 (bt x0 x15) x14 x15 false)) else (none)) else (none)) else (some true)
def wire_IsName.j2 : Nat → ByteArray → Int → Int → Int → Int → Bool → Option (Bool)
  | 0, _, _, _, _, _, _ => none
  | k + 1, x0, x3, x4, x14, x15, x21 => if x21 = true then (wire_IsName.j3 k x0 x3 x4 x14 x15 x21) else (if x4 ≥ 65 then (wire_IsName.j3 k x0 x3 x4 x14 x15 (decide (x4 ≤ 90))) else (wire_IsName.j3 k x0 x3 x4 x14 x15 false))
def wire_IsName.j3 : Nat → ByteArray → Int → Int → Int → Int → Bool → Option (Bool)
  | 0, _, _, _, _, _, _ => none
  | k + 1, x0, x3, x4, x14, x15, x21 => if x21 = true then (wire_IsName.l0 k x0 x14 (wrap64 (x15 + 1))) else (if x3 > 0 then (if x4 ≥ 48 then (if x4 ≤ 57 then (wire_IsName.l0 k x0 x14 (wrap64 (x15 + 1))) else (if x4 = 95 then (wire_IsName.l0 k x0 x14 (wrap64 (x15 + 1))) else (some false))) else (if x4 = 95 then (wire_IsName.l0 k x0 x14 (wrap64 (x15 + 1))) else (some false))) else (some false))
end
def wire_IsName.f (k : Nat) (a0 : ByteArray) : Option (Bool) := if (a0.size : Int) = 0 then (wire_IsName.j0 k a0 true) else (wire_IsName.j0 k a0 (decide ((a0.size : Int) > 24)))
theorem wire_IsName.mono_l : ∀ k, (∀ y0 y1, LeO (wire_IsName.j0 k y0 y1) (wire_IsName.j0 (k + 1) y0 y1)) ∧ (∀ y0 y1 y2, LeO (wire_IsName.l0 k y0 y1 y2) (wire_IsName.l0 (k + 1) y0 y1 y2)) ∧ (∀ y0 y1 y2 y3 y4 y5, LeO (wire_IsName.j2 k y0 y1 y2 y3 y4 y5) (wire_IsName.j2 (k + 1) y0 y1 y2 y3 y4 y5)) ∧ (∀ y0 y1 y2 y3 y4 y5, LeO (wire_IsName.j3 k y0 y1 y2 y3 y4 y5) (wire_IsName.j3 (k + 1) y0 y1 y2 y3 y4 y5))
  | 0 => ⟨fun _ _ r h => by simp [wire_IsName.j0] at h, fun _ _ _ r h => by simp [wire_IsName.l0] at h, fun _ _ _ _ _ _ r h => by simp [wire_IsName.j2] at h, fun _ _ _ _ _ _ r h => by simp [wire_IsName.j3] at h⟩
  | k + 1 => by
    obtain ⟨ih0, ih1, ih2, ih3⟩ := wire_IsName.mono_l k
    refine ⟨?_, ?_, ?_, ?_⟩
    · intro y0 y1
      unfold wire_IsName.j0
      repeat' first
      | (with_reducible exact ih0 _ _)
      | (with_reducible exact ih1 _ _ _)
      | (with_reducible exact ih2 _ _ _ _ _ _)
      | (with_reducible exact ih3 _ _ _ _ _ _)
      | (with_reducible exact LeO.refl _)
      | (with_reducible exact LeO.none _)
      | (with_reducible refine LeO.ite ?_ ?_)
      | (with_reducible refine LeO.bind ?_ (fun _ => ?_))
      | exact ih0 _ _
      | exact ih1 _ _ _
      | exact ih2 _ _ _ _ _ _
      | exact ih3 _ _ _ _ _ _
      | exact LeO.none _
      | refine LeO.ite ?_ ?_
      | refine LeO.bind ?_ (fun _ => ?_)
    · intro y0 y1 y2
      unfold wire_IsName.l0
      repeat' first
      | (with_reducible exact ih0 _ _)
      | (with_reducible exact ih1 _ _ _)
      | (with_reducible exact ih2 _ _ _ _ _ _)
      | (with_reducible exact ih3 _ _ _ _ _ _)
      | (with_reducible exact LeO.refl _)
      | (with_reducible exact LeO.none _)
      | (with_reducible refine LeO.ite ?_ ?_)
      | (with_reducible refine LeO.bind ?_ (fun _ => ?_))
      | exact ih0 _ _
      | exact ih1 _ _ _
      | exact ih2 _ _ _ _ _ _
      | exact ih3 _ _ _ _ _ _
      | exact LeO.none _
      | refine LeO.ite ?_ ?_
      | refine LeO.bind ?_ (fun _ => ?_)
    · intro y0 y1 y2 y3 y4 y5
      unfold wire_IsName.j2
      repeat' first
      | (with_reducible exact ih0 _ _)
      | (with_reducible exact ih1 _ _ _)
      | (with_reducible exact ih2 _ _ _ _ _ _)
      | (with_reducible exact ih3 _ _ _ _ _ _)
      | (with_reducible exact LeO.refl _)
      | (with_reducible exact LeO.none _)
      | (with_reducible refine LeO.ite ?_ ?_)
      | (with_reducible refine LeO.bind ?_ (fun _ => ?_))
      | exact ih0 _ _
      | exact ih1 _ _ _
      | exact ih2 _ _ _ _ _ _
      | exact ih3 _ _ _ _ _ _
      | exact LeO.none _
      | refine LeO.ite ?_ ?_
      | refine LeO.bind ?_ (fun _ => ?_)
    · intro y0 y1 y2 y3 y4 y5
      unfold wire_IsName.j3
      repeat' first
      | (with_reducible exact ih0 _ _)
      | (with_reducible exact ih1 _ _ _)
      | (with_reducible exact ih2 _ _ _ _ _ _)
      | (with_reducible exact ih3 _ _ _ _ _ _)
      | (with_reducible exact LeO.refl _)
      | (with_reducible exact LeO.none _)
      | (with_reducible refine LeO.ite ?_ ?_)
      | (with_reducible refine LeO.bind ?_ (fun _ => ?_))
      | exact ih0 _ _
      | exact ih1 _ _ _
      | exact ih2 _ _ _ _ _ _
      | exact ih3 _ _ _ _ _ _
      | exact LeO.none _
      | refine LeO.ite ?_ ?_
      | refine LeO.bind ?_ (fun _ => ?_)
theorem wire_IsName.mono : ∀ a0 k, LeO (wire_IsName.f k a0) (wire_IsName.f (k + 1) a0) := by
  intro a0 k
  obtain ⟨ih0, ih1, ih2, ih3⟩ := wire_IsName.mono_l k
  unfold wire_IsName.f
  repeat' first
      | (with_reducible exact ih0 _ _)
      | (with_reducible exact ih1 _ _ _)
      | (with_reducible exact ih2 _ _ _ _ _ _)
      | (with_reducible exact ih3 _ _ _ _ _ _)
      | (with_reducible exact LeO.refl _)
      | (with_reducible exact LeO.none _)
      | (with_reducible refine LeO.ite ?_ ?_)
      | (with_reducible refine LeO.bind ?_ (fun _ => ?_))
      | exact ih0 _ _
      | exact ih1 _ _ _
      | exact ih2 _ _ _ _ _ _
      | exact ih3 _ _ _ _ _ _
      | exact LeO.none _
      | refine LeO.ite ?_ ?_
      | refine LeO.bind ?_ (fun _ => ?_)
set_option maxHeartbeats 8000000 in
set_option maxRecDepth 100000 in
theorem wire_IsName.calls (k : Nat) (a0 : ByteArray) (r : Bool) (w : World) (h : wire_IsName.f k a0 = some r) :
    Calls Try.prog 11 #[.string a0] w fun e w' => e = .returned (.bool r) ∧ Drawn0 w w' := by
  have H : (if (a0.size : Int) = 0 then (wire_IsName.j0 k a0 true) else (wire_IsName.j0 k a0 (decide ((a0.size : Int) > 24)))) = some r := h
  clear h
  have HC2 := Aside0.mk H
  clear H
  go_enter Try.func11, Try.ntmps11
  go_upto_region 1 with (fail)
  go_cut [12] (fun v12 wc => ∃ (kq : Nat) (x12_1 : Bool), v12 = .bool x12_1 ∧ Aside0 (wire_IsName.j0 kq a0 x12_1 = some r) ∧ Aside0 (kq ≤ k) ∧ Drawn0 w wc)
  case first =>
    have H := HC2.out
    clear HC2
    by_cases c3 : (a0.size : Int) = 0
    · rw [if_pos c3] at H
      have c3b0 : ((a0.size : Int) == 0) = true := beq_iff_eq.mpr c3
      have c3b1 : ((a0.size : Int) != 0) = false := bne_eq_false_iff_eq.mpr c3
      clear c3
      (first | rw [c3b0] | (simp only [i64_w, i32_w]; rw [c3b0]) | skip)
      have H' := Aside0.mk H
      clear H
      go_wp2
      go_meet
      case rel => exact ⟨_, (true), (by first | rfl | (simp; done) | (simp [*]; done)), H', ⟨by first | omega | exact Nat.le_refl _⟩, by repeat (first | exact Drawn0.refl _ | apply Drawn0.step)⟩
    · rw [if_neg c3] at H
      have c3b0 : ((a0.size : Int) == 0) = false := beq_eq_false_iff_ne.mpr c3
      have c3b1 : ((a0.size : Int) != 0) = true := bne_iff_ne.mpr c3
      (first | rw [c3b0] | (simp only [i64_w, i32_w]; rw [c3b0]) | skip)
      have H' := Aside0.mk H
      clear H
      go_wp2
      go_meet
      case rel => exact ⟨_, (decide ((a0.size : Int) > 24)), (by first | rfl | (simp; done) | (simp [*]; done)), H', ⟨by first | omega | exact Nat.le_refl _⟩, by repeat (first | exact Drawn0.refl _ | apply Drawn0.step)⟩
  case rest =>
    clear HC2
    try clear c1
    try clear p2
    try clear c3
    try clear c3b0
    try clear c3b1
    obtain ⟨kq, x12_1, rfl, HA, HJ1, ⟨mc1, rfl⟩⟩ := hcut
    cases kq with
    | zero => exact absurd HA.out (by simp [wire_IsName.j0])
    | succ kj1 =>
      have H := HA.out
      clear HA
      simp only [wire_IsName.j0] at H
      by_cases c4 : x12_1 = true
      · subst c4
        have H1 : (some false) = some r := by rw [if_pos rfl] at H; exact H
        clear H
        have H := H1
        clear H1
        obtain rfl := Option.some.inj H
        go_wp2
        go_ret
        exact ⟨by first | rfl | (simp; done) | (simp [*]; done), by repeat (first | exact Drawn0.refl _ | apply Drawn0.step)⟩
      · replace c4 := Bool.eq_false_iff.mpr c4
        subst c4
        have H1 : (wire_IsName.l0 kj1 a0 (a0.size : Int) 0) = some r := by rw [if_neg (show ¬ (false = true) by decide)] at H; exact H
        clear H
        have H := H1
        clear H1
        have H' := Aside0.mk H
        clear H
        go_wp2
        go_loopg [15] kj1 (fun kq v15 w' => ∃ (x15_2 : Int), v15 = .int .i64 x15_2 ∧ Aside0 (wire_IsName.l0 kq a0 (a0.size : Int) x15_2 = some r) ∧ Aside0 (kq ≤ kj1) ∧ Drawn0 w w')
        case atStart => exact ⟨(0), (by first | rfl | (simp; done) | (simp [*]; done)), H', ⟨Nat.le_refl _⟩, by repeat (first | exact Drawn0.refl _ | apply Drawn0.step)⟩
        case round =>
          clear H'
          try clear c1
          try clear p2
          try clear c3
          try clear c3b0
          try clear c3b1
          try clear c4
          try clear p2
          obtain ⟨x15_2, rfl, HA, HK2, ⟨m2, rfl⟩⟩ := hrel
          cases gk with
          | zero => exact absurd HA.out (by simp [wire_IsName.l0])
          | succ k2 =>
            have H := HA.out
            clear HA
            simp only [wire_IsName.l0] at H
            by_cases c5 : x15_2 < (a0.size : Int)
            · rw [if_pos c5] at H
              have c5b0 : decide (x15_2 < (a0.size : Int)) = true := decide_eq_true c5
              clear c5
              by_cases c6 : 0 ≤ x15_2
              · rw [if_pos c6] at H
                have c6b0 : decide (0 ≤ x15_2) = true := decide_eq_true c6
                clear c6
                by_cases c7 : x15_2 < (a0.size : Int)
                · rw [if_pos c7] at H
                  have c7b0 : decide (x15_2 < (a0.size : Int)) = true := decide_eq_true c7
                  clear c7
                  have HC9 := Aside0.mk H
                  clear H
                  have p8 : 0 ≤ (x15_2 : Int) := of_decide_eq_true (by first | (with_reducible assumption) | assumption)
                  have q8 : x15_2 < (a0.size : Int) := of_decide_eq_true (by first | (with_reducible assumption) | assumption)
                  have hx8 := bt_at a0 x15_2
                  replace p8 := eq_true p8
                  replace q8 := eq_true q8
                  go_upto_region 8 with (fail)
                  go_cut [21] (fun v21 wc => ∃ (kq : Nat) (x21_8 : Bool), v21 = .bool x21_8 ∧ Aside0 (wire_IsName.j2 kq a0 x15_2 (bt a0 x15_2) (a0.size : Int) x15_2 x21_8 = some r) ∧ Aside0 (kq ≤ k2) ∧ Drawn0 w wc)
                  case first =>
                    have H := HC9.out
                    clear HC9
                    by_cases c10 : (bt a0 x15_2) ≥ 97
                    · rw [if_pos c10] at H
                      have c10b0 : decide (97 ≤ (bt a0 x15_2)) = true := decide_eq_true c10
                      clear c10
                      (first | rw [c10b0] | (simp only [i64_w, i32_w]; rw [c10b0]) | skip)
                      have H' := Aside0.mk H
                      clear H
                      go_wp2
                      go_meet
                      case rel => exact ⟨_, (decide ((bt a0 x15_2) ≤ 122)), (by first | rfl | (simp; done) | (simp [*]; done)), H', ⟨by have := HJ1.out; have := HK2.out; first | omega | exact Nat.le_refl _⟩, by repeat (first | exact Drawn0.refl _ | apply Drawn0.step)⟩
                    · rw [if_neg c10] at H
                      have c10b0 : decide (97 ≤ (bt a0 x15_2)) = false := decide_eq_false c10
                      clear c10
                      (first | rw [c10b0] | (simp only [i64_w, i32_w]; rw [c10b0]) | skip)
                      have H' := Aside0.mk H
                      clear H
                      go_wp2
                      go_meet
                      case rel => exact ⟨_, (false), (by first | rfl | (simp; done) | (simp [*]; done)), H', ⟨by have := HJ1.out; have := HK2.out; first | omega | exact Nat.le_refl _⟩, by repeat (first | exact Drawn0.refl _ | apply Drawn0.step)⟩
                  case rest =>
                    clear HC9
                    try clear c1
                    try clear p2
                    try clear c3
                    try clear c3b0
                    try clear c3b1
                    try clear c4
                    try clear c5
                    try clear c5b0
                    try clear c6
                    try clear c6b0
                    try clear c7
                    try clear c7b0
                    try clear p8
                    try clear q8
                    try clear hx8
                    try clear c10
                    try clear c10b0
                    try clear p2
                    try clear p8
                    try clear q8
                    obtain ⟨kq, x21_8, rfl, HA, HJ8, ⟨mc8, rfl⟩⟩ := hcut
                    cases kq with
                    | zero => exact absurd HA.out (by simp [wire_IsName.j2])
                    | succ kj8 =>
                      have H := HA.out
                      clear HA
                      simp only [wire_IsName.j2] at H
                      have HC11 := Aside0.mk H
                      clear H
                      go_upto_if 21 with (fail)
                      go_cut [21] (fun v21 wc => ∃ (kq : Nat) (x21_10 : Bool), v21 = .bool x21_10 ∧ Aside0 (wire_IsName.j3 kq a0 x15_2 (bt a0 x15_2) (a0.size : Int) x15_2 x21_10 = some r) ∧ Aside0 (kq ≤ kj8) ∧ Drawn0 w wc)
                      case first =>
                        have H := HC11.out
                        clear HC11
                        by_cases c12 : x21_8 = true
                        · subst c12
                          have H1 : (wire_IsName.j3 kj8 a0 x15_2 (bt a0 x15_2) (a0.size : Int) x15_2 true) = some r := by rw [if_pos rfl] at H; exact H
                          clear H
                          have H := H1
                          clear H1
                          have H' := Aside0.mk H
                          clear H
                          go_wp2
                          go_meet
                          case rel => exact ⟨_, (true), (by first | rfl | (simp; done) | (simp [*]; done)), H', ⟨by have := HJ1.out; have := HK2.out; have := HJ8.out; first | omega | exact Nat.le_refl _⟩, by repeat (first | exact Drawn0.refl _ | apply Drawn0.step)⟩
                        · replace c12 := Bool.eq_false_iff.mpr c12
                          subst c12
                          have H1 : (if (bt a0 x15_2) ≥ 65 then (wire_IsName.j3 kj8 a0 x15_2 (bt a0 x15_2) (a0.size : Int) x15_2 (decide ((bt a0 x15_2) ≤ 90))) else (wire_IsName.j3 kj8 a0 x15_2 (bt a0 x15_2) (a0.size : Int) x15_2 false)) = some r := by rw [if_neg (show ¬ (false = true) by decide)] at H; exact H
                          clear H
                          have H := H1
                          clear H1
                          by_cases c13 : (bt a0 x15_2) ≥ 65
                          · rw [if_pos c13] at H
                            have c13b0 : decide (65 ≤ (bt a0 x15_2)) = true := decide_eq_true c13
                            clear c13
                            (first | rw [c13b0] | (simp only [i64_w, i32_w]; rw [c13b0]) | skip)
                            have H' := Aside0.mk H
                            clear H
                            go_wp2
                            go_meet
                            case rel => exact ⟨_, (decide ((bt a0 x15_2) ≤ 90)), (by first | rfl | (simp; done) | (simp [*]; done)), H', ⟨by have := HJ1.out; have := HK2.out; have := HJ8.out; first | omega | exact Nat.le_refl _⟩, by repeat (first | exact Drawn0.refl _ | apply Drawn0.step)⟩
                          · rw [if_neg c13] at H
                            have c13b0 : decide (65 ≤ (bt a0 x15_2)) = false := decide_eq_false c13
                            clear c13
                            (first | rw [c13b0] | (simp only [i64_w, i32_w]; rw [c13b0]) | skip)
                            have H' := Aside0.mk H
                            clear H
                            go_wp2
                            go_meet
                            case rel => exact ⟨_, (false), (by first | rfl | (simp; done) | (simp [*]; done)), H', ⟨by have := HJ1.out; have := HK2.out; have := HJ8.out; first | omega | exact Nat.le_refl _⟩, by repeat (first | exact Drawn0.refl _ | apply Drawn0.step)⟩
                      case rest =>
                        clear HC11
                        try clear c1
                        try clear p2
                        try clear c3
                        try clear c3b0
                        try clear c3b1
                        try clear c4
                        try clear c5
                        try clear c5b0
                        try clear c6
                        try clear c6b0
                        try clear c7
                        try clear c7b0
                        try clear c8
                        try clear p8
                        try clear q8
                        try clear hx8
                        try clear c10
                        try clear c10b0
                        try clear c11
                        try clear c12
                        try clear c13
                        try clear c13b0
                        try clear p2
                        try clear p8
                        try clear q8
                        obtain ⟨kq, x21_10, rfl, HA, HJ10, ⟨mc10, rfl⟩⟩ := hcut
                        cases kq with
                        | zero => exact absurd HA.out (by simp [wire_IsName.j3])
                        | succ kj10 =>
                          have H := HA.out
                          clear HA
                          simp only [wire_IsName.j3] at H
                          by_cases c14 : x21_10 = true
                          · subst c14
                            have H1 : (wire_IsName.l0 kj10 a0 (a0.size : Int) (wrap64 (x15_2 + 1))) = some r := by rw [if_pos rfl] at H; exact H
                            clear H
                            have H := H1
                            clear H1
                            have H' := Aside0.mk H
                            clear H
                            go_wp2
                            go_roundg kj10
                            case measure => have := HJ1.out; have := HK2.out; have := HJ8.out; have := HJ10.out; omega
                            case rel => exact ⟨(wrap64 (x15_2 + 1)), (by first | rfl | (simp; done) | (simp [*]; done)), H', ⟨by have := HJ1.out; have := HK2.out; have := HJ8.out; have := HJ10.out; omega⟩, by repeat (first | exact Drawn0.refl _ | apply Drawn0.step)⟩
                          · replace c14 := Bool.eq_false_iff.mpr c14
                            subst c14
                            have H1 : (if x15_2 > 0 then (if (bt a0 x15_2) ≥ 48 then (if (bt a0 x15_2) ≤ 57 then (wire_IsName.l0 kj10 a0 (a0.size : Int) (wrap64 (x15_2 + 1))) else (if (bt a0 x15_2) = 95 then (wire_IsName.l0 kj10 a0 (a0.size : Int) (wrap64 (x15_2 + 1))) else (some false))) else (if (bt a0 x15_2) = 95 then (wire_IsName.l0 kj10 a0 (a0.size : Int) (wrap64 (x15_2 + 1))) else (some false))) else (some false)) = some r := by rw [if_neg (show ¬ (false = true) by decide)] at H; exact H
                            clear H
                            have H := H1
                            clear H1
                            by_cases c15 : x15_2 > 0
                            · rw [if_pos c15] at H
                              have c15b0 : decide (0 < x15_2) = true := decide_eq_true c15
                              clear c15
                              by_cases c16 : (bt a0 x15_2) ≥ 48
                              · rw [if_pos c16] at H
                                have c16b0 : decide (48 ≤ (bt a0 x15_2)) = true := decide_eq_true c16
                                clear c16
                                by_cases c17 : (bt a0 x15_2) ≤ 57
                                · rw [if_pos c17] at H
                                  have c17b0 : decide ((bt a0 x15_2) ≤ 57) = true := decide_eq_true c17
                                  clear c17
                                  have H' := Aside0.mk H
                                  clear H
                                  go_wp2
                                  go_roundg kj10
                                  case measure => have := HJ1.out; have := HK2.out; have := HJ8.out; have := HJ10.out; omega
                                  case rel => exact ⟨(wrap64 (x15_2 + 1)), (by first | rfl | (simp; done) | (simp [*]; done)), H', ⟨by have := HJ1.out; have := HK2.out; have := HJ8.out; have := HJ10.out; omega⟩, by repeat (first | exact Drawn0.refl _ | apply Drawn0.step)⟩
                                · rw [if_neg c17] at H
                                  have c17b0 : decide ((bt a0 x15_2) ≤ 57) = false := decide_eq_false c17
                                  clear c17
                                  by_cases c18 : (bt a0 x15_2) = 95
                                  · rw [if_pos c18] at H
                                    have c18b0 : ((bt a0 x15_2) == 95) = true := beq_iff_eq.mpr c18
                                    have c18b1 : ((bt a0 x15_2) != 95) = false := bne_eq_false_iff_eq.mpr c18
                                    clear c18
                                    have H' := Aside0.mk H
                                    clear H
                                    go_wp2
                                    go_roundg kj10
                                    case measure => have := HJ1.out; have := HK2.out; have := HJ8.out; have := HJ10.out; omega
                                    case rel => exact ⟨(wrap64 (x15_2 + 1)), (by first | rfl | (simp; done) | (simp [*]; done)), H', ⟨by have := HJ1.out; have := HK2.out; have := HJ8.out; have := HJ10.out; omega⟩, by repeat (first | exact Drawn0.refl _ | apply Drawn0.step)⟩
                                  · rw [if_neg c18] at H
                                    have c18b0 : ((bt a0 x15_2) == 95) = false := beq_eq_false_iff_ne.mpr c18
                                    have c18b1 : ((bt a0 x15_2) != 95) = true := bne_iff_ne.mpr c18
                                    obtain rfl := Option.some.inj H
                                    go_wp2
                                    go_ret
                                    exact ⟨by first | rfl | (simp; done) | (simp [*]; done), by repeat (first | exact Drawn0.refl _ | apply Drawn0.step)⟩
                              · rw [if_neg c16] at H
                                have c16b0 : decide (48 ≤ (bt a0 x15_2)) = false := decide_eq_false c16
                                clear c16
                                by_cases c19 : (bt a0 x15_2) = 95
                                · rw [if_pos c19] at H
                                  have c19b0 : ((bt a0 x15_2) == 95) = true := beq_iff_eq.mpr c19
                                  have c19b1 : ((bt a0 x15_2) != 95) = false := bne_eq_false_iff_eq.mpr c19
                                  clear c19
                                  have H' := Aside0.mk H
                                  clear H
                                  go_wp2
                                  go_roundg kj10
                                  case measure => have := HJ1.out; have := HK2.out; have := HJ8.out; have := HJ10.out; omega
                                  case rel => exact ⟨(wrap64 (x15_2 + 1)), (by first | rfl | (simp; done) | (simp [*]; done)), H', ⟨by have := HJ1.out; have := HK2.out; have := HJ8.out; have := HJ10.out; omega⟩, by repeat (first | exact Drawn0.refl _ | apply Drawn0.step)⟩
                                · rw [if_neg c19] at H
                                  have c19b0 : ((bt a0 x15_2) == 95) = false := beq_eq_false_iff_ne.mpr c19
                                  have c19b1 : ((bt a0 x15_2) != 95) = true := bne_iff_ne.mpr c19
                                  obtain rfl := Option.some.inj H
                                  go_wp2
                                  go_ret
                                  exact ⟨by first | rfl | (simp; done) | (simp [*]; done), by repeat (first | exact Drawn0.refl _ | apply Drawn0.step)⟩
                            · rw [if_neg c15] at H
                              have c15b0 : decide (0 < x15_2) = false := decide_eq_false c15
                              clear c15
                              obtain rfl := Option.some.inj H
                              go_wp2
                              go_ret
                              exact ⟨by first | rfl | (simp; done) | (simp [*]; done), by repeat (first | exact Drawn0.refl _ | apply Drawn0.step)⟩
                · rw [if_neg c7] at H
                  exact absurd H (by simp)
              · rw [if_neg c6] at H
                exact absurd H (by simp)
            · rw [if_neg c5] at H
              have c5b0 : decide (x15_2 < (a0.size : Int)) = false := decide_eq_false c5
              clear c5
              obtain rfl := Option.some.inj H
              go_wp2
              go_ret
              exact ⟨by first | rfl | (simp; done) | (simp [*]; done), by repeat (first | exact Drawn0.refl _ | apply Drawn0.step)⟩

end Go.Proofs.Ytklbkonehcjmjaa.P

end

section
namespace Go.Proofs.Ytklbkonehcjmjaa.P
open Go.RowKit Go.Proofs.YtklbkonehcjmjaaW.PrintWords Go.Proofs.YtklbkonehcjmjaaW.PrintLast Go.Proofs.YtklbkonehcjmjaaW.PrintMore
attribute [local go_sem] max2_int min2_int max_two min_two max_three min_three max_four min_four   -- for this text's walks alone
set_option linter.unusedVariables false
set_option linter.unusedSimpArgs false

mutual
def provisoref01_IsName.j0 : Nat → ByteArray → Bool → Option (Bool)
  | 0, _, _ => none
  | k + 1, x0, x13 => if x13 = true then (some false) else (provisoref01_IsName.l0 k x0 0)
def provisoref01_IsName.l0 : Nat → ByteArray → Int → Option (Bool)
  | 0, _, _ => none
  | k + 1, x0, x3 => if x3 < (x0.size : Int) then (if 0 ≤ x3 then (if (bt x0 x3) ≥ 97 then (if (bt x0 x3) ≤ 122 then (provisoref01_IsName.l0 k x0 (wrap64 (x3 + 1))) else (if (bt x0 x3) ≥ 65 then (if ((bt x0 x3) ≤ 90) then (provisoref01_IsName.l0 k x0 (wrap64 (x3 + 1))) else (if x3 = 0 then (some false) else (if (bt x0 x3) = 95 then (provisoref01_IsName.l0 k x0 (wrap64 (x3 + 1))) else (if (bt x0 x3) < 48 then (some false) else (if (bt x0 x3) > 57 then (some false) else (provisoref01_IsName.l0 k x0 (wrap64 (x3 + 1)))))))) else (if x3 = 0 then (some false) else (if (bt x0 x3) = 95 then (provisoref01_IsName.l0 k x0 (wrap64 (x3 + 1))) else (if (bt x0 x3) < 48 then (some false) else (if (bt x0 x3) > 57 then (some false) else (provisoref01_IsName.l0 k x0 (wrap64 (x3 + 1))))))))) else (if (bt x0 x3) ≥ 65 then (if ((bt x0 x3) ≤ 90) then (provisoref01_IsName.l0 k x0 (wrap64 (x3 + 1))) else (if x3 = 0 then (some false) else (if (bt x0 x3) = 95 then (provisoref01_IsName.l0 k x0 (wrap64 (x3 + 1))) else (if (bt x0 x3) < 48 then (some false) else (if (bt x0 x3) > 57 then (some false) else (provisoref01_IsName.l0 k x0 (wrap64 (x3 + 1)))))))) else (if x3 = 0 then (some false) else (if (bt x0 x3) = 95 then (provisoref01_IsName.l0 k x0 (wrap64 (x3 + 1))) else (if (bt x0 x3) < 48 then (some false) else (if (bt x0 x3) > 57 then (some false) else (provisoref01_IsName.l0 k x0 (wrap64 (x3 + 1))))))))) else (none)) else (some true)
end
def provisoref01_IsName.f (k : Nat) (a0 : ByteArray) : Option (Bool) := if (a0.size : Int) < 1 then (provisoref01_IsName.j0 k a0 true) else (provisoref01_IsName.j0 k a0 (decide ((a0.size : Int) > 24)))
theorem provisoref01_IsName.mono_l : ∀ k, (∀ y0 y1, LeO (provisoref01_IsName.j0 k y0 y1) (provisoref01_IsName.j0 (k + 1) y0 y1)) ∧ (∀ y0 y1, LeO (provisoref01_IsName.l0 k y0 y1) (provisoref01_IsName.l0 (k + 1) y0 y1))
  | 0 => ⟨fun _ _ r h => by simp [provisoref01_IsName.j0] at h, fun _ _ r h => by simp [provisoref01_IsName.l0] at h⟩
  | k + 1 => by
    obtain ⟨ih0, ih1⟩ := provisoref01_IsName.mono_l k
    refine ⟨?_, ?_⟩
    · intro y0 y1
      unfold provisoref01_IsName.j0
      repeat' first
      | (with_reducible exact ih0 _ _)
      | (with_reducible exact ih1 _ _)
      | (with_reducible exact LeO.refl _)
      | (with_reducible exact LeO.none _)
      | (with_reducible refine LeO.ite ?_ ?_)
      | (with_reducible refine LeO.bind ?_ (fun _ => ?_))
      | exact ih0 _ _
      | exact ih1 _ _
      | exact LeO.none _
      | refine LeO.ite ?_ ?_
      | refine LeO.bind ?_ (fun _ => ?_)
    · intro y0 y1
      unfold provisoref01_IsName.l0
      repeat' first
      | (with_reducible exact ih0 _ _)
      | (with_reducible exact ih1 _ _)
      | (with_reducible exact LeO.refl _)
      | (with_reducible exact LeO.none _)
      | (with_reducible refine LeO.ite ?_ ?_)
      | (with_reducible refine LeO.bind ?_ (fun _ => ?_))
      | exact ih0 _ _
      | exact ih1 _ _
      | exact LeO.none _
      | refine LeO.ite ?_ ?_
      | refine LeO.bind ?_ (fun _ => ?_)
theorem provisoref01_IsName.mono : ∀ a0 k, LeO (provisoref01_IsName.f k a0) (provisoref01_IsName.f (k + 1) a0) := by
  intro a0 k
  obtain ⟨ih0, ih1⟩ := provisoref01_IsName.mono_l k
  unfold provisoref01_IsName.f
  repeat' first
      | (with_reducible exact ih0 _ _)
      | (with_reducible exact ih1 _ _)
      | (with_reducible exact LeO.refl _)
      | (with_reducible exact LeO.none _)
      | (with_reducible refine LeO.ite ?_ ?_)
      | (with_reducible refine LeO.bind ?_ (fun _ => ?_))
      | exact ih0 _ _
      | exact ih1 _ _
      | exact LeO.none _
      | refine LeO.ite ?_ ?_
      | refine LeO.bind ?_ (fun _ => ?_)
set_option maxHeartbeats 8000000 in
set_option maxRecDepth 100000 in
theorem provisoref01_IsName.calls (k : Nat) (a0 : ByteArray) (r : Bool) (w : World) (h : provisoref01_IsName.f k a0 = some r) :
    Calls Try.prog 12 #[.string a0] w fun e w' => e = .returned (.bool r) ∧ Drawn0 w w' := by
  have H : (if (a0.size : Int) < 1 then (provisoref01_IsName.j0 k a0 true) else (provisoref01_IsName.j0 k a0 (decide ((a0.size : Int) > 24)))) = some r := h
  clear h
  have HC2 := Aside0.mk H
  clear H
  go_enter Try.func12, Try.ntmps12
  go_upto_region 1 with (fail)
  go_cut [13] (fun v13 wc => ∃ (kq : Nat) (x13_1 : Bool), v13 = .bool x13_1 ∧ Aside0 (provisoref01_IsName.j0 kq a0 x13_1 = some r) ∧ Aside0 (kq ≤ k) ∧ Drawn0 w wc)
  case first =>
    have H := HC2.out
    clear HC2
    by_cases c3 : (a0.size : Int) < 1
    · rw [if_pos c3] at H
      have c3b0 : decide ((a0.size : Int) < 1) = true := decide_eq_true c3
      have c3b1 : decide (a0.size < 1) = true := decide_eq_true (by omega)
      clear c3
      (first | rw [c3b0] | (simp only [i64_w, i32_w]; rw [c3b0]) | skip)
      have H' := Aside0.mk H
      clear H
      go_wp2
      go_meet
      case rel => exact ⟨_, (true), (by first | rfl | (simp; done) | (simp [*]; done)), H', ⟨by first | omega | exact Nat.le_refl _⟩, by repeat (first | exact Drawn0.refl _ | apply Drawn0.step)⟩
    · rw [if_neg c3] at H
      have c3b0 : decide ((a0.size : Int) < 1) = false := decide_eq_false c3
      have c3b1 : decide (a0.size < 1) = false := decide_eq_false (by omega)
      clear c3
      (first | rw [c3b0] | (simp only [i64_w, i32_w]; rw [c3b0]) | skip)
      have H' := Aside0.mk H
      clear H
      go_wp2
      go_meet
      case rel => exact ⟨_, (decide ((a0.size : Int) > 24)), (by first | rfl | (simp; done) | (simp [*]; done)), H', ⟨by first | omega | exact Nat.le_refl _⟩, by repeat (first | exact Drawn0.refl _ | apply Drawn0.step)⟩
  case rest =>
    clear HC2
    try clear c1
    try clear p2
    try clear c3
    try clear c3b0
    try clear c3b1
    obtain ⟨kq, x13_1, rfl, HA, HJ1, ⟨mc1, rfl⟩⟩ := hcut
    cases kq with
    | zero => exact absurd HA.out (by simp [provisoref01_IsName.j0])
    | succ kj1 =>
      have H := HA.out
      clear HA
      simp only [provisoref01_IsName.j0] at H
      by_cases c4 : x13_1 = true
      · subst c4
        have H1 : (some false) = some r := by rw [if_pos rfl] at H; exact H
        clear H
        have H := H1
        clear H1
        obtain rfl := Option.some.inj H
        go_wp2
        go_ret
        exact ⟨by first | rfl | (simp; done) | (simp [*]; done), by repeat (first | exact Drawn0.refl _ | apply Drawn0.step)⟩
      · replace c4 := Bool.eq_false_iff.mpr c4
        subst c4
        have H1 : (provisoref01_IsName.l0 kj1 a0 0) = some r := by rw [if_neg (show ¬ (false = true) by decide)] at H; exact H
        clear H
        have H := H1
        clear H1
        have H' := Aside0.mk H
        clear H
        go_wp2
        go_loopg [3] kj1 (fun kq v3 w' => ∃ (x3_2 : Int), v3 = .int .i64 x3_2 ∧ Aside0 (provisoref01_IsName.l0 kq a0 x3_2 = some r) ∧ Aside0 (kq ≤ kj1) ∧ Drawn0 w w')
        case atStart => exact ⟨(0), (by first | rfl | (simp; done) | (simp [*]; done)), H', ⟨Nat.le_refl _⟩, by repeat (first | exact Drawn0.refl _ | apply Drawn0.step)⟩
        case round =>
          clear H'
          try clear c1
          try clear p2
          try clear c3
          try clear c3b0
          try clear c3b1
          try clear c4
          try clear p2
          obtain ⟨x3_2, rfl, HA, HK2, ⟨m2, rfl⟩⟩ := hrel
          cases gk with
          | zero => exact absurd HA.out (by simp [provisoref01_IsName.l0])
          | succ k2 =>
            have H := HA.out
            clear HA
            simp only [provisoref01_IsName.l0] at H
            by_cases c5 : x3_2 < (a0.size : Int)
            · rw [if_pos c5] at H
              have c5b0 : decide (x3_2 < (a0.size : Int)) = true := decide_eq_true c5
              clear c5
              by_cases c6 : 0 ≤ x3_2
              · rw [if_pos c6] at H
                have c6b0 : decide (0 ≤ x3_2) = true := decide_eq_true c6
                clear c6
                by_cases c8 : (bt a0 x3_2) ≥ 97
                · rw [if_pos c8] at H
                  have c8b0 : decide (97 ≤ (bt a0 x3_2)) = true := decide_eq_true c8
                  clear c8
                  by_cases c9 : (bt a0 x3_2) ≤ 122
                  · rw [if_pos c9] at H
                    have c9b0 : decide ((bt a0 x3_2) ≤ 122) = true := decide_eq_true c9
                    clear c9
                    have H' := Aside0.mk H
                    clear H
                    have p7 : 0 ≤ (x3_2 : Int) := of_decide_eq_true (by first | (with_reducible assumption) | assumption)
                    have q7 : x3_2 < (a0.size : Int) := of_decide_eq_true (by first | (with_reducible assumption) | assumption)
                    have hx7 := bt_at a0 x3_2
                    replace p7 := eq_true p7
                    replace q7 := eq_true q7
                    go_wp2
                    go_roundg k2
                    case measure => have := HJ1.out; have := HK2.out; omega
                    case rel => exact ⟨(wrap64 (x3_2 + 1)), (by first | rfl | (simp; done) | (simp [*]; done)), H', ⟨by have := HJ1.out; have := HK2.out; omega⟩, by repeat (first | exact Drawn0.refl _ | apply Drawn0.step)⟩
                  · rw [if_neg c9] at H
                    have c9b0 : decide ((bt a0 x3_2) ≤ 122) = false := decide_eq_false c9
                    clear c9
                    by_cases c10 : (bt a0 x3_2) ≥ 65
                    · rw [if_pos c10] at H
                      have c10b0 : decide (65 ≤ (bt a0 x3_2)) = true := decide_eq_true c10
                      clear c10
                      by_cases c11 : ((bt a0 x3_2) ≤ 90)
                      · rw [if_pos c11] at H
                        have c11b0 : decide ((bt a0 x3_2) ≤ 90) = true := decide_eq_true c11
                        clear c11
                        have H' := Aside0.mk H
                        clear H
                        have p7 : 0 ≤ (x3_2 : Int) := of_decide_eq_true (by first | (with_reducible assumption) | assumption)
                        have q7 : x3_2 < (a0.size : Int) := of_decide_eq_true (by first | (with_reducible assumption) | assumption)
                        have hx7 := bt_at a0 x3_2
                        replace p7 := eq_true p7
                        replace q7 := eq_true q7
                        go_wp2
                        go_roundg k2
                        case measure => have := HJ1.out; have := HK2.out; omega
                        case rel => exact ⟨(wrap64 (x3_2 + 1)), (by first | rfl | (simp; done) | (simp [*]; done)), H', ⟨by have := HJ1.out; have := HK2.out; omega⟩, by repeat (first | exact Drawn0.refl _ | apply Drawn0.step)⟩
                      · rw [if_neg c11] at H
                        have c11b0 : decide ((bt a0 x3_2) ≤ 90) = false := decide_eq_false c11
                        clear c11
                        by_cases c12 : x3_2 = 0
                        · rw [if_pos c12] at H
                          have c12b0 : (x3_2 == 0) = true := beq_iff_eq.mpr c12
                          have c12b1 : (x3_2 != 0) = false := bne_eq_false_iff_eq.mpr c12
                          clear c12
                          obtain rfl := Option.some.inj H
                          have p7 : 0 ≤ (x3_2 : Int) := of_decide_eq_true (by first | (with_reducible assumption) | assumption)
                          have q7 : x3_2 < (a0.size : Int) := of_decide_eq_true (by first | (with_reducible assumption) | assumption)
                          have hx7 := bt_at a0 x3_2
                          replace p7 := eq_true p7
                          replace q7 := eq_true q7
                          go_wp2
                          go_ret
                          exact ⟨by first | rfl | (simp; done) | (simp [*]; done), by repeat (first | exact Drawn0.refl _ | apply Drawn0.step)⟩
                        · rw [if_neg c12] at H
                          have c12b0 : (x3_2 == 0) = false := beq_eq_false_iff_ne.mpr c12
                          have c12b1 : (x3_2 != 0) = true := bne_iff_ne.mpr c12
                          by_cases c13 : (bt a0 x3_2) = 95
                          · rw [if_pos c13] at H
                            have c13b0 : ((bt a0 x3_2) == 95) = true := beq_iff_eq.mpr c13
                            have c13b1 : ((bt a0 x3_2) != 95) = false := bne_eq_false_iff_eq.mpr c13
                            clear c13
                            have H' := Aside0.mk H
                            clear H
                            have p7 : 0 ≤ (x3_2 : Int) := of_decide_eq_true (by first | (with_reducible assumption) | assumption)
                            have q7 : x3_2 < (a0.size : Int) := of_decide_eq_true (by first | (with_reducible assumption) | assumption)
                            have hx7 := bt_at a0 x3_2
                            replace p7 := eq_true p7
                            replace q7 := eq_true q7
                            go_wp2
                            go_roundg k2
                            case measure => have := HJ1.out; have := HK2.out; omega
                            case rel => exact ⟨(wrap64 (x3_2 + 1)), (by first | rfl | (simp; done) | (simp [*]; done)), H', ⟨by have := HJ1.out; have := HK2.out; omega⟩, by repeat (first | exact Drawn0.refl _ | apply Drawn0.step)⟩
                          · rw [if_neg c13] at H
                            have c13b0 : ((bt a0 x3_2) == 95) = false := beq_eq_false_iff_ne.mpr c13
                            have c13b1 : ((bt a0 x3_2) != 95) = true := bne_iff_ne.mpr c13
                            by_cases c14 : (bt a0 x3_2) < 48
                            · rw [if_pos c14] at H
                              have c14b0 : decide ((bt a0 x3_2) < 48) = true := decide_eq_true c14
                              clear c14
                              obtain rfl := Option.some.inj H
                              have p7 : 0 ≤ (x3_2 : Int) := of_decide_eq_true (by first | (with_reducible assumption) | assumption)
                              have q7 : x3_2 < (a0.size : Int) := of_decide_eq_true (by first | (with_reducible assumption) | assumption)
                              have hx7 := bt_at a0 x3_2
                              replace p7 := eq_true p7
                              replace q7 := eq_true q7
                              go_wp2
                              go_ret
                              exact ⟨by first | rfl | (simp; done) | (simp [*]; done), by repeat (first | exact Drawn0.refl _ | apply Drawn0.step)⟩
                            · rw [if_neg c14] at H
                              have c14b0 : decide ((bt a0 x3_2) < 48) = false := decide_eq_false c14
                              clear c14
                              by_cases c15 : (bt a0 x3_2) > 57
                              · rw [if_pos c15] at H
                                have c15b0 : decide (57 < (bt a0 x3_2)) = true := decide_eq_true c15
                                clear c15
                                obtain rfl := Option.some.inj H
                                have p7 : 0 ≤ (x3_2 : Int) := of_decide_eq_true (by first | (with_reducible assumption) | assumption)
                                have q7 : x3_2 < (a0.size : Int) := of_decide_eq_true (by first | (with_reducible assumption) | assumption)
                                have hx7 := bt_at a0 x3_2
                                replace p7 := eq_true p7
                                replace q7 := eq_true q7
                                go_wp2
                                go_ret
                                exact ⟨by first | rfl | (simp; done) | (simp [*]; done), by repeat (first | exact Drawn0.refl _ | apply Drawn0.step)⟩
                              · rw [if_neg c15] at H
                                have c15b0 : decide (57 < (bt a0 x3_2)) = false := decide_eq_false c15
                                clear c15
                                have H' := Aside0.mk H
                                clear H
                                have p7 : 0 ≤ (x3_2 : Int) := of_decide_eq_true (by first | (with_reducible assumption) | assumption)
                                have q7 : x3_2 < (a0.size : Int) := of_decide_eq_true (by first | (with_reducible assumption) | assumption)
                                have hx7 := bt_at a0 x3_2
                                replace p7 := eq_true p7
                                replace q7 := eq_true q7
                                go_wp2
                                go_roundg k2
                                case measure => have := HJ1.out; have := HK2.out; omega
                                case rel => exact ⟨(wrap64 (x3_2 + 1)), (by first | rfl | (simp; done) | (simp [*]; done)), H', ⟨by have := HJ1.out; have := HK2.out; omega⟩, by repeat (first | exact Drawn0.refl _ | apply Drawn0.step)⟩
                    · rw [if_neg c10] at H
                      have c10b0 : decide (65 ≤ (bt a0 x3_2)) = false := decide_eq_false c10
                      clear c10
                      by_cases c16 : x3_2 = 0
                      · rw [if_pos c16] at H
                        have c16b0 : (x3_2 == 0) = true := beq_iff_eq.mpr c16
                        have c16b1 : (x3_2 != 0) = false := bne_eq_false_iff_eq.mpr c16
                        clear c16
                        obtain rfl := Option.some.inj H
                        have p7 : 0 ≤ (x3_2 : Int) := of_decide_eq_true (by first | (with_reducible assumption) | assumption)
                        have q7 : x3_2 < (a0.size : Int) := of_decide_eq_true (by first | (with_reducible assumption) | assumption)
                        have hx7 := bt_at a0 x3_2
                        replace p7 := eq_true p7
                        replace q7 := eq_true q7
                        go_wp2
                        go_ret
                        exact ⟨by first | rfl | (simp; done) | (simp [*]; done), by repeat (first | exact Drawn0.refl _ | apply Drawn0.step)⟩
                      · rw [if_neg c16] at H
                        have c16b0 : (x3_2 == 0) = false := beq_eq_false_iff_ne.mpr c16
                        have c16b1 : (x3_2 != 0) = true := bne_iff_ne.mpr c16
                        by_cases c17 : (bt a0 x3_2) = 95
                        · rw [if_pos c17] at H
                          have c17b0 : ((bt a0 x3_2) == 95) = true := beq_iff_eq.mpr c17
                          have c17b1 : ((bt a0 x3_2) != 95) = false := bne_eq_false_iff_eq.mpr c17
                          clear c17
                          have H' := Aside0.mk H
                          clear H
                          have p7 : 0 ≤ (x3_2 : Int) := of_decide_eq_true (by first | (with_reducible assumption) | assumption)
                          have q7 : x3_2 < (a0.size : Int) := of_decide_eq_true (by first | (with_reducible assumption) | assumption)
                          have hx7 := bt_at a0 x3_2
                          replace p7 := eq_true p7
                          replace q7 := eq_true q7
                          go_wp2
                          go_roundg k2
                          case measure => have := HJ1.out; have := HK2.out; omega
                          case rel => exact ⟨(wrap64 (x3_2 + 1)), (by first | rfl | (simp; done) | (simp [*]; done)), H', ⟨by have := HJ1.out; have := HK2.out; omega⟩, by repeat (first | exact Drawn0.refl _ | apply Drawn0.step)⟩
                        · rw [if_neg c17] at H
                          have c17b0 : ((bt a0 x3_2) == 95) = false := beq_eq_false_iff_ne.mpr c17
                          have c17b1 : ((bt a0 x3_2) != 95) = true := bne_iff_ne.mpr c17
                          by_cases c18 : (bt a0 x3_2) < 48
                          · rw [if_pos c18] at H
                            have c18b0 : decide ((bt a0 x3_2) < 48) = true := decide_eq_true c18
                            clear c18
                            obtain rfl := Option.some.inj H
                            have p7 : 0 ≤ (x3_2 : Int) := of_decide_eq_true (by first | (with_reducible assumption) | assumption)
                            have q7 : x3_2 < (a0.size : Int) := of_decide_eq_true (by first | (with_reducible assumption) | assumption)
                            have hx7 := bt_at a0 x3_2
                            replace p7 := eq_true p7
                            replace q7 := eq_true q7
                            go_wp2
                            go_ret
                            exact ⟨by first | rfl | (simp; done) | (simp [*]; done), by repeat (first | exact Drawn0.refl _ | apply Drawn0.step)⟩
                          · rw [if_neg c18] at H
                            have c18b0 : decide ((bt a0 x3_2) < 48) = false := decide_eq_false c18
                            clear c18
                            by_cases c19 : (bt a0 x3_2) > 57
                            · rw [if_pos c19] at H
                              have c19b0 : decide (57 < (bt a0 x3_2)) = true := decide_eq_true c19
                              clear c19
                              obtain rfl := Option.some.inj H
                              have p7 : 0 ≤ (x3_2 : Int) := of_decide_eq_true (by first | (with_reducible assumption) | assumption)
                              have q7 : x3_2 < (a0.size : Int) := of_decide_eq_true (by first | (with_reducible assumption) | assumption)
                              have hx7 := bt_at a0 x3_2
                              replace p7 := eq_true p7
                              replace q7 := eq_true q7
                              go_wp2
                              go_ret
                              exact ⟨by first | rfl | (simp; done) | (simp [*]; done), by repeat (first | exact Drawn0.refl _ | apply Drawn0.step)⟩
                            · rw [if_neg c19] at H
                              have c19b0 : decide (57 < (bt a0 x3_2)) = false := decide_eq_false c19
                              clear c19
                              have H' := Aside0.mk H
                              clear H
                              have p7 : 0 ≤ (x3_2 : Int) := of_decide_eq_true (by first | (with_reducible assumption) | assumption)
                              have q7 : x3_2 < (a0.size : Int) := of_decide_eq_true (by first | (with_reducible assumption) | assumption)
                              have hx7 := bt_at a0 x3_2
                              replace p7 := eq_true p7
                              replace q7 := eq_true q7
                              go_wp2
                              go_roundg k2
                              case measure => have := HJ1.out; have := HK2.out; omega
                              case rel => exact ⟨(wrap64 (x3_2 + 1)), (by first | rfl | (simp; done) | (simp [*]; done)), H', ⟨by have := HJ1.out; have := HK2.out; omega⟩, by repeat (first | exact Drawn0.refl _ | apply Drawn0.step)⟩
                · rw [if_neg c8] at H
                  have c8b0 : decide (97 ≤ (bt a0 x3_2)) = false := decide_eq_false c8
                  clear c8
                  by_cases c20 : (bt a0 x3_2) ≥ 65
                  · rw [if_pos c20] at H
                    have c20b0 : decide (65 ≤ (bt a0 x3_2)) = true := decide_eq_true c20
                    clear c20
                    by_cases c21 : ((bt a0 x3_2) ≤ 90)
                    · rw [if_pos c21] at H
                      have c21b0 : decide ((bt a0 x3_2) ≤ 90) = true := decide_eq_true c21
                      clear c21
                      have H' := Aside0.mk H
                      clear H
                      have p7 : 0 ≤ (x3_2 : Int) := of_decide_eq_true (by first | (with_reducible assumption) | assumption)
                      have q7 : x3_2 < (a0.size : Int) := of_decide_eq_true (by first | (with_reducible assumption) | assumption)
                      have hx7 := bt_at a0 x3_2
                      replace p7 := eq_true p7
                      replace q7 := eq_true q7
                      go_wp2
                      go_roundg k2
                      case measure => have := HJ1.out; have := HK2.out; omega
                      case rel => exact ⟨(wrap64 (x3_2 + 1)), (by first | rfl | (simp; done) | (simp [*]; done)), H', ⟨by have := HJ1.out; have := HK2.out; omega⟩, by repeat (first | exact Drawn0.refl _ | apply Drawn0.step)⟩
                    · rw [if_neg c21] at H
                      have c21b0 : decide ((bt a0 x3_2) ≤ 90) = false := decide_eq_false c21
                      clear c21
                      by_cases c22 : x3_2 = 0
                      · rw [if_pos c22] at H
                        have c22b0 : (x3_2 == 0) = true := beq_iff_eq.mpr c22
                        have c22b1 : (x3_2 != 0) = false := bne_eq_false_iff_eq.mpr c22
                        clear c22
                        obtain rfl := Option.some.inj H
                        have p7 : 0 ≤ (x3_2 : Int) := of_decide_eq_true (by first | (with_reducible assumption) | assumption)
                        have q7 : x3_2 < (a0.size : Int) := of_decide_eq_true (by first | (with_reducible assumption) | assumption)
                        have hx7 := bt_at a0 x3_2
                        replace p7 := eq_true p7
                        replace q7 := eq_true q7
                        go_wp2
                        go_ret
                        exact ⟨by first | rfl | (simp; done) | (simp [*]; done), by repeat (first | exact Drawn0.refl _ | apply Drawn0.step)⟩
                      · rw [if_neg c22] at H
                        have c22b0 : (x3_2 == 0) = false := beq_eq_false_iff_ne.mpr c22
                        have c22b1 : (x3_2 != 0) = true := bne_iff_ne.mpr c22
                        by_cases c23 : (bt a0 x3_2) = 95
                        · rw [if_pos c23] at H
                          have c23b0 : ((bt a0 x3_2) == 95) = true := beq_iff_eq.mpr c23
                          have c23b1 : ((bt a0 x3_2) != 95) = false := bne_eq_false_iff_eq.mpr c23
                          clear c23
                          have H' := Aside0.mk H
                          clear H
                          have p7 : 0 ≤ (x3_2 : Int) := of_decide_eq_true (by first | (with_reducible assumption) | assumption)
                          have q7 : x3_2 < (a0.size : Int) := of_decide_eq_true (by first | (with_reducible assumption) | assumption)
                          have hx7 := bt_at a0 x3_2
                          replace p7 := eq_true p7
                          replace q7 := eq_true q7
                          go_wp2
                          go_roundg k2
                          case measure => have := HJ1.out; have := HK2.out; omega
                          case rel => exact ⟨(wrap64 (x3_2 + 1)), (by first | rfl | (simp; done) | (simp [*]; done)), H', ⟨by have := HJ1.out; have := HK2.out; omega⟩, by repeat (first | exact Drawn0.refl _ | apply Drawn0.step)⟩
                        · rw [if_neg c23] at H
                          have c23b0 : ((bt a0 x3_2) == 95) = false := beq_eq_false_iff_ne.mpr c23
                          have c23b1 : ((bt a0 x3_2) != 95) = true := bne_iff_ne.mpr c23
                          by_cases c24 : (bt a0 x3_2) < 48
                          · rw [if_pos c24] at H
                            have c24b0 : decide ((bt a0 x3_2) < 48) = true := decide_eq_true c24
                            clear c24
                            obtain rfl := Option.some.inj H
                            have p7 : 0 ≤ (x3_2 : Int) := of_decide_eq_true (by first | (with_reducible assumption) | assumption)
                            have q7 : x3_2 < (a0.size : Int) := of_decide_eq_true (by first | (with_reducible assumption) | assumption)
                            have hx7 := bt_at a0 x3_2
                            replace p7 := eq_true p7
                            replace q7 := eq_true q7
                            go_wp2
                            go_ret
                            exact ⟨by first | rfl | (simp; done) | (simp [*]; done), by repeat (first | exact Drawn0.refl _ | apply Drawn0.step)⟩
                          · rw [if_neg c24] at H
                            have c24b0 : decide ((bt a0 x3_2) < 48) = false := decide_eq_false c24
                            clear c24
                            by_cases c25 : (bt a0 x3_2) > 57
                            · rw [if_pos c25] at H
                              have c25b0 : decide (57 < (bt a0 x3_2)) = true := decide_eq_true c25
                              clear c25
                              obtain rfl := Option.some.inj H
                              have p7 : 0 ≤ (x3_2 : Int) := of_decide_eq_true (by first | (with_reducible assumption) | assumption)
                              have q7 : x3_2 < (a0.size : Int) := of_decide_eq_true (by first | (with_reducible assumption) | assumption)
                              have hx7 := bt_at a0 x3_2
                              replace p7 := eq_true p7
                              replace q7 := eq_true q7
                              go_wp2
                              go_ret
                              exact ⟨by first | rfl | (simp; done) | (simp [*]; done), by repeat (first | exact Drawn0.refl _ | apply Drawn0.step)⟩
                            · rw [if_neg c25] at H
                              have c25b0 : decide (57 < (bt a0 x3_2)) = false := decide_eq_false c25
                              clear c25
                              have H' := Aside0.mk H
                              clear H
                              have p7 : 0 ≤ (x3_2 : Int) := of_decide_eq_true (by first | (with_reducible assumption) | assumption)
                              have q7 : x3_2 < (a0.size : Int) := of_decide_eq_true (by first | (with_reducible assumption) | assumption)
                              have hx7 := bt_at a0 x3_2
                              replace p7 := eq_true p7
                              replace q7 := eq_true q7
                              go_wp2
                              go_roundg k2
                              case measure => have := HJ1.out; have := HK2.out; omega
                              case rel => exact ⟨(wrap64 (x3_2 + 1)), (by first | rfl | (simp; done) | (simp [*]; done)), H', ⟨by have := HJ1.out; have := HK2.out; omega⟩, by repeat (first | exact Drawn0.refl _ | apply Drawn0.step)⟩
                  · rw [if_neg c20] at H
                    have c20b0 : decide (65 ≤ (bt a0 x3_2)) = false := decide_eq_false c20
                    clear c20
                    by_cases c26 : x3_2 = 0
                    · rw [if_pos c26] at H
                      have c26b0 : (x3_2 == 0) = true := beq_iff_eq.mpr c26
                      have c26b1 : (x3_2 != 0) = false := bne_eq_false_iff_eq.mpr c26
                      clear c26
                      obtain rfl := Option.some.inj H
                      have p7 : 0 ≤ (x3_2 : Int) := of_decide_eq_true (by first | (with_reducible assumption) | assumption)
                      have q7 : x3_2 < (a0.size : Int) := of_decide_eq_true (by first | (with_reducible assumption) | assumption)
                      have hx7 := bt_at a0 x3_2
                      replace p7 := eq_true p7
                      replace q7 := eq_true q7
                      go_wp2
                      go_ret
                      exact ⟨by first | rfl | (simp; done) | (simp [*]; done), by repeat (first | exact Drawn0.refl _ | apply Drawn0.step)⟩
                    · rw [if_neg c26] at H
                      have c26b0 : (x3_2 == 0) = false := beq_eq_false_iff_ne.mpr c26
                      have c26b1 : (x3_2 != 0) = true := bne_iff_ne.mpr c26
                      by_cases c27 : (bt a0 x3_2) = 95
                      · rw [if_pos c27] at H
                        have c27b0 : ((bt a0 x3_2) == 95) = true := beq_iff_eq.mpr c27
                        have c27b1 : ((bt a0 x3_2) != 95) = false := bne_eq_false_iff_eq.mpr c27
                        clear c27
                        have H' := Aside0.mk H
                        clear H
                        have p7 : 0 ≤ (x3_2 : Int) := of_decide_eq_true (by first | (with_reducible assumption) | assumption)
                        have q7 : x3_2 < (a0.size : Int) := of_decide_eq_true (by first | (with_reducible assumption) | assumption)
                        have hx7 := bt_at a0 x3_2
                        replace p7 := eq_true p7
                        replace q7 := eq_true q7
                        go_wp2
                        go_roundg k2
                        case measure => have := HJ1.out; have := HK2.out; omega
                        case rel => exact ⟨(wrap64 (x3_2 + 1)), (by first | rfl | (simp; done) | (simp [*]; done)), H', ⟨by have := HJ1.out; have := HK2.out; omega⟩, by repeat (first | exact Drawn0.refl _ | apply Drawn0.step)⟩
                      · rw [if_neg c27] at H
                        have c27b0 : ((bt a0 x3_2) == 95) = false := beq_eq_false_iff_ne.mpr c27
                        have c27b1 : ((bt a0 x3_2) != 95) = true := bne_iff_ne.mpr c27
                        by_cases c28 : (bt a0 x3_2) < 48
                        · rw [if_pos c28] at H
                          have c28b0 : decide ((bt a0 x3_2) < 48) = true := decide_eq_true c28
                          clear c28
                          obtain rfl := Option.some.inj H
                          have p7 : 0 ≤ (x3_2 : Int) := of_decide_eq_true (by first | (with_reducible assumption) | assumption)
                          have q7 : x3_2 < (a0.size : Int) := of_decide_eq_true (by first | (with_reducible assumption) | assumption)
                          have hx7 := bt_at a0 x3_2
                          replace p7 := eq_true p7
                          replace q7 := eq_true q7
                          go_wp2
                          go_ret
                          exact ⟨by first | rfl | (simp; done) | (simp [*]; done), by repeat (first | exact Drawn0.refl _ | apply Drawn0.step)⟩
                        · rw [if_neg c28] at H
                          have c28b0 : decide ((bt a0 x3_2) < 48) = false := decide_eq_false c28
                          clear c28
                          by_cases c29 : (bt a0 x3_2) > 57
                          · rw [if_pos c29] at H
                            have c29b0 : decide (57 < (bt a0 x3_2)) = true := decide_eq_true c29
                            clear c29
                            obtain rfl := Option.some.inj H
                            have p7 : 0 ≤ (x3_2 : Int) := of_decide_eq_true (by first | (with_reducible assumption) | assumption)
                            have q7 : x3_2 < (a0.size : Int) := of_decide_eq_true (by first | (with_reducible assumption) | assumption)
                            have hx7 := bt_at a0 x3_2
                            replace p7 := eq_true p7
                            replace q7 := eq_true q7
                            go_wp2
                            go_ret
                            exact ⟨by first | rfl | (simp; done) | (simp [*]; done), by repeat (first | exact Drawn0.refl _ | apply Drawn0.step)⟩
                          · rw [if_neg c29] at H
                            have c29b0 : decide (57 < (bt a0 x3_2)) = false := decide_eq_false c29
                            clear c29
                            have H' := Aside0.mk H
                            clear H
                            have p7 : 0 ≤ (x3_2 : Int) := of_decide_eq_true (by first | (with_reducible assumption) | assumption)
                            have q7 : x3_2 < (a0.size : Int) := of_decide_eq_true (by first | (with_reducible assumption) | assumption)
                            have hx7 := bt_at a0 x3_2
                            replace p7 := eq_true p7
                            replace q7 := eq_true q7
                            go_wp2
                            go_roundg k2
                            case measure => have := HJ1.out; have := HK2.out; omega
                            case rel => exact ⟨(wrap64 (x3_2 + 1)), (by first | rfl | (simp; done) | (simp [*]; done)), H', ⟨by have := HJ1.out; have := HK2.out; omega⟩, by repeat (first | exact Drawn0.refl _ | apply Drawn0.step)⟩
              · rw [if_neg c6] at H
                exact absurd H (by simp)
            · rw [if_neg c5] at H
              have c5b0 : decide (x3_2 < (a0.size : Int)) = false := decide_eq_false c5
              clear c5
              obtain rfl := Option.some.inj H
              go_wp2
              go_ret
              exact ⟨by first | rfl | (simp; done) | (simp [*]; done), by repeat (first | exact Drawn0.refl _ | apply Drawn0.step)⟩

def slices_Clone_byte_byte.f (l0 : List Int) : Option (List Int) := if l0.length < 140737488355328 then some l0 else none
set_option maxHeartbeats 800000 in
set_option maxRecDepth 100000 in
theorem slices_Clone_byte_byte.calls (A0 : Option Addr) (c0 : Nat) (l0 : List Int) (r : List Int) (w : World) (hr0 : Kd.C (Kd.int .u8) w A0 l0.length l0) (hc0 : l0.length ≤ c0) (h : slices_Clone_byte_byte.f l0 = some r) :
    Calls Try.prog 17 #[.slice A0 l0.length c0] w fun e w' => ∃ v0_ : Value, e = .returned v0_ ∧ Kd.R (Kd.int .u8) 5 w' w.heap.size (fun _ => True) v0_ r ∧ Below w.heap.size w w' := by
  obtain ⟨hlim, rfl⟩ : l0.length < 140737488355328 ∧ r = l0 := by
    unfold slices_Clone_byte_byte.f at h
    split at h
    · rename_i h9
      exact ⟨h9, (Option.some.inj h).symm⟩
    · cases h
  have hnil := Lib.run_eql_slice_nil (P := Try.prog) (h := Try.underlying23)
  have HR := Aside0.mk hr0
  have HL := Aside0.mk hlim
  cases A0 with
  | none =>
    have e0 : r = [] := by
      rcases Nat.eq_zero_or_pos r.length with h0 | h0
      · exact List.length_eq_zero_iff.1 h0
      · obtain ⟨ad, e, _⟩ := hr0.2.2 h0
        cases e
    have E0 := Aside0.mk e0
    clear h hr0 hlim e0
    go_enter Try.func17, Try.ntmps17
    go_wp2
    go_ret
    refine ⟨_, rfl, ?_, Below.refl _ _⟩
    rw [E0.out]
    exact Kd.R_nil _ _ _ _ _
  | some ad =>
    clear h hr0 hlim
    go_enter Try.func17, Try.ntmps17
    go_wp2_with (first | ((with_reducible refine gate_dst (N := 5) rfl ?_); refine Kd.R_lit (Kd.int .u8) _ 5 ?hg (N := 5) ?hd (xs := ([] : List Int)) (inner := []) (ok := fun _ => True) (okp := fun _ => True) ?hr ?hp (fun _ hk => hk) trivial (Below.refl _ _) (Nat.le_refl _) (by simp) ?_; (case hd => rfl); (case hg => rfl); (case hr => first | (go_simp; done) | (go_simp; rfl)); (case hp => exact (Reps.none _ _)); intro v1 w1 ho1 hb1 _ _; have n1 := Aside0.mk ho1; have n2 := Aside0.mk hb1; clear ho1 hb1; obtain ⟨A1, c1, e1⟩ := Kd.R_slice n1.out; subst e1) | ((with_reducible refine gate_builtin (b := .append) (xs := #[.tmp 5, .tmp 6]) rfl ?_); at_builtin; refine Kd.R_append_rows (Kd.int .u8) (w0 := w) w.heap.size rfl (.tmp 5) (.tmp 6) 23 5 (.int .u8 0) 1 rfl Try.underlying23 info5 rfl (by decide) (by omega) (.slice A1 (([] : List Int)).length c1) ([] : List Int) r _ _ _ (fun _ => True) (fun _ => False) rfl rfl ?aO ?aR (fun _ _ h => h) (fun _ h => h.elim) ?aF ?aB ?aS ?aL ?_; (case aR => exact Kd.C_below HR.out n2.out); (case aB => exact n2.out); (case aF => exact (fun _ _ => trivial)); (case aO => exact n1.out); (case aS => exact n2.out.size); (case aL => have h9 := HL.out; simp only [List.length_nil]; omega); intro v2 w2 ho2 hb2 _ _; have n3 := Aside0.mk ho2; have n4 := Aside0.mk hb2; clear ho2 hb2))
    go_ret
    exact ⟨_, rfl, n3.out, n4.out⟩

theorem C_of_lit {W : World} {gb : Nat} {cs : Array Value} {t : TypeId} {xs : List Int} (h : W.heap[gb]? = some (.cells cs t (0, 0))) (hl : xs.length ≤ 9223372036854775807) (hx : ∀ (j : Nat) (p : Int), xs[j]? = some p → cs[j]? = some (.int .u8 p)) : Kd.C (Kd.int .u8) W (some ⟨gb, 0, none⟩) xs.length xs :=
  ⟨rfl, hl, fun _ => ⟨⟨gb, 0, none⟩, rfl, fun j p hj => ⟨[.int .u8 p], rfl, rfl, fun i u hu => by
    cases i with
    | zero =>
      obtain rfl := Option.some.inj hu
      have h2 := (blk_cell h j).trans (hx j p hj)
      rcases Nat.eq_zero_or_pos j with rfl | hj0
      · simpa [Addr.add, show (Kd.int .u8).sz = 1 from rfl] using h2
      · have : ¬ j = 0 := by omega
        simpa [Addr.add, show (Kd.int .u8).sz = 1 from rfl, this] using h2
    | succ i => cases hu⟩⟩⟩
set_option maxHeartbeats 1600000 in
set_option maxRecDepth 100000 in
theorem Roomy_calls (A0 : Option Addr) (c0 : Nat) (l0 : List Int) (w : World) (hr0 : Kd.C (Kd.int .u8) w A0 l0.length l0) (hc0 : l0.length ≤ c0) (hlim : l0.length ≤ 140737488351232) :
    Calls Try.prog 13 #[.slice A0 l0.length c0] w fun e w' => ∃ A c, e = .returned (.tuple #[.slice A l0.length c, .slice A (l0.length + 4) c]) ∧ l0.length + 4 ≤ c ∧ Kd.R (Kd.int .u8) 5 w' w.heap.size (fun _ => True) (.slice A (l0.length + 4) c) (l0 ++ [165, 90, 195, 60]) ∧ Below w.heap.size w w' := by
  have HR := Aside0.mk hr0
  have HC := Aside0.mk hc0
  have HL := Aside0.mk hlim
  have HCL : Aside0 (slices_Clone_byte_byte.f l0 = some l0) := ⟨by unfold slices_Clone_byte_byte.f; rw [if_pos (by omega)]⟩
  clear hr0 hc0
  go_enter Try.func13, Try.ntmps13
  go_wp2_with fail
  refine (slices_Clone_byte_byte.calls A0 c0 l0 l0 _ HR.out HC.out HCL.out).mono ?_
  rintro e w1 ⟨v, rfl, hR, hb⟩
  obtain ⟨A1, c1, rfl⟩ := Kd.R_slice hR
  have n1 := Aside0.mk (Kd.R_below hR (below_alloc (Below.refl _ _) (.cells #[.int .u8 165, .int .u8 90, .int .u8 195, .int .u8 60] 5)))
  have n2 := Aside0.mk (below_alloc hb (.cells #[.int .u8 165, .int .u8 90, .int .u8 195, .int .u8 60] 5))
  have n3 : Aside0 (Kd.C (Kd.int .u8) (w1.alloc (.cells #[.int .u8 165, .int .u8 90, .int .u8 195, .int .u8 60] 5)) (some ⟨w1.heap.size, 0, none⟩) [165, 90, 195, 60].length [165, 90, 195, 60]) := ⟨C_of_lit (blk_new _ _) (by decide) (fun j p hj => by
    match j, hj with
    | 0, hj => obtain rfl := Option.some.inj hj; rfl
    | 1, hj => obtain rfl := Option.some.inj hj; rfl
    | 2, hj => obtain rfl := Option.some.inj hj; rfl
    | 3, hj => obtain rfl := Option.some.inj hj; rfl
    | j + 4, hj => simp at hj)⟩
  clear hR hb
  go_wp2_with (first | ((with_reducible refine gate_builtin (b := .append) (xs := #[.tmp 6, .tmp 7]) rfl ?_); at_builtin; refine Kd.R_append_rows (Kd.int .u8) (w0 := w) w.heap.size rfl (.tmp 6) (.tmp 7) 23 5 (.int .u8 0) 1 rfl Try.underlying23 info5 rfl (by decide) (by omega) (.slice A1 l0.length c1) l0 [165, 90, 195, 60] (some ⟨w1.heap.size, 0, none⟩) 4 4 (fun _ => True) (fun _ => False) rfl rfl n1.out n3.out (fun _ _ h => h) (fun _ h => h.elim) (fun _ _ => trivial) n2.out n2.out.size (by have := HL.out; omega) ?_; intro v1 w2 ho hb hg hat; obtain ⟨Av, cv, hcl, e7⟩ : ∃ A c, l0.length + 4 ≤ c ∧ v1 = .slice A (l0.length + 4) c := (by obtain ⟨A, c, e, h, _⟩ := Kd.R_reads ho; rw [List.length_append] at e h; exact ⟨A, c, h, e⟩); subst e7; have HO := Aside0.mk ho; have HB := Aside0.mk hb; have p1 : l0.length ≤ cv := (by omega); clear ho hb hg hat))
  go_ret2
  exact ⟨Av, cv, rfl, hcl, HO.out, HB.out⟩

section
variable {P : Program} {ops : Array Oper} {rest : List Oper} {o : Oper} {a : Act} {Q : Exit → Act → World → Prop}
theorem run_alloc_row {W : World} {t : TypeId} (ho : o.op = .alloc t) (cs : Array Value) (hz : (P.info? t).map (·.zero) = some (some (.agg cs))) : (execOp a.eval o).run P W = .ok (.value (.pointer (some ⟨W.heap.size, 0, none⟩))) (W.alloc (.cells cs t (0, 0))) := by
  unfold execOp
  cases hq : P.info? t with
  | none => simp [hq] at hz
  | some i =>
    have hs : i.zero = some (.agg cs) := by simpa [hq] using hz
    simp only [ho]
    simp [Instr.alloc, zeroValue, typeInfo, hq, hs, newVar, newRow, Value.cells, Sem.run_bind]
theorem alloc_row (hgd : o.guard = none) {W : World} (t : TypeId) (ho : o.op = .alloc t) (cs : Array Value) (hz : (P.info? t).map (·.zero) = some (some (.agg cs)))
    (h : ∀ g, g = W.heap.size → ∀ w1, w1.heap[g]? = some (.cells cs t (0, 0)) → Below W.heap.size W w1 → wpList P ops Q rest (a.put o.dst (.pointer (some ⟨g, 0, none⟩))) w1) : wpList P ops Q (o :: rest) a W :=
  Kd.event_run hgd (run_alloc_row ho cs hz) (h _ rfl _ (blk_new W _) (below_alloc (Below.refl _ _) _))
theorem store_row (hgd : o.guard = none) {W : World} (ty : TypeId) (x y : Operand) (ho : o.op = .store ty x y) (g : Nat) (hx : a.eval x = .pointer (some ⟨g, 0, none⟩)) (cs : Array Value) (hy : a.eval y = .agg cs)
    {t : TypeId} {old : Array Value} (hb : W.heap[g]? = some (.cells old t (0, 0))) (hi : (P.info? ty).map (·.size) = some cs.size) (hs : old.size = cs.size) (h1 : cs.all (·.oneCell') = true)
    (h : ∀ w1, w1.heap[g]? = some (.cells cs t (0, 0)) → Kept W w1 (fun k => k = g) → (∀ (B : Nat) (w0 : World), B ≤ g → Below B w0 W → Below B w0 w1) → wpList P ops Q rest (a.put o.dst undef) w1) : wpList P ops Q (o :: rest) a W := by
  refine wpList_plain hgd fun K hK => ?_
  unfold Oper.wp execOp
  simp only [ho, hx, hy, Instr.storeAt, Instr.sureAddr, Sem.run_bind, Sem.run_pure, Result.andThen_ok, run_storeVar_row W g t ty old cs hb hi hs h1]
  refine hK _ _ (h _ (setRow_heap W g old cs t (0, 0) hb) ⟨by simp, fun i _ hn => setRow_other W g i cs hn⟩ (fun B w0 hB hw => ⟨hw.os, hw.tape, hw.output, by simpa using hw.size, fun k hk => (setRow_other W g k cs (by omega)).trans (hw.block k hk)⟩))
end
theorem Kd.R_from_ {base : Nat} {W : World} {ok : Nat → Prop} {v : Value} {xs : List Int} (h : Kd.R (Kd.int .u8) 5 W base ok v xs) (k : Nat) (hk : v.ownBlock = some k) : base ≤ k := by
  obtain ⟨_, inner, ho, _⟩ := h
  exact own_base ho k hk


end Go.Proofs.Ytklbkonehcjmjaa.P

end

section
namespace Go.Proofs.Ytklbkonehcjmjaa.P
open Go.RowKit Go.Proofs.YtklbkonehcjmjaaW.PrintWords Go.Proofs.YtklbkonehcjmjaaW.PrintLast Go.Proofs.YtklbkonehcjmjaaW.PrintMore
attribute [local go_sem] max2_int min2_int max_two min_two max_three min_three max_four min_four   -- for this text's walks alone
set_option linter.unusedVariables false
set_option linter.unusedSimpArgs false

def slices_Equal_byte_byte.l0 : Nat → List Int → List Int → Int → Int → Option (Bool)
  | 0, _, _, _, _ => none
  | k + 1, x0, x1, x12, x13 => if x13 < x12 then (if 0 ≤ x13 then (if x13 < (x0.length : Int) then (if x13 < (x1.length : Int) then (if (rd x0 x13) = (rd x1 x13) then (slices_Equal_byte_byte.l0 k x0 x1 x12 (wrap64 (x13 + 1))) else (some false)) else (none)) else (none)) else (none)) else (some true)
def slices_Equal_byte_byte.f (k : Nat) (l0 : List Int) (l1 : List Int) : Option (Bool) := if (l0.length : Int) = (l1.length : Int) then (slices_Equal_byte_byte.l0 k l0 l1 (l0.length : Int) 0) else (some false)
set_option maxHeartbeats 8000000 in
set_option maxRecDepth 100000 in
theorem slices_Equal_byte_byte.calls (k : Nat) (A0 : Option Addr) (c0 : Nat) (l0 : List Int) (A1 : Option Addr) (c1 : Nat) (l1 : List Int) (r : Bool) (w : World) (hr0 : Kd.C (Kd.int .u8) w A0 l0.length l0) (hc0 : l0.length ≤ c0) (hr1 : Kd.C (Kd.int .u8) w A1 l1.length l1) (hc1 : l1.length ≤ c1) (h : slices_Equal_byte_byte.f k l0 l1 = some r) :
    Calls Try.prog 28 #[.slice A0 l0.length c0, .slice A1 l1.length c1] w fun e w' => e = .returned (.bool r) ∧ Drawn0 w w' := by
  have HR0 := Aside0.mk hr0
  have HC0 := Aside0.mk hc0
  clear hr0 hc0
  have HR1 := Aside0.mk hr1
  have HC1 := Aside0.mk hc1
  clear hr1 hc1
  have H : (if (l0.length : Int) = (l1.length : Int) then (slices_Equal_byte_byte.l0 k l0 l1 (l0.length : Int) 0) else (some false)) = some r := h
  clear h
  by_cases c3 : (l0.length : Int) = (l1.length : Int)
  · rw [if_pos c3] at H
    have c3b0 : ((l0.length : Int) == (l1.length : Int)) = true := beq_iff_eq.mpr c3
    have c3b1 : ((l0.length : Int) != (l1.length : Int)) = false := bne_eq_false_iff_eq.mpr c3
    have c3b2 : (l0.length == l1.length) = true := by first | simpa using c3 | (simp at c3 ⊢; omega)
    clear c3
    have H' := Aside0.mk H
    clear H
    go_enter Try.func28, Try.ntmps28
    go_wp2
    repeat (go_quiet (fail); try go_wp2)
    go_loopg [13] k (fun kq v13 w' => ∃ (x13_1 : Int), v13 = .int .i64 x13_1 ∧ Aside0 (slices_Equal_byte_byte.l0 kq l0 l1 (l0.length : Int) x13_1 = some r) ∧ Aside0 (kq ≤ k) ∧ Drawn0 w w')
    case atStart => exact ⟨(0), (by first | rfl | (simp; done) | (simp [*]; done)), H', ⟨Nat.le_refl _⟩, by repeat (first | exact Drawn0.refl _ | apply Drawn0.step)⟩
    case round =>
      clear H'
      try clear c1
      try clear c2
      try clear p2
      try clear c3
      try clear c3b0
      try clear c3b1
      try clear c3b2
      obtain ⟨x13_1, rfl, HA, HK1, ⟨m1, rfl⟩⟩ := hrel
      cases gk with
      | zero => exact absurd HA.out (by simp [slices_Equal_byte_byte.l0])
      | succ k1 =>
        have H := HA.out
        clear HA
        simp only [slices_Equal_byte_byte.l0] at H
        by_cases c4 : x13_1 < (l0.length : Int)
        · rw [if_pos c4] at H
          have c4b0 : decide (x13_1 < (l0.length : Int)) = true := decide_eq_true c4
          clear c4
          by_cases c5 : 0 ≤ x13_1
          · rw [if_pos c5] at H
            have c5b0 : decide (0 ≤ x13_1) = true := decide_eq_true c5
            clear c5
            by_cases c6 : x13_1 < (l0.length : Int)
            · rw [if_pos c6] at H
              have c6b0 : decide (x13_1 < (l0.length : Int)) = true := decide_eq_true c6
              clear c6
              by_cases c7 : x13_1 < (l1.length : Int)
              · rw [if_pos c7] at H
                have c7b0 : decide (x13_1 < (l1.length : Int)) = true := decide_eq_true c7
                clear c7
                by_cases c8 : (rd l0 x13_1) = (rd l1 x13_1)
                · rw [if_pos c8] at H
                  have c8b0 : ((rd l0 x13_1) == (rd l1 x13_1)) = true := beq_iff_eq.mpr c8
                  have c8b1 : ((rd l0 x13_1) != (rd l1 x13_1)) = false := bne_eq_false_iff_eq.mpr c8
                  clear c8
                  have H' := Aside0.mk H
                  clear H
                  have p104 : 0 ≤ (x13_1 : Int) := of_decide_eq_true (by first | (with_reducible assumption) | assumption)
                  have q104 : x13_1 < (l0.length : Int) := of_decide_eq_true (by first | (with_reducible assumption) | assumption)
                  obtain ⟨ad104, e104, hx104_0⟩ := Kd.at_int HR0.out x13_1 p104 q104
                  cases e104
                  replace p104 := eq_true p104
                  replace q104 := eq_true q104
                  have p105 : 0 ≤ (x13_1 : Int) := of_decide_eq_true (by first | (with_reducible assumption) | assumption)
                  have q105 : x13_1 < (l1.length : Int) := of_decide_eq_true (by first | (with_reducible assumption) | assumption)
                  obtain ⟨ad105, e105, hx105_0⟩ := Kd.at_int HR1.out x13_1 p105 q105
                  cases e105
                  replace p105 := eq_true p105
                  replace q105 := eq_true q105
                  go_wp2
                  repeat (go_quiet (fail); try go_wp2)
                  go_roundg k1
                  case measure => have := HK1.out; omega
                  case rel => exact ⟨(wrap64 (x13_1 + 1)), (by first | rfl | (simp; done) | (simp [*]; done)), H', ⟨by have := HK1.out; omega⟩, by repeat (first | exact Drawn0.refl _ | apply Drawn0.step)⟩
                · rw [if_neg c8] at H
                  have c8b0 : ((rd l0 x13_1) == (rd l1 x13_1)) = false := beq_eq_false_iff_ne.mpr c8
                  have c8b1 : ((rd l0 x13_1) != (rd l1 x13_1)) = true := bne_iff_ne.mpr c8
                  obtain rfl := Option.some.inj H
                  have p104 : 0 ≤ (x13_1 : Int) := of_decide_eq_true (by first | (with_reducible assumption) | assumption)
                  have q104 : x13_1 < (l0.length : Int) := of_decide_eq_true (by first | (with_reducible assumption) | assumption)
                  obtain ⟨ad104, e104, hx104_0⟩ := Kd.at_int HR0.out x13_1 p104 q104
                  cases e104
                  replace p104 := eq_true p104
                  replace q104 := eq_true q104
                  have p105 : 0 ≤ (x13_1 : Int) := of_decide_eq_true (by first | (with_reducible assumption) | assumption)
                  have q105 : x13_1 < (l1.length : Int) := of_decide_eq_true (by first | (with_reducible assumption) | assumption)
                  obtain ⟨ad105, e105, hx105_0⟩ := Kd.at_int HR1.out x13_1 p105 q105
                  cases e105
                  replace p105 := eq_true p105
                  replace q105 := eq_true q105
                  go_wp2
                  repeat (go_quiet (fail); try go_wp2)
                  go_ret
                  exact ⟨by first | rfl | (simp; done) | (simp [*]; done), by repeat (first | exact Drawn0.refl _ | apply Drawn0.step)⟩
              · rw [if_neg c7] at H
                exact absurd H (by simp)
            · rw [if_neg c6] at H
              exact absurd H (by simp)
          · rw [if_neg c5] at H
            exact absurd H (by simp)
        · rw [if_neg c4] at H
          have c4b0 : decide (x13_1 < (l0.length : Int)) = false := decide_eq_false c4
          clear c4
          obtain rfl := Option.some.inj H
          go_wp2
          repeat (go_quiet (fail); try go_wp2)
          go_ret
          exact ⟨by first | rfl | (simp; done) | (simp [*]; done), by repeat (first | exact Drawn0.refl _ | apply Drawn0.step)⟩
  · rw [if_neg c3] at H
    have c3b0 : ((l0.length : Int) == (l1.length : Int)) = false := beq_eq_false_iff_ne.mpr c3
    have c3b1 : ((l0.length : Int) != (l1.length : Int)) = true := bne_iff_ne.mpr c3
    have c3b2 : (l0.length == l1.length) = false := by first | simpa using c3 | (simp at c3 ⊢; omega)
    obtain rfl := Option.some.inj H
    go_enter Try.func28, Try.ntmps28
    go_wp2
    repeat (go_quiet (fail); try go_wp2)
    go_ret
    exact ⟨by first | rfl | (simp; done) | (simp [*]; done), by repeat (first | exact Drawn0.refl _ | apply Drawn0.step)⟩

def provisoplain_Untouched.f (k : Nat) (l0 : List Int) (l1 : List Int) : Option (Bool) := if 0 ≤ (l1.length : Int) then (if (l1.length : Int) ≤ (l0.length : Int) then ((slices_Equal_byte_byte.f k (l0.take ((l1.length : Int) : Int).toNat) l1).bind fun t107 => (if t107 = true then (if (l1.length : Int) < (l0.length : Int) then (if (rd l0 (l1.length : Int)) = 165 then (if 0 ≤ (wrap64 ((l1.length : Int) + 1)) then (if (wrap64 ((l1.length : Int) + 1)) < (l0.length : Int) then (if (rd l0 (wrap64 ((l1.length : Int) + 1))) = 90 then (if 0 ≤ (wrap64 ((l1.length : Int) + 2)) then (if (wrap64 ((l1.length : Int) + 2)) < (l0.length : Int) then (if (rd l0 (wrap64 ((l1.length : Int) + 2))) = 195 then (if 0 ≤ (wrap64 ((l1.length : Int) + 3)) then (if (wrap64 ((l1.length : Int) + 3)) < (l0.length : Int) then (some ((rd l0 (wrap64 ((l1.length : Int) + 3))) == 60)) else (none)) else (none)) else (some false)) else (none)) else (none)) else (some false)) else (none)) else (none)) else (some false)) else (none)) else (some false))) else (none)) else (none)
set_option maxHeartbeats 8000000 in
set_option maxRecDepth 100000 in
theorem provisoplain_Untouched.calls (k : Nat) (A0 : Option Addr) (c0 : Nat) (l0 : List Int) (A1 : Option Addr) (c1 : Nat) (l1 : List Int) (r : Bool) (w : World) (hr0 : Kd.C (Kd.int .u8) w A0 l0.length l0) (hc0 : l0.length ≤ c0) (hr1 : Kd.C (Kd.int .u8) w A1 l1.length l1) (hc1 : l1.length ≤ c1) (h : provisoplain_Untouched.f k l0 l1 = some r) :
    Calls Try.prog 16 #[.slice A0 l0.length c0, .slice A1 l1.length c1] w fun e w' => e = .returned (.bool r) ∧ Drawn0 w w' := by
  have HR0 := Aside0.mk hr0
  have HC0 := Aside0.mk hc0
  clear hr0 hc0
  have HR1 := Aside0.mk hr1
  have HC1 := Aside0.mk hc1
  clear hr1 hc1
  have H : (if 0 ≤ (l1.length : Int) then (if (l1.length : Int) ≤ (l0.length : Int) then ((slices_Equal_byte_byte.f k (l0.take ((l1.length : Int) : Int).toNat) l1).bind fun t107 => (if t107 = true then (if (l1.length : Int) < (l0.length : Int) then (if (rd l0 (l1.length : Int)) = 165 then (if 0 ≤ (wrap64 ((l1.length : Int) + 1)) then (if (wrap64 ((l1.length : Int) + 1)) < (l0.length : Int) then (if (rd l0 (wrap64 ((l1.length : Int) + 1))) = 90 then (if 0 ≤ (wrap64 ((l1.length : Int) + 2)) then (if (wrap64 ((l1.length : Int) + 2)) < (l0.length : Int) then (if (rd l0 (wrap64 ((l1.length : Int) + 2))) = 195 then (if 0 ≤ (wrap64 ((l1.length : Int) + 3)) then (if (wrap64 ((l1.length : Int) + 3)) < (l0.length : Int) then (some ((rd l0 (wrap64 ((l1.length : Int) + 3))) == 60)) else (none)) else (none)) else (some false)) else (none)) else (none)) else (some false)) else (none)) else (none)) else (some false)) else (none)) else (some false))) else (none)) else (none)) = some r := h
  clear h
  by_cases c3 : 0 ≤ (l1.length : Int)
  · rw [if_pos c3] at H
    have c3b0 := eq_true c3
    have c3b1 : decide (0 ≤ (l1.length : Int)) = true := decide_eq_true c3
    clear c3
    by_cases c4 : (l1.length : Int) ≤ (l0.length : Int)
    · rw [if_pos c4] at H
      have c4b0 := eq_true c4
      have c4b1 : decide ((l1.length : Int) ≤ (l0.length : Int)) = true := decide_eq_true c4
      clear c4
      replace H := Option.bind_eq_some_iff.mp H
      obtain ⟨t107, A50, H⟩ := H
      replace H : (if t107 = true then (if (l1.length : Int) < (l0.length : Int) then (if (rd l0 (l1.length : Int)) = 165 then (if 0 ≤ (wrap64 ((l1.length : Int) + 1)) then (if (wrap64 ((l1.length : Int) + 1)) < (l0.length : Int) then (if (rd l0 (wrap64 ((l1.length : Int) + 1))) = 90 then (if 0 ≤ (wrap64 ((l1.length : Int) + 2)) then (if (wrap64 ((l1.length : Int) + 2)) < (l0.length : Int) then (if (rd l0 (wrap64 ((l1.length : Int) + 2))) = 195 then (if 0 ≤ (wrap64 ((l1.length : Int) + 3)) then (if (wrap64 ((l1.length : Int) + 3)) < (l0.length : Int) then (some ((rd l0 (wrap64 ((l1.length : Int) + 3))) == 60)) else (none)) else (none)) else (some false)) else (none)) else (none)) else (some false)) else (none)) else (none)) else (some false)) else (none)) else (some false)) = some r := H
      have A5 := Aside0.mk A50
      clear A50
      by_cases c6 : t107 = true
      · subst c6
        have H1 : (if (l1.length : Int) < (l0.length : Int) then (if (rd l0 (l1.length : Int)) = 165 then (if 0 ≤ (wrap64 ((l1.length : Int) + 1)) then (if (wrap64 ((l1.length : Int) + 1)) < (l0.length : Int) then (if (rd l0 (wrap64 ((l1.length : Int) + 1))) = 90 then (if 0 ≤ (wrap64 ((l1.length : Int) + 2)) then (if (wrap64 ((l1.length : Int) + 2)) < (l0.length : Int) then (if (rd l0 (wrap64 ((l1.length : Int) + 2))) = 195 then (if 0 ≤ (wrap64 ((l1.length : Int) + 3)) then (if (wrap64 ((l1.length : Int) + 3)) < (l0.length : Int) then (some ((rd l0 (wrap64 ((l1.length : Int) + 3))) == 60)) else (none)) else (none)) else (some false)) else (none)) else (none)) else (some false)) else (none)) else (none)) else (some false)) else (none)) = some r := by rw [if_pos rfl] at H; exact H
        clear H
        have H := H1
        clear H1
        by_cases c7 : (l1.length : Int) < (l0.length : Int)
        · rw [if_pos c7] at H
          have c7b0 : decide ((l1.length : Int) < (l0.length : Int)) = true := decide_eq_true c7
          have c7b1 : decide (l1.length < l0.length) = true := decide_eq_true (Int.ofNat_lt.mp c7)
          clear c7
          by_cases c8 : (rd l0 (l1.length : Int)) = 165
          · rw [if_pos c8] at H
            have c8b0 : ((rd l0 (l1.length : Int)) == 165) = true := beq_iff_eq.mpr c8
            have c8b1 : ((rd l0 (l1.length : Int)) != 165) = false := bne_eq_false_iff_eq.mpr c8
            clear c8
            obtain ⟨ji9, hji9⟩ : ∃ j_ : Int, (wrap64 ((l1.length : Int) + 1)) = j_ := ⟨_, rfl⟩
            replace H : (if 0 ≤ (ji9) then (if (ji9) < (l0.length : Int) then (if (rd l0 (ji9)) = 90 then (if 0 ≤ (wrap64 ((l1.length : Int) + 2)) then (if (wrap64 ((l1.length : Int) + 2)) < (l0.length : Int) then (if (rd l0 (wrap64 ((l1.length : Int) + 2))) = 195 then (if 0 ≤ (wrap64 ((l1.length : Int) + 3)) then (if (wrap64 ((l1.length : Int) + 3)) < (l0.length : Int) then (some ((rd l0 (wrap64 ((l1.length : Int) + 3))) == 60)) else (none)) else (none)) else (some false)) else (none)) else (none)) else (some false)) else (none)) else (none)) = some r := by first | (rw [hji9] at H; exact H) | (simp only [hji9] at H ⊢; exact H)
            (try rw [hji9] at A5)
            have hji9w : (IntKind.i64.wrap ((l1.length : Int) + 1)) = ji9 := (i64_w _).trans hji9
            by_cases c10 : 0 ≤ (ji9)
            · rw [if_pos c10] at H
              have c10b0 : decide (0 ≤ (ji9)) = true := decide_eq_true c10
              clear c10
              by_cases c11 : (ji9) < (l0.length : Int)
              · rw [if_pos c11] at H
                have c11b0 : decide ((ji9) < (l0.length : Int)) = true := decide_eq_true c11
                clear c11
                by_cases c12 : (rd l0 (ji9)) = 90
                · rw [if_pos c12] at H
                  have c12b0 : ((rd l0 (ji9)) == 90) = true := beq_iff_eq.mpr c12
                  have c12b1 : ((rd l0 (ji9)) != 90) = false := bne_eq_false_iff_eq.mpr c12
                  clear c12
                  obtain ⟨ji13, hji13⟩ : ∃ j_ : Int, (wrap64 ((l1.length : Int) + 2)) = j_ := ⟨_, rfl⟩
                  replace H : (if 0 ≤ (ji13) then (if (ji13) < (l0.length : Int) then (if (rd l0 (ji13)) = 195 then (if 0 ≤ (wrap64 ((l1.length : Int) + 3)) then (if (wrap64 ((l1.length : Int) + 3)) < (l0.length : Int) then (some ((rd l0 (wrap64 ((l1.length : Int) + 3))) == 60)) else (none)) else (none)) else (some false)) else (none)) else (none)) = some r := by first | (rw [hji13] at H; exact H) | (simp only [hji13] at H ⊢; exact H)
                  (try rw [hji13] at A5)
                  have hji13w : (IntKind.i64.wrap ((l1.length : Int) + 2)) = ji13 := (i64_w _).trans hji13
                  by_cases c14 : 0 ≤ (ji13)
                  · rw [if_pos c14] at H
                    have c14b0 : decide (0 ≤ (ji13)) = true := decide_eq_true c14
                    clear c14
                    by_cases c15 : (ji13) < (l0.length : Int)
                    · rw [if_pos c15] at H
                      have c15b0 : decide ((ji13) < (l0.length : Int)) = true := decide_eq_true c15
                      clear c15
                      by_cases c16 : (rd l0 (ji13)) = 195
                      · rw [if_pos c16] at H
                        have c16b0 : ((rd l0 (ji13)) == 195) = true := beq_iff_eq.mpr c16
                        have c16b1 : ((rd l0 (ji13)) != 195) = false := bne_eq_false_iff_eq.mpr c16
                        clear c16
                        obtain ⟨ji17, hji17⟩ : ∃ j_ : Int, (wrap64 ((l1.length : Int) + 3)) = j_ := ⟨_, rfl⟩
                        replace H : (if 0 ≤ (ji17) then (if (ji17) < (l0.length : Int) then (some ((rd l0 (ji17)) == 60)) else (none)) else (none)) = some r := by first | (rw [hji17] at H; exact H) | (simp only [hji17] at H ⊢; exact H)
                        (try rw [hji17] at A5)
                        have hji17w : (IntKind.i64.wrap ((l1.length : Int) + 3)) = ji17 := (i64_w _).trans hji17
                        by_cases c18 : 0 ≤ (ji17)
                        · rw [if_pos c18] at H
                          have c18b0 : decide (0 ≤ (ji17)) = true := decide_eq_true c18
                          clear c18
                          by_cases c19 : (ji17) < (l0.length : Int)
                          · rw [if_pos c19] at H
                            have c19b0 : decide ((ji17) < (l0.length : Int)) = true := decide_eq_true c19
                            clear c19
                            obtain rfl := Option.some.inj H
                            obtain ⟨i020, hi020, _, hsz20, _⟩ := info_parts info5
                            obtain ⟨hcut20, hA20, hC20⟩ := print_take_of (P := Try.prog) (Value.int .u8) 0 23 5 .i64 Try.underlying23 hi020 hsz20 A0 c0 l0 (l1.length : Int) (of_decide_eq_true (by first | (with_reducible assumption) | assumption)) (of_decide_eq_true (by first | (with_reducible assumption) | assumption)) HC0.out
                            have HR106 := Aside0.mk (Kd.C_of_reads (h1 := fun _ => rfl) (hA20 _ (Kd.reads_of_C HR0.out)))
                            have HC106 := Aside0.mk hC20
                            clear hA20 hC20 hi020 hsz20
                            go_enter Try.func16, Try.ntmps16
                            go_wp2_with (first | ((with_reducible refine gate_callee (f := 28) rfl ?_); refine goesL_ (some 12) rfl rfl Try.func28 (by kernel_rfl) rfl #[.slice A0 (l0.take ((l1.length : Int) : Int).toNat).length c0, .slice A1 l1.length c1] rfl (by (try simp only [List.map_toArray, List.map_cons, List.map_nil]); first | done | (rw [show (l0.take ((l1.length : Int) : Int).toNat).length = (l1.length : Int).toNat from (by rw [List.length_take]; have h_ : ((l1.length : Int) : Int) ≤ (l0.length : Int) := of_decide_eq_true (by first | (with_reducible assumption) | assumption); omega)] <;> rfl) | rfl | (simp only [List.length_drop, List.length_take]; rfl)) ?_; (with_reducible refine (slices_Equal_byte_byte.calls k _ _ (l0.take ((l1.length : Int) : Int).toNat) _ _ l1 true _ ?side1 ?side2 ?side3 ?side4 A5.out).mono ?_); (case side1 => repeat (first | exact HR106.out | (with_reducible refine Kd.C_alloc ?_ _) | (with_reducible refine Kd.C_drewN ?_ _) | (with_reducible refine Kd.C_drew ?_))); (case side2 => exact HC106.out); (case side3 => repeat (first | exact HR1.out | (with_reducible refine Kd.C_alloc ?_ _) | (with_reducible refine Kd.C_drewN ?_ _) | (with_reducible refine Kd.C_drew ?_))); (case side4 => exact HC1.out); rintro e w' ⟨rfl, ⟨nd, rfl⟩⟩; refine ⟨_, rfl, ?_⟩; have p108 : 0 ≤ ((l1.length : Int) : Int) := of_decide_eq_true (by first | (with_reducible assumption) | assumption); have q108 : (l1.length : Int) < (l0.length : Int) := of_decide_eq_true (by first | (with_reducible assumption) | assumption); obtain ⟨ad108, e108, hx108_0⟩ := Kd.at_int HR0.out (l1.length : Int) p108 q108; cases e108; (try simp only [Go.IntWalk.toNatUp] at hx108_0); replace p108 := eq_true p108; replace q108 := eq_true q108; have p109 : 0 ≤ ((ji9) : Int) := of_decide_eq_true (by first | (with_reducible assumption) | assumption); have q109 : (ji9) < (l0.length : Int) := of_decide_eq_true (by first | (with_reducible assumption) | assumption); obtain ⟨ad109, e109, hx109_0⟩ := Kd.at_int HR0.out (ji9) p109 q109; obtain rfl : ad108 = ad109 := (by injection e109); replace p109 := eq_true p109; replace q109 := eq_true q109; have p110 : 0 ≤ ((ji13) : Int) := of_decide_eq_true (by first | (with_reducible assumption) | assumption); have q110 : (ji13) < (l0.length : Int) := of_decide_eq_true (by first | (with_reducible assumption) | assumption); obtain ⟨ad110, e110, hx110_0⟩ := Kd.at_int HR0.out (ji13) p110 q110; obtain rfl : ad108 = ad110 := (by injection e110); replace p110 := eq_true p110; replace q110 := eq_true q110; have p111 : 0 ≤ ((ji17) : Int) := of_decide_eq_true (by first | (with_reducible assumption) | assumption); have q111 : (ji17) < (l0.length : Int) := of_decide_eq_true (by first | (with_reducible assumption) | assumption); obtain ⟨ad111, e111, hx111_0⟩ := Kd.at_int HR0.out (ji17) p111 q111; obtain rfl : ad108 = ad111 := (by injection e111); replace p111 := eq_true p111; replace q111 := eq_true q111))
                            go_ret
                            exact ⟨by first | rfl | (simp; done) | (simp only [← hji9, ← hji13, ← hji17] <;> (first | rfl | simp)) | (simp [*]; done), by repeat (first | exact Drawn0.refl _ | apply Drawn0.step)⟩
                          · rw [if_neg c19] at H
                            exact absurd H (by simp)
                        · rw [if_neg c18] at H
                          exact absurd H (by simp)
                      · rw [if_neg c16] at H
                        have c16b0 : ((rd l0 (ji13)) == 195) = false := beq_eq_false_iff_ne.mpr c16
                        have c16b1 : ((rd l0 (ji13)) != 195) = true := bne_iff_ne.mpr c16
                        obtain rfl := Option.some.inj H
                        obtain ⟨i021, hi021, _, hsz21, _⟩ := info_parts info5
                        obtain ⟨hcut21, hA21, hC21⟩ := print_take_of (P := Try.prog) (Value.int .u8) 0 23 5 .i64 Try.underlying23 hi021 hsz21 A0 c0 l0 (l1.length : Int) (of_decide_eq_true (by first | (with_reducible assumption) | assumption)) (of_decide_eq_true (by first | (with_reducible assumption) | assumption)) HC0.out
                        have HR106 := Aside0.mk (Kd.C_of_reads (h1 := fun _ => rfl) (hA21 _ (Kd.reads_of_C HR0.out)))
                        have HC106 := Aside0.mk hC21
                        clear hA21 hC21 hi021 hsz21
                        go_enter Try.func16, Try.ntmps16
                        go_wp2_with (first | ((with_reducible refine gate_callee (f := 28) rfl ?_); refine goesL_ (some 12) rfl rfl Try.func28 (by kernel_rfl) rfl #[.slice A0 (l0.take ((l1.length : Int) : Int).toNat).length c0, .slice A1 l1.length c1] rfl (by (try simp only [List.map_toArray, List.map_cons, List.map_nil]); first | done | (rw [show (l0.take ((l1.length : Int) : Int).toNat).length = (l1.length : Int).toNat from (by rw [List.length_take]; have h_ : ((l1.length : Int) : Int) ≤ (l0.length : Int) := of_decide_eq_true (by first | (with_reducible assumption) | assumption); omega)] <;> rfl) | rfl | (simp only [List.length_drop, List.length_take]; rfl)) ?_; (with_reducible refine (slices_Equal_byte_byte.calls k _ _ (l0.take ((l1.length : Int) : Int).toNat) _ _ l1 true _ ?side1 ?side2 ?side3 ?side4 A5.out).mono ?_); (case side1 => repeat (first | exact HR106.out | (with_reducible refine Kd.C_alloc ?_ _) | (with_reducible refine Kd.C_drewN ?_ _) | (with_reducible refine Kd.C_drew ?_))); (case side2 => exact HC106.out); (case side3 => repeat (first | exact HR1.out | (with_reducible refine Kd.C_alloc ?_ _) | (with_reducible refine Kd.C_drewN ?_ _) | (with_reducible refine Kd.C_drew ?_))); (case side4 => exact HC1.out); rintro e w' ⟨rfl, ⟨nd, rfl⟩⟩; refine ⟨_, rfl, ?_⟩; have p108 : 0 ≤ ((l1.length : Int) : Int) := of_decide_eq_true (by first | (with_reducible assumption) | assumption); have q108 : (l1.length : Int) < (l0.length : Int) := of_decide_eq_true (by first | (with_reducible assumption) | assumption); obtain ⟨ad108, e108, hx108_0⟩ := Kd.at_int HR0.out (l1.length : Int) p108 q108; cases e108; (try simp only [Go.IntWalk.toNatUp] at hx108_0); replace p108 := eq_true p108; replace q108 := eq_true q108; have p109 : 0 ≤ ((ji9) : Int) := of_decide_eq_true (by first | (with_reducible assumption) | assumption); have q109 : (ji9) < (l0.length : Int) := of_decide_eq_true (by first | (with_reducible assumption) | assumption); obtain ⟨ad109, e109, hx109_0⟩ := Kd.at_int HR0.out (ji9) p109 q109; obtain rfl : ad108 = ad109 := (by injection e109); replace p109 := eq_true p109; replace q109 := eq_true q109; have p110 : 0 ≤ ((ji13) : Int) := of_decide_eq_true (by first | (with_reducible assumption) | assumption); have q110 : (ji13) < (l0.length : Int) := of_decide_eq_true (by first | (with_reducible assumption) | assumption); obtain ⟨ad110, e110, hx110_0⟩ := Kd.at_int HR0.out (ji13) p110 q110; obtain rfl : ad108 = ad110 := (by injection e110); replace p110 := eq_true p110; replace q110 := eq_true q110))
                        go_ret
                        exact ⟨by first | rfl | (simp; done) | (simp only [← hji9, ← hji13] <;> (first | rfl | simp)) | (simp [*]; done), by repeat (first | exact Drawn0.refl _ | apply Drawn0.step)⟩
                    · rw [if_neg c15] at H
                      exact absurd H (by simp)
                  · rw [if_neg c14] at H
                    exact absurd H (by simp)
                · rw [if_neg c12] at H
                  have c12b0 : ((rd l0 (ji9)) == 90) = false := beq_eq_false_iff_ne.mpr c12
                  have c12b1 : ((rd l0 (ji9)) != 90) = true := bne_iff_ne.mpr c12
                  obtain rfl := Option.some.inj H
                  obtain ⟨i022, hi022, _, hsz22, _⟩ := info_parts info5
                  obtain ⟨hcut22, hA22, hC22⟩ := print_take_of (P := Try.prog) (Value.int .u8) 0 23 5 .i64 Try.underlying23 hi022 hsz22 A0 c0 l0 (l1.length : Int) (of_decide_eq_true (by first | (with_reducible assumption) | assumption)) (of_decide_eq_true (by first | (with_reducible assumption) | assumption)) HC0.out
                  have HR106 := Aside0.mk (Kd.C_of_reads (h1 := fun _ => rfl) (hA22 _ (Kd.reads_of_C HR0.out)))
                  have HC106 := Aside0.mk hC22
                  clear hA22 hC22 hi022 hsz22
                  go_enter Try.func16, Try.ntmps16
                  go_wp2_with (first | ((with_reducible refine gate_callee (f := 28) rfl ?_); refine goesL_ (some 12) rfl rfl Try.func28 (by kernel_rfl) rfl #[.slice A0 (l0.take ((l1.length : Int) : Int).toNat).length c0, .slice A1 l1.length c1] rfl (by (try simp only [List.map_toArray, List.map_cons, List.map_nil]); first | done | (rw [show (l0.take ((l1.length : Int) : Int).toNat).length = (l1.length : Int).toNat from (by rw [List.length_take]; have h_ : ((l1.length : Int) : Int) ≤ (l0.length : Int) := of_decide_eq_true (by first | (with_reducible assumption) | assumption); omega)] <;> rfl) | rfl | (simp only [List.length_drop, List.length_take]; rfl)) ?_; (with_reducible refine (slices_Equal_byte_byte.calls k _ _ (l0.take ((l1.length : Int) : Int).toNat) _ _ l1 true _ ?side1 ?side2 ?side3 ?side4 A5.out).mono ?_); (case side1 => repeat (first | exact HR106.out | (with_reducible refine Kd.C_alloc ?_ _) | (with_reducible refine Kd.C_drewN ?_ _) | (with_reducible refine Kd.C_drew ?_))); (case side2 => exact HC106.out); (case side3 => repeat (first | exact HR1.out | (with_reducible refine Kd.C_alloc ?_ _) | (with_reducible refine Kd.C_drewN ?_ _) | (with_reducible refine Kd.C_drew ?_))); (case side4 => exact HC1.out); rintro e w' ⟨rfl, ⟨nd, rfl⟩⟩; refine ⟨_, rfl, ?_⟩; have p108 : 0 ≤ ((l1.length : Int) : Int) := of_decide_eq_true (by first | (with_reducible assumption) | assumption); have q108 : (l1.length : Int) < (l0.length : Int) := of_decide_eq_true (by first | (with_reducible assumption) | assumption); obtain ⟨ad108, e108, hx108_0⟩ := Kd.at_int HR0.out (l1.length : Int) p108 q108; cases e108; (try simp only [Go.IntWalk.toNatUp] at hx108_0); replace p108 := eq_true p108; replace q108 := eq_true q108; have p109 : 0 ≤ ((ji9) : Int) := of_decide_eq_true (by first | (with_reducible assumption) | assumption); have q109 : (ji9) < (l0.length : Int) := of_decide_eq_true (by first | (with_reducible assumption) | assumption); obtain ⟨ad109, e109, hx109_0⟩ := Kd.at_int HR0.out (ji9) p109 q109; obtain rfl : ad108 = ad109 := (by injection e109); replace p109 := eq_true p109; replace q109 := eq_true q109))
                  go_ret
                  exact ⟨by first | rfl | (simp; done) | (simp only [← hji9] <;> (first | rfl | simp)) | (simp [*]; done), by repeat (first | exact Drawn0.refl _ | apply Drawn0.step)⟩
              · rw [if_neg c11] at H
                exact absurd H (by simp)
            · rw [if_neg c10] at H
              exact absurd H (by simp)
          · rw [if_neg c8] at H
            have c8b0 : ((rd l0 (l1.length : Int)) == 165) = false := beq_eq_false_iff_ne.mpr c8
            have c8b1 : ((rd l0 (l1.length : Int)) != 165) = true := bne_iff_ne.mpr c8
            obtain rfl := Option.some.inj H
            obtain ⟨i023, hi023, _, hsz23, _⟩ := info_parts info5
            obtain ⟨hcut23, hA23, hC23⟩ := print_take_of (P := Try.prog) (Value.int .u8) 0 23 5 .i64 Try.underlying23 hi023 hsz23 A0 c0 l0 (l1.length : Int) (of_decide_eq_true (by first | (with_reducible assumption) | assumption)) (of_decide_eq_true (by first | (with_reducible assumption) | assumption)) HC0.out
            have HR106 := Aside0.mk (Kd.C_of_reads (h1 := fun _ => rfl) (hA23 _ (Kd.reads_of_C HR0.out)))
            have HC106 := Aside0.mk hC23
            clear hA23 hC23 hi023 hsz23
            go_enter Try.func16, Try.ntmps16
            go_wp2_with (first | ((with_reducible refine gate_callee (f := 28) rfl ?_); refine goesL_ (some 12) rfl rfl Try.func28 (by kernel_rfl) rfl #[.slice A0 (l0.take ((l1.length : Int) : Int).toNat).length c0, .slice A1 l1.length c1] rfl (by (try simp only [List.map_toArray, List.map_cons, List.map_nil]); first | done | (rw [show (l0.take ((l1.length : Int) : Int).toNat).length = (l1.length : Int).toNat from (by rw [List.length_take]; have h_ : ((l1.length : Int) : Int) ≤ (l0.length : Int) := of_decide_eq_true (by first | (with_reducible assumption) | assumption); omega)] <;> rfl) | rfl | (simp only [List.length_drop, List.length_take]; rfl)) ?_; (with_reducible refine (slices_Equal_byte_byte.calls k _ _ (l0.take ((l1.length : Int) : Int).toNat) _ _ l1 true _ ?side1 ?side2 ?side3 ?side4 A5.out).mono ?_); (case side1 => repeat (first | exact HR106.out | (with_reducible refine Kd.C_alloc ?_ _) | (with_reducible refine Kd.C_drewN ?_ _) | (with_reducible refine Kd.C_drew ?_))); (case side2 => exact HC106.out); (case side3 => repeat (first | exact HR1.out | (with_reducible refine Kd.C_alloc ?_ _) | (with_reducible refine Kd.C_drewN ?_ _) | (with_reducible refine Kd.C_drew ?_))); (case side4 => exact HC1.out); rintro e w' ⟨rfl, ⟨nd, rfl⟩⟩; refine ⟨_, rfl, ?_⟩; have p108 : 0 ≤ ((l1.length : Int) : Int) := of_decide_eq_true (by first | (with_reducible assumption) | assumption); have q108 : (l1.length : Int) < (l0.length : Int) := of_decide_eq_true (by first | (with_reducible assumption) | assumption); obtain ⟨ad108, e108, hx108_0⟩ := Kd.at_int HR0.out (l1.length : Int) p108 q108; cases e108; (try simp only [Go.IntWalk.toNatUp] at hx108_0); replace p108 := eq_true p108; replace q108 := eq_true q108))
            go_ret
            exact ⟨by first | rfl | (simp; done) | (simp [*]; done), by repeat (first | exact Drawn0.refl _ | apply Drawn0.step)⟩
        · rw [if_neg c7] at H
          exact absurd H (by simp)
      · replace c6 := Bool.eq_false_iff.mpr c6
        subst c6
        have H1 : (some false) = some r := by rw [if_neg (show ¬ (false = true) by decide)] at H; exact H
        clear H
        have H := H1
        clear H1
        obtain rfl := Option.some.inj H
        obtain ⟨i024, hi024, _, hsz24, _⟩ := info_parts info5
        obtain ⟨hcut24, hA24, hC24⟩ := print_take_of (P := Try.prog) (Value.int .u8) 0 23 5 .i64 Try.underlying23 hi024 hsz24 A0 c0 l0 (l1.length : Int) (of_decide_eq_true (by first | (with_reducible assumption) | assumption)) (of_decide_eq_true (by first | (with_reducible assumption) | assumption)) HC0.out
        have HR106 := Aside0.mk (Kd.C_of_reads (h1 := fun _ => rfl) (hA24 _ (Kd.reads_of_C HR0.out)))
        have HC106 := Aside0.mk hC24
        clear hA24 hC24 hi024 hsz24
        go_enter Try.func16, Try.ntmps16
        go_wp2_with (first | ((with_reducible refine gate_callee (f := 28) rfl ?_); refine goesL_ (some 12) rfl rfl Try.func28 (by kernel_rfl) rfl #[.slice A0 (l0.take ((l1.length : Int) : Int).toNat).length c0, .slice A1 l1.length c1] rfl (by (try simp only [List.map_toArray, List.map_cons, List.map_nil]); first | done | (rw [show (l0.take ((l1.length : Int) : Int).toNat).length = (l1.length : Int).toNat from (by rw [List.length_take]; have h_ : ((l1.length : Int) : Int) ≤ (l0.length : Int) := of_decide_eq_true (by first | (with_reducible assumption) | assumption); omega)] <;> rfl) | rfl | (simp only [List.length_drop, List.length_take]; rfl)) ?_; (with_reducible refine (slices_Equal_byte_byte.calls k _ _ (l0.take ((l1.length : Int) : Int).toNat) _ _ l1 false _ ?side1 ?side2 ?side3 ?side4 A5.out).mono ?_); (case side1 => repeat (first | exact HR106.out | (with_reducible refine Kd.C_alloc ?_ _) | (with_reducible refine Kd.C_drewN ?_ _) | (with_reducible refine Kd.C_drew ?_))); (case side2 => exact HC106.out); (case side3 => repeat (first | exact HR1.out | (with_reducible refine Kd.C_alloc ?_ _) | (with_reducible refine Kd.C_drewN ?_ _) | (with_reducible refine Kd.C_drew ?_))); (case side4 => exact HC1.out); rintro e w' ⟨rfl, ⟨nd, rfl⟩⟩; refine ⟨_, rfl, ?_⟩))
        go_ret
        exact ⟨by first | rfl | (simp; done) | (simp [*]; done), by repeat (first | exact Drawn0.refl _ | apply Drawn0.step)⟩
    · rw [if_neg c4] at H
      exact absurd H (by simp)
  · rw [if_neg c3] at H
    exact absurd H (by simp)

theorem bytes_equal_self (xs : List Int) (hl : xs.length ≤ 9223372036854775807) : ∀ (d i k : Nat), i + d = xs.length → d < k → slices_Equal_byte_byte.l0 k xs xs (xs.length : Int) (i : Int) = some true
  | 0, i, k, hd, hk => by
    obtain ⟨k, rfl⟩ : ∃ m, k = m + 1 := ⟨k - 1, by omega⟩
    simp only [slices_Equal_byte_byte.l0]
    rw [if_neg (by omega)]
  | d + 1, i, k, hd, hk => by
    obtain ⟨k, rfl⟩ : ∃ m, k = m + 1 := ⟨k - 1, by omega⟩
    have hw : wrap64 ((i : Int) + 1) = ((i + 1 : Nat) : Int) := by unfold wrap64; omega
    have ih := bytes_equal_self xs hl d (i + 1) k (by omega) (by omega)
    simp only [slices_Equal_byte_byte.l0]
    rw [if_pos (by omega), if_pos (by omega), if_pos (by omega), if_pos (by omega), if_pos trivial, hw]
    exact ih
theorem bytes_equal_is (xs : List Int) (hl : xs.length ≤ 9223372036854775807) (k : Nat) (hk : xs.length < k) : slices_Equal_byte_byte.f k xs xs = some true := by
  unfold slices_Equal_byte_byte.f
  rw [if_pos rfl]
  exact bytes_equal_self xs hl xs.length 0 k (by omega) hk
theorem untouched_is (xs : List Int) (hl : xs.length ≤ 140737488351232) (k : Nat) (hk : xs.length < k) : provisoplain_Untouched.f k (xs ++ [165, 90, 195, 60]) xs = some true := by
  have ht : (xs ++ [165, 90, 195, 60]).take ((xs.length : Int) : Int).toNat = xs := by
    rw [Int.toNat_natCast, List.take_left]
  have h0 : rd (xs ++ [165, 90, 195, 60]) (xs.length : Int) = 165 := by simp [rd, List.getD_eq_getElem?_getD]
  have h1 : rd (xs ++ [165, 90, 195, 60]) ((xs.length : Int) + 1) = 90 := by
    simp only [rd, List.getD_eq_getElem?_getD, show ((xs.length : Int) + 1).toNat = xs.length + 1 by omega]
    rw [List.getElem?_append_right (by omega), show xs.length + 1 - xs.length = 1 by omega]
    rfl
  have h2 : rd (xs ++ [165, 90, 195, 60]) ((xs.length : Int) + 2) = 195 := by
    simp only [rd, List.getD_eq_getElem?_getD, show ((xs.length : Int) + 2).toNat = xs.length + 2 by omega]
    rw [List.getElem?_append_right (by omega), show xs.length + 2 - xs.length = 2 by omega]
    rfl
  have h3 : rd (xs ++ [165, 90, 195, 60]) ((xs.length : Int) + 3) = 60 := by
    simp only [rd, List.getD_eq_getElem?_getD, show ((xs.length : Int) + 3).toNat = xs.length + 3 by omega]
    rw [List.getElem?_append_right (by omega), show xs.length + 3 - xs.length = 3 by omega]
    rfl
  have hL : (xs ++ [165, 90, 195, 60]).length = xs.length + 4 := by simp
  have w1 : wrap64 ((xs.length : Int) + 1) = (xs.length : Int) + 1 := by unfold wrap64; omega
  have w2 : wrap64 ((xs.length : Int) + 2) = (xs.length : Int) + 2 := by unfold wrap64; omega
  have w3 : wrap64 ((xs.length : Int) + 3) = (xs.length : Int) + 3 := by unfold wrap64; omega
  unfold provisoplain_Untouched.f
  rw [ht, bytes_equal_is xs (by omega) k hk, hL, w1, w2, w3, h0, h1, h2, h3]
  simp only [Option.bind_some, if_true]
  repeat rw [if_pos (by omega)]
  rfl

def provisolaw01_pick.f (a0 : Int) (a1 : Int) : Option (Int) := if (IntKind.u64.wrap (a1)) = 0 then (none) else (some (wrap64 (Int.tmod (IntKind.u64.wrap (a0)) (IntKind.u64.wrap (a1)))))
set_option maxHeartbeats 8000000 in
set_option maxRecDepth 100000 in
theorem provisolaw01_pick.calls (a0 : Int) (a1 : Int) (r : Int) (w : World) (h : provisolaw01_pick.f a0 a1 = some r) :
    Calls Try.prog 18 #[.int .i64 a0, .int .i64 a1] w fun e w' => e = .returned (.int .i64 r) ∧ Drawn0 w w' := by
  have H : (if (IntKind.u64.wrap (a1)) = 0 then (none) else (some (wrap64 (Int.tmod (IntKind.u64.wrap (a0)) (IntKind.u64.wrap (a1)))))) = some r := h
  clear h
  by_cases c3 : (IntKind.u64.wrap (a1)) = 0
  · rw [if_pos c3] at H
    exact absurd H (by simp)
  · rw [if_neg c3] at H
    have c3b0 : ((IntKind.u64.wrap (a1)) == 0) = false := beq_eq_false_iff_ne.mpr c3
    have c3b1 : ((IntKind.u64.wrap (a1)) != 0) = true := bne_iff_ne.mpr c3
    obtain rfl := Option.some.inj H
    go_enter Try.func18, Try.ntmps18
    go_wp2
    go_ret
    exact ⟨by first | rfl | (simp; done) | (simp [*]; done), by repeat (first | exact Drawn0.refl _ | apply Drawn0.step)⟩

theorem pick_some (a : Int) (n : Nat) (hn : 0 < n) (h : n ≤ 9223372036854775807) : ∃ k : Nat, k < n ∧ provisolaw01_pick.f a (n : Int) = some (k : Int) := by
  have h1 : IntKind.u64.wrap (n : Int) = (n : Int) := IntWalk.u64_in _ (by omega)
  have h2 : 0 ≤ IntKind.u64.wrap a := by rw [IntKind.wrap_u64]; omega
  have h3 := Int.tmod_nonneg (n : Int) h2
  have h4 := Int.tmod_lt_of_pos (IntKind.u64.wrap a) (show (0 : Int) < (n : Int) by omega)
  refine ⟨(Int.tmod (IntKind.u64.wrap a) (n : Int)).toNat, by omega, ?_⟩
  unfold provisolaw01_pick.f
  rw [h1, if_neg (by omega)]
  congr 1
  generalize Int.tmod (IntKind.u64.wrap a) (n : Int) = q at h3 h4
  unfold wrap64
  omega

end Go.Proofs.Ytklbkonehcjmjaa.P

end

section
namespace Go.Proofs.Ytklbkonehcjmjaa.P
open Go.RowKit Go.Proofs.YtklbkonehcjmjaaW.PrintWords Go.Proofs.YtklbkonehcjmjaaW.PrintLast Go.Proofs.YtklbkonehcjmjaaW.PrintMore
attribute [local go_sem] max2_int min2_int max_two min_two max_three min_three max_four min_four   -- for this text's walks alone
set_option linter.unusedVariables false
set_option linter.unusedSimpArgs false

theorem copy_own {P : Program} {W : World} {base : Nat} {ok : Nat → Prop} {v : Value} {zs bs : List Int} {A : Option Addr} {cA : Nat} {ty : TypeId} (hu : P.underlying 23 = some (.slice 5)) (hi : (P.info? 5).map (·.size) = some 1)
    (HR : Kd.R (Kd.int .u8) 5 W base ok v zs) (HS : Kd.C (Kd.int .u8) W A bs.length bs) (hl : zs.length = bs.length) :
    ∃ W', (Builtin.copy_ #[23, 23] ty #[v, .slice A bs.length cA]).run P W = .ok (goInt bs.length) W' ∧ Kd.R (Kd.int .u8) 5 W' base ok v bs ∧ W.grownBy W' v.ownBlock := by
  have hrefl : ∀ row, W.grownBy W row := fun row => ⟨rfl, rfl, rfl, Nat.le_refl _, fun _ _ _ => rfl⟩
  obtain ⟨h0, inner, ⟨h1, h2⟩, hr⟩ := HR
  rcases h2 with ⟨rfl, hn⟩ | ⟨g, cap, cur, rfl, hg, hh, r1, r2, r3, r4⟩
  · have e : bs = [] := List.length_eq_zero_iff.1 (by omega)
    subst e
    exact ⟨W, run_copy_none W _ _ ty _ none A 0 0 0 cA hu hi rfl, Kd.R_nil _ _ _ _ _, hrefl _⟩
  · by_cases hz : bs.length = 0
    · have e : bs = [] := List.length_eq_zero_iff.1 hz
      subst e
      have ez : zs = [] := List.length_eq_zero_iff.1 (by simpa using hl)
      subst ez
      exact ⟨W, run_copy_none W _ _ ty _ _ A _ cap 0 cA hu hi rfl, ⟨h0, inner, ⟨h1, .inr ⟨g, cap, cur, rfl, hg, hh, r1, r2, r3, r4⟩⟩, hr⟩, hrefl _⟩
    · obtain ⟨ad, rfl, hc⟩ := HS.2.2 (by omega)
      have hlen : (bs.map (Value.int .u8)).length = bs.length := List.length_map _
      have hrun := run_copy_row (P := P) W 23 23 ty 5 g 0 zs.length cap ad bs.length cA cur 5 (bs.map (Value.int .u8)) hu hi hh (by rw [hlen, hl]; exact (Nat.min_self _).symm)
        (fun j u hj => by
          rw [List.getElem?_map] at hj
          cases hb : bs[j]? with
          | none => rw [hb] at hj; cases hj
          | some x =>
            rw [hb] at hj
            obtain ⟨c, _, hK, hcc⟩ := hc j x hb
            have hK' : c = [Value.int .u8 x] := hK
            subst hK'
            have := hcc 0 _ rfl
            have e1 : u = Value.int .u8 x := (Option.some.inj hj).symm
            rw [e1]
            simpa [show (Kd.int .u8).sz = 1 from rfl] using this)
        (by rw [hlen, r3, show (Kd.int .u8).sz = 1 from rfl]; omega) (fun u hu => by
          obtain ⟨x, _, rfl⟩ := List.mem_map.1 hu
          rfl)
      rw [hlen] at hrun
      refine ⟨_, hrun, ⟨h0, bs.map (Value.int .u8), ⟨by rw [hlen]; exact (Nat.mul_one _).symm, .inr ⟨g, cap, _, by rw [hl], hg, setRow_heap W g cur _ _ _ hh, by omega, r2, ?_, ?_⟩⟩, ?_⟩, ⟨rfl, rfl, rfl, by simp, fun k _ hk => setRow_other W g k _ (fun e => hk (by rw [e]; rfl))⟩⟩
      · simp [r3, show (Kd.int .u8).sz = 1 from rfl]
        have : bs.length ≤ cap := by omega
        omega
      · simp [show (Kd.int .u8).sz = 1 from rfl]
      · exact Kd.reps_scalar bs
theorem Kd.R_base_ {base : Nat} {W : World} {ok : Nat → Prop} {v : Value} {xs : List Int} (h : Kd.R (Kd.int .u8) 5 W base ok v xs) (k : Nat) (hk : v.ownBlock = some k) : base ≤ k := by
  obtain ⟨_, inner, ho, _⟩ := h
  exact own_base ho k hk
structure RdAt (base g : Nat) (bs : List Int) (at_ : Nat) (W : World) : Prop where
  le : at_ ≤ bs.length
  ge : base ≤ g
  now : ∃ v : Value, W.heap[g]? = some (.cells #[v, .int .i64 (at_ : Int), .bool true] 79 (0, 0)) ∧ Kd.R (Kd.int .u8) 5 W base (fun _ => True) v bs
theorem RdAt.drewN {base g : Nat} {bs : List Int} {at_ : Nat} {W : World} (h : RdAt base g bs at_ W) (m : Nat) : RdAt base g bs at_ (W.drewN m) := by
  obtain ⟨h1, h2, v, h3, h4⟩ := h
  exact ⟨h1, h2, v, blk_drewN h3 m, Kd.R_drewN h4 m⟩
theorem RdAt.step {base g : Nat} {bs : List Int} {at_ : Nat} {W W' : World} (h : RdAt base g bs at_ W) (hb : Below W.heap.size W W') : RdAt base g bs at_ W' := by
  obtain ⟨h1, h2, v, h3, h4⟩ := h
  exact ⟨h1, h2, v, blk_below h3 hb, Kd.R_below h4 hb⟩
theorem RdAt.set {base g : Nat} {bs : List Int} {at_ : Nat} {W : World} (h : RdAt base g bs at_ W) (n : Nat) (hn : n ≤ bs.length) : RdAt base g bs n (W.setCell ⟨g, 1, none⟩ (.int .i64 (n : Int))) := by
  obtain ⟨h1, h2, v, h3, h4⟩ := h
  exact ⟨hn, h2, v, blk_set h3 1 _, Kd.R_set h4 h3 (by decide) _ _⟩
theorem RdAt.len {base g : Nat} {bs : List Int} {at_ : Nat} {W : World} (h : RdAt base g bs at_ W) : bs.length ≤ 9223372036854775807 := by
  obtain ⟨_, _, v, _, h4⟩ := h
  obtain ⟨A, c, rfl⟩ := Kd.R_slice h4
  exact (Kd.R_reads' h4).2.2.2.1
end Go.Proofs.Ytklbkonehcjmjaa.P

end

section
namespace Go.Proofs.Ytklbkonehcjmjaa.P
open Go.RowKit Go.Proofs.YtklbkonehcjmjaaW.PrintWords Go.Proofs.YtklbkonehcjmjaaW.PrintLast Go.Proofs.YtklbkonehcjmjaaW.PrintMore
attribute [local go_sem] max2_int min2_int max_two min_two max_three min_three max_four min_four   -- for this text's walks alone
set_option linter.unusedVariables false
set_option linter.unusedSimpArgs false

structure WtAt (base g : Nat) (ok : Nat → Prop) (bs : List Int) (W : World) : Prop where
  ge : base ≤ g
  le : bs.length ≤ 1048576
  now : ∃ v : Value, W.heap[g]? = some (.cells #[v, .bool true] 81 (0, 0)) ∧ Kd.R (Kd.int .u8) 5 W base ok v bs
theorem WtAt.drewN {base g : Nat} {ok : Nat → Prop} {bs : List Int} {W : World} (h : WtAt base g ok bs W) (m : Nat) : WtAt base g ok bs (W.drewN m) := by
  obtain ⟨h1, h2, v, h3, h4⟩ := h
  exact ⟨h1, h2, v, blk_drewN h3 m, Kd.R_drewN h4 m⟩
theorem WtAt.step {base g : Nat} {ok : Nat → Prop} {bs : List Int} {W W' : World} (h : WtAt base g ok bs W) (hb : Below W.heap.size W W') : WtAt base g ok bs W' := by
  obtain ⟨h1, h2, v, h3, h4⟩ := h
  exact ⟨h1, h2, v, blk_below h3 hb, Kd.R_below h4 hb⟩
theorem WtAt.mono {base g : Nat} {ok ok' : Nat → Prop} {bs : List Int} {W : World} (h : WtAt base g ok bs W) (hk : ∀ k, ok k → ok' k) : WtAt base g ok' bs W := by
  obtain ⟨h1, h2, v, h3, h4⟩ := h
  exact ⟨h1, h2, v, h3, Kd.R_mono h4 hk⟩
set_option maxHeartbeats 800000 in
set_option maxRecDepth 100000 in
theorem New_calls (w : World) : Calls Try.prog 25 #[] w fun e w' => ∃ g, e = .returned (.pointer (some ⟨g, 0, none⟩)) ∧ WtAt w.heap.size g (fun _ => True) [] w' ∧ Below w.heap.size w w' := by
  go_enter Try.func25, Try.ntmps25
  go_wp2
  have h1 := blk_new w (.cells #[.slice none 0 0, .bool true] 81)
  have h3 := below_alloc (Below.refl w.heap.size w) (.cells #[.slice none 0 0, .bool true] 81)
  go_ret
  exact ⟨w.heap.size, rfl, ⟨Nat.le_refl _, Nat.zero_le _, _, h1, Kd.R_nil _ _ _ _ _⟩, h3⟩
set_option maxHeartbeats 800000 in
set_option maxRecDepth 100000 in
theorem ready_wt {base g : Nat} {ok : Nat → Prop} {bs : List Int} {w : World} (h : WtAt base g ok bs w) : Calls Try.prog 53 #[.pointer (some ⟨g, 0, none⟩)] w fun e w' => e = .returned (.bool true) ∧ Drawn0 w w' := by
  obtain ⟨_, _, v, h3, _⟩ := h
  have hc := blk_cell h3 1
  clear h3
  go_enter Try.func53, Try.ntmps53
  go_wp2
  go_ret
  exact ⟨rfl, 0, rfl⟩
set_option maxHeartbeats 800000 in
set_option maxRecDepth 100000 in
theorem Len_wt {base g : Nat} {ok : Nat → Prop} {bs : List Int} {w : World} (h : WtAt base g ok bs w) : Calls Try.prog 27 #[.pointer (some ⟨g, 0, none⟩)] w fun e w' => e = .returned (.int .i64 (bs.length : Int)) ∧ Drawn0 w w' := by
  obtain ⟨v, h3, h4⟩ := h.now
  obtain ⟨A, c, rfl⟩ := Kd.R_slice h4
  have hc := blk_cell h3 0
  have H := Aside0.mk h
  clear h3 h h4
  go_enter Try.func27, Try.ntmps27
  go_wp2_with fail
  refine (ready_wt H.out).mono ?_
  rintro e w1 ⟨rfl, m, rfl⟩
  go_wp2
  go_ret
  exact ⟨rfl, m, rfl⟩
set_option maxHeartbeats 1600000 in
set_option maxRecDepth 100000 in
theorem Bytes_wt {base g : Nat} {ok : Nat → Prop} {bs : List Int} {w : World} (h : WtAt base g ok bs w) : Calls Try.prog 29 #[.pointer (some ⟨g, 0, none⟩)] w fun e w' => ∃ v : Value, e = .returned v ∧ Kd.R (Kd.int .u8) 5 w' w.heap.size (fun _ => True) v bs ∧ Below w.heap.size w w' := by
  have hle := h.le
  have H := Aside0.mk h
  clear h
  go_enter Try.func29, Try.ntmps29
  go_wp2_with fail
  refine (ready_wt H.out).mono ?_
  rintro e w1 ⟨rfl, m, hm⟩
  have H1 := H.out.drewN m
  have hb := pw_below_drewN (Below.refl w.heap.size w) m
  rw [← hm] at H1 hb
  clear hm
  obtain ⟨v, h3, h4⟩ := H1.now
  obtain ⟨A, c, rfl⟩ := Kd.R_slice h4
  have hc := blk_cell h3 0
  have HRW := Aside0.mk h4
  have HB := Aside0.mk hb
  have HBK := Aside0.mk h3
  clear h3 h4 H1 H hb
  go_wp2_with (first | ((with_reducible refine gate_dst (N := 12) rfl ?_); refine Kd.R_make (Kd.int .u8) (w0 := w) w.heap.size 5 rfl (N := 12) rfl 23 (.tmp 11) (.tmp 11) rfl (bs.length : Int) rfl rfl Try.underlying23 (.int .u8 0) 1 info5 rfl (by decide) (by decide) 0 (ok := fun _ => True) (okp := fun _ => True) rfl (fun _ h => h) trivial (by omega) ?hl HB.out HB.out.size ?_; (case hl => rw [Int.toNat_natCast]; omega); intro v1 w2 ho hb hg hat; rw [Int.toNat_natCast] at ho; have HB2 := Aside0.mk hb; obtain ⟨Av, cv, e1⟩ := Kd.R_slice ho; rw [List.length_replicate] at e1; subst e1; have hsrc := Kd.R_grown HRW.out hg (fun k _ h => by cases h); obtain ⟨w3, hrun, hR2, hg2⟩ := copy_own (P := Try.prog) (ty := 3) (cA := c) Try.underlying23 (by kernel_rfl) ho (Kd.R_reads' hsrc).2.2 (by simp); have HR2 := Aside0.mk hR2; have HG2 := Aside0.mk (Below.grown hb hg2 hb.size (fun k hk => (Kd.R_base_ ho k hk))); have hc2 := blk_cell (blk_grown HBK.out hg (by simp)) 0; clear ho hb hg hat hR2 hg2 hsrc))
  go_ret
  exact ⟨_, rfl, HR2.out, HG2.out⟩
theorem WtAt.kept {base g : Nat} {ok : Nat → Prop} {bs : List Int} {W W' : World} {S : Nat → Prop} (h : WtAt base g ok bs W) (hk : Kept W W' S) (h1 : ∀ k, ok k → ¬ S k) (h2 : ¬ S g) : WtAt base g ok bs W' := by
  obtain ⟨q1, q2, v, h3, h4⟩ := h
  exact ⟨q1, q2, v, blk_kept h3 hk h2, Kd.R_kept h4 hk h1⟩
theorem WtAt.bound {base g : Nat} {ok : Nat → Prop} {bs : List Int} {W : World} (h : WtAt base g ok bs W) : WtAt base g (fun k => ok k ∧ k < W.heap.size) bs W := by
  obtain ⟨h1, h2, v, h3, h4⟩ := h
  exact ⟨h1, h2, v, h3, Kd.R_mono (Kd.R_bound h4) (fun k hk => ⟨hk.1, hk.2.2.1⟩)⟩
set_option maxHeartbeats 1600000 in
set_option maxRecDepth 100000 in
theorem put_full {base g : Nat} {ok : Nat → Prop} {bs : List Int} {w : World} (h : WtAt base g ok bs w) (A : Option Addr) (m c : Nat) (hm : 1048576 < bs.length + m) : Calls Try.prog 55 #[.pointer (some ⟨g, 0, none⟩), .slice A m c] w fun e w' => e = .returned (.int .i64 7) ∧ Drawn0 w w' := by
  have hle := h.le
  obtain ⟨v, h3, h4⟩ := h.now
  obtain ⟨A1, c1, rfl⟩ := Kd.R_slice h4
  have hc := blk_cell h3 0
  clear h3 h4 h
  have hw1 : wrap64 ((1048576 : Int) - (bs.length : Int)) = (1048576 : Int) - (bs.length : Int) := by unfold wrap64; omega
  have c1b : decide ((1048576 : Int) - (bs.length : Int) < (m : Int)) = true := decide_eq_true (by omega)
  go_enter Try.func55, Try.ntmps55
  go_wp2
  go_ret
  exact ⟨rfl, 0, rfl⟩
set_option maxHeartbeats 1600000 in
set_option maxRecDepth 100000 in
theorem put_good {base g : Nat} {ok : Nat → Prop} {bs more : List Int} {w : World} (h : WtAt base g ok bs w) (A : Option Addr) (c : Nat) (hr : Kd.C (Kd.int .u8) w A more.length more) (hm : bs.length + more.length ≤ 1048576) : Calls Try.prog 55 #[.pointer (some ⟨g, 0, none⟩), .slice A more.length c] w fun e w' => e = .returned (.int .i64 0) ∧ WtAt base g (fun k => ok k ∨ w.heap.size ≤ k) (bs ++ more) w' ∧ Below base w w' ∧ Kept w w' (fun k => ok k ∨ k = g) := by
  have hle := h.le
  have hge := h.ge
  obtain ⟨v, h3, h4⟩ := h.now
  have hlt := blk_lt h3
  obtain ⟨A1, c1, rfl⟩ := Kd.R_slice h4
  have hc := blk_cell h3 0
  have hf := blk_frozen h3 0
  have HBK := Aside0.mk h3
  have HRW := Aside0.mk (Kd.R_mono h4 (fun k hk => (.inl hk : ok k ∨ w.heap.size ≤ k)))
  have HOK := Aside0.mk h4.1
  have HR := Aside0.mk hr
  clear h3 h4 h hr
  have hw1 : wrap64 ((1048576 : Int) - (bs.length : Int)) = (1048576 : Int) - (bs.length : Int) := by unfold wrap64; omega
  have c1b : decide ((1048576 : Int) - (bs.length : Int) < (more.length : Int)) = false := decide_eq_false (by omega)
  go_enter Try.func55, Try.ntmps55
  go_wp2_with (first | ((with_reducible refine gate_builtin (b := .append) (xs := #[.tmp 18, .tmp 19]) rfl ?_); at_builtin; refine Kd.R_append_rows (Kd.int .u8) (w0 := w) base rfl (.tmp 18) (.tmp 19) 23 5 (.int .u8 0) 1 rfl Try.underlying23 info5 rfl (by decide) (by omega) (.slice A1 bs.length c1) bs more A more.length c (fun k => ok k ∨ w.heap.size ≤ k) (fun _ => False) rfl rfl HRW.out HR.out (fun _ _ h => h) (fun _ h => h.elim) (fun k hk => .inr hk) (Below.refl _ _) (by omega) (by omega) ?_; intro v1 w1 ho hb hg hat; obtain ⟨Av, cv, e7⟩ := Kd.R_slice ho; subst e7; rw [List.length_append] at ho; have hI := blk_grown HBK.out hg (Kd.R_ne HRW.out HBK.out (by decide)); have hcI := blk_cell hI 0; have hfI := blk_frozen hI 0; have HI := Aside0.mk hI; have HO := Aside0.mk ho; have HB := Aside0.mk hb; have HG := Aside0.mk hg; clear hI ho hb hg hat))
  go_ret
  exact ⟨rfl, ⟨hge, by rw [List.length_append]; exact hm, _, blk_set HI.out 0 _, Kd.R_set HO.out HI.out (by decide) _ _⟩, HB.out.setCell hge _, (Kept.of_grown HG.out (Kept.refl w _) (fun k hk => .inl (.inl (HOK.out k hk)))).setCell (.inl (.inr rfl)) _⟩
set_option maxHeartbeats 1600000 in
set_option maxRecDepth 100000 in
theorem Put_full {base g : Nat} {ok : Nat → Prop} {bs : List Int} {w : World} (h : WtAt base g ok bs w) (A : Option Addr) (m c : Nat) (hm : 1048576 < bs.length + m) : Calls Try.prog 33 #[.pointer (some ⟨g, 0, none⟩), .slice A m c] w fun e w' => e = .returned (.int .i64 7) ∧ Drawn0 w w' := by
  have H := Aside0.mk h
  have HM := Aside0.mk hm
  clear h hm
  go_enter Try.func33, Try.ntmps33
  go_wp2_with fail
  refine (ready_wt H.out).mono ?_
  rintro e w1 ⟨rfl, k, rfl⟩
  go_wp2_with fail
  refine (put_full (H.out.drewN k) A m c HM.out).mono ?_
  rintro e w2 ⟨rfl, k2, rfl⟩
  go_wp2
  go_ret
  exact ⟨rfl, _, rfl⟩
set_option maxHeartbeats 1600000 in
set_option maxRecDepth 100000 in
theorem Put_good {base g : Nat} {ok : Nat → Prop} {bs more : List Int} {w : World} (h : WtAt base g ok bs w) (A : Option Addr) (c : Nat) (hr : Kd.C (Kd.int .u8) w A more.length more) (hm : bs.length + more.length ≤ 1048576) : Calls Try.prog 33 #[.pointer (some ⟨g, 0, none⟩), .slice A more.length c] w fun e w' => e = .returned (.int .i64 0) ∧ WtAt base g (fun k => ok k ∨ w.heap.size ≤ k) (bs ++ more) w' ∧ Below base w w' ∧ Kept w w' (fun k => ok k ∨ k = g) := by
  have H := Aside0.mk h
  have HR := Aside0.mk hr
  have HM := Aside0.mk hm
  clear h hr hm
  go_enter Try.func33, Try.ntmps33
  go_wp2_with fail
  refine (ready_wt H.out).mono ?_
  rintro e w1 ⟨rfl, k, rfl⟩
  go_wp2_with fail
  refine (put_good (H.out.drewN k) A c (Kd.C_drewN HR.out k) HM.out).mono ?_
  rintro e w2 ⟨rfl, h1, h2, h3⟩
  have H1 := Aside0.mk h1
  have H2 := Aside0.mk h2
  have H3 := Aside0.mk h3
  clear h1 h2 h3
  go_wp2
  go_ret
  exact ⟨rfl, H1.out, (pw_below_drewN (Below.refl _ _) k).trans H2.out, H3.out⟩
set_option maxHeartbeats 1600000 in
set_option maxRecDepth 100000 in
theorem wnumber_bad {base g : Nat} {ok : Nat → Prop} {bs : List Int} {w : World} (h : WtAt base g ok bs w) (n lo hi k : Int) (hn : n < lo ∨ n > hi) : Calls Try.prog 58 #[.pointer (some ⟨g, 0, none⟩), .int .i64 n, .int .i64 lo, .int .i64 hi, .int .i64 k] w fun e w' => e = .returned (.int .i64 5) ∧ Drawn0 w w' := by
  have H := Aside0.mk h
  clear h
  by_cases c1 : n < lo
  · have c1b : decide (n < lo) = true := decide_eq_true c1
    clear hn c1
    go_enter Try.func58, Try.ntmps58
    go_wp2_with fail
    refine (ready_wt H.out).mono ?_
    rintro e w1 ⟨rfl, m, rfl⟩
    go_wp2
    go_ret
    exact ⟨rfl, m, rfl⟩
  · have c1b : decide (n < lo) = false := decide_eq_false c1
    have c2b : decide (hi < n) = true := decide_eq_true (by omega)
    clear hn c1
    go_enter Try.func58, Try.ntmps58
    go_wp2_with fail
    refine (ready_wt H.out).mono ?_
    rintro e w1 ⟨rfl, m, rfl⟩
    go_wp2
    go_ret
    exact ⟨rfl, m, rfl⟩
def byt (n s : Int) : Int := n % 4294967296 / s % 256
theorem C_of_block {W : World} {gb : Nat} {cs : Array Value} {t : TypeId} {xs : List Int} (h : W.heap[gb]? = some (.cells cs t (0, 0))) (hl : xs.length ≤ 9223372036854775807) (hx : ∀ (j : Nat) (p : Int), xs[j]? = some p → cs[j]? = some (.int .u8 p)) : Kd.C (Kd.int .u8) W (some ⟨gb, 0, none⟩) xs.length xs :=
  ⟨rfl, hl, fun _ => ⟨⟨gb, 0, none⟩, rfl, fun j p hj => ⟨[.int .u8 p], rfl, rfl, fun i u hu => by
    cases i with
    | zero =>
      obtain rfl := Option.some.inj hu
      have h2 := (blk_cell h j).trans (hx j p hj)
      rcases Nat.eq_zero_or_pos j with rfl | hj0
      · simpa [Addr.add, show (Kd.int .u8).sz = 1 from rfl] using h2
      · have : ¬ j = 0 := by omega
        simpa [Addr.add, show (Kd.int .u8).sz = 1 from rfl, this] using h2
    | succ i => cases hu⟩⟩⟩
set_option maxHeartbeats 1600000 in
set_option maxRecDepth 100000 in
theorem wnumber_good1 {base g : Nat} {ok : Nat → Prop} {bs : List Int} {w : World} (h : WtAt base g ok bs w) (n lo hi : Int) (h1 : lo ≤ n) (h2 : n ≤ hi) : Calls Try.prog 58 #[.pointer (some ⟨g, 0, none⟩), .int .i64 n, .int .i64 lo, .int .i64 hi, .int .i64 1] w fun e w' => (bs.length + 1 ≤ 1048576 → e = .returned (.int .i64 0) ∧ WtAt base g (fun k => ok k ∨ w.heap.size ≤ k) (bs ++ [byt n 1]) w' ∧ Below base w w' ∧ Kept w w' (fun k => ok k ∨ k = g)) ∧ (1048576 < bs.length + 1 → e = .returned (.int .i64 7) ∧ Below w.heap.size w w') := by
  have H := Aside0.mk h
  have HBS : Aside0 (base ≤ w.heap.size) := ⟨by obtain ⟨v, h8, _⟩ := h.now; have := blk_lt h8; have := h.ge; omega⟩
  clear h
  have c1b : decide (n < lo) = false := decide_eq_false (by omega)
  have c2b : decide (hi < n) = false := decide_eq_false (by omega)
  clear h1 h2
  go_enter Try.func58, Try.ntmps58
  go_wp2_with fail
  refine (ready_wt H.out).mono ?_
  rintro e w1 ⟨rfl, m, hw1⟩
  have H1 := H.out.drewN m
  have hb1 := pw_below_drewN (Below.refl w.heap.size w) m
  rw [← hw1] at H1 hb1
  have h3 := blk_new w1 (.cells #[.int .u8 0, .int .u8 0, .int .u8 0, .int .u8 0] 106)
  have h4 := H1.step (below_alloc (Below.refl w1.heap.size w1) (.cells #[.int .u8 0, .int .u8 0, .int .u8 0, .int .u8 0] 106))
  have h5 := below_alloc hb1 (.cells #[.int .u8 0, .int .u8 0, .int .u8 0, .int .u8 0] 106)
  have HGB : Aside0 (w.heap.size ≤ w1.heap.size) := ⟨hb1.size⟩
  clear hw1 H1 hb1
  go_wp2
  generalize w1.alloc (.cells #[.int .u8 0, .int .u8 0, .int .u8 0, .int .u8 0] 106) = w2 at h3 h4 h5 ⊢
  have H3 := Aside0.mk h3
  have H4 := Aside0.mk h4
  have H5 := Aside0.mk h5
  clear h3 h4 h5 H
  generalize w1.heap.size = gb at H3 HGB ⊢
  go_loopw [27] (fun v27 wr => ((v27 = .int .i64 0 ∧ Aside0 (wr.heap[gb]? = some (.cells #[.int .u8 0, .int .u8 0, .int .u8 0, .int .u8 0] 106 (0, 0)))) ∨ (v27 = .int .i64 1 ∧ Aside0 (wr.heap[gb]? = some (.cells #[.int .u8 (byt n 1), .int .u8 0, .int .u8 0, .int .u8 0] 106 (0, 0))))) ∧ Aside0 (WtAt base g ok bs wr) ∧ Aside0 (Below w.heap.size w wr)) (fun v27 _ => (4 - intOf v27).toNat)
  case atStart => exact ⟨.inl ⟨rfl, H3⟩, H4, H5⟩
  case round =>
    obtain ⟨⟨rfl, H3⟩ | ⟨rfl, H3⟩, H4, H5⟩ := hrel
    · have hc := blk_cell H3.out 0
      have hf := blk_frozen H3.out 0
      have hne : g ≠ gb := by
        obtain ⟨v, h8, _⟩ := H4.out.now
        exact blk_ne h8 H3.out (by decide)
      have HNE := Aside0.mk hne
      clear hne
      go_wp2
      refine ⟨⟨.inr (⟨rfl, ⟨blk_put H3.out 0 _ (by first | (simp [byt]; done) | (simp [byt]; omega))⟩⟩), ⟨?_⟩, ⟨H5.out.setCell HGB.out _⟩⟩, by simp [intOf]⟩
      obtain ⟨q1, q2, v, h8, h9⟩ := H4.out
      exact ⟨q1, q2, v, blk_far h8 (by simpa using HNE.out) _, Kd.R_set h9 H3.out (by decide) _ _⟩
    · have hC : Kd.C (Kd.int .u8) wr (some ⟨gb, 0, none⟩) [byt n 1].length [byt n 1] := C_of_block H3.out (by simp) (fun j p hj => by
        have : j = 0 := by
          have := (List.getElem?_eq_some_iff.1 hj).1
          simp at this
          omega
        rcases this with rfl <;> simpa using hj)
      have HCC := Aside0.mk hC
      clear hC
      go_wp2_with fail
      by_cases d1 : bs.length + 1 ≤ 1048576
      · refine (put_good H4.out (some ⟨gb, 0, none⟩) 4 HCC.out d1).mono ?_
        rintro e w3 ⟨rfl, k1, k2, k3⟩
        have K1 := Aside0.mk (k1.mono (fun k hk => hk.imp id (Nat.le_trans H5.out.size)))
        have K2 := Aside0.mk (Below.trans (H5.out.mono HBS.out) k2)
        have K3 := Aside0.mk ((Kept.of_below H5.out (fun k => ok k ∨ k = g)).then_ k3 (fun k hk => .inl hk))
        clear k1 k2 k3
        go_wp2
        go_ret
        exact ⟨fun _ => ⟨rfl, K1.out, K2.out, K3.out⟩, fun h => by omega⟩
      · refine (put_full H4.out (some ⟨gb, 0, none⟩) 1 4 (by omega)).mono ?_
        rintro e w3 ⟨rfl, m3, rfl⟩
        go_wp2
        go_ret
        exact ⟨fun h => absurd h d1, fun _ => ⟨rfl, pw_below_drewN H5.out m3⟩⟩
set_option maxHeartbeats 1600000 in
set_option maxRecDepth 100000 in
theorem wnumber_good2 {base g : Nat} {ok : Nat → Prop} {bs : List Int} {w : World} (h : WtAt base g ok bs w) (n lo hi : Int) (h1 : lo ≤ n) (h2 : n ≤ hi) : Calls Try.prog 58 #[.pointer (some ⟨g, 0, none⟩), .int .i64 n, .int .i64 lo, .int .i64 hi, .int .i64 2] w fun e w' => (bs.length + 2 ≤ 1048576 → e = .returned (.int .i64 0) ∧ WtAt base g (fun k => ok k ∨ w.heap.size ≤ k) (bs ++ [byt n 256, byt n 1]) w' ∧ Below base w w' ∧ Kept w w' (fun k => ok k ∨ k = g)) ∧ (1048576 < bs.length + 2 → e = .returned (.int .i64 7) ∧ Below w.heap.size w w') := by
  have H := Aside0.mk h
  have HBS : Aside0 (base ≤ w.heap.size) := ⟨by obtain ⟨v, h8, _⟩ := h.now; have := blk_lt h8; have := h.ge; omega⟩
  clear h
  have c1b : decide (n < lo) = false := decide_eq_false (by omega)
  have c2b : decide (hi < n) = false := decide_eq_false (by omega)
  clear h1 h2
  go_enter Try.func58, Try.ntmps58
  go_wp2_with fail
  refine (ready_wt H.out).mono ?_
  rintro e w1 ⟨rfl, m, hw1⟩
  have H1 := H.out.drewN m
  have hb1 := pw_below_drewN (Below.refl w.heap.size w) m
  rw [← hw1] at H1 hb1
  have h3 := blk_new w1 (.cells #[.int .u8 0, .int .u8 0, .int .u8 0, .int .u8 0] 106)
  have h4 := H1.step (below_alloc (Below.refl w1.heap.size w1) (.cells #[.int .u8 0, .int .u8 0, .int .u8 0, .int .u8 0] 106))
  have h5 := below_alloc hb1 (.cells #[.int .u8 0, .int .u8 0, .int .u8 0, .int .u8 0] 106)
  have HGB : Aside0 (w.heap.size ≤ w1.heap.size) := ⟨hb1.size⟩
  clear hw1 H1 hb1
  go_wp2
  generalize w1.alloc (.cells #[.int .u8 0, .int .u8 0, .int .u8 0, .int .u8 0] 106) = w2 at h3 h4 h5 ⊢
  have H3 := Aside0.mk h3
  have H4 := Aside0.mk h4
  have H5 := Aside0.mk h5
  clear h3 h4 h5 H
  generalize w1.heap.size = gb at H3 HGB ⊢
  go_loopw [27] (fun v27 wr => ((v27 = .int .i64 0 ∧ Aside0 (wr.heap[gb]? = some (.cells #[.int .u8 0, .int .u8 0, .int .u8 0, .int .u8 0] 106 (0, 0)))) ∨ (v27 = .int .i64 1 ∧ Aside0 (wr.heap[gb]? = some (.cells #[.int .u8 (byt n 256), .int .u8 0, .int .u8 0, .int .u8 0] 106 (0, 0)))) ∨ (v27 = .int .i64 2 ∧ Aside0 (wr.heap[gb]? = some (.cells #[.int .u8 (byt n 256), .int .u8 (byt n 1), .int .u8 0, .int .u8 0] 106 (0, 0))))) ∧ Aside0 (WtAt base g ok bs wr) ∧ Aside0 (Below w.heap.size w wr)) (fun v27 _ => (4 - intOf v27).toNat)
  case atStart => exact ⟨.inl ⟨rfl, H3⟩, H4, H5⟩
  case round =>
    obtain ⟨⟨rfl, H3⟩ | ⟨rfl, H3⟩ | ⟨rfl, H3⟩, H4, H5⟩ := hrel
    · have hc := blk_cell H3.out 0
      have hf := blk_frozen H3.out 0
      have hne : g ≠ gb := by
        obtain ⟨v, h8, _⟩ := H4.out.now
        exact blk_ne h8 H3.out (by decide)
      have HNE := Aside0.mk hne
      clear hne
      go_wp2
      refine ⟨⟨.inr (.inl (⟨rfl, ⟨blk_put H3.out 0 _ (by first | (simp [byt]; done) | (simp [byt]; omega))⟩⟩)), ⟨?_⟩, ⟨H5.out.setCell HGB.out _⟩⟩, by simp [intOf]⟩
      obtain ⟨q1, q2, v, h8, h9⟩ := H4.out
      exact ⟨q1, q2, v, blk_far h8 (by simpa using HNE.out) _, Kd.R_set h9 H3.out (by decide) _ _⟩
    · have hc := blk_cell H3.out 1
      have hf := blk_frozen H3.out 1
      have hne : g ≠ gb := by
        obtain ⟨v, h8, _⟩ := H4.out.now
        exact blk_ne h8 H3.out (by decide)
      have HNE := Aside0.mk hne
      clear hne
      go_wp2
      refine ⟨⟨.inr (.inr (⟨rfl, ⟨blk_put H3.out 1 _ (by first | (simp [byt]; done) | (simp [byt]; omega))⟩⟩)), ⟨?_⟩, ⟨H5.out.setCell HGB.out _⟩⟩, by simp [intOf]⟩
      obtain ⟨q1, q2, v, h8, h9⟩ := H4.out
      exact ⟨q1, q2, v, blk_far h8 (by simpa using HNE.out) _, Kd.R_set h9 H3.out (by decide) _ _⟩
    · have hC : Kd.C (Kd.int .u8) wr (some ⟨gb, 0, none⟩) [byt n 256, byt n 1].length [byt n 256, byt n 1] := C_of_block H3.out (by simp) (fun j p hj => by
        have : j = 0 ∨ j = 1 := by
          have := (List.getElem?_eq_some_iff.1 hj).1
          simp at this
          omega
        rcases this with rfl | rfl <;> simpa using hj)
      have HCC := Aside0.mk hC
      clear hC
      go_wp2_with fail
      by_cases d1 : bs.length + 2 ≤ 1048576
      · refine (put_good H4.out (some ⟨gb, 0, none⟩) 4 HCC.out d1).mono ?_
        rintro e w3 ⟨rfl, k1, k2, k3⟩
        have K1 := Aside0.mk (k1.mono (fun k hk => hk.imp id (Nat.le_trans H5.out.size)))
        have K2 := Aside0.mk (Below.trans (H5.out.mono HBS.out) k2)
        have K3 := Aside0.mk ((Kept.of_below H5.out (fun k => ok k ∨ k = g)).then_ k3 (fun k hk => .inl hk))
        clear k1 k2 k3
        go_wp2
        go_ret
        exact ⟨fun _ => ⟨rfl, K1.out, K2.out, K3.out⟩, fun h => by omega⟩
      · refine (put_full H4.out (some ⟨gb, 0, none⟩) 2 4 (by omega)).mono ?_
        rintro e w3 ⟨rfl, m3, rfl⟩
        go_wp2
        go_ret
        exact ⟨fun h => absurd h d1, fun _ => ⟨rfl, pw_below_drewN H5.out m3⟩⟩
set_option maxHeartbeats 1600000 in
set_option maxRecDepth 100000 in
theorem wnumber_good4 {base g : Nat} {ok : Nat → Prop} {bs : List Int} {w : World} (h : WtAt base g ok bs w) (n lo hi : Int) (h1 : lo ≤ n) (h2 : n ≤ hi) : Calls Try.prog 58 #[.pointer (some ⟨g, 0, none⟩), .int .i64 n, .int .i64 lo, .int .i64 hi, .int .i64 4] w fun e w' => (bs.length + 4 ≤ 1048576 → e = .returned (.int .i64 0) ∧ WtAt base g (fun k => ok k ∨ w.heap.size ≤ k) (bs ++ [byt n 16777216, byt n 65536, byt n 256, byt n 1]) w' ∧ Below base w w' ∧ Kept w w' (fun k => ok k ∨ k = g)) ∧ (1048576 < bs.length + 4 → e = .returned (.int .i64 7) ∧ Below w.heap.size w w') := by
  have H := Aside0.mk h
  have HBS : Aside0 (base ≤ w.heap.size) := ⟨by obtain ⟨v, h8, _⟩ := h.now; have := blk_lt h8; have := h.ge; omega⟩
  clear h
  have c1b : decide (n < lo) = false := decide_eq_false (by omega)
  have c2b : decide (hi < n) = false := decide_eq_false (by omega)
  clear h1 h2
  go_enter Try.func58, Try.ntmps58
  go_wp2_with fail
  refine (ready_wt H.out).mono ?_
  rintro e w1 ⟨rfl, m, hw1⟩
  have H1 := H.out.drewN m
  have hb1 := pw_below_drewN (Below.refl w.heap.size w) m
  rw [← hw1] at H1 hb1
  have h3 := blk_new w1 (.cells #[.int .u8 0, .int .u8 0, .int .u8 0, .int .u8 0] 106)
  have h4 := H1.step (below_alloc (Below.refl w1.heap.size w1) (.cells #[.int .u8 0, .int .u8 0, .int .u8 0, .int .u8 0] 106))
  have h5 := below_alloc hb1 (.cells #[.int .u8 0, .int .u8 0, .int .u8 0, .int .u8 0] 106)
  have HGB : Aside0 (w.heap.size ≤ w1.heap.size) := ⟨hb1.size⟩
  clear hw1 H1 hb1
  go_wp2
  generalize w1.alloc (.cells #[.int .u8 0, .int .u8 0, .int .u8 0, .int .u8 0] 106) = w2 at h3 h4 h5 ⊢
  have H3 := Aside0.mk h3
  have H4 := Aside0.mk h4
  have H5 := Aside0.mk h5
  clear h3 h4 h5 H
  generalize w1.heap.size = gb at H3 HGB ⊢
  go_loopw [27] (fun v27 wr => ((v27 = .int .i64 0 ∧ Aside0 (wr.heap[gb]? = some (.cells #[.int .u8 0, .int .u8 0, .int .u8 0, .int .u8 0] 106 (0, 0)))) ∨ (v27 = .int .i64 1 ∧ Aside0 (wr.heap[gb]? = some (.cells #[.int .u8 (byt n 16777216), .int .u8 0, .int .u8 0, .int .u8 0] 106 (0, 0)))) ∨ (v27 = .int .i64 2 ∧ Aside0 (wr.heap[gb]? = some (.cells #[.int .u8 (byt n 16777216), .int .u8 (byt n 65536), .int .u8 0, .int .u8 0] 106 (0, 0)))) ∨ (v27 = .int .i64 3 ∧ Aside0 (wr.heap[gb]? = some (.cells #[.int .u8 (byt n 16777216), .int .u8 (byt n 65536), .int .u8 (byt n 256), .int .u8 0] 106 (0, 0)))) ∨ (v27 = .int .i64 4 ∧ Aside0 (wr.heap[gb]? = some (.cells #[.int .u8 (byt n 16777216), .int .u8 (byt n 65536), .int .u8 (byt n 256), .int .u8 (byt n 1)] 106 (0, 0))))) ∧ Aside0 (WtAt base g ok bs wr) ∧ Aside0 (Below w.heap.size w wr)) (fun v27 _ => (4 - intOf v27).toNat)
  case atStart => exact ⟨.inl ⟨rfl, H3⟩, H4, H5⟩
  case round =>
    obtain ⟨⟨rfl, H3⟩ | ⟨rfl, H3⟩ | ⟨rfl, H3⟩ | ⟨rfl, H3⟩ | ⟨rfl, H3⟩, H4, H5⟩ := hrel
    · have hc := blk_cell H3.out 0
      have hf := blk_frozen H3.out 0
      have hne : g ≠ gb := by
        obtain ⟨v, h8, _⟩ := H4.out.now
        exact blk_ne h8 H3.out (by decide)
      have HNE := Aside0.mk hne
      clear hne
      go_wp2
      refine ⟨⟨.inr (.inl (⟨rfl, ⟨blk_put H3.out 0 _ (by first | (simp [byt]; done) | (simp [byt]; omega))⟩⟩)), ⟨?_⟩, ⟨H5.out.setCell HGB.out _⟩⟩, by simp [intOf]⟩
      obtain ⟨q1, q2, v, h8, h9⟩ := H4.out
      exact ⟨q1, q2, v, blk_far h8 (by simpa using HNE.out) _, Kd.R_set h9 H3.out (by decide) _ _⟩
    · have hc := blk_cell H3.out 1
      have hf := blk_frozen H3.out 1
      have hne : g ≠ gb := by
        obtain ⟨v, h8, _⟩ := H4.out.now
        exact blk_ne h8 H3.out (by decide)
      have HNE := Aside0.mk hne
      clear hne
      go_wp2
      refine ⟨⟨.inr (.inr (.inl (⟨rfl, ⟨blk_put H3.out 1 _ (by first | (simp [byt]; done) | (simp [byt]; omega))⟩⟩))), ⟨?_⟩, ⟨H5.out.setCell HGB.out _⟩⟩, by simp [intOf]⟩
      obtain ⟨q1, q2, v, h8, h9⟩ := H4.out
      exact ⟨q1, q2, v, blk_far h8 (by simpa using HNE.out) _, Kd.R_set h9 H3.out (by decide) _ _⟩
    · have hc := blk_cell H3.out 2
      have hf := blk_frozen H3.out 2
      have hne : g ≠ gb := by
        obtain ⟨v, h8, _⟩ := H4.out.now
        exact blk_ne h8 H3.out (by decide)
      have HNE := Aside0.mk hne
      clear hne
      go_wp2
      refine ⟨⟨.inr (.inr (.inr (.inl (⟨rfl, ⟨blk_put H3.out 2 _ (by first | (simp [byt]; done) | (simp [byt]; omega))⟩⟩)))), ⟨?_⟩, ⟨H5.out.setCell HGB.out _⟩⟩, by simp [intOf]⟩
      obtain ⟨q1, q2, v, h8, h9⟩ := H4.out
      exact ⟨q1, q2, v, blk_far h8 (by simpa using HNE.out) _, Kd.R_set h9 H3.out (by decide) _ _⟩
    · have hc := blk_cell H3.out 3
      have hf := blk_frozen H3.out 3
      have hne : g ≠ gb := by
        obtain ⟨v, h8, _⟩ := H4.out.now
        exact blk_ne h8 H3.out (by decide)
      have HNE := Aside0.mk hne
      clear hne
      go_wp2
      refine ⟨⟨.inr (.inr (.inr (.inr (⟨rfl, ⟨blk_put H3.out 3 _ (by first | (simp [byt]; done) | (simp [byt]; omega))⟩⟩)))), ⟨?_⟩, ⟨H5.out.setCell HGB.out _⟩⟩, by simp [intOf]⟩
      obtain ⟨q1, q2, v, h8, h9⟩ := H4.out
      exact ⟨q1, q2, v, blk_far h8 (by simpa using HNE.out) _, Kd.R_set h9 H3.out (by decide) _ _⟩
    · have hC : Kd.C (Kd.int .u8) wr (some ⟨gb, 0, none⟩) [byt n 16777216, byt n 65536, byt n 256, byt n 1].length [byt n 16777216, byt n 65536, byt n 256, byt n 1] := C_of_block H3.out (by simp) (fun j p hj => by
        have : j = 0 ∨ j = 1 ∨ j = 2 ∨ j = 3 := by
          have := (List.getElem?_eq_some_iff.1 hj).1
          simp at this
          omega
        rcases this with rfl | rfl | rfl | rfl <;> simpa using hj)
      have HCC := Aside0.mk hC
      clear hC
      go_wp2_with fail
      by_cases d1 : bs.length + 4 ≤ 1048576
      · refine (put_good H4.out (some ⟨gb, 0, none⟩) 4 HCC.out d1).mono ?_
        rintro e w3 ⟨rfl, k1, k2, k3⟩
        have K1 := Aside0.mk (k1.mono (fun k hk => hk.imp id (Nat.le_trans H5.out.size)))
        have K2 := Aside0.mk (Below.trans (H5.out.mono HBS.out) k2)
        have K3 := Aside0.mk ((Kept.of_below H5.out (fun k => ok k ∨ k = g)).then_ k3 (fun k hk => .inl hk))
        clear k1 k2 k3
        go_wp2
        go_ret
        exact ⟨fun _ => ⟨rfl, K1.out, K2.out, K3.out⟩, fun h => by omega⟩
      · refine (put_full H4.out (some ⟨gb, 0, none⟩) 4 4 (by omega)).mono ?_
        rintro e w3 ⟨rfl, m3, rfl⟩
        go_wp2
        go_ret
        exact ⟨fun h => absurd h d1, fun _ => ⟨rfl, pw_below_drewN H5.out m3⟩⟩
set_option maxHeartbeats 1600000 in
set_option maxRecDepth 100000 in
theorem wByte_good {base g : Nat} {ok : Nat → Prop} {bs : List Int} {w : World} (h : WtAt base g ok bs w) (n : Int) (h1 : 0 ≤ n) (h2 : n ≤ 255) : Calls Try.prog 36 #[.pointer (some ⟨g, 0, none⟩), .int .i64 n] w fun e w' => (bs.length + 1 ≤ 1048576 → e = .returned (.int .i64 0) ∧ WtAt base g (fun k => ok k ∨ w.heap.size ≤ k) (bs ++ [byt n 1]) w' ∧ Below base w w' ∧ Kept w w' (fun k => ok k ∨ k = g)) ∧ (1048576 < bs.length + 1 → e = .returned (.int .i64 7) ∧ Below w.heap.size w w') := by
  have HN := Aside0.mk (wnumber_good1 h n 0 255 h1 h2)
  clear h h1 h2
  go_enter Try.func36, Try.ntmps36
  go_wp2_with fail
  refine HN.out.mono ?_
  rintro e w1 ⟨k1, k2⟩
  by_cases d1 : bs.length + 1 ≤ 1048576
  · obtain ⟨rfl, k3⟩ := k1 d1
    have K3 := Aside0.mk k3
    clear k1 k2 k3
    go_wp2
    go_ret
    exact ⟨fun _ => ⟨rfl, K3.out⟩, fun h => by omega⟩
  · obtain ⟨rfl, k3⟩ := k2 (by omega)
    have K3 := Aside0.mk k3
    clear k1 k2 k3
    go_wp2
    go_ret
    exact ⟨fun h => absurd h d1, fun _ => ⟨rfl, K3.out⟩⟩
set_option maxHeartbeats 1600000 in
set_option maxRecDepth 100000 in
theorem wByte_bad {base g : Nat} {ok : Nat → Prop} {bs : List Int} {w : World} (h : WtAt base g ok bs w) (n : Int) (h1 : n < 0 ∨ n > 255) : Calls Try.prog 36 #[.pointer (some ⟨g, 0, none⟩), .int .i64 n] w fun e w' => e = .returned (.int .i64 5) ∧ Drawn0 w w' := by
  have HN := Aside0.mk (wnumber_bad h n 0 255 1 h1)
  clear h h1
  go_enter Try.func36, Try.ntmps36
  go_wp2_with fail
  refine HN.out.mono ?_
  rintro e w1 ⟨rfl, m, rfl⟩
  go_wp2
  go_ret
  exact ⟨rfl, m, rfl⟩
set_option maxHeartbeats 1600000 in
set_option maxRecDepth 100000 in
theorem wWord_good {base g : Nat} {ok : Nat → Prop} {bs : List Int} {w : World} (h : WtAt base g ok bs w) (n : Int) (h1 : 0 ≤ n) (h2 : n ≤ 65535) : Calls Try.prog 39 #[.pointer (some ⟨g, 0, none⟩), .int .i64 n] w fun e w' => (bs.length + 2 ≤ 1048576 → e = .returned (.int .i64 0) ∧ WtAt base g (fun k => ok k ∨ w.heap.size ≤ k) (bs ++ [byt n 256, byt n 1]) w' ∧ Below base w w' ∧ Kept w w' (fun k => ok k ∨ k = g)) ∧ (1048576 < bs.length + 2 → e = .returned (.int .i64 7) ∧ Below w.heap.size w w') := by
  have HN := Aside0.mk (wnumber_good2 h n 0 65535 h1 h2)
  clear h h1 h2
  go_enter Try.func39, Try.ntmps39
  go_wp2_with fail
  refine HN.out.mono ?_
  rintro e w1 ⟨k1, k2⟩
  by_cases d1 : bs.length + 2 ≤ 1048576
  · obtain ⟨rfl, k3⟩ := k1 d1
    have K3 := Aside0.mk k3
    clear k1 k2 k3
    go_wp2
    go_ret
    exact ⟨fun _ => ⟨rfl, K3.out⟩, fun h => by omega⟩
  · obtain ⟨rfl, k3⟩ := k2 (by omega)
    have K3 := Aside0.mk k3
    clear k1 k2 k3
    go_wp2
    go_ret
    exact ⟨fun h => absurd h d1, fun _ => ⟨rfl, K3.out⟩⟩
set_option maxHeartbeats 1600000 in
set_option maxRecDepth 100000 in
theorem wWord_bad {base g : Nat} {ok : Nat → Prop} {bs : List Int} {w : World} (h : WtAt base g ok bs w) (n : Int) (h1 : n < 0 ∨ n > 65535) : Calls Try.prog 39 #[.pointer (some ⟨g, 0, none⟩), .int .i64 n] w fun e w' => e = .returned (.int .i64 5) ∧ Drawn0 w w' := by
  have HN := Aside0.mk (wnumber_bad h n 0 65535 2 h1)
  clear h h1
  go_enter Try.func39, Try.ntmps39
  go_wp2_with fail
  refine HN.out.mono ?_
  rintro e w1 ⟨rfl, m, rfl⟩
  go_wp2
  go_ret
  exact ⟨rfl, m, rfl⟩
set_option maxHeartbeats 1600000 in
set_option maxRecDepth 100000 in
theorem wLong_good {base g : Nat} {ok : Nat → Prop} {bs : List Int} {w : World} (h : WtAt base g ok bs w) (n : Int) (h1 : (-2147483648) ≤ n) (h2 : n ≤ 2147483647) : Calls Try.prog 40 #[.pointer (some ⟨g, 0, none⟩), .int .i64 n] w fun e w' => (bs.length + 4 ≤ 1048576 → e = .returned (.int .i64 0) ∧ WtAt base g (fun k => ok k ∨ w.heap.size ≤ k) (bs ++ [byt n 16777216, byt n 65536, byt n 256, byt n 1]) w' ∧ Below base w w' ∧ Kept w w' (fun k => ok k ∨ k = g)) ∧ (1048576 < bs.length + 4 → e = .returned (.int .i64 7) ∧ Below w.heap.size w w') := by
  have HN := Aside0.mk (wnumber_good4 h n (-2147483648) 2147483647 h1 h2)
  clear h h1 h2
  go_enter Try.func40, Try.ntmps40
  go_wp2_with fail
  refine HN.out.mono ?_
  rintro e w1 ⟨k1, k2⟩
  by_cases d1 : bs.length + 4 ≤ 1048576
  · obtain ⟨rfl, k3⟩ := k1 d1
    have K3 := Aside0.mk k3
    clear k1 k2 k3
    go_wp2
    go_ret
    exact ⟨fun _ => ⟨rfl, K3.out⟩, fun h => by omega⟩
  · obtain ⟨rfl, k3⟩ := k2 (by omega)
    have K3 := Aside0.mk k3
    clear k1 k2 k3
    go_wp2
    go_ret
    exact ⟨fun h => absurd h d1, fun _ => ⟨rfl, K3.out⟩⟩
set_option maxHeartbeats 1600000 in
set_option maxRecDepth 100000 in
theorem wLong_bad {base g : Nat} {ok : Nat → Prop} {bs : List Int} {w : World} (h : WtAt base g ok bs w) (n : Int) (h1 : n < (-2147483648) ∨ n > 2147483647) : Calls Try.prog 40 #[.pointer (some ⟨g, 0, none⟩), .int .i64 n] w fun e w' => e = .returned (.int .i64 5) ∧ Drawn0 w w' := by
  have HN := Aside0.mk (wnumber_bad h n (-2147483648) 2147483647 4 h1)
  clear h h1
  go_enter Try.func40, Try.ntmps40
  go_wp2_with fail
  refine HN.out.mono ?_
  rintro e w1 ⟨rfl, m, rfl⟩
  go_wp2
  go_ret
  exact ⟨rfl, m, rfl⟩
def nameBytes (s : ByteArray) : List Int := [(s.size : Int) % 256] ++ bytesOf s
theorem R_of_nums {w : World} {base : Nat} {v : Value} {xs : List Int} (h : w.ownsRow base 5 1 v xs.length (nums .u8 xs)) : Kd.R (Kd.int .u8) 5 w base (fun _ => True) v xs := ⟨fun _ _ => trivial, nums .u8 xs, h, Kd.reps_scalar (enc := Value.int .u8) xs⟩
theorem one_own (W : World) (x : Int) : (W.alloc (.cells #[.int .u8 x] 5)).ownsRow W.heap.size 5 1 (.slice (some ⟨W.heap.size, 0, none⟩) 1 1) [x].length (nums .u8 [x]) :=
  ⟨rfl, .inr ⟨W.heap.size, 1, _, rfl, Nat.le_refl _, blk_new _ _, Nat.le_refl _, by decide, rfl, rfl⟩⟩
set_option maxHeartbeats 1600000 in
set_option maxRecDepth 100000 in
theorem wName_bad {base g : Nat} {ok : Nat → Prop} {bs : List Int} {w : World} (h : WtAt base g ok bs w) (k : Nat) (s : ByteArray) (hs : wire_IsName.f k s = some false) : Calls Try.prog 41 #[.pointer (some ⟨g, 0, none⟩), .string s] w fun e w' => e = .returned (.int .i64 6) ∧ Drawn0 w w' := by
  have H := Aside0.mk h
  have HS := Aside0.mk hs
  clear h hs
  go_enter Try.func41, Try.ntmps41
  go_wp2_with fail
  refine (ready_wt H.out).mono ?_
  rintro e w1 ⟨rfl, m, rfl⟩
  go_wp2_with fail
  refine (wire_IsName.calls k s false _ HS.out).mono ?_
  rintro e w2 ⟨rfl, m2, rfl⟩
  go_wp2
  go_ret
  exact ⟨rfl, _, rfl⟩
set_option maxHeartbeats 1600000 in
set_option maxRecDepth 100000 in
theorem wName_good {base g : Nat} {ok : Nat → Prop} {bs : List Int} {w : World} (h : WtAt base g ok bs w) (k : Nat) (s : ByteArray) (hs : wire_IsName.f k s = some true) (hl : s.size ≤ 24) : Calls Try.prog 41 #[.pointer (some ⟨g, 0, none⟩), .string s] w fun e w' => (bs.length + (s.size + 1) ≤ 1048576 → e = .returned (.int .i64 0) ∧ WtAt base g (fun k => ok k ∨ w.heap.size ≤ k) (bs ++ nameBytes s) w' ∧ Below base w w' ∧ Kept w w' (fun k => ok k ∨ k = g)) ∧ (1048576 < bs.length + (s.size + 1) → e = .returned (.int .i64 7) ∧ Below w.heap.size w w') := by
  have H := Aside0.mk h
  have HS := Aside0.mk hs
  have HL := Aside0.mk hl
  have HBS : Aside0 (base ≤ w.heap.size) := ⟨by obtain ⟨v, h8, _⟩ := h.now; have := blk_lt h8; have := h.ge; omega⟩
  clear h hs hl
  go_enter Try.func41, Try.ntmps41
  go_wp2_with fail
  refine (ready_wt H.out).mono ?_
  rintro e w1 ⟨rfl, m, rfl⟩
  go_wp2_with fail
  refine (wire_IsName.calls k s true _ HS.out).mono ?_
  rintro e w2 ⟨rfl, m2, hm⟩
  have h1 := (H.out.drewN m).drewN m2
  have hb1 := pw_below_drewN (pw_below_drewN (Below.refl w.heap.size w) m) m2
  rw [← hm] at h1 hb1
  have H1 := Aside0.mk h1
  have HB1 := Aside0.mk hb1
  clear hm h1 hb1 H
  go_wp2_with (first | ((with_reducible refine gate_builtin (b := .append) (xs := #[.tmp 17, .tmp 18]) rfl ?_); at_builtin; refine print_append_str (w0 := w2) w2.heap.size rfl (.tmp 17) (.tmp 18) 23 9 5 rfl Try.underlying23 Try.underlying9 info5 (.slice (some ⟨w2.heap.size, 0, none⟩) 1 1) [(s.size : Int) % 256] s rfl rfl ?aO ?aB ?aS ?aL ?_; (case aO => exact one_own w2 _); (case aB => exact below_alloc (Below.refl _ _) _); (case aS => simp); (case aL => have := HL.out; simp; omega); intro v1 w3 hown hb hg; have hR : Kd.R (Kd.int .u8) 5 w3 w2.heap.size (fun _ => True) v1 (nameBytes s) := R_of_nums hown; obtain ⟨Av, cv, e7⟩ := Kd.R_slice hR; subst e7; have HR3 := Aside0.mk hR; have HB3 := Aside0.mk hb; clear hown hb hg hR))
  have hnl : (nameBytes s).length = s.size + 1 := by unfold nameBytes; rw [List.length_append, bytesOf_length]; simp; omega
  have H3 := H1.out.step HB3.out
  have HB4 := Aside0.mk (below_step HB1.out HB3.out)
  by_cases d1 : bs.length + (s.size + 1) ≤ 1048576
  · refine (put_good H3 Av cv (Kd.R_reads' HR3.out).2.2 (by rw [hnl]; exact d1)).mono ?_
    rintro e w4 ⟨rfl, k1, k2, k3⟩
    have K1 := Aside0.mk (k1.mono (fun k hk => hk.imp id (Nat.le_trans HB4.out.size)))
    have K2 := Aside0.mk (Below.trans (HB4.out.mono HBS.out) k2)
    have K3 := Aside0.mk ((Kept.of_below HB4.out (fun k => ok k ∨ k = g)).then_ k3 (fun k hk => .inl hk))
    clear k1 k2 k3 hnl
    go_wp2
    go_ret
    exact ⟨fun _ => ⟨rfl, K1.out, K2.out, K3.out⟩, fun h => by omega⟩
  · refine (put_full H3 Av (nameBytes s).length cv (by omega)).mono ?_
    rintro e w4 ⟨rfl, m3, rfl⟩
    clear hnl
    go_wp2
    go_ret
    exact ⟨fun h => absurd h d1, fun _ => ⟨rfl, pw_below_drewN HB4.out m3⟩⟩











end Go.Proofs.Ytklbkonehcjmjaa.P

end

section
namespace Go.Proofs.Ytklbkonehcjmjaa.P
open Go.RowKit Go.Proofs.YtklbkonehcjmjaaW.PrintWords Go.Proofs.YtklbkonehcjmjaaW.PrintLast Go.Proofs.YtklbkonehcjmjaaW.PrintMore
attribute [local go_sem] max2_int min2_int max_two min_two max_three min_three max_four min_four   -- for this text's walks alone
set_option linter.unusedVariables false
set_option linter.unusedSimpArgs false

mutual
def provisoref01_Put.j0 : Nat → List Int → Int → Int → Bool → Option (List Int × Int)
  | 0, _, _, _, _ => none
  | k + 1, x0, x1, x2, x10 => if x10 = true then (provisoref01_Put.j1 k x0 x1 x2 x10) else (if x2 = 2 then (if x1 < 0 then (provisoref01_Put.j1 k x0 x1 x2 true) else (if x1 > 65535 then (provisoref01_Put.j1 k x0 x1 x2 (decide (x1 > 65535))) else (if x2 = 4 then (if x1 < (-2147483648) then (provisoref01_Put.j1 k x0 x1 x2 true) else (provisoref01_Put.j1 k x0 x1 x2 (decide (x1 > 2147483647)))) else (provisoref01_Put.j1 k x0 x1 x2 false)))) else (if x2 = 4 then (if x1 < (-2147483648) then (provisoref01_Put.j1 k x0 x1 x2 true) else (provisoref01_Put.j1 k x0 x1 x2 (decide (x1 > 2147483647)))) else (provisoref01_Put.j1 k x0 x1 x2 false)))
def provisoref01_Put.j1 : Nat → List Int → Int → Int → Bool → Option (List Int × Int)
  | 0, _, _, _, _ => none
  | k + 1, x0, x1, x2, x10 => if x10 = true then (some (x0, 5)) else (if (wrap64 ((x0.length : Int) + x2)) > 1048576 then (some (x0, 7)) else ((some (([] : List Int) : List Int)).bind fun y112 => (if y112.length + x0.length < 140737488355328 then (provisoref01_Put.l0 k x1 (y112 ++ x0) (wrap64 (x2 - 1))) else (none))))
def provisoref01_Put.l0 : Nat → Int → List Int → Int → Option (List Int × Int)
  | 0, _, _, _ => none
  | k + 1, x1, x8, x9 => if x9 ≥ 0 then (if 0 ≤ (wrap64 (8 * x9)) then (if x8.length < 140737488355328 then (provisoref01_Put.l0 k x1 (x8 ++ [(shr .i64 x1 (wrap64 (8 * x9))) % 256]) (wrap64 (x9 - 1))) else (none)) else (none)) else (some (x8, 0))
end
def provisoref01_Put.f (k : Nat) (l0 : List Int) (a1 : Int) (a2 : Int) : Option (List Int × Int) := if a2 = 1 then (if a1 < 0 then (provisoref01_Put.j0 k l0 a1 a2 true) else (provisoref01_Put.j0 k l0 a1 a2 (decide (a1 > 255)))) else (provisoref01_Put.j0 k l0 a1 a2 false)
set_option maxHeartbeats 8000000 in
set_option maxRecDepth 100000 in
theorem provisoref01_Put.calls (k : Nat) (P0_ : Nat → Prop) (u9000_ : Value) (l0 : List Int) (a1 : Int) (a2 : Int) (r1 : List Int) (r2 : Int) (w0 w : World) (hB : Below w0.heap.size w0 w) (ho0 : Kd.R (Kd.int .u8) 5 w w0.heap.size P0_ u9000_ l0) (h : provisoref01_Put.f k l0 a1 a2 = some (r1, r2)) :
    Calls Try.prog 48 #[u9000_, .int .i64 a1, .int .i64 a2] w fun e w' => ∃ v0_ : Value, e = .returned (.tuple #[v0_, .int .i64 r2]) ∧ Kd.R (Kd.int .u8) 5 w' w0.heap.size (fun k_ => (P0_ k_ ∨ w.heap.size ≤ k_)) v0_ r1 ∧ Below w0.heap.size w0 w' ∧ Kept w w' (fun k_ => P0_ k_) := by
  have HO0 := Aside0.mk (show Kd.R (Kd.int .u8) 5 w w0.heap.size (fun k_ => (P0_ k_ ∨ w.heap.size ≤ k_)) u9000_ l0 from Kd.R_mono ho0 (fun k_ hk => (.inl hk)))
  have HK := Aside0.mk (Kept.refl w (fun k_ => P0_ k_))
  have HW0 := Aside0.mk hB.size
  have HB := Aside0.mk hB
  clear hB
  have H : (if a2 = 1 then (if a1 < 0 then (provisoref01_Put.j0 k l0 a1 a2 true) else (provisoref01_Put.j0 k l0 a1 a2 (decide (a1 > 255)))) else (provisoref01_Put.j0 k l0 a1 a2 false)) = some (r1, r2) := h
  clear h
  have HC4 := Aside0.mk H
  clear H
  go_enter Try.func48, Try.ntmps48
  go_upto_region 1 with (fail)
  go_cut [10] (fun v10 wc => ∃ (kq : Nat) (x10_3 : Bool), v10 = .bool x10_3 ∧ Aside0 (provisoref01_Put.j0 kq l0 a1 a2 x10_3 = some (r1, r2)) ∧ Aside0 (kq ≤ k) ∧ Aside0 (Kd.R (Kd.int .u8) 5 wc w0.heap.size (fun k_ => (P0_ k_ ∨ w.heap.size ≤ k_)) u9000_ l0) ∧ Aside0 (Kept w wc (fun k_ => P0_ k_)) ∧ Aside0 (Below w0.heap.size w0 wc))
  case first =>
    have H := HC4.out
    clear HC4
    by_cases c5 : a2 = 1
    · rw [if_pos c5] at H
      have c5b0 : (a2 == 1) = true := beq_iff_eq.mpr c5
      have c5b1 : (a2 != 1) = false := bne_eq_false_iff_eq.mpr c5
      clear c5
      (first | rw [c5b0] | (simp only [i64_w, i32_w]; rw [c5b0]) | skip)
      by_cases c6 : a1 < 0
      · rw [if_pos c6] at H
        have c6b0 : decide (a1 < 0) = true := decide_eq_true c6
        clear c6
        have H' := Aside0.mk H
        clear H
        go_wp2
        go_meet
        case rel => exact ⟨_, (true), (by first | rfl | (simp; done) | (simp [*]; done)), H', ⟨by first | omega | exact Nat.le_refl _⟩, ⟨by (with_reducible repeat (first | apply Kd.R_alloc | apply Kd.R_drewN | apply Kd.R_drew)); exact HO0.out⟩, ⟨by repeat (first | (with_reducible first | exact HK.out | apply Kept.alloc | apply Kept.drewN | apply Kept.drew) | exact HK.out)⟩, ⟨by repeat (first | (with_reducible first | exact HB.out | apply below_alloc | apply pw_below_drewN | apply below_drew1) | exact HB.out)⟩⟩
      · rw [if_neg c6] at H
        have c6b0 : decide (a1 < 0) = false := decide_eq_false c6
        clear c6
        have H' := Aside0.mk H
        clear H
        go_wp2
        go_meet
        case rel => exact ⟨_, (decide (a1 > 255)), (by first | rfl | (simp; done) | (simp [*]; done)), H', ⟨by first | omega | exact Nat.le_refl _⟩, ⟨by (with_reducible repeat (first | apply Kd.R_alloc | apply Kd.R_drewN | apply Kd.R_drew)); exact HO0.out⟩, ⟨by repeat (first | (with_reducible first | exact HK.out | apply Kept.alloc | apply Kept.drewN | apply Kept.drew) | exact HK.out)⟩, ⟨by repeat (first | (with_reducible first | exact HB.out | apply below_alloc | apply pw_below_drewN | apply below_drew1) | exact HB.out)⟩⟩
    · rw [if_neg c5] at H
      have c5b0 : (a2 == 1) = false := beq_eq_false_iff_ne.mpr c5
      have c5b1 : (a2 != 1) = true := bne_iff_ne.mpr c5
      (first | rw [c5b0] | (simp only [i64_w, i32_w]; rw [c5b0]) | skip)
      have H' := Aside0.mk H
      clear H
      go_wp2
      go_meet
      case rel => exact ⟨_, (false), (by first | rfl | (simp; done) | (simp [*]; done)), H', ⟨by first | omega | exact Nat.le_refl _⟩, ⟨by (with_reducible repeat (first | apply Kd.R_alloc | apply Kd.R_drewN | apply Kd.R_drew)); exact HO0.out⟩, ⟨by repeat (first | (with_reducible first | exact HK.out | apply Kept.alloc | apply Kept.drewN | apply Kept.drew) | exact HK.out)⟩, ⟨by repeat (first | (with_reducible first | exact HB.out | apply below_alloc | apply pw_below_drewN | apply below_drew1) | exact HB.out)⟩⟩
  case rest =>
    clear HC4
    try clear p2
    try clear c4
    try clear c5
    try clear c5b0
    try clear c5b1
    try clear c6
    try clear c6b0
    obtain ⟨kq, x10_3, rfl, HA, HJ3, HO_0, HK, HB⟩ := hcut
    cases kq with
    | zero => exact absurd HA.out (by simp [provisoref01_Put.j0])
    | succ kj3 =>
      have H := HA.out
      clear HA
      simp only [provisoref01_Put.j0] at H
      have HC7 := Aside0.mk H
      clear H
      go_upto_if 10 with (fail)
      go_cut [10] (fun v10 wc => ∃ (kq : Nat) (x10_6 : Bool), v10 = .bool x10_6 ∧ Aside0 (provisoref01_Put.j1 kq l0 a1 a2 x10_6 = some (r1, r2)) ∧ Aside0 (kq ≤ kj3) ∧ Aside0 (Kd.R (Kd.int .u8) 5 wc w0.heap.size (fun k_ => (P0_ k_ ∨ w.heap.size ≤ k_)) u9000_ l0) ∧ Aside0 (Kept w wc (fun k_ => P0_ k_)) ∧ Aside0 (Below w0.heap.size w0 wc))
      case first =>
        have H := HC7.out
        clear HC7
        by_cases c8 : x10_3 = true
        · subst c8
          have H1 : (provisoref01_Put.j1 kj3 l0 a1 a2 true) = some (r1, r2) := by rw [if_pos rfl] at H; exact H
          clear H
          have H := H1
          clear H1
          have H' := Aside0.mk H
          clear H
          go_wp2
          go_meet
          case rel => exact ⟨_, (true), (by first | rfl | (simp; done) | (simp [*]; done)), H', ⟨by have := HJ3.out; first | omega | exact Nat.le_refl _⟩, ⟨by (with_reducible repeat (first | apply Kd.R_alloc | apply Kd.R_drewN | apply Kd.R_drew)); exact HO_0.out⟩, ⟨by repeat (first | (with_reducible first | exact HK.out | apply Kept.alloc | apply Kept.drewN | apply Kept.drew) | exact HK.out)⟩, ⟨by repeat (first | (with_reducible first | exact HB.out | apply below_alloc | apply pw_below_drewN | apply below_drew1) | exact HB.out)⟩⟩
        · replace c8 := Bool.eq_false_iff.mpr c8
          subst c8
          have H1 : (if a2 = 2 then (if a1 < 0 then (provisoref01_Put.j1 kj3 l0 a1 a2 true) else (if a1 > 65535 then (provisoref01_Put.j1 kj3 l0 a1 a2 (decide (a1 > 65535))) else (if a2 = 4 then (if a1 < (-2147483648) then (provisoref01_Put.j1 kj3 l0 a1 a2 true) else (provisoref01_Put.j1 kj3 l0 a1 a2 (decide (a1 > 2147483647)))) else (provisoref01_Put.j1 kj3 l0 a1 a2 false)))) else (if a2 = 4 then (if a1 < (-2147483648) then (provisoref01_Put.j1 kj3 l0 a1 a2 true) else (provisoref01_Put.j1 kj3 l0 a1 a2 (decide (a1 > 2147483647)))) else (provisoref01_Put.j1 kj3 l0 a1 a2 false))) = some (r1, r2) := by rw [if_neg (show ¬ (false = true) by decide)] at H; exact H
          clear H
          have H := H1
          clear H1
          by_cases c9 : a2 = 2
          · rw [if_pos c9] at H
            have c9b0 : (a2 == 2) = true := beq_iff_eq.mpr c9
            have c9b1 : (a2 != 2) = false := bne_eq_false_iff_eq.mpr c9
            clear c9
            (first | rw [c9b0] | (simp only [i64_w, i32_w]; rw [c9b0]) | skip)
            by_cases c10 : a1 < 0
            · rw [if_pos c10] at H
              have c10b0 : decide (a1 < 0) = true := decide_eq_true c10
              clear c10
              have H' := Aside0.mk H
              clear H
              go_wp2
              go_meet
              case rel => exact ⟨_, (true), (by first | rfl | (simp; done) | (simp [*]; done)), H', ⟨by have := HJ3.out; first | omega | exact Nat.le_refl _⟩, ⟨by (with_reducible repeat (first | apply Kd.R_alloc | apply Kd.R_drewN | apply Kd.R_drew)); exact HO_0.out⟩, ⟨by repeat (first | (with_reducible first | exact HK.out | apply Kept.alloc | apply Kept.drewN | apply Kept.drew) | exact HK.out)⟩, ⟨by repeat (first | (with_reducible first | exact HB.out | apply below_alloc | apply pw_below_drewN | apply below_drew1) | exact HB.out)⟩⟩
            · rw [if_neg c10] at H
              have c10b0 : decide (a1 < 0) = false := decide_eq_false c10
              clear c10
              by_cases c11 : a1 > 65535
              · rw [if_pos c11] at H
                have c11b0 : decide (65535 < a1) = true := decide_eq_true c11
                clear c11
                have H' := Aside0.mk H
                clear H
                go_wp2
                go_meet
                case rel => exact ⟨_, (decide (a1 > 65535)), (by first | rfl | (simp; done) | (simp [*]; done)), H', ⟨by have := HJ3.out; first | omega | exact Nat.le_refl _⟩, ⟨by (with_reducible repeat (first | apply Kd.R_alloc | apply Kd.R_drewN | apply Kd.R_drew)); exact HO_0.out⟩, ⟨by repeat (first | (with_reducible first | exact HK.out | apply Kept.alloc | apply Kept.drewN | apply Kept.drew) | exact HK.out)⟩, ⟨by repeat (first | (with_reducible first | exact HB.out | apply below_alloc | apply pw_below_drewN | apply below_drew1) | exact HB.out)⟩⟩
              · rw [if_neg c11] at H
                have c11b0 : decide (65535 < a1) = false := decide_eq_false c11
                clear c11
                by_cases c12 : a2 = 4
                · rw [if_pos c12] at H
                  have c12b0 : (a2 == 4) = true := beq_iff_eq.mpr c12
                  have c12b1 : (a2 != 4) = false := bne_eq_false_iff_eq.mpr c12
                  clear c12
                  by_cases c13 : a1 < (-2147483648)
                  · rw [if_pos c13] at H
                    have c13b0 : decide (a1 < (-2147483648)) = true := decide_eq_true c13
                    clear c13
                    have H' := Aside0.mk H
                    clear H
                    go_wp2
                    go_meet
                    case rel => exact ⟨_, (true), (by first | rfl | (simp; done) | (simp [*]; done)), H', ⟨by have := HJ3.out; first | omega | exact Nat.le_refl _⟩, ⟨by (with_reducible repeat (first | apply Kd.R_alloc | apply Kd.R_drewN | apply Kd.R_drew)); exact HO_0.out⟩, ⟨by repeat (first | (with_reducible first | exact HK.out | apply Kept.alloc | apply Kept.drewN | apply Kept.drew) | exact HK.out)⟩, ⟨by repeat (first | (with_reducible first | exact HB.out | apply below_alloc | apply pw_below_drewN | apply below_drew1) | exact HB.out)⟩⟩
                  · rw [if_neg c13] at H
                    have c13b0 : decide (a1 < (-2147483648)) = false := decide_eq_false c13
                    clear c13
                    have H' := Aside0.mk H
                    clear H
                    go_wp2
                    go_meet
                    case rel => exact ⟨_, (decide (a1 > 2147483647)), (by first | rfl | (simp; done) | (simp [*]; done)), H', ⟨by have := HJ3.out; first | omega | exact Nat.le_refl _⟩, ⟨by (with_reducible repeat (first | apply Kd.R_alloc | apply Kd.R_drewN | apply Kd.R_drew)); exact HO_0.out⟩, ⟨by repeat (first | (with_reducible first | exact HK.out | apply Kept.alloc | apply Kept.drewN | apply Kept.drew) | exact HK.out)⟩, ⟨by repeat (first | (with_reducible first | exact HB.out | apply below_alloc | apply pw_below_drewN | apply below_drew1) | exact HB.out)⟩⟩
                · rw [if_neg c12] at H
                  have c12b0 : (a2 == 4) = false := beq_eq_false_iff_ne.mpr c12
                  have c12b1 : (a2 != 4) = true := bne_iff_ne.mpr c12
                  have H' := Aside0.mk H
                  clear H
                  go_wp2
                  go_meet
                  case rel => exact ⟨_, (false), (by first | rfl | (simp; done) | (simp [*]; done)), H', ⟨by have := HJ3.out; first | omega | exact Nat.le_refl _⟩, ⟨by (with_reducible repeat (first | apply Kd.R_alloc | apply Kd.R_drewN | apply Kd.R_drew)); exact HO_0.out⟩, ⟨by repeat (first | (with_reducible first | exact HK.out | apply Kept.alloc | apply Kept.drewN | apply Kept.drew) | exact HK.out)⟩, ⟨by repeat (first | (with_reducible first | exact HB.out | apply below_alloc | apply pw_below_drewN | apply below_drew1) | exact HB.out)⟩⟩
          · rw [if_neg c9] at H
            have c9b0 : (a2 == 2) = false := beq_eq_false_iff_ne.mpr c9
            have c9b1 : (a2 != 2) = true := bne_iff_ne.mpr c9
            (first | rw [c9b0] | (simp only [i64_w, i32_w]; rw [c9b0]) | skip)
            by_cases c14 : a2 = 4
            · rw [if_pos c14] at H
              have c14b0 : (a2 == 4) = true := beq_iff_eq.mpr c14
              have c14b1 : (a2 != 4) = false := bne_eq_false_iff_eq.mpr c14
              clear c14
              by_cases c15 : a1 < (-2147483648)
              · rw [if_pos c15] at H
                have c15b0 : decide (a1 < (-2147483648)) = true := decide_eq_true c15
                clear c15
                have H' := Aside0.mk H
                clear H
                go_wp2
                go_meet
                case rel => exact ⟨_, (true), (by first | rfl | (simp; done) | (simp [*]; done)), H', ⟨by have := HJ3.out; first | omega | exact Nat.le_refl _⟩, ⟨by (with_reducible repeat (first | apply Kd.R_alloc | apply Kd.R_drewN | apply Kd.R_drew)); exact HO_0.out⟩, ⟨by repeat (first | (with_reducible first | exact HK.out | apply Kept.alloc | apply Kept.drewN | apply Kept.drew) | exact HK.out)⟩, ⟨by repeat (first | (with_reducible first | exact HB.out | apply below_alloc | apply pw_below_drewN | apply below_drew1) | exact HB.out)⟩⟩
              · rw [if_neg c15] at H
                have c15b0 : decide (a1 < (-2147483648)) = false := decide_eq_false c15
                clear c15
                have H' := Aside0.mk H
                clear H
                go_wp2
                go_meet
                case rel => exact ⟨_, (decide (a1 > 2147483647)), (by first | rfl | (simp; done) | (simp [*]; done)), H', ⟨by have := HJ3.out; first | omega | exact Nat.le_refl _⟩, ⟨by (with_reducible repeat (first | apply Kd.R_alloc | apply Kd.R_drewN | apply Kd.R_drew)); exact HO_0.out⟩, ⟨by repeat (first | (with_reducible first | exact HK.out | apply Kept.alloc | apply Kept.drewN | apply Kept.drew) | exact HK.out)⟩, ⟨by repeat (first | (with_reducible first | exact HB.out | apply below_alloc | apply pw_below_drewN | apply below_drew1) | exact HB.out)⟩⟩
            · rw [if_neg c14] at H
              have c14b0 : (a2 == 4) = false := beq_eq_false_iff_ne.mpr c14
              have c14b1 : (a2 != 4) = true := bne_iff_ne.mpr c14
              have H' := Aside0.mk H
              clear H
              go_wp2
              go_meet
              case rel => exact ⟨_, (false), (by first | rfl | (simp; done) | (simp [*]; done)), H', ⟨by have := HJ3.out; first | omega | exact Nat.le_refl _⟩, ⟨by (with_reducible repeat (first | apply Kd.R_alloc | apply Kd.R_drewN | apply Kd.R_drew)); exact HO_0.out⟩, ⟨by repeat (first | (with_reducible first | exact HK.out | apply Kept.alloc | apply Kept.drewN | apply Kept.drew) | exact HK.out)⟩, ⟨by repeat (first | (with_reducible first | exact HB.out | apply below_alloc | apply pw_below_drewN | apply below_drew1) | exact HB.out)⟩⟩
      case rest =>
        clear HC7
        try clear c1
        try clear p2
        try clear c4
        try clear c5
        try clear c5b0
        try clear c5b1
        try clear c6
        try clear c6b0
        try clear c8
        try clear c9
        try clear c9b0
        try clear c9b1
        try clear c10
        try clear c10b0
        try clear c11
        try clear c11b0
        try clear c12
        try clear c12b0
        try clear c12b1
        try clear c13
        try clear c13b0
        try clear c14
        try clear c14b0
        try clear c14b1
        try clear c15
        try clear c15b0
        try clear p2
        obtain ⟨kq, x10_6, rfl, HA, HJ6, HO_0, HK, HB⟩ := hcut
        cases kq with
        | zero => exact absurd HA.out (by simp [provisoref01_Put.j1])
        | succ kj6 =>
          have H := HA.out
          clear HA
          simp only [provisoref01_Put.j1] at H
          by_cases c16 : x10_6 = true
          · subst c16
            have H1 : (some (l0, 5)) = some (r1, r2) := by rw [if_pos rfl] at H; exact H
            clear H
            have H := H1
            clear H1
            simp only [Option.some.injEq, Prod.mk.injEq] at H
            obtain ⟨rfl, rfl⟩ := H
            go_wp2
            go_ret2
            exact ⟨_, by first | rfl | (simp [errW_none, errW_some] <;> rfl) | (simp [*, errW_none, errW_some] <;> rfl), by (with_reducible repeat (first | apply Kd.R_alloc | apply Kd.R_drewN | apply Kd.R_drew)); exact HO_0.out, by repeat (first | (with_reducible first | exact HB.out | apply below_alloc | apply pw_below_drewN | apply below_drew1) | exact HB.out), by repeat (first | (with_reducible first | exact HK.out | apply Kept.alloc | apply Kept.drewN | apply Kept.drew) | exact HK.out)⟩
          · replace c16 := Bool.eq_false_iff.mpr c16
            subst c16
            have H1 : (if (wrap64 ((l0.length : Int) + a2)) > 1048576 then (some (l0, 7)) else ((some (([] : List Int) : List Int)).bind fun y112 => (if y112.length + l0.length < 140737488355328 then (provisoref01_Put.l0 kj6 a1 (y112 ++ l0) (wrap64 (a2 - 1))) else (none)))) = some (r1, r2) := by rw [if_neg (show ¬ (false = true) by decide)] at H; exact H
            clear H
            have H := H1
            clear H1
            by_cases c17 : (wrap64 ((l0.length : Int) + a2)) > 1048576
            · rw [if_pos c17] at H
              have c17b0 : decide (1048576 < (wrap64 ((l0.length : Int) + a2))) = true := decide_eq_true c17
              clear c17
              simp only [Option.some.injEq, Prod.mk.injEq] at H
              obtain ⟨rfl, rfl⟩ := H
              obtain ⟨Ao18, co18, eo18⟩ := Kd.R_slice HO_0.out
              subst eo18
              go_wp2
              go_ret2
              exact ⟨_, by first | rfl | (simp [errW_none, errW_some] <;> rfl) | (simp [*, errW_none, errW_some] <;> rfl), by (with_reducible repeat (first | apply Kd.R_alloc | apply Kd.R_drewN | apply Kd.R_drew)); exact HO_0.out, by repeat (first | (with_reducible first | exact HB.out | apply below_alloc | apply pw_below_drewN | apply below_drew1) | exact HB.out), by repeat (first | (with_reducible first | exact HK.out | apply Kept.alloc | apply Kept.drewN | apply Kept.drew) | exact HK.out)⟩
            · rw [if_neg c17] at H
              have c17b0 : decide (1048576 < (wrap64 ((l0.length : Int) + a2))) = false := decide_eq_false c17
              clear c17
              obtain ⟨y112, hy112⟩ : ∃ y_ : List Int, y_ = (([] : List Int)) := ⟨_, rfl⟩
              replace H : (if y112.length + l0.length < 140737488355328 then (provisoref01_Put.l0 kj6 a1 (y112 ++ l0) (wrap64 (a2 - 1))) else (none)) = some (r1, r2) := by first | (rw [hy112]; with_reducible exact H) | (have H2_ := (Option.bind_some _ _).symm.trans H; rw [hy112]; with_reducible exact H2_) | (have H2_ := (Option.bind_some _ _).symm.trans H; with_reducible exact H2_) | with_reducible exact H | (rw [hy112]; exact H) | exact H
              have Ny112 := Aside0.mk hy112
              clear hy112
              by_cases c19 : y112.length + l0.length < 140737488355328
              · rw [if_pos c19] at H
                have LMc19 := Aside0.mk c19
                clear c19
                obtain ⟨y115, hy115⟩ : ∃ y_ : List Int, y_ = (y112 ++ l0) := ⟨_, rfl⟩
                replace H : (provisoref01_Put.l0 kj6 a1 y115 (wrap64 (a2 - 1))) = some (r1, r2) := by first | (rw [hy115]; with_reducible exact H) | (have H2_ := (Option.bind_some _ _).symm.trans H; rw [hy115]; with_reducible exact H2_) | (have H2_ := (Option.bind_some _ _).symm.trans H; with_reducible exact H2_) | with_reducible exact H | (rw [hy115]; exact H) | exact H
                have Ny115 := Aside0.mk hy115
                clear hy115
                have H' := Aside0.mk H
                clear H
                obtain ⟨Ao20, co20, eo20⟩ := Kd.R_slice HO_0.out
                subst eo20
                go_wp2_with (first | ((with_reducible refine gate_dst (N := 49) rfl ?_); refine Kd.R_lit (Kd.int .u8) _ 5 ?hg (N := 49) ?hd (xs := ([] : List Int)) (inner := []) (ok := fun _ => True) (okp := fun _ => True) ?hr ?hp (fun _ hk => hk) trivial (Below.refl _ _) (Nat.le_refl _) (by simp) ?_; (case hd => rfl); (case hg => rfl); (case hr => first | (go_simp; done) | (go_simp; rfl)); (case hp => exact (Reps.none _ _)); intro v113 w21 ho22 hb hg_ hnew_; clear hg_ hnew_; (first | rw [← Ny112.out] at ho22 | (simp only [Int.reduceToNat] at ho22; rw [← Ny112.out] at ho22)); have n0_ := Aside0.mk (Kd.R_elder' (by (with_reducible repeat (first | apply Kd.R_alloc | apply Kd.R_drewN | apply Kd.R_drew)); exact HO_0.out) (Kd.R_base ho22) hb); have n1_ := Aside0.mk (Kd.R_lower (Kd.R_new' (Kd.R_newM (M := fun k_ => (P0_ k_ ∨ w.heap.size ≤ k_)) ho22 (by first | exact HK.out.1 | exact (show Kept w _ (fun k_ => P0_ k_) from by repeat (first | (with_reducible first | exact HK.out | apply Kept.alloc | apply Kept.drewN | apply Kept.drew) | exact HK.out)).1) (fun k_ h_ => .inr h_)) (Kd.R_lt (by (with_reducible repeat (first | apply Kd.R_alloc | apply Kd.R_drewN | apply Kd.R_drew)); exact HO_0.out))) (below_size (by repeat (first | (with_reducible first | exact HB.out | apply below_alloc | apply pw_below_drewN | apply below_drew1) | exact HB.out)))); have n2_ := Aside0.mk (Kept.below (S := (fun k_ => P0_ k_)) (by repeat (first | (with_reducible first | exact HK.out | apply Kept.alloc | apply Kept.drewN | apply Kept.drew) | exact HK.out)) hb); have n3_ := Aside0.mk (below_step (by repeat (first | (with_reducible first | exact HB.out | apply below_alloc | apply pw_below_drewN | apply below_drew1) | exact HB.out)) hb); clear HO_0; clear HK; clear HB; have HO_0 := n0_; have HO114 := n1_; have HK := n2_; have HB := n3_; clear n0_ n1_ n2_ n3_; clear hb ho22) | ((with_reducible refine gate_builtin (b := .append) (xs := #[.tmp 49, .tmp 50]) rfl ?_); at_builtin; refine Kd.R_append_rows (Kd.int .u8) (w0 := w0) w0.heap.size rfl (.tmp 49) (.tmp 50) 23 5 (.int .u8 0) 1 rfl Try.underlying23 info5 rfl (by decide) (by omega) v113 y112 l0 _ _ _ (fun k_ => (P0_ k_ ∨ w.heap.size ≤ k_) ∧ some k_ ≠ (.slice Ao20 l0.length co20 : Value).ownBlock) (fun _ => False) rfl rfl ?aO ?aR (fun _ _ h => h) (fun _ h => h.elim) ?aF ?aB ?aS ?aL ?_; (case aR => repeat (first | exact (Kd.R_reads' HO_0.out).2.2 | (with_reducible refine Kd.C_alloc ?_ _) | (with_reducible refine Kd.C_drewN ?_ _) | (with_reducible refine Kd.C_drew ?_))); (case aB => exact (by repeat (first | (with_reducible first | exact HB.out | apply below_alloc | apply pw_below_drewN | apply below_drew1) | exact HB.out))); (case aF => exact (fun k_ hk => ⟨(.inr (Nat.le_trans (by first | exact HK.out.1 | exact (show Kept w _ (fun k_ => P0_ k_) from by repeat (first | (with_reducible first | exact HK.out | apply Kept.alloc | apply Kept.drewN | apply Kept.drew) | exact HK.out)).1) hk)), Kd.fresh' (Kd.R_lt (by (with_reducible repeat (first | apply Kd.R_alloc | apply Kd.R_drewN | apply Kd.R_drew)); exact HO_0.out)) k_ hk⟩)); (case aO => exact (by (with_reducible repeat (first | apply Kd.R_alloc | apply Kd.R_drewN | apply Kd.R_drew)); exact Kd.R_mono HO114.out (fun _ hk => ⟨hk.1.1, hk.2⟩))); (case aS => exact (below_size (by repeat (first | (with_reducible first | exact HB.out | apply below_alloc | apply pw_below_drewN | apply below_drew1) | exact HB.out)))); (case aL => have := LMc19.out; omega); intro v116 w23 ho hb hg hat; rw [← Ny115.out] at ho; have n0_ := Aside0.mk (Kd.R_after (ok := (fun k_ => (P0_ k_ ∨ w.heap.size ≤ k_))) (by (with_reducible repeat (first | apply Kd.R_alloc | apply Kd.R_drewN | apply Kd.R_drew)); exact HO_0.out) hg hat); have n1_ := Aside0.mk (hb); have n2_ := Aside0.mk (Kept.of_grown (S := (fun k_ => P0_ k_)) hg (by repeat (first | (with_reducible first | exact HK.out | apply Kept.alloc | apply Kept.drewN | apply Kept.drew) | exact HK.out)) (fun k_ e_ => (HO114.out.1 k_ e_).1.1)); have n3_ := Aside0.mk (ho); clear HO_0; clear HB; clear HK; clear HO114; have HO_0 := n0_; have HB := n1_; have HK := n2_; have HO117 := n3_; clear n0_ n1_ n2_ n3_; clear ho hb hg hat))
                go_loopg [8, 9] kj6 (fun kq v8 v9 w' => ∃ (x8_3 : List Int) (x9_3 : Int), v9 = .int .i64 x9_3 ∧ Aside0 (provisoref01_Put.l0 kq a1 x8_3 x9_3 = some (r1, r2)) ∧ Aside0 (kq ≤ kj6) ∧ Aside0 (Kd.R (Kd.int .u8) 5 w' w0.heap.size (fun k_ => (P0_ k_ ∨ w.heap.size ≤ k_)) v8 x8_3) ∧ Aside0 (Kept w w' (fun k_ => P0_ k_)) ∧ Aside0 (Below w0.heap.size w0 w'))
                case atStart => exact ⟨(y115), (wrap64 (a2 - 1)), (by first | rfl | (simp; done) | (simp [*]; done)), H', ⟨Nat.le_refl _⟩, ⟨by (with_reducible repeat (first | apply Kd.R_alloc | apply Kd.R_drewN | apply Kd.R_drew)); exact Kd.R_mono HO117.out (fun _ hk => hk.1)⟩, ⟨by repeat (first | (with_reducible first | exact HK.out | apply Kept.alloc | apply Kept.drewN | apply Kept.drew) | exact HK.out)⟩, ⟨by repeat (first | (with_reducible first | exact HB.out | apply below_alloc | apply pw_below_drewN | apply below_drew1) | exact HB.out)⟩⟩
                case round =>
                  clear H'
                  try clear c1
                  try clear p2
                  try clear c4
                  try clear c5
                  try clear c5b0
                  try clear c5b1
                  try clear c6
                  try clear c6b0
                  try clear p6
                  try clear c8
                  try clear c9
                  try clear c9b0
                  try clear c9b1
                  try clear c10
                  try clear c10b0
                  try clear c11
                  try clear c11b0
                  try clear c12
                  try clear c12b0
                  try clear c12b1
                  try clear c13
                  try clear c13b0
                  try clear c14
                  try clear c14b0
                  try clear c14b1
                  try clear c15
                  try clear c15b0
                  try clear c16
                  try clear c17
                  try clear c17b0
                  try clear c19
                  try clear p2
                  obtain ⟨x8_3, x9_3, rfl, HA, HK3, HO_8, HK, HB⟩ := hrel
                  cases gk with
                  | zero => exact absurd HA.out (by simp [provisoref01_Put.l0])
                  | succ k3 =>
                    have H := HA.out
                    clear HA
                    simp only [provisoref01_Put.l0] at H
                    by_cases c24 : x9_3 ≥ 0
                    · rw [if_pos c24] at H
                      have c24b0 : decide (0 ≤ x9_3) = true := decide_eq_true c24
                      clear c24
                      obtain ⟨ji25, hji25⟩ : ∃ j_ : Int, (wrap64 (8 * x9_3)) = j_ := ⟨_, rfl⟩
                      replace H : (if 0 ≤ (ji25) then (if x8_3.length < 140737488355328 then (provisoref01_Put.l0 k3 a1 (x8_3 ++ [(shr .i64 a1 (ji25)) % 256]) (wrap64 (x9_3 - 1))) else (none)) else (none)) = some (r1, r2) := by first | (rw [hji25] at H; exact H) | (simp only [hji25] at H ⊢; exact H)
                      have hji25w : (IntKind.i64.wrap (8 * x9_3)) = ji25 := (i64_w _).trans hji25
                      by_cases c26 : 0 ≤ (ji25)
                      · rw [if_pos c26] at H
                        have c26b0 := eq_true c26
                        have c26b1 : decide (0 ≤ (ji25)) = true := decide_eq_true c26
                        clear c26
                        obtain ⟨ji27, hji27⟩ : ∃ j_ : Int, (shr .i64 a1 (ji25)) = j_ := ⟨_, rfl⟩
                        replace H : (if x8_3.length < 140737488355328 then (provisoref01_Put.l0 k3 a1 (x8_3 ++ [(ji27) % 256]) (wrap64 (x9_3 - 1))) else (none)) = some (r1, r2) := by first | (rw [hji27] at H; exact H) | (simp only [hji27] at H ⊢; exact H)
                        have hji27_ : (a1 / 2 ^ min (ji25).toNat 64) = ji27 := hji27
                        have hji27z : (ji25) ≤ 64 → (a1 / 2 ^ (ji25).toNat) = ji27 := shr_small hji27
                        by_cases c28 : x8_3.length < 140737488355328
                        · rw [if_pos c28] at H
                          have LMc28 := Aside0.mk c28
                          clear c28
                          obtain ⟨y118, hy118⟩ : ∃ y_ : List Int, y_ = (x8_3 ++ [(ji27) % 256]) := ⟨_, rfl⟩
                          replace H : (provisoref01_Put.l0 k3 a1 y118 (wrap64 (x9_3 - 1))) = some (r1, r2) := by first | (rw [hy118]; with_reducible exact H) | (have H2_ := (Option.bind_some _ _).symm.trans H; rw [hy118]; with_reducible exact H2_) | (have H2_ := (Option.bind_some _ _).symm.trans H; with_reducible exact H2_) | with_reducible exact H | (rw [hy118]; exact H) | exact H
                          have Ny118 := Aside0.mk hy118
                          clear hy118
                          have H' := Aside0.mk H
                          clear H
                          go_wp2_with (first | ((with_reducible refine gate_builtin (b := .append) (xs := #[.tmp 58, .tmp 64]) rfl ?_); at_builtin; refine Kd.R_append (Kd.int .u8) (w0 := w0) w0.heap.size rfl (.tmp 58) (.tmp 64) 23 5 (.int .u8 0) 1 rfl Try.underlying23 info5 rfl (by decide) (by omega) u8 x8_3 ((ji27) % 256) [.int .u8 ((ji27) % 256)] (fun k_ => (P0_ k_ ∨ w.heap.size ≤ k_)) (fun _ => False) rfl rfl ?aP (fun _ hk => hk.elim) ?aF ?aO ?aB ?aS ?aL ?_; (case aP => exact rfl); (case aB => exact (by repeat (first | (with_reducible first | exact HB.out | apply below_alloc | apply pw_below_drewN | apply below_drew1) | exact HB.out))); (case aF => exact (fun k_ hk => (.inr (Nat.le_trans (by first | exact HK.out.1 | exact (show Kept w _ (fun k_ => P0_ k_) from by repeat (first | (with_reducible first | exact HK.out | apply Kept.alloc | apply Kept.drewN | apply Kept.drew) | exact HK.out)).1) hk)))); (case aO => exact (by (with_reducible repeat (first | apply Kd.R_alloc | apply Kd.R_drewN | apply Kd.R_drew)); exact HO_8.out)); (case aS => exact (below_size (by repeat (first | (with_reducible first | exact HB.out | apply below_alloc | apply pw_below_drewN | apply below_drew1) | exact HB.out)))); (case aL => have := LMc28.out; omega); intro v119 w29 ho hb hg hat; rw [← Ny118.out] at ho; have n0_ := Aside0.mk (hb); have n1_ := Aside0.mk (Kept.of_grown (S := (fun k_ => P0_ k_)) hg (by repeat (first | (with_reducible first | exact HK.out | apply Kept.alloc | apply Kept.drewN | apply Kept.drew) | exact HK.out)) (fun k_ e_ => (HO_8.out.1 k_ e_))); have n2_ := Aside0.mk (ho); clear HB; clear HK; clear HO_8; have HB := n0_; have HK := n1_; have HO120 := n2_; clear n0_ n1_ n2_; clear ho hb hg hat))
                          go_roundg k3
                          case measure => have := HJ3.out; have := HJ6.out; have := HK3.out; omega
                          case rel => exact ⟨(y118), (wrap64 (x9_3 - 1)), (by first | rfl | (simp; done) | (simp [*]; done)), H', ⟨by have := HJ3.out; have := HJ6.out; have := HK3.out; omega⟩, ⟨by (with_reducible repeat (first | apply Kd.R_alloc | apply Kd.R_drewN | apply Kd.R_drew)); exact HO120.out⟩, ⟨by repeat (first | (with_reducible first | exact HK.out | apply Kept.alloc | apply Kept.drewN | apply Kept.drew) | exact HK.out)⟩, ⟨by repeat (first | (with_reducible first | exact HB.out | apply below_alloc | apply pw_below_drewN | apply below_drew1) | exact HB.out)⟩⟩
                        · rw [if_neg c28] at H
                          exact absurd H (by simp)
                      · rw [if_neg c26] at H
                        exact absurd H (by simp)
                    · rw [if_neg c24] at H
                      have c24b0 : decide (0 ≤ x9_3) = false := decide_eq_false c24
                      clear c24
                      simp only [Option.some.injEq, Prod.mk.injEq] at H
                      obtain ⟨rfl, rfl⟩ := H
                      go_wp2
                      go_ret2
                      exact ⟨_, by first | rfl | (simp [errW_none, errW_some] <;> rfl) | (simp [*, errW_none, errW_some] <;> rfl), by (with_reducible repeat (first | apply Kd.R_alloc | apply Kd.R_drewN | apply Kd.R_drew)); exact HO_8.out, by repeat (first | (with_reducible first | exact HB.out | apply below_alloc | apply pw_below_drewN | apply below_drew1) | exact HB.out), by repeat (first | (with_reducible first | exact HK.out | apply Kept.alloc | apply Kept.drewN | apply Kept.drew) | exact HK.out)⟩
              · rw [if_neg c19] at H
                exact absurd H (by simp)

def provisoref01_Join.f (l0 : List Int) (l1 : List Int) : Option (List Int × Int) := if (wrap64 ((l0.length : Int) + (l1.length : Int))) > 1048576 then (some (l0, 7)) else ((some (([] : List Int) : List Int)).bind fun y121 => (if y121.length + l0.length < 140737488355328 then ((some (y121 ++ l0 : List Int)).bind fun y124 => (if y124.length + l1.length < 140737488355328 then (some ((y124 ++ l1), 0)) else (none))) else (none)))
set_option maxHeartbeats 8000000 in
set_option maxRecDepth 100000 in
theorem provisoref01_Join.calls (P0_ : Nat → Prop) (u9000_ : Value) (l0 : List Int) (A1 : Option Addr) (c1 : Nat) (l1 : List Int) (r1 : List Int) (r2 : Int) (w0 w : World) (hB : Below w0.heap.size w0 w) (ho0 : Kd.R (Kd.int .u8) 5 w w0.heap.size P0_ u9000_ l0) (hr1 : ∀ W_, Kept w W_ (fun k_ => P0_ k_) → Kd.C (Kd.int .u8) W_ A1 l1.length l1) (hc1 : l1.length ≤ c1) (h : provisoref01_Join.f l0 l1 = some (r1, r2)) :
    Calls Try.prog 49 #[u9000_, .slice A1 l1.length c1] w fun e w' => ∃ v0_ : Value, e = .returned (.tuple #[v0_, .int .i64 r2]) ∧ Kd.R (Kd.int .u8) 5 w' w0.heap.size (fun k_ => (P0_ k_ ∨ w.heap.size ≤ k_)) v0_ r1 ∧ Below w0.heap.size w0 w' ∧ Kept w w' (fun k_ => P0_ k_) := by
  have HO0 := Aside0.mk (show Kd.R (Kd.int .u8) 5 w w0.heap.size (fun k_ => (P0_ k_ ∨ w.heap.size ≤ k_)) u9000_ l0 from Kd.R_mono ho0 (fun k_ hk => (.inl hk)))
  have HR1 := Aside0.mk hr1
  have HC1 := Aside0.mk hc1
  clear hr1 hc1
  have HK := Aside0.mk (Kept.refl w (fun k_ => P0_ k_))
  have HW0 := Aside0.mk hB.size
  have HB := Aside0.mk hB
  clear hB
  have H : (if (wrap64 ((l0.length : Int) + (l1.length : Int))) > 1048576 then (some (l0, 7)) else ((some (([] : List Int) : List Int)).bind fun y121 => (if y121.length + l0.length < 140737488355328 then ((some (y121 ++ l0 : List Int)).bind fun y124 => (if y124.length + l1.length < 140737488355328 then (some ((y124 ++ l1), 0)) else (none))) else (none)))) = some (r1, r2) := h
  clear h
  by_cases c3 : (wrap64 ((l0.length : Int) + (l1.length : Int))) > 1048576
  · rw [if_pos c3] at H
    have c3b0 : decide (1048576 < (wrap64 ((l0.length : Int) + (l1.length : Int)))) = true := decide_eq_true c3
    clear c3
    simp only [Option.some.injEq, Prod.mk.injEq] at H
    obtain ⟨rfl, rfl⟩ := H
    obtain ⟨Ao4, co4, eo4⟩ := Kd.R_slice HO0.out
    subst eo4
    go_enter Try.func49, Try.ntmps49
    go_wp2
    go_ret2
    exact ⟨_, by first | rfl | (simp [errW_none, errW_some] <;> rfl) | (simp [*, errW_none, errW_some] <;> rfl), by (with_reducible repeat (first | apply Kd.R_alloc | apply Kd.R_drewN | apply Kd.R_drew)); exact HO0.out, by repeat (first | (with_reducible first | exact HB.out | apply below_alloc | apply pw_below_drewN | apply below_drew1) | exact HB.out), by repeat (first | (with_reducible first | exact HK.out | apply Kept.alloc | apply Kept.drewN | apply Kept.drew) | exact HK.out)⟩
  · rw [if_neg c3] at H
    have c3b0 : decide (1048576 < (wrap64 ((l0.length : Int) + (l1.length : Int)))) = false := decide_eq_false c3
    clear c3
    obtain ⟨y121, hy121⟩ : ∃ y_ : List Int, y_ = (([] : List Int)) := ⟨_, rfl⟩
    replace H : (if y121.length + l0.length < 140737488355328 then ((some (y121 ++ l0 : List Int)).bind fun y124 => (if y124.length + l1.length < 140737488355328 then (some ((y124 ++ l1), 0)) else (none))) else (none)) = some (r1, r2) := by first | (rw [hy121]; with_reducible exact H) | (have H2_ := (Option.bind_some _ _).symm.trans H; rw [hy121]; with_reducible exact H2_) | (have H2_ := (Option.bind_some _ _).symm.trans H; with_reducible exact H2_) | with_reducible exact H | (rw [hy121]; exact H) | exact H
    have Ny121 := Aside0.mk hy121
    clear hy121
    by_cases c5 : y121.length + l0.length < 140737488355328
    · rw [if_pos c5] at H
      have LMc5 := Aside0.mk c5
      clear c5
      obtain ⟨y124, hy124⟩ : ∃ y_ : List Int, y_ = (y121 ++ l0) := ⟨_, rfl⟩
      replace H : (if y124.length + l1.length < 140737488355328 then (some ((y124 ++ l1), 0)) else (none)) = some (r1, r2) := by first | (rw [hy124]; with_reducible exact H) | (have H2_ := (Option.bind_some _ _).symm.trans H; rw [hy124]; with_reducible exact H2_) | (have H2_ := (Option.bind_some _ _).symm.trans H; with_reducible exact H2_) | with_reducible exact H | (rw [hy124]; exact H) | exact H
      have Ny124 := Aside0.mk hy124
      clear hy124
      by_cases c6 : y124.length + l1.length < 140737488355328
      · rw [if_pos c6] at H
        have LMc6 := Aside0.mk c6
        clear c6
        obtain ⟨y127, hy127⟩ : ∃ y_ : List Int, y_ = (y124 ++ l1) := ⟨_, rfl⟩
        replace H : (some (y127, 0)) = some (r1, r2) := by first | (rw [hy127]; with_reducible exact H) | (have H2_ := (Option.bind_some _ _).symm.trans H; rw [hy127]; with_reducible exact H2_) | (have H2_ := (Option.bind_some _ _).symm.trans H; with_reducible exact H2_) | with_reducible exact H | (rw [hy127]; exact H) | exact H
        have Ny127 := Aside0.mk hy127
        clear hy127
        simp only [Option.some.injEq, Prod.mk.injEq] at H
        obtain ⟨rfl, rfl⟩ := H
        obtain ⟨Ao7, co7, eo7⟩ := Kd.R_slice HO0.out
        subst eo7
        go_enter Try.func49, Try.ntmps49
        go_wp2_with (first | ((with_reducible refine gate_dst (N := 14) rfl ?_); refine Kd.R_lit (Kd.int .u8) _ 5 ?hg (N := 14) ?hd (xs := ([] : List Int)) (inner := []) (ok := fun _ => True) (okp := fun _ => True) ?hr ?hp (fun _ hk => hk) trivial (Below.refl _ _) (Nat.le_refl _) (by simp) ?_; (case hd => rfl); (case hg => rfl); (case hr => first | (go_simp; done) | (go_simp; rfl)); (case hp => exact (Reps.none _ _)); intro v122 w8 ho9 hb hg_ hnew_; clear hg_ hnew_; (first | rw [← Ny121.out] at ho9 | (simp only [Int.reduceToNat] at ho9; rw [← Ny121.out] at ho9)); have n0_ := Aside0.mk (Kd.R_elder' (by (with_reducible repeat (first | apply Kd.R_alloc | apply Kd.R_drewN | apply Kd.R_drew)); exact HO0.out) (Kd.R_base ho9) hb); have n1_ := Aside0.mk (Kd.R_lower (Kd.R_new' (Kd.R_newM (M := fun k_ => (P0_ k_ ∨ w.heap.size ≤ k_)) ho9 (by first | exact HK.out.1 | exact (show Kept w _ (fun k_ => P0_ k_) from by repeat (first | (with_reducible first | exact HK.out | apply Kept.alloc | apply Kept.drewN | apply Kept.drew) | exact HK.out)).1) (fun k_ h_ => .inr h_)) (Kd.R_lt (by (with_reducible repeat (first | apply Kd.R_alloc | apply Kd.R_drewN | apply Kd.R_drew)); exact HO0.out))) (below_size (by repeat (first | (with_reducible first | exact HB.out | apply below_alloc | apply pw_below_drewN | apply below_drew1) | exact HB.out)))); have n2_ := Aside0.mk (Kept.below (S := (fun k_ => P0_ k_)) (by repeat (first | (with_reducible first | exact HK.out | apply Kept.alloc | apply Kept.drewN | apply Kept.drew) | exact HK.out)) hb); have n3_ := Aside0.mk (below_step (by repeat (first | (with_reducible first | exact HB.out | apply below_alloc | apply pw_below_drewN | apply below_drew1) | exact HB.out)) hb); clear HO0; clear HK; clear HB; have HO0 := n0_; have HO123 := n1_; have HK := n2_; have HB := n3_; clear n0_ n1_ n2_ n3_; clear hb ho9) | ((with_reducible refine gate_builtin (b := .append) (xs := #[.tmp 14, .tmp 15]) rfl ?_); at_builtin; refine Kd.R_append_rows (Kd.int .u8) (w0 := w0) w0.heap.size rfl (.tmp 14) (.tmp 15) 23 5 (.int .u8 0) 1 rfl Try.underlying23 info5 rfl (by decide) (by omega) v122 y121 l0 _ _ _ (fun k_ => (P0_ k_ ∨ w.heap.size ≤ k_) ∧ some k_ ≠ (.slice Ao7 l0.length co7 : Value).ownBlock) (fun _ => False) rfl rfl ?aO ?aR (fun _ _ h => h) (fun _ h => h.elim) ?aF ?aB ?aS ?aL ?_; (case aR => repeat (first | exact (Kd.R_reads' HO0.out).2.2 | (with_reducible refine Kd.C_alloc ?_ _) | (with_reducible refine Kd.C_drewN ?_ _) | (with_reducible refine Kd.C_drew ?_))); (case aB => exact (by repeat (first | (with_reducible first | exact HB.out | apply below_alloc | apply pw_below_drewN | apply below_drew1) | exact HB.out))); (case aF => exact (fun k_ hk => ⟨(.inr (Nat.le_trans (by first | exact HK.out.1 | exact (show Kept w _ (fun k_ => P0_ k_) from by repeat (first | (with_reducible first | exact HK.out | apply Kept.alloc | apply Kept.drewN | apply Kept.drew) | exact HK.out)).1) hk)), Kd.fresh' (Kd.R_lt (by (with_reducible repeat (first | apply Kd.R_alloc | apply Kd.R_drewN | apply Kd.R_drew)); exact HO0.out)) k_ hk⟩)); (case aO => exact (by (with_reducible repeat (first | apply Kd.R_alloc | apply Kd.R_drewN | apply Kd.R_drew)); exact Kd.R_mono HO123.out (fun _ hk => ⟨hk.1.1, hk.2⟩))); (case aS => exact (below_size (by repeat (first | (with_reducible first | exact HB.out | apply below_alloc | apply pw_below_drewN | apply below_drew1) | exact HB.out)))); (case aL => have := LMc5.out; omega); intro v125 w10 ho hb hg hat; rw [← Ny124.out] at ho; have n0_ := Aside0.mk (Kd.R_after (ok := (fun k_ => (P0_ k_ ∨ w.heap.size ≤ k_))) (by (with_reducible repeat (first | apply Kd.R_alloc | apply Kd.R_drewN | apply Kd.R_drew)); exact HO0.out) hg hat); have n1_ := Aside0.mk (hb); have n2_ := Aside0.mk (Kept.of_grown (S := (fun k_ => P0_ k_)) hg (by repeat (first | (with_reducible first | exact HK.out | apply Kept.alloc | apply Kept.drewN | apply Kept.drew) | exact HK.out)) (fun k_ e_ => (HO123.out.1 k_ e_).1.1)); have n3_ := Aside0.mk (ho); clear HO0; clear HB; clear HK; clear HO123; have HO0 := n0_; have HB := n1_; have HK := n2_; have HO126 := n3_; clear n0_ n1_ n2_ n3_; clear ho hb hg hat) | ((with_reducible refine gate_builtin (b := .append) (xs := #[.tmp 17, .tmp 18]) rfl ?_); at_builtin; refine Kd.R_append_rows (Kd.int .u8) (w0 := w0) w0.heap.size rfl (.tmp 17) (.tmp 18) 23 5 (.int .u8 0) 1 rfl Try.underlying23 info5 rfl (by decide) (by omega) v125 y124 l1 _ _ _ (fun k_ => (P0_ k_ ∨ w.heap.size ≤ k_) ∧ some k_ ≠ (.slice Ao7 l0.length co7 : Value).ownBlock) (fun _ => False) rfl rfl ?aO ?aR (fun _ _ h => h) (fun _ h => h.elim) ?aF ?aB ?aS ?aL ?_; (case aR => exact Kd.C_kept_now HR1.out (by repeat (first | (with_reducible first | exact HK.out | apply Kept.alloc | apply Kept.drewN | apply Kept.drew) | exact HK.out))); (case aB => exact (by repeat (first | (with_reducible first | exact HB.out | apply below_alloc | apply pw_below_drewN | apply below_drew1) | exact HB.out))); (case aF => exact (fun k_ hk => ⟨(.inr (Nat.le_trans (by first | exact HK.out.1 | exact (show Kept w _ (fun k_ => P0_ k_) from by repeat (first | (with_reducible first | exact HK.out | apply Kept.alloc | apply Kept.drewN | apply Kept.drew) | exact HK.out)).1) hk)), Kd.fresh' (Kd.R_lt (by (with_reducible repeat (first | apply Kd.R_alloc | apply Kd.R_drewN | apply Kd.R_drew)); exact HO0.out)) k_ hk⟩)); (case aO => exact (by (with_reducible repeat (first | apply Kd.R_alloc | apply Kd.R_drewN | apply Kd.R_drew)); exact HO126.out)); (case aS => exact (below_size (by repeat (first | (with_reducible first | exact HB.out | apply below_alloc | apply pw_below_drewN | apply below_drew1) | exact HB.out)))); (case aL => have := LMc6.out; omega); intro v128 w11 ho hb hg hat; rw [← Ny127.out] at ho; have n0_ := Aside0.mk (Kd.R_after (ok := (fun k_ => (P0_ k_ ∨ w.heap.size ≤ k_))) (by (with_reducible repeat (first | apply Kd.R_alloc | apply Kd.R_drewN | apply Kd.R_drew)); exact HO0.out) hg hat); have n1_ := Aside0.mk (hb); have n2_ := Aside0.mk (Kept.of_grown (S := (fun k_ => P0_ k_)) hg (by repeat (first | (with_reducible first | exact HK.out | apply Kept.alloc | apply Kept.drewN | apply Kept.drew) | exact HK.out)) (fun k_ e_ => (HO126.out.1 k_ e_).1)); have n3_ := Aside0.mk (ho); clear HO0; clear HB; clear HK; clear HO126; have HO0 := n0_; have HB := n1_; have HK := n2_; have HO129 := n3_; clear n0_ n1_ n2_ n3_; clear ho hb hg hat))
        go_ret2
        exact ⟨_, by first | rfl | (simp [errW_none, errW_some] <;> rfl) | (simp [*, errW_none, errW_some] <;> rfl), by (with_reducible repeat (first | apply Kd.R_alloc | apply Kd.R_drewN | apply Kd.R_drew)); exact Kd.R_mono HO129.out (fun _ hk => hk.1), by repeat (first | (with_reducible first | exact HB.out | apply below_alloc | apply pw_below_drewN | apply below_drew1) | exact HB.out), by repeat (first | (with_reducible first | exact HK.out | apply Kept.alloc | apply Kept.drewN | apply Kept.drew) | exact HK.out)⟩
      · rw [if_neg c6] at H
        exact absurd H (by simp)
    · rw [if_neg c5] at H
      exact absurd H (by simp)

section
variable {ops : Array Oper} {rest : List Oper} {o : Oper} {a : Act} {Q : Exit → Act → World → Prop}
theorem below_bytes (W : World) (e : TypeId) (s : ByteArray) : Below W.heap.size W (Lib.bytesWorld W e s) := by
  have h1 : Below W.heap.size W (W.drew.alloc (.cells (Lib.bytesCells W e s) e)) := by
    have := below_alloc (w := W.drew) (W := W.drew) (Below.refl _ _) (.cells (Lib.bytesCells W e s) e)
    exact below_step (below_drew (Below.refl _ _)) this
  refine ⟨h1.os, h1.tape, h1.output, ?_, fun k hk => ?_⟩
  · rw [Lib.bytesWorld_size]; omega
  · exact Lib.bytesWorld_at_old W e s k hk
theorem conv_str (hgd : o.guard = none) {x : Operand} (ho : o.op = .convert 9 23 x) {s : ByteArray} (hx : a.eval x = .string s) {W : World} (hl : s.size ≤ 9223372036854775807)
    (h : ∀ g c w1, g = W.heap.size → Kd.C (Kd.int .u8) w1 (some ⟨g, 0, none⟩) s.size (bytesOf s) → Below W.heap.size W w1 → wpList Try.prog ops Q rest (a.put o.dst (.slice (some ⟨g, 0, none⟩) s.size c)) w1) : wpList Try.prog ops Q (o :: rest) a W :=
  Kd.event_run hgd (by
    unfold execOp
    simp only [ho, hx, Sem.run_bind, Lib.run_convert_string_bytes (P := Try.prog) W 9 23 5 s Try.underlying9 Try.underlying23 Try.underlying5, Result.andThen_ok, Sem.run_pure]) (h W.heap.size (grownCap W s.size 0 5) _ rfl ⟨bytesOf_length s, hl, fun _ => ⟨⟨W.heap.size, 0, none⟩, rfl, fun j p hj => ⟨[.int .u8 p], rfl, rfl, fun i u hu => by
      cases i with
      | zero =>
        obtain rfl := Option.some.inj hu
        have hj1 : j < s.size := by
          have := (List.getElem?_eq_some_iff.1 hj).1
          rw [bytesOf_length] at this
          exact this
        have hc := Lib.bytesWorld_cell W 5 s j hj1
        have hp : p = ((s.data.toList.getD j 0).toNat : Int) := by
          unfold bytesOf at hj
          rw [List.getElem?_map] at hj
          rw [List.getD_eq_getElem?_getD]
          cases hq : s.data.toList[j]? with
          | none => rw [hq] at hj; cases hj
          | some b => rw [hq] at hj; exact (Option.some.inj hj).symm
        rw [← hp] at hc
        rcases Nat.eq_zero_or_pos j with rfl | hj0
        · simpa [Addr.add, show (Kd.int .u8).sz = 1 from rfl] using hc
        · have : ¬ j = 0 := by omega
          simpa [Addr.add, show (Kd.int .u8).sz = 1 from rfl, this] using hc
      | succ i => cases hu⟩⟩⟩ (below_bytes W 5 s))
end
set_option maxHeartbeats 1600000 in
set_option maxRecDepth 100000 in
theorem PutName_bad (k : Nat) (T : Nat → Prop) (v : Value) (l0 : List Int) (s : ByteArray) (w0 w : World) (hB : Below w0.heap.size w0 w) (ho0 : Kd.R (Kd.int .u8) 5 w w0.heap.size T v l0) (hs : provisoref01_IsName.f k s = some false) :
    Calls Try.prog 50 #[v, .string s] w fun e w' => ∃ v0_ : Value, e = .returned (.tuple #[v0_, .int .i64 6]) ∧ Kd.R (Kd.int .u8) 5 w' w0.heap.size (fun k_ => T k_ ∨ w.heap.size ≤ k_) v0_ l0 ∧ Below w0.heap.size w0 w' ∧ Kept w w' (fun k_ => T k_) := by
  obtain ⟨A0, c0, rfl⟩ := Kd.R_slice ho0
  have HS := Aside0.mk hs
  have HR := Aside0.mk ho0
  have HB := Aside0.mk hB
  clear hs ho0 hB
  go_enter Try.func50, Try.ntmps50
  go_wp2_with fail
  refine (provisoref01_IsName.calls k s false _ HS.out).mono ?_
  rintro e w2 ⟨rfl, m, rfl⟩
  go_wp2
  go_ret2
  exact ⟨_, rfl, Kd.R_drewN (Kd.R_mono HR.out (fun _ h => .inl h)) m, pw_below_drewN HB.out m, Kept.of_below (pw_below_drewN (Below.refl _ _) m) _⟩
set_option maxHeartbeats 1600000 in
set_option maxRecDepth 100000 in
theorem PutName_good (k : Nat) (T : Nat → Prop) (v : Value) (l0 : List Int) (s : ByteArray) (r1 : List Int) (r2 : Int) (w0 w : World) (hB : Below w0.heap.size w0 w) (ho0 : Kd.R (Kd.int .u8) 5 w w0.heap.size T v l0) (hT : ∀ k, T k → k < w.heap.size) (hs : provisoref01_IsName.f k s = some true) (hl : s.size ≤ 24) (hj : provisoref01_Join.f l0 (nameBytes s) = some (r1, r2)) :
    Calls Try.prog 50 #[v, .string s] w fun e w' => ∃ v0_ : Value, e = .returned (.tuple #[v0_, .int .i64 r2]) ∧ Kd.R (Kd.int .u8) 5 w' w0.heap.size (fun k_ => T k_ ∨ w.heap.size ≤ k_) v0_ r1 ∧ Below w0.heap.size w0 w' ∧ Kept w w' (fun k_ => T k_) := by
  obtain ⟨A0, c0, rfl⟩ := Kd.R_slice ho0
  have HS := Aside0.mk hs
  have HR := Aside0.mk ho0
  have HB := Aside0.mk hB
  have HT := Aside0.mk hT
  have HL := Aside0.mk hl
  have HJ := Aside0.mk hj
  clear hs ho0 hB hT hl hj
  go_enter Try.func50, Try.ntmps50
  go_wp2_with fail
  refine (provisoref01_IsName.calls k s true _ HS.out).mono ?_
  rintro e w2 ⟨rfl, m, hm⟩
  have hb2 : Below w.heap.size w w2 := by rw [hm]; exact pw_below_drewN (Below.refl _ _) m
  have HB2 := Aside0.mk hb2
  clear hm hb2
  go_wp2_with (first | ((with_reducible refine gate_dst (N := 16) rfl ?_); refine conv_str rfl rfl rfl (by have := HL.out; omega) ?_; intro gc cc w3 hgc hC hb3; have n1 := Aside0.mk (Kd.R_below (R_of_nums (one_own w2 ((s.size : Int) % 256))) hb3); have n2 := Aside0.mk (below_step (below_alloc (Below.refl w2.heap.size w2) (.cells #[.int .u8 ((s.size : Int) % 256)] 5)) hb3); have n3 := Aside0.mk hC; clear hC hb3 hgc) | ((with_reducible refine gate_builtin (b := .append) (xs := #[.tmp 14, .tmp 16]) rfl ?_); at_builtin; refine Kd.R_append_rows (Kd.int .u8) (w0 := w2) w2.heap.size rfl (.tmp 14) (.tmp 16) 23 5 (.int .u8 0) 1 rfl Try.underlying23 info5 rfl (by decide) (by omega) (.slice (some ⟨w2.heap.size, 0, none⟩) 1 1) [(s.size : Int) % 256] (bytesOf s) (some ⟨gc, 0, none⟩) s.size cc (fun _ => True) (fun _ => False) rfl rfl n1.out n3.out (fun _ _ h => h) (fun _ h => h.elim) (fun _ _ => trivial) n2.out n2.out.size (by have := HL.out; simp; omega) ?_; intro v1 w4 ho hb hg hat; have HO := Aside0.mk ho; have HB4 := Aside0.mk hb; obtain ⟨Av, cv, e7⟩ := Kd.R_slice ho; subst e7; clear ho hb hg hat))
  have hO : Kd.R (Kd.int .u8) 5 w4 w2.heap.size (fun _ => True) (.slice Av (nameBytes s).length cv) (nameBytes s) := HO.out
  have hb5 := below_step HB2.out HB4.out
  have hR5 := Kd.R_below HR.out hb5
  have hrd := Kd.R_reads' hO
  refine (provisoref01_Join.calls T _ l0 Av cv (nameBytes s) r1 r2 w0 w4 (below_step HB.out hb5) hR5 (fun W_ hk => (Kd.R_reads' (Kd.R_keptB (Kd.R_bound hO) hk (fun k hk2 ht => by have := HT.out k ht; have := hk2.2.1; have := HB2.out.size; omega))).2.2) hrd.2.1 HJ.out).mono ?_
  rintro e w5 ⟨v0, rfl, q1, q2, q3⟩
  have Q1 := Aside0.mk (Kd.R_mono q1 (fun k hk => hk.imp id (Nat.le_trans hb5.size)))
  have Q2 := Aside0.mk q2
  have Q3 := Aside0.mk ((Kept.of_below hb5 (fun k => T k)).then_ q3 (fun k hk => .inl hk))
  obtain ⟨Ar, cr, rfl⟩ := Kd.R_slice q1
  clear q1 q2 q3 hO hb5 hR5 hrd
  go_wp2
  go_ret2
  exact ⟨_, rfl, Q1.out, Q2.out, Q3.out⟩

end Go.Proofs.Ytklbkonehcjmjaa.P

end

section
namespace Go.Proofs.Ytklbkonehcjmjaa.P
open Go.RowKit Go.Proofs.YtklbkonehcjmjaaW.PrintWords Go.Proofs.YtklbkonehcjmjaaW.PrintLast Go.Proofs.YtklbkonehcjmjaaW.PrintMore
attribute [local go_sem] max2_int min2_int max_two min_two max_three min_three max_four min_four   -- for this text's walks alone
set_option linter.unusedVariables false
set_option linter.unusedSimpArgs false

theorem take_dst2 {P : Program} {ops : Array Oper} {Q : Exit → Act → World → Prop} {S : World → Prop} {md : Region.Mode} {i : Nat} (N : Tmp) {oi : Oper} {v : Value} {fuel : Nat} {listed : Array Bool} {a : Act} {w : World} (hi : ops[i]? = some oi) (hN : oi.dst = some N)
    (hs : Region.noSelect ops = true) (hf : Region.free md ops listed i = true) (hr : (Region.ready md ops listed).contains i = true)
    (hQ : ∀ c a w, Q (.panic c) (a.put (some N) v) w → Q (.panic c) a w) (hy : YieldsIf P ops S oi v a) (hS : S w)
    (h : wpAnyH P md ops Q S fuel (listed.setIfInBounds i true) (a.put (some N) v) w) : wpAnyH P md ops Q S (fuel + 1) listed a w :=
  wpAnyH_take hi hs hf hr (by rw [hN]; exact hQ) hy hS (by rw [hN]; exact h)
theorem region_pat {P : Program} {id : Nat} {ops : Array Oper} {bo : Bool} {Q : Exit → Act → World → Prop} {a : Act} {w : World} (Fact : World → Prop) (A : Act) (hreg : (Code.region id ops bo).wp P (fun e a' w' => Fact w' ∧ e = .normal ∧ a' = A) a w) (h : ∀ w', Fact w' → Q .normal A w') : (Code.region id ops bo).wp P Q a w :=
  Code.wp_mono (fun e a w h1 => by obtain ⟨h2, rfl, rfl⟩ := h1; exact h w h2) hreg
set_option maxHeartbeats 1600000 in
set_option maxRecDepth 100000 in
theorem Patch_bad5 {base g : Nat} {ok : Nat → Prop} {bs : List Int} {w : World} (h : WtAt base g ok bs w) (a n : Int) (hn : n < 0 ∨ n > 65535) : Calls Try.prog 51 #[.pointer (some ⟨g, 0, none⟩), .int .i64 a, .int .i64 n] w fun e w' => e = .returned (.int .i64 5) ∧ Drawn0 w w' := by
  have H := Aside0.mk h
  clear h
  rcases hn with hn | hn
  · have c1 : decide (n < 0) = true := decide_eq_true hn
    clear hn
    go_enter Try.func51, Try.ntmps51
    go_wp2_with fail
    refine (ready_wt H.out).mono ?_
    rintro e w1 ⟨rfl, m, rfl⟩
    go_wp2
    go_ret
    exact ⟨rfl, m, rfl⟩
  · have c1 : decide (n < 0) = false := decide_eq_false (by omega)
    have c2 : decide (65535 < n) = true := decide_eq_true hn
    clear hn
    go_enter Try.func51, Try.ntmps51
    go_wp2_with fail
    refine (ready_wt H.out).mono ?_
    rintro e w1 ⟨rfl, m, rfl⟩
    go_wp2
    go_ret
    exact ⟨rfl, m, rfl⟩
set_option maxHeartbeats 1600000 in
set_option maxRecDepth 100000 in
theorem Patch_bad1 {base g : Nat} {ok : Nat → Prop} {bs : List Int} {w : World} (h : WtAt base g ok bs w) (a n : Int) (h0 : 0 ≤ n) (h1 : n ≤ 65535) (ha : a < 0 ∨ a > (bs.length : Int) - 2) : Calls Try.prog 51 #[.pointer (some ⟨g, 0, none⟩), .int .i64 a, .int .i64 n] w fun e w' => e = .returned (.int .i64 1) ∧ Drawn0 w w' := by
  have hle := h.le
  have hw : wrap64 ((bs.length : Int) - 2) = (bs.length : Int) - 2 := by unfold wrap64; omega
  have H := Aside0.mk h
  clear h
  have c1 : decide (n < 0) = false := decide_eq_false (by omega)
  have c2 : decide (65535 < n) = false := decide_eq_false (by omega)
  rcases ha with ha | ha
  · have c3 : decide (a < 0) = true := decide_eq_true ha
    clear ha h0 h1 hle
    go_enter Try.func51, Try.ntmps51
    go_wp2_with fail
    refine (ready_wt H.out).mono ?_
    rintro e w1 ⟨rfl, m, rfl⟩
    go_wp2
    go_ret
    exact ⟨rfl, m, rfl⟩
  · by_cases h3 : a < 0
    · have c3 : decide (a < 0) = true := decide_eq_true h3
      clear ha h0 h1 hle h3
      go_enter Try.func51, Try.ntmps51
      go_wp2_with fail
      refine (ready_wt H.out).mono ?_
      rintro e w1 ⟨rfl, m, rfl⟩
      go_wp2
      go_ret
      exact ⟨rfl, m, rfl⟩
    · have c3 : decide (a < 0) = false := decide_eq_false h3
      have c4 : decide ((bs.length : Int) - 2 < a) = true := decide_eq_true ha
      clear ha h0 h1 hle h3
      go_enter Try.func51, Try.ntmps51
      go_wp2_with fail
      refine (ready_wt H.out).mono ?_
      rintro e w1 ⟨rfl, m, rfl⟩
      have h4 := H.out.drewN m
      generalize hq : w.drewN m = w1 at h4 ⊢
      obtain ⟨v, h5, h6⟩ := h4.now
      obtain ⟨A, c, rfl⟩ := Kd.R_slice h6
      have hc := blk_cell h5 0
      clear h5 h6 h4
      go_wp2
      go_ret
      exact ⟨rfl, m, hq.symm⟩
set_option maxHeartbeats 3200000 in
set_option maxRecDepth 100000 in
theorem Patch_good {base g : Nat} {ok : Nat → Prop} {bs : List Int} {w : World} (h : WtAt base g ok bs w) (i : Nat) (n : Int) (h0 : 0 ≤ n) (h1 : n ≤ 65535) (hi : i + 2 ≤ bs.length) : Calls Try.prog 51 #[.pointer (some ⟨g, 0, none⟩), .int .i64 (i : Int), .int .i64 n] w fun e w' => e = .returned (.int .i64 0) ∧ WtAt base g ok ((bs.set i (n / 256 % 256)).set (i + 1) (n % 256)) w' ∧ Below base w w' ∧ Kept w w' (fun k => ok k ∧ k ≠ g) := by
  have hle := h.le
  have hw : wrap64 ((bs.length : Int) - 2) = (bs.length : Int) - 2 := by unfold wrap64; omega
  have hw1 : wrap64 ((i : Int) + 1) = (i : Int) + 1 := by unfold wrap64; omega
  have H := Aside0.mk h
  clear h
  have c1 : decide (n < 0) = false := decide_eq_false (by omega)
  have c2 : decide (65535 < n) = false := decide_eq_false (by omega)
  have c3 : decide ((i : Int) < 0) = false := decide_eq_false (by omega)
  have c4 : decide ((bs.length : Int) - 2 < (i : Int)) = false := decide_eq_false (by omega)
  have p1 : (0 ≤ (i : Int)) = True := eq_true (by omega)
  have p2 : ((i : Int) < (bs.length : Int)) = True := eq_true (by omega)
  have p3 : (0 ≤ (i : Int) + 1) = True := eq_true (by omega)
  have p4 : ((i : Int) + 1 < (bs.length : Int)) = True := eq_true (by omega)
  have p5 : (i + 1 < bs.length) = True := eq_true (by omega)
  have p6 : ((i : Int) + 1).toNat = i + 1 := by omega
  have p8 : (i < bs.length) = True := eq_true (by omega)
  have HI := Aside0.mk hi
  clear hle hi
  go_enter Try.func51, Try.ntmps51
  go_wp2_with fail
  refine (ready_wt H.out).mono ?_
  rintro e w1 ⟨rfl, m, rfl⟩
  have h4 := H.out.drewN m
  have hb1 := pw_below_drewN (Below.refl w.heap.size w) m
  have hk1 := Kept.of_below hb1 (fun k => ok k ∧ k ≠ g)
  have hb0 : Below base w (w.drewN m) := pw_below_drewN (Below.refl _ _) m
  generalize w.drewN m = w1 at h4 hb1 hk1 hb0 ⊢
  obtain ⟨v, h5, h6⟩ := h4.now
  have h7 := Kd.R_types h6 h5 (by decide)
  obtain ⟨A, c, rfl⟩ := Kd.R_slice h7
  obtain ⟨ad, hAd, _⟩ := Kd.at_int (Kd.R_reads' h7).2.2 0 (by omega) (by have := HI.out; omega)
  subst hAd
  obtain ⟨ga, rfl⟩ := Kd.R_head h7
  have hga := h7.1 ga rfl
  have hgb := Kd.R_from_ h7 ga rfl
  have hc := blk_cell h5 0
  have H4 := Aside0.mk h4
  have H7 := Aside0.mk h7
  have HGA := Aside0.mk hga
  have HGB := Aside0.mk hgb
  have H5 := Aside0.mk h5
  have HB0 := Aside0.mk hb0
  have HK1 := Aside0.mk hk1
  clear h5 h6 h4 h7 hga hgb hb0 hb1 hk1 H
  have hP : ∀ (W : World) (x y : Int), WtAt base g ok bs W → Kd.R (Kd.int .u8) 5 W base (fun k => ok k ∧ k ≠ g) (.slice (some ⟨ga, 0, none⟩) bs.length c) bs → Below base w W → Kept w W (fun k => ok k ∧ k ≠ g) → W.heap[g]? = some (.cells #[.slice (some ⟨ga, 0, none⟩) bs.length c, .bool true] 81 (0, 0)) →
      WtAt base g ok ((bs.set i x).set (i + 1) y) ((W.setCell ⟨ga, i, none⟩ (.int .u8 x)).setCell ⟨ga, i + 1, none⟩ (.int .u8 y)) ∧ Below base w ((W.setCell ⟨ga, i, none⟩ (.int .u8 x)).setCell ⟨ga, i + 1, none⟩ (.int .u8 y)) ∧ Kept w ((W.setCell ⟨ga, i, none⟩ (.int .u8 x)).setCell ⟨ga, i + 1, none⟩ (.int .u8 y)) (fun k => ok k ∧ k ≠ g) := fun W x y hwt hr hb hk hg => by
    have r1 := Kd.R_putn hr (i : Int) x
    rw [Int.toNat_natCast] at r1
    have r2 := Kd.R_putn r1 ((i + 1 : Nat) : Int) y
    rw [Int.toNat_natCast] at r2
    have hkw := ((Kept.refl W (fun k => k = ga)).setCell (p := ⟨ga, i, none⟩) (.inl rfl) (.int .u8 x)).setCell (p := ⟨ga, i + 1, none⟩) (.inl rfl) (.int .u8 y)
    have hlen : ((bs.set i x).set (i + 1) y).length = bs.length := by rw [List.length_set, List.length_set]
    refine ⟨⟨hwt.ge, by rw [hlen]; exact hwt.le, _, blk_kept hg hkw (fun e => HGA.out.2 e.symm), Kd.R_mono r2 (fun k hk => hk.1)⟩, (hb.setCell (p := ⟨ga, i, none⟩) HGB.out _).setCell (p := ⟨ga, i + 1, none⟩) HGB.out _, (hk.setCell (p := ⟨ga, i, none⟩) (.inl HGA.out) _).setCell (p := ⟨ga, i + 1, none⟩) (.inl HGA.out) _⟩
  have HP := Aside0.mk hP
  clear hP
  go_upto_region 7 with (fail)
  clear hc
  refine' region_pat (fun w' => WtAt base g ok ((bs.set i (n / 256 % 256)).set (i + 1) (n % 256)) w' ∧ Below base w w' ∧ Kept w w' (fun k => ok k ∧ k ≠ g)) _ ?hreg ?hgo
  case hreg =>
    refine wp_region_noPanic ?_
    have hP2 := HP.out (w1.drewN 1) (n / 256 % 256) (n % 256) (H4.out.drewN 1) (Kd.R_drewN H7.out 1) (pw_below_drewN HB0.out 1) (Kept.drewN HK1.out 1) (blk_drewN H5.out 1)
    have HP2 := Aside0.mk hP2
    have HS9 := Aside0.mk (blk_drewN H5.out 1)
    have HR9 := Aside0.mk (Kd.R_drewN H7.out 1)
    have hgg : ga ≠ g := HGA.out.2
    have hE1 : IntKind.u8.wrap (n / 256) = n / 256 % 256 := rfl
    have hE2 : IntKind.u8.wrap n = n % 256 := rfl
    clear hP2
    refine wp_region_held_drew (S := fun w' => w'.heap[g]? = some (.cells #[.slice (some ⟨ga, 0, none⟩) bs.length c, .bool true] 81 (0, 0))) (by kernel_rfl) ?_ (fun hHeld => ?_)
    · exact HS9.out
    change wpAnyH _ _ _ _ _ _ _ _ (World.drewN w1 1)
    change (World.drewN w1 1).heap[g]? = some (.cells #[.slice (some ⟨ga, 0, none⟩) bs.length c, .bool true] 81 (0, 0)) at hHeld
    generalize World.drewN w1 1 = w9 at HS9 HR9 HP2 hHeld ⊢
    refine take_dst2 (i := 0) (v := ?_) 31 rfl rfl (by kernel_rfl) (by kernel_rfl) (by kernel_rfl) (fun _ _ _ h => h) (Or.inl ⟨by rfl, ?_⟩) (by assumption) ?_
    rotate_left
    · intro w hSw
      have hSc := blk_cell hSw 0
      go_simp
      try with_reducible rfl
    (try simp only [Act.put, List.setIfInBounds_toArray, List.set_cons_zero, List.set_cons_succ, i64_w, i32_w, hw1])
    refine take_dst2 (i := 1) (v := ?_) 32 rfl rfl (by kernel_rfl) (by kernel_rfl) (by kernel_rfl) (fun _ _ _ h => h) (Or.inl ⟨by rfl, ?_⟩) (by assumption) ?_
    rotate_left
    · intro w hSw
      have hSc := blk_cell hSw 0
      go_simp
      try with_reducible rfl
    (try simp only [Act.put, List.setIfInBounds_toArray, List.set_cons_zero, List.set_cons_succ, i64_w, i32_w, hw1])
    refine take_dst2 (i := 2) (v := ?_) 33 rfl rfl (by kernel_rfl) (by kernel_rfl) (by kernel_rfl) (fun _ _ _ h => h) (Or.inl ⟨by rfl, ?_⟩) (by assumption) ?_
    rotate_left
    · intro w hSw
      have hSc := blk_cell hSw 0
      go_simp
      try with_reducible rfl
    (try simp only [Act.put, List.setIfInBounds_toArray, List.set_cons_zero, List.set_cons_succ, i64_w, i32_w, hw1])
    refine take_dst2 (i := 3) (v := ?_) 34 rfl rfl (by kernel_rfl) (by kernel_rfl) (by kernel_rfl) (fun _ _ _ h => h) (Or.inl ⟨by rfl, ?_⟩) (by assumption) ?_
    rotate_left
    · intro w hSw
      have hSc := blk_cell hSw 0
      go_simp
      try with_reducible rfl
    (try simp only [Act.put, List.setIfInBounds_toArray, List.set_cons_zero, List.set_cons_succ, i64_w, i32_w, hw1])
    refine take_dst2 (i := 4) (v := ?_) 35 rfl rfl (by kernel_rfl) (by kernel_rfl) (by kernel_rfl) (fun _ _ _ h => h) (Or.inl ⟨by rfl, ?_⟩) (by assumption) ?_
    rotate_left
    · intro w hSw
      have hSc := blk_cell hSw 0
      go_simp
      try with_reducible rfl
    (try simp only [Act.put, List.setIfInBounds_toArray, List.set_cons_zero, List.set_cons_succ, i64_w, i32_w, hw1])
    refine take_dst2 (i := 5) (v := ?_) 36 rfl rfl (by kernel_rfl) (by kernel_rfl) (by kernel_rfl) (fun _ _ _ h => h) (Or.inl ⟨by rfl, ?_⟩) (by assumption) ?_
    rotate_left
    · intro w hSw
      have hSc := blk_cell hSw 0
      go_simp
      try with_reducible rfl
    (try simp only [Act.put, List.setIfInBounds_toArray, List.set_cons_zero, List.set_cons_succ, i64_w, i32_w, hw1])
    refine take_dst2 (i := 6) (v := ?_) 37 rfl rfl (by kernel_rfl) (by kernel_rfl) (by kernel_rfl) (fun _ _ _ h => h) (Or.inl ⟨by rfl, ?_⟩) (by assumption) ?_
    rotate_left
    · intro w hSw
      have hSc := blk_cell hSw 0
      go_simp
      try with_reducible rfl
    (try simp only [Act.put, List.setIfInBounds_toArray, List.set_cons_zero, List.set_cons_succ, i64_w, i32_w, hw1])
    refine take_dst2 (i := 7) (v := ?_) 38 rfl rfl (by kernel_rfl) (by kernel_rfl) (by kernel_rfl) (fun _ _ _ h => h) (Or.inl ⟨by rfl, ?_⟩) (by assumption) ?_
    rotate_left
    · intro w hSw
      have hSc := blk_cell hSw 0
      go_simp
      try with_reducible rfl
    (try simp only [Act.put, List.setIfInBounds_toArray, List.set_cons_zero, List.set_cons_succ, i64_w, i32_w, hw1])
    refine take_dst2 (i := 8) (v := ?_) 39 rfl rfl (by kernel_rfl) (by kernel_rfl) (by kernel_rfl) (fun _ _ _ h => h) (Or.inl ⟨by rfl, ?_⟩) (by assumption) ?_
    rotate_left
    · intro w hSw
      have hSc := blk_cell hSw 0
      go_simp
      try with_reducible rfl
    (try simp only [Act.put, List.setIfInBounds_toArray, List.set_cons_zero, List.set_cons_succ, i64_w, i32_w, hw1])
    refine take_dst2 (i := 9) (v := ?_) 40 rfl rfl (by kernel_rfl) (by kernel_rfl) (by kernel_rfl) (fun _ _ _ h => h) (Or.inl ⟨by rfl, ?_⟩) (by assumption) ?_
    rotate_left
    · intro w hSw
      have hSc := blk_cell hSw 0
      go_simp
      try with_reducible rfl
    (try simp only [Act.put, List.setIfInBounds_toArray, List.set_cons_zero, List.set_cons_succ, i64_w, i32_w, hw1])
    refine take_dst2 (i := 10) (v := ?_) 41 rfl rfl (by kernel_rfl) (by kernel_rfl) (by kernel_rfl) (fun _ _ _ h => h) (Or.inl ⟨by rfl, ?_⟩) (by assumption) ?_
    rotate_left
    · intro w hSw
      have hSc := blk_cell hSw 0
      go_simp
      try with_reducible rfl
    (try simp only [Act.put, List.setIfInBounds_toArray, List.set_cons_zero, List.set_cons_succ, i64_w, i32_w, hw1])
    refine take_dst2 (i := 11) (v := ?_) 42 rfl rfl (by kernel_rfl) (by kernel_rfl) (by kernel_rfl) (fun _ _ _ h => h) (Or.inl ⟨by rfl, ?_⟩) (by assumption) ?_
    rotate_left
    · intro w hSw
      have hSc := blk_cell hSw 0
      go_simp
      try with_reducible rfl
    (try simp only [Act.put, List.setIfInBounds_toArray, List.set_cons_zero, List.set_cons_succ, i64_w, i32_w, hw1])
    refine take_dst2 (i := 12) (v := ?_) 43 rfl rfl (by kernel_rfl) (by kernel_rfl) (by kernel_rfl) (fun _ _ _ h => h) (Or.inl ⟨by rfl, ?_⟩) (by assumption) ?_
    rotate_left
    · intro w hSw
      have hSc := blk_cell hSw 0
      go_simp
      try with_reducible rfl
    (try simp only [Act.put, List.setIfInBounds_toArray, List.set_cons_zero, List.set_cons_succ, i64_w, i32_w, hw1])
    refine take_dst2 (i := 13) (v := ?_) 44 rfl rfl (by kernel_rfl) (by kernel_rfl) (by kernel_rfl) (fun _ _ _ h => h) (Or.inl ⟨by rfl, ?_⟩) (by assumption) ?_
    rotate_left
    · intro w hSw
      have hSc := blk_cell hSw 0
      go_simp
      try with_reducible rfl
    (try simp only [Act.put, List.setIfInBounds_toArray, List.set_cons_zero, List.set_cons_succ, i64_w, i32_w, hw1])
    refine take_dst2 (i := 14) (v := ?_) 45 rfl rfl (by kernel_rfl) (by kernel_rfl) (by kernel_rfl) (fun _ _ _ h => h) (Or.inl ⟨by rfl, ?_⟩) (by assumption) ?_
    rotate_left
    · intro w hSw
      have hSc := blk_cell hSw 0
      go_simp
      try with_reducible rfl
    (try simp only [Act.put, List.setIfInBounds_toArray, List.set_cons_zero, List.set_cons_succ, i64_w, i32_w, hw1])
    refine take_dst2 (i := 15) (v := ?_) 46 rfl rfl (by kernel_rfl) (by kernel_rfl) (by kernel_rfl) (fun _ _ _ h => h) (Or.inl ⟨by rfl, ?_⟩) (by assumption) ?_
    rotate_left
    · intro w hSw
      have hSc := blk_cell hSw 0
      go_simp
      try with_reducible rfl
    (try simp only [Act.put, List.setIfInBounds_toArray, List.set_cons_zero, List.set_cons_succ, i64_w, i32_w, hw1])
    refine take_dst2 (i := 16) (v := ?_) 47 rfl rfl (by kernel_rfl) (by kernel_rfl) (by kernel_rfl) (fun _ _ _ h => h) (Or.inl ⟨by rfl, ?_⟩) (by assumption) ?_
    rotate_left
    · intro w hSw
      have hSc := blk_cell hSw 0
      go_simp
      try with_reducible rfl
    (try simp only [Act.put, List.setIfInBounds_toArray, List.set_cons_zero, List.set_cons_succ, i64_w, i32_w, hw1])
    obtain ⟨hs1, hf1⟩ := Kd.R_celln 0 HR9.out (i : Int) (by omega) (by have := HI.out; omega)
    rw [Int.toNat_natCast] at hs1 hf1
    refine wpAnyH_ready (rs := [17]) (by kernel_rfl) (by simp) ?_
    refine AllReadyH.cons rfl (fun K hK => ?_) AllReadyH.nil
    go_simp
    have hR10 := Kd.R_putn HR9.out (i : Int) (n / 256 % 256)
    rw [Int.toNat_natCast] at hR10
    have hS10 := blk_kept HS9.out ((Kept.refl w9 (fun k => k = ga)).setCell (p := ⟨ga, i, none⟩) (.inl rfl) (.int .u8 (n / 256 % 256))) (fun e => hgg e.symm)
    have HS10 := Aside0.mk hS10
    have HR10 := Aside0.mk hR10
    refine hK.out _ _ hS10 (fun hHeld => ?_)
    (try simp only [Act.put, List.setIfInBounds_toArray, List.set_cons_zero, List.set_cons_succ, i64_w, i32_w, hw1])
    clear hK K hS10 hR10 hs1 hf1
    refine take_dst2 (i := 18) (v := ?_) 48 rfl rfl (by kernel_rfl) (by kernel_rfl) (by kernel_rfl) (fun _ _ _ h => h) (Or.inl ⟨by rfl, ?_⟩) (by assumption) ?_
    rotate_left
    · intro w hSw
      have hSc := blk_cell hSw 0
      go_simp
      try with_reducible rfl
    (try simp only [Act.put, List.setIfInBounds_toArray, List.set_cons_zero, List.set_cons_succ, i64_w, i32_w, hw1])
    obtain ⟨hs2, hf2⟩ := Kd.R_celln 0 HR10.out ((i + 1 : Nat) : Int) (by omega) (by have := HI.out; omega)
    rw [Int.toNat_natCast] at hs2 hf2
    refine wpAnyH_ready (rs := [19]) (by kernel_rfl) (by simp) ?_
    refine AllReadyH.cons rfl (fun K hK => ?_) AllReadyH.nil
    go_simp
    have hS11 := blk_kept HS10.out ((Kept.refl (w9.setCell ⟨ga, i, none⟩ (.int .u8 (n / 256 % 256))) (fun k => k = ga)).setCell (p := ⟨ga, i + 1, none⟩) (.inl rfl) (.int .u8 (n % 256))) (fun e => hgg e.symm)
    refine hK.out _ _ hS11 (fun hHeld => ?_)
    (try simp only [Act.put, List.setIfInBounds_toArray, List.set_cons_zero, List.set_cons_succ, i64_w, i32_w, hw1])
    clear hK K
    refine wpAnyH_done (by kernel_rfl) ?_ _
    refine NoPanic.normal ⟨?_, rfl, ?_⟩
    · exact HP2.out
    · exact Eq.refl _
  case hgo =>
    intro w2 hF
    have HF := Aside0.mk hF
    clear hF
    go_wp2
    go_ret
    exact ⟨rfl, HF.out⟩

def provisoref01_Patch.j0 : Nat → List Int → Int → Int → Bool → Option (List Int × Int)
  | 0, _, _, _, _ => none
  | k + 1, x0, x1, x2, x9 => if x9 = true then (some (x0, 5)) else (if x1 < 0 then (some (x0, 1)) else (if x1 > (wrap64 ((x0.length : Int) - 2)) then (some (x0, 1)) else ((some (([] : List Int) : List Int)).bind fun y130 => (if y130.length + x0.length < 140737488355328 then ((some (y130 ++ x0 : List Int)).bind fun y133 => (if 0 ≤ x1 then (if x1 < (y133.length : Int) then (if 0 ≤ (wrap64 (x1 + 1)) then (if (wrap64 (x1 + 1)) < (y133.length : Int) then (some (((y133.set (x1 : Int).toNat ((x2 / 256) % 256)).set ((wrap64 (x1 + 1)) : Int).toNat ((x2) % 256)), 0)) else (none)) else (none)) else (none)) else (none))) else (none)))))
def provisoref01_Patch.f (k : Nat) (l0 : List Int) (a1 : Int) (a2 : Int) : Option (List Int × Int) := if a2 < 0 then (provisoref01_Patch.j0 k l0 a1 a2 true) else (provisoref01_Patch.j0 k l0 a1 a2 (decide (a2 > 65535)))
set_option maxHeartbeats 8000000 in
set_option maxRecDepth 100000 in
theorem provisoref01_Patch.calls (k : Nat) (P0_ : Nat → Prop) (u9000_ : Value) (l0 : List Int) (a1 : Int) (a2 : Int) (r1 : List Int) (r2 : Int) (w0 w : World) (hB : Below w0.heap.size w0 w) (ho0 : Kd.R (Kd.int .u8) 5 w w0.heap.size P0_ u9000_ l0) (h : provisoref01_Patch.f k l0 a1 a2 = some (r1, r2)) :
    Calls Try.prog 52 #[u9000_, .int .i64 a1, .int .i64 a2] w fun e w' => ∃ v0_ : Value, e = .returned (.tuple #[v0_, .int .i64 r2]) ∧ Kd.R (Kd.int .u8) 5 w' w0.heap.size (fun k_ => (P0_ k_ ∨ w.heap.size ≤ k_)) v0_ r1 ∧ Below w0.heap.size w0 w' ∧ Kept w w' (fun k_ => P0_ k_) := by
  have HO0 := Aside0.mk (show Kd.R (Kd.int .u8) 5 w w0.heap.size (fun k_ => (P0_ k_ ∨ w.heap.size ≤ k_)) u9000_ l0 from Kd.R_mono ho0 (fun k_ hk => (.inl hk)))
  have HK := Aside0.mk (Kept.refl w (fun k_ => P0_ k_))
  have HW0 := Aside0.mk hB.size
  have HB := Aside0.mk hB
  clear hB
  have H : (if a2 < 0 then (provisoref01_Patch.j0 k l0 a1 a2 true) else (provisoref01_Patch.j0 k l0 a1 a2 (decide (a2 > 65535)))) = some (r1, r2) := h
  clear h
  have HC4 := Aside0.mk H
  clear H
  go_enter Try.func52, Try.ntmps52
  go_upto_region 1 with (fail)
  go_cut [9] (fun v9 wc => ∃ (kq : Nat) (x9_3 : Bool), v9 = .bool x9_3 ∧ Aside0 (provisoref01_Patch.j0 kq l0 a1 a2 x9_3 = some (r1, r2)) ∧ Aside0 (kq ≤ k) ∧ Aside0 (Kd.R (Kd.int .u8) 5 wc w0.heap.size (fun k_ => (P0_ k_ ∨ w.heap.size ≤ k_)) u9000_ l0) ∧ Aside0 (Kept w wc (fun k_ => P0_ k_)) ∧ Aside0 (Below w0.heap.size w0 wc))
  case first =>
    have H := HC4.out
    clear HC4
    by_cases c5 : a2 < 0
    · rw [if_pos c5] at H
      have c5b0 : decide (a2 < 0) = true := decide_eq_true c5
      clear c5
      (first | rw [c5b0] | (simp only [i64_w, i32_w]; rw [c5b0]) | skip)
      have H' := Aside0.mk H
      clear H
      go_wp2
      go_meet
      case rel => exact ⟨_, (true), (by first | rfl | (simp; done) | (simp [*]; done)), H', ⟨by first | omega | exact Nat.le_refl _⟩, ⟨by (with_reducible repeat (first | apply Kd.R_alloc | apply Kd.R_drewN | apply Kd.R_drew)); exact HO0.out⟩, ⟨by repeat (first | (with_reducible first | exact HK.out | apply Kept.alloc | apply Kept.drewN | apply Kept.drew) | exact HK.out)⟩, ⟨by repeat (first | (with_reducible first | exact HB.out | apply below_alloc | apply pw_below_drewN | apply below_drew1) | exact HB.out)⟩⟩
    · rw [if_neg c5] at H
      have c5b0 : decide (a2 < 0) = false := decide_eq_false c5
      clear c5
      (first | rw [c5b0] | (simp only [i64_w, i32_w]; rw [c5b0]) | skip)
      have H' := Aside0.mk H
      clear H
      go_wp2
      go_meet
      case rel => exact ⟨_, (decide (a2 > 65535)), (by first | rfl | (simp; done) | (simp [*]; done)), H', ⟨by first | omega | exact Nat.le_refl _⟩, ⟨by (with_reducible repeat (first | apply Kd.R_alloc | apply Kd.R_drewN | apply Kd.R_drew)); exact HO0.out⟩, ⟨by repeat (first | (with_reducible first | exact HK.out | apply Kept.alloc | apply Kept.drewN | apply Kept.drew) | exact HK.out)⟩, ⟨by repeat (first | (with_reducible first | exact HB.out | apply below_alloc | apply pw_below_drewN | apply below_drew1) | exact HB.out)⟩⟩
  case rest =>
    clear HC4
    try clear p2
    try clear c5
    try clear c5b0
    obtain ⟨kq, x9_3, rfl, HA, HJ3, HO_0, HK, HB⟩ := hcut
    cases kq with
    | zero => exact absurd HA.out (by simp [provisoref01_Patch.j0])
    | succ kj3 =>
      have H := HA.out
      clear HA
      simp only [provisoref01_Patch.j0] at H
      by_cases c6 : x9_3 = true
      · subst c6
        have H1 : (some (l0, 5)) = some (r1, r2) := by rw [if_pos rfl] at H; exact H
        clear H
        have H := H1
        clear H1
        simp only [Option.some.injEq, Prod.mk.injEq] at H
        obtain ⟨rfl, rfl⟩ := H
        go_wp2
        go_ret2
        exact ⟨_, by first | rfl | (simp [errW_none, errW_some] <;> rfl) | (simp [*, errW_none, errW_some] <;> rfl), by (with_reducible repeat (first | apply Kd.R_alloc | apply Kd.R_drewN | apply Kd.R_drew)); exact HO_0.out, by repeat (first | (with_reducible first | exact HB.out | apply below_alloc | apply pw_below_drewN | apply below_drew1) | exact HB.out), by repeat (first | (with_reducible first | exact HK.out | apply Kept.alloc | apply Kept.drewN | apply Kept.drew) | exact HK.out)⟩
      · replace c6 := Bool.eq_false_iff.mpr c6
        subst c6
        have H1 : (if a1 < 0 then (some (l0, 1)) else (if a1 > (wrap64 ((l0.length : Int) - 2)) then (some (l0, 1)) else ((some (([] : List Int) : List Int)).bind fun y130 => (if y130.length + l0.length < 140737488355328 then ((some (y130 ++ l0 : List Int)).bind fun y133 => (if 0 ≤ a1 then (if a1 < (y133.length : Int) then (if 0 ≤ (wrap64 (a1 + 1)) then (if (wrap64 (a1 + 1)) < (y133.length : Int) then (some (((y133.set (a1 : Int).toNat ((a2 / 256) % 256)).set ((wrap64 (a1 + 1)) : Int).toNat ((a2) % 256)), 0)) else (none)) else (none)) else (none)) else (none))) else (none))))) = some (r1, r2) := by rw [if_neg (show ¬ (false = true) by decide)] at H; exact H
        clear H
        have H := H1
        clear H1
        by_cases c7 : a1 < 0
        · rw [if_pos c7] at H
          have c7b0 : decide (a1 < 0) = true := decide_eq_true c7
          clear c7
          simp only [Option.some.injEq, Prod.mk.injEq] at H
          obtain ⟨rfl, rfl⟩ := H
          go_wp2
          go_ret2
          exact ⟨_, by first | rfl | (simp [errW_none, errW_some] <;> rfl) | (simp [*, errW_none, errW_some] <;> rfl), by (with_reducible repeat (first | apply Kd.R_alloc | apply Kd.R_drewN | apply Kd.R_drew)); exact HO_0.out, by repeat (first | (with_reducible first | exact HB.out | apply below_alloc | apply pw_below_drewN | apply below_drew1) | exact HB.out), by repeat (first | (with_reducible first | exact HK.out | apply Kept.alloc | apply Kept.drewN | apply Kept.drew) | exact HK.out)⟩
        · rw [if_neg c7] at H
          have c7b0 : decide (a1 < 0) = false := decide_eq_false c7
          clear c7
          by_cases c8 : a1 > (wrap64 ((l0.length : Int) - 2))
          · rw [if_pos c8] at H
            have c8b0 : decide ((wrap64 ((l0.length : Int) - 2)) < a1) = true := decide_eq_true c8
            clear c8
            simp only [Option.some.injEq, Prod.mk.injEq] at H
            obtain ⟨rfl, rfl⟩ := H
            obtain ⟨Ao9, co9, eo9⟩ := Kd.R_slice HO_0.out
            subst eo9
            go_wp2
            go_ret2
            exact ⟨_, by first | rfl | (simp [errW_none, errW_some] <;> rfl) | (simp [*, errW_none, errW_some] <;> rfl), by (with_reducible repeat (first | apply Kd.R_alloc | apply Kd.R_drewN | apply Kd.R_drew)); exact HO_0.out, by repeat (first | (with_reducible first | exact HB.out | apply below_alloc | apply pw_below_drewN | apply below_drew1) | exact HB.out), by repeat (first | (with_reducible first | exact HK.out | apply Kept.alloc | apply Kept.drewN | apply Kept.drew) | exact HK.out)⟩
          · rw [if_neg c8] at H
            have c8b0 : decide ((wrap64 ((l0.length : Int) - 2)) < a1) = false := decide_eq_false c8
            clear c8
            obtain ⟨y130, hy130⟩ : ∃ y_ : List Int, y_ = (([] : List Int)) := ⟨_, rfl⟩
            replace H : (if y130.length + l0.length < 140737488355328 then ((some (y130 ++ l0 : List Int)).bind fun y133 => (if 0 ≤ a1 then (if a1 < (y133.length : Int) then (if 0 ≤ (wrap64 (a1 + 1)) then (if (wrap64 (a1 + 1)) < (y133.length : Int) then (some (((y133.set (a1 : Int).toNat ((a2 / 256) % 256)).set ((wrap64 (a1 + 1)) : Int).toNat ((a2) % 256)), 0)) else (none)) else (none)) else (none)) else (none))) else (none)) = some (r1, r2) := by first | (rw [hy130]; with_reducible exact H) | (have H2_ := (Option.bind_some _ _).symm.trans H; rw [hy130]; with_reducible exact H2_) | (have H2_ := (Option.bind_some _ _).symm.trans H; with_reducible exact H2_) | with_reducible exact H | (rw [hy130]; exact H) | exact H
            have Ny130 := Aside0.mk hy130
            clear hy130
            by_cases c10 : y130.length + l0.length < 140737488355328
            · rw [if_pos c10] at H
              have LMc10 := Aside0.mk c10
              clear c10
              obtain ⟨y133, hy133⟩ : ∃ y_ : List Int, y_ = (y130 ++ l0) := ⟨_, rfl⟩
              replace H : (if 0 ≤ a1 then (if a1 < (y133.length : Int) then (if 0 ≤ (wrap64 (a1 + 1)) then (if (wrap64 (a1 + 1)) < (y133.length : Int) then (some (((y133.set (a1 : Int).toNat ((a2 / 256) % 256)).set ((wrap64 (a1 + 1)) : Int).toNat ((a2) % 256)), 0)) else (none)) else (none)) else (none)) else (none)) = some (r1, r2) := by first | (rw [hy133]; with_reducible exact H) | (have H2_ := (Option.bind_some _ _).symm.trans H; rw [hy133]; with_reducible exact H2_) | (have H2_ := (Option.bind_some _ _).symm.trans H; with_reducible exact H2_) | with_reducible exact H | (rw [hy133]; exact H) | exact H
              have Ny133 := Aside0.mk hy133
              clear hy133
              by_cases c11 : 0 ≤ a1
              · rw [if_pos c11] at H
                have c11b0 : decide (0 ≤ a1) = true := decide_eq_true c11
                clear c11
                by_cases c12 : a1 < (y133.length : Int)
                · rw [if_pos c12] at H
                  have c12b0 : decide (a1 < (y133.length : Int)) = true := decide_eq_true c12
                  clear c12
                  obtain ⟨y136, hy136⟩ : ∃ y_ : List Int, y_ = (y133.set (a1 : Int).toNat ((a2 / 256) % 256)) := ⟨_, rfl⟩
                  replace H : (if 0 ≤ (wrap64 (a1 + 1)) then (if (wrap64 (a1 + 1)) < (y133.length : Int) then (some ((y136.set ((wrap64 (a1 + 1)) : Int).toNat ((a2) % 256)), 0)) else (none)) else (none)) = some (r1, r2) := by first | (rw [hy136]; with_reducible exact H) | (have H2_ := (Option.bind_some _ _).symm.trans H; rw [hy136]; with_reducible exact H2_) | (have H2_ := (Option.bind_some _ _).symm.trans H; with_reducible exact H2_) | with_reducible exact H | (rw [hy136]; exact H) | exact H
                  have Ny136 := Aside0.mk hy136
                  clear hy136
                  obtain ⟨ji14, hji14⟩ : ∃ j_ : Int, (wrap64 (a1 + 1)) = j_ := ⟨_, rfl⟩
                  replace H : (if 0 ≤ (ji14) then (if (ji14) < (y133.length : Int) then (some ((y136.set ((ji14) : Int).toNat ((a2) % 256)), 0)) else (none)) else (none)) = some (r1, r2) := by first | (rw [hji14] at H; exact H) | (simp only [hji14] at H ⊢; exact H)
                  have hji14w : (IntKind.i64.wrap (a1 + 1)) = ji14 := (i64_w _).trans hji14
                  by_cases c15 : 0 ≤ (ji14)
                  · rw [if_pos c15] at H
                    have c15b0 : decide (0 ≤ (ji14)) = true := decide_eq_true c15
                    clear c15
                    by_cases c16 : (ji14) < (y133.length : Int)
                    · rw [if_pos c16] at H
                      have c16b0 : decide ((ji14) < (y133.length : Int)) = true := decide_eq_true c16
                      clear c16
                      obtain ⟨y137, hy137⟩ : ∃ y_ : List Int, y_ = (y136.set ((ji14) : Int).toNat ((a2) % 256)) := ⟨_, rfl⟩
                      replace H : (some (y137, 0)) = some (r1, r2) := by first | (rw [hy137]; with_reducible exact H) | (have H2_ := (Option.bind_some _ _).symm.trans H; rw [hy137]; with_reducible exact H2_) | (have H2_ := (Option.bind_some _ _).symm.trans H; with_reducible exact H2_) | with_reducible exact H | (rw [hy137]; exact H) | exact H
                      have Ny137 := Aside0.mk hy137
                      clear hy137
                      simp only [Option.some.injEq, Prod.mk.injEq] at H
                      obtain ⟨rfl, rfl⟩ := H
                      obtain ⟨Ao18, co18, eo18⟩ := Kd.R_slice HO_0.out
                      subst eo18
                      go_wp2_with (first | ((with_reducible refine gate_dst (N := 28) rfl ?_); (try (refine gate_guard (by rfl) ?_; dsimp only)); refine Kd.R_lit (Kd.int .u8) _ 5 ?hg (N := 28) ?hd (xs := ([] : List Int)) (inner := []) (ok := fun _ => True) (okp := fun _ => True) ?hr ?hp (fun _ hk => hk) trivial (Below.refl _ _) (Nat.le_refl _) (by simp) ?_; (case hd => rfl); (case hg => rfl); (case hr => first | (go_simp; done) | (go_simp; rfl)); (case hp => exact (Reps.none _ _)); intro v131 w19 ho20 hb hg_ hnew_; clear hg_ hnew_; (first | rw [← Ny130.out] at ho20 | (simp only [Int.reduceToNat] at ho20; rw [← Ny130.out] at ho20)); have n0_ := Aside0.mk (Kd.R_elder' (by (with_reducible repeat (first | apply Kd.R_alloc | apply Kd.R_drewN | apply Kd.R_drew)); exact HO_0.out) (Kd.R_base ho20) hb); have n1_ := Aside0.mk (Kd.R_lower (Kd.R_new' (Kd.R_newM (M := fun k_ => (P0_ k_ ∨ w.heap.size ≤ k_)) ho20 (by first | exact HK.out.1 | exact (show Kept w _ (fun k_ => P0_ k_) from by repeat (first | (with_reducible first | exact HK.out | apply Kept.alloc | apply Kept.drewN | apply Kept.drew) | exact HK.out)).1) (fun k_ h_ => .inr h_)) (Kd.R_lt (by (with_reducible repeat (first | apply Kd.R_alloc | apply Kd.R_drewN | apply Kd.R_drew)); exact HO_0.out))) (below_size (by repeat (first | (with_reducible first | exact HB.out | apply below_alloc | apply pw_below_drewN | apply below_drew1) | exact HB.out)))); have n2_ := Aside0.mk (Kept.below (S := (fun k_ => P0_ k_)) (by repeat (first | (with_reducible first | exact HK.out | apply Kept.alloc | apply Kept.drewN | apply Kept.drew) | exact HK.out)) hb); have n3_ := Aside0.mk (below_step (by repeat (first | (with_reducible first | exact HB.out | apply below_alloc | apply pw_below_drewN | apply below_drew1) | exact HB.out)) hb); clear HO_0; clear HK; clear HB; have HO_0 := n0_; have HO132 := n1_; have HK := n2_; have HB := n3_; clear n0_ n1_ n2_ n3_; clear hb ho20) | ((with_reducible refine gate_builtin (b := .append) (xs := #[.tmp 28, .tmp 29]) rfl ?_); (try (refine gate_guard (by rfl) ?_; dsimp only)); at_builtin; refine Kd.R_append_rows (Kd.int .u8) (w0 := w0) w0.heap.size rfl (.tmp 28) (.tmp 29) 23 5 (.int .u8 0) 1 rfl Try.underlying23 info5 rfl (by decide) (by omega) v131 y130 l0 _ _ _ (fun k_ => (P0_ k_ ∨ w.heap.size ≤ k_) ∧ some k_ ≠ (.slice Ao18 l0.length co18 : Value).ownBlock) (fun _ => False) rfl rfl ?aO ?aR (fun _ _ h => h) (fun _ h => h.elim) ?aF ?aB ?aS ?aL ?_; (case aR => repeat (first | exact (Kd.R_reads' HO_0.out).2.2 | (with_reducible refine Kd.C_alloc ?_ _) | (with_reducible refine Kd.C_drewN ?_ _) | (with_reducible refine Kd.C_drew ?_))); (case aB => exact (by repeat (first | (with_reducible first | exact HB.out | apply below_alloc | apply pw_below_drewN | apply below_drew1) | exact HB.out))); (case aF => exact (fun k_ hk => ⟨(.inr (Nat.le_trans (by first | exact HK.out.1 | exact (show Kept w _ (fun k_ => P0_ k_) from by repeat (first | (with_reducible first | exact HK.out | apply Kept.alloc | apply Kept.drewN | apply Kept.drew) | exact HK.out)).1) hk)), Kd.fresh' (Kd.R_lt (by (with_reducible repeat (first | apply Kd.R_alloc | apply Kd.R_drewN | apply Kd.R_drew)); exact HO_0.out)) k_ hk⟩)); (case aO => exact (by (with_reducible repeat (first | apply Kd.R_alloc | apply Kd.R_drewN | apply Kd.R_drew)); exact Kd.R_mono HO132.out (fun _ hk => ⟨hk.1.1, hk.2⟩))); (case aS => exact (below_size (by repeat (first | (with_reducible first | exact HB.out | apply below_alloc | apply pw_below_drewN | apply below_drew1) | exact HB.out)))); (case aL => have := LMc10.out; omega); intro v134 w21 ho hb hg hat; rw [← Ny133.out] at ho; have n0_ := Aside0.mk (Kd.R_after (ok := (fun k_ => (P0_ k_ ∨ w.heap.size ≤ k_))) (by (with_reducible repeat (first | apply Kd.R_alloc | apply Kd.R_drewN | apply Kd.R_drew)); exact HO_0.out) hg hat); have n1_ := Aside0.mk (hb); have n2_ := Aside0.mk (Kept.of_grown (S := (fun k_ => P0_ k_)) hg (by repeat (first | (with_reducible first | exact HK.out | apply Kept.alloc | apply Kept.drewN | apply Kept.drew) | exact HK.out)) (fun k_ e_ => (HO132.out.1 k_ e_).1.1)); have n3_ := Aside0.mk (ho); clear HO_0; clear HB; clear HK; clear HO132; have HO_0 := n0_; have HB := n1_; have HK := n2_; have HO135 := n3_; clear n0_ n1_ n2_ n3_; clear ho hb hg hat; have p13 : 0 ≤ (a1 : Int) := of_decide_eq_true (by first | (with_reducible assumption) | assumption); have q13 : (a1 : Int) < ((y133.length : Int) : Int) := of_decide_eq_true (by first | (with_reducible assumption) | assumption); obtain ⟨go13, co13, eo13, gb13, gl13, cl13, HG13⟩ := Kd.R_form HO135.out (by omega); (first | cases eo13 | (injection eo13 with ea_ en_ ec_; (first | subst ea_ | (injection ea_ with ea_; subst ea_)); subst ec_; clear en_)); have GB13 := Aside0.mk gb13; have GG13 := Aside0.mk HG13; clear gb13 gl13 HG13; have HMgo13 := Aside0.mk (show (P0_ go13 ∨ w.heap.size ≤ go13) from (HO135.out.1 _ rfl).1); obtain ⟨hx13_0, hf13_0⟩ := Kd.R_celln 0 HO135.out (a1 : Int) p13 q13; replace p13 := eq_true p13; replace q13 := eq_true q13; obtain ⟨hy22_, hz22_⟩ := Kd.R_celln 0 HO135.out (a1 : Int) (of_decide_eq_true (by first | (with_reducible assumption) | assumption)) (of_decide_eq_true (by first | (with_reducible assumption) | assumption)); have HP22 := Kd.R_putg HO135.out (a1 : Int) ((a2 / 256) % 256)) | ((with_reducible refine gate_store (t := 5) (p := 41) rfl ?_); refine store_event (t := 5) (p := 41) (v := ?vo_w23) (w1 := (w21.setCell ⟨go13, (a1 : Int).toNat, none⟩ (.int .u8 ((a2 / 256) % 256)))) ?hg ?ho ?hn ?hr ?_; (case ho => rfl); (case hg => rfl); (case hn => rfl); (case hr => first | (go_simp; done) | (go_simp; rfl)); intro w23 hw; have hg : w21.grownBy w23 (some go13) := (by rw [hw]; exact HP22.2); have hp_ : Kd.R (Kd.int .u8) 5 w23 w0.heap.size (fun k_ => (P0_ k_ ∨ w.heap.size ≤ k_) ∧ some k_ ≠ (.slice Ao18 l0.length co18 : Value).ownBlock) (.slice (some ⟨go13, 0, none⟩) y133.length co13) y136 := (by rw [hw, Ny136.out]; exact HP22.1); clear HP22; have n0_ := Aside0.mk (Kd.R_after (v := (.slice (some ⟨go13, 0, none⟩) y133.length co13)) (v1 := (.slice (some ⟨go13, 0, none⟩) y133.length co13)) (ok := (fun k_ => (P0_ k_ ∨ w.heap.size ≤ k_))) (by (with_reducible repeat (first | apply Kd.R_alloc | apply Kd.R_drewN | apply Kd.R_drew)); exact HO_0.out) hg (.inl rfl)); have n1_ := Aside0.mk (hp_); have n2_ := Aside0.mk ((by rw [hw]; exact below_set (HB.out) GB13.out : Below w0.heap.size w0 w23)); have n3_ := Aside0.mk (Kept.of_grown (S := (fun k_ => P0_ k_)) hg (by repeat (first | (with_reducible first | exact HK.out | apply Kept.alloc | apply Kept.drewN | apply Kept.drew) | exact HK.out)) (fun k_ e_ => (HO135.out.1 k_ e_).1)); clear HO_0; clear HO135; clear HB; clear HK; have HO_0 := n0_; have HO135 := n1_; have HB := n2_; have HK := n3_; clear n0_ n1_ n2_ n3_; clear hg hw hp_; have p17 : 0 ≤ ((ji14) : Int) := of_decide_eq_true (by first | (with_reducible assumption) | assumption); have q17 : ((ji14) : Int) < ((y133.length : Int) : Int) := of_decide_eq_true (by first | (with_reducible assumption) | assumption); obtain ⟨hx17_0, hf17_0⟩ := Kd.R_celln 0 HO135.out ((ji14) : Int) p17 q17; replace p17 := eq_true p17; replace q17 := eq_true q17; obtain ⟨hy24_, hz24_⟩ := Kd.R_celln 0 HO135.out ((ji14) : Int) (of_decide_eq_true (by first | (with_reducible assumption) | assumption)) (of_decide_eq_true (by first | (with_reducible assumption) | assumption)); have HP24 := Kd.R_putg HO135.out ((ji14) : Int) ((a2) % 256)) | ((with_reducible refine gate_store (t := 5) (p := 42) rfl ?_); refine store_event (t := 5) (p := 42) (v := ?vo_w25) (w1 := (w23.setCell ⟨go13, ((ji14) : Int).toNat, none⟩ (.int .u8 ((a2) % 256)))) ?hg ?ho ?hn ?hr ?_; (case ho => rfl); (case hg => rfl); (case hn => rfl); (case hr => first | (go_simp; done) | (go_simp; rfl)); intro w25 hw; have hg : w23.grownBy w25 (some go13) := (by rw [hw]; exact HP24.2); have hp_ : Kd.R (Kd.int .u8) 5 w25 w0.heap.size (fun k_ => (P0_ k_ ∨ w.heap.size ≤ k_) ∧ some k_ ≠ (.slice Ao18 l0.length co18 : Value).ownBlock) (.slice (some ⟨go13, 0, none⟩) y133.length co13) y137 := (by rw [hw, Ny137.out]; exact HP24.1); clear HP24; have n0_ := Aside0.mk (Kd.R_after (v := (.slice (some ⟨go13, 0, none⟩) y133.length co13)) (v1 := (.slice (some ⟨go13, 0, none⟩) y133.length co13)) (ok := (fun k_ => (P0_ k_ ∨ w.heap.size ≤ k_))) (by (with_reducible repeat (first | apply Kd.R_alloc | apply Kd.R_drewN | apply Kd.R_drew)); exact HO_0.out) hg (.inl rfl)); have n1_ := Aside0.mk (hp_); have n2_ := Aside0.mk ((by rw [hw]; exact below_set (HB.out) GB13.out : Below w0.heap.size w0 w25)); have n3_ := Aside0.mk (Kept.of_grown (S := (fun k_ => P0_ k_)) hg (by repeat (first | (with_reducible first | exact HK.out | apply Kept.alloc | apply Kept.drewN | apply Kept.drew) | exact HK.out)) (fun k_ e_ => (HO135.out.1 k_ e_).1)); clear HO_0; clear HO135; clear HB; clear HK; have HO_0 := n0_; have HO135 := n1_; have HB := n2_; have HK := n3_; clear n0_ n1_ n2_ n3_; clear hg hw hp_))
                      go_ret2
                      exact ⟨_, by first | rfl | (simp [errW_none, errW_some] <;> rfl) | (simp only [← hji14]; first | rfl | (simp [errW_none, errW_some] <;> rfl)) | (simp [*, errW_none, errW_some] <;> rfl), by (with_reducible repeat (first | apply Kd.R_alloc | apply Kd.R_drewN | apply Kd.R_drew)); exact Kd.R_mono HO135.out (fun _ hk => hk.1), by repeat (first | (with_reducible first | exact HB.out | apply below_alloc | apply pw_below_drewN | apply below_drew1) | exact HB.out), by repeat (first | (with_reducible first | exact HK.out | apply Kept.alloc | apply Kept.drewN | apply Kept.drew) | exact HK.out)⟩
                    · rw [if_neg c16] at H
                      exact absurd H (by simp)
                  · rw [if_neg c15] at H
                    exact absurd H (by simp)
                · rw [if_neg c12] at H
                  exact absurd H (by simp)
              · rw [if_neg c11] at H
                exact absurd H (by simp)
            · rw [if_neg c10] at H
              exact absurd H (by simp)

end Go.Proofs.Ytklbkonehcjmjaa.P

end

section
namespace Go.Proofs.Ytklbkonehcjmjaa.P
open Go.RowKit Go.Proofs.YtklbkonehcjmjaaW.PrintWords Go.Proofs.YtklbkonehcjmjaaW.PrintLast Go.Proofs.YtklbkonehcjmjaaW.PrintMore
attribute [local go_sem] max2_int min2_int max_two min_two max_three min_three max_four min_four   -- for this text's walks alone
set_option linter.unusedVariables false
set_option linter.unusedSimpArgs false

structure PutAt (w : World) (g : Nat) (S T : Nat → Prop) (bw br : List Int) (v : Value) (W : World) : Prop where
  wt : WtAt w.heap.size g S bw W
  row : Kd.R (Kd.int .u8) 5 W w.heap.size T v br
  below : Below w.heap.size w W
  apart : ∀ k, T k → ¬ S k ∧ k ≠ g
  tl : ∀ k, T k → w.heap.size ≤ k
  sb : ∀ k, S k → k < W.heap.size
  tb : ∀ k, T k → k < W.heap.size
  gb : g < W.heap.size
theorem PutAt.step {w : World} {g : Nat} {S T : Nat → Prop} {bw br : List Int} {v : Value} {W W' : World} (h : PutAt w g S T bw br v W) (hb : Below W.heap.size W W') : PutAt w g S T bw br v W' :=
  ⟨h.wt.step hb, Kd.R_below h.row hb, below_step h.below hb, h.apart, h.tl, fun k hk => Nat.lt_of_lt_of_le (h.sb k hk) hb.size, fun k hk => Nat.lt_of_lt_of_le (h.tb k hk) hb.size, Nat.lt_of_lt_of_le h.gb hb.size⟩
theorem PutAt.wrote {w : World} {g : Nat} {S T : Nat → Prop} {bw br bw' : List Int} {v : Value} {W W' : World} (h : PutAt w g S T bw br v W) (h1 : WtAt w.heap.size g (fun k => S k ∨ W.heap.size ≤ k) bw' W') (h2 : Below w.heap.size W W') (h3 : Kept W W' (fun k => S k ∨ k = g)) : PutAt w g (fun k => (S k ∨ W.heap.size ≤ k) ∧ k < W'.heap.size) T bw' br v W' :=
  ⟨h1.bound, Kd.R_mono (Kd.R_keptB h.row h3 (fun k hk hh => hh.elim (h.apart k hk).1 (h.apart k hk).2)) (fun k hk => hk.1), h.below.trans h2, fun k hk => ⟨fun hh => hh.1.elim (h.apart k hk).1 (fun h4 => by have := h.tb k hk; omega), (h.apart k hk).2⟩, h.tl, fun k hk => hk.2, fun k hk => Nat.lt_of_lt_of_le (h.tb k hk) h3.1, Nat.lt_of_lt_of_le h.gb h3.1⟩
theorem PutAt.joined {w : World} {g : Nat} {S T : Nat → Prop} {bw br br' : List Int} {v v' : Value} {W W' : World} (h : PutAt w g S T bw br v W) (h1 : Kd.R (Kd.int .u8) 5 W' w.heap.size (fun k => T k ∨ W.heap.size ≤ k) v' br') (h2 : Below w.heap.size w W') (h3 : Kept W W' (fun k => T k)) : PutAt w g S (fun k => (T k ∨ W.heap.size ≤ k) ∧ k < W'.heap.size) bw br' v' W' :=
  ⟨h.wt.kept h3 (fun k hs ht => (h.apart k ht).1 hs) (fun ht => (h.apart g ht).2 rfl), Kd.R_mono (Kd.R_bound h1) (fun k hk => ⟨hk.1, hk.2.2.1⟩), h2, fun k hk => ⟨fun hs => hk.1.elim (fun ht => (h.apart k ht).1 hs) (fun hn => by have := h.sb k hs; omega), fun e => hk.1.elim (fun ht => (h.apart k ht).2 e) (fun hn => by have := h.gb; omega)⟩, fun k hk => hk.1.elim (h.tl k) (Nat.le_trans h.below.size), fun k hk => Nat.lt_of_lt_of_le (h.sb k hk) h3.1, fun k hk => hk.2, Nat.lt_of_lt_of_le h.gb h3.1⟩
theorem PutAt.kept {w : World} {g : Nat} {S T X : Nat → Prop} {bw br : List Int} {v : Value} {W W' : World} (h : PutAt w g S T bw br v W) (hk : Kept W W' X) (hb : Below w.heap.size w W') (hS : ∀ k, S k → ¬ X k) (hT : ∀ k, T k → ¬ X k) (hg : ¬ X g) : PutAt w g S T bw br v W' :=
  ⟨h.wt.kept hk hS hg, Kd.R_mono (Kd.R_keptB h.row hk hT) (fun k hk => hk.1), hb, h.apart, h.tl, fun k hk2 => Nat.lt_of_lt_of_le (h.sb k hk2) hk.1, fun k hk2 => Nat.lt_of_lt_of_le (h.tb k hk2) hk.1, Nat.lt_of_lt_of_le h.gb hk.1⟩
def PutSt (w : World) (g : Nat) (bs : List Int) (v : Value) (W : World) : Prop := ∃ S T, PutAt w g S T bs bs v W

set_option maxHeartbeats 3200000 in
set_option maxRecDepth 100000 in
theorem put_0 (k : Nat) (w : World) (g : Nat) (bs bs' : List Int) (v : Value) (W : World) (hst : PutSt w g bs v W) (x : S44) (A4 : Option Addr) (c4 : Nat) (hp : provisolaw01_pick.f x.f0 9 = some 0) (r : Int) (hr : provisoref01_Put.f k bs x.f1 1 = some (bs', r))
    (hc : ((0 ≤ x.f1 ∧ x.f1 ≤ 255) ∧ bs.length + 1 ≤ 1048576 ∧ bs' = bs ++ [byt x.f1 1] ∧ r = 0) ∨ ((0 ≤ x.f1 ∧ x.f1 ≤ 255) ∧ 1048576 < bs.length + 1 ∧ bs' = bs ∧ r = 7) ∨ ((x.f1 < 0 ∨ x.f1 > 255) ∧ bs' = bs ∧ r = 5)) :
    Calls Try.prog 26 #[.pointer (some ⟨g, 0, none⟩), v, .agg #[.int .i64 x.f0, .int .i64 x.f1, .int .i64 x.f2, .string x.f3, .slice A4 x.f4.length c4]] W fun e w' => ∃ v' : Value, e = .returned (.tuple #[v', .bool true]) ∧ PutSt w g bs' v' w' := by
  obtain ⟨S, T, h⟩ := hst
  obtain ⟨Ab, cb, rfl⟩ := Kd.R_slice h.row
  have hx0 := blk_new W (.cells #[.int .i64 x.f0, .int .i64 x.f1, .int .i64 x.f2, .string x.f3, .slice A4 x.f4.length c4] 44 (0, 0))
  have h0 := h.step (below_alloc (Below.refl W.heap.size W) (.cells #[.int .i64 x.f0, .int .i64 x.f1, .int .i64 x.f2, .string x.f3, .slice A4 x.f4.length c4] 44 (0, 0)))
  have hax : ¬ S W.heap.size ∧ W.heap.size ≠ g ∧ ¬ T W.heap.size := ⟨fun hh => Nat.lt_irrefl _ (h.sb _ hh), fun e => Nat.lt_irrefl _ (e ▸ h.gb), fun hh => Nat.lt_irrefl _ (h.tb _ hh)⟩
  have HP := Aside0.mk hp
  clear h hp
  go_enter Try.func26, Try.ntmps26
  go_wp2_with fail
  obtain ⟨gx, hgx⟩ : ∃ gx, gx = W.heap.size := ⟨_, rfl⟩
  rw [← hgx] at hx0 hax ⊢
  generalize (W.alloc (.cells #[.int .i64 x.f0, .int .i64 x.f1, .int .i64 x.f2, .string x.f3, .slice A4 x.f4.length c4] 44 (0, 0))) = w1 at hx0 h0 ⊢
  have HX := Aside0.mk hx0
  have HA := Aside0.mk h0
  have HAX := Aside0.mk hax
  clear hx0 h0 hax hgx
  refine (provisolaw01_pick.calls x.f0 9 0 _ HP.out).mono ?_
  rintro e_ w2 ⟨rfl, m, rfl⟩
  replace HA := Aside0.mk (HA.out.step (pw_below_drewN (Below.refl _ _) m))
  replace HX := Aside0.mk (blk_drewN HX.out m)
  generalize w1.drewN m = w2 at HA HX ⊢
  clear m HP
  have HF := Aside0.mk hr
  rcases hc with ⟨c1, c2, e1, rfl⟩ | ⟨c1, c2, rfl, rfl⟩ | ⟨c1, rfl, rfl⟩
  · have C1 := Aside0.mk c1
    have C2 := Aside0.mk c2
    have E1 := Aside0.mk e1
    clear c1 c2 hr e1
    have hq1 := blk_cell HX.out 1
    go_wp2_with fail
    clear hq1
    refine (wByte_good HA.out.wt x.f1 C1.out.1 C1.out.2).mono ?_
    rintro e_ w3 ⟨k1, k2⟩
    obtain ⟨rfl, q2, q3, q4⟩ := k1 C2.out
    rw [← E1.out] at q2
    clear k1 k2
    have HX3 := Aside0.mk (blk_kept HX.out q4 (fun hh => hh.elim HAX.out.1 HAX.out.2.1))
    have HA3 := Aside0.mk (HA.out.wrote q2 q3 q4)
    clear q2 q3 q4 HX HA
    have HX := HX3
    have HA := HA3
    clear HX3 HA3
    have hq1 := blk_cell HX.out 1
    go_wp2_with fail
    clear hq1
    refine (provisoref01_Put.calls k _ _ bs x.f1 1 _ _ w _ HA.out.below HA.out.row HF.out).mono ?_
    rintro e_ w4 ⟨v', rfl, q1, q2, q3⟩
    have HA4 := Aside0.mk (HA.out.joined q1 q2 q3)
    clear q1 q2 q3 HA HX
    obtain ⟨Ab', cb', rfl⟩ := Kd.R_slice HA4.out.row
    go_wp2
    go_ret2
    exact ⟨_, rfl, _, _, HA4.out⟩
  · have C1 := Aside0.mk c1
    have C2 := Aside0.mk c2
    clear c1 c2 hr
    have hq1 := blk_cell HX.out 1
    go_wp2_with fail
    clear hq1
    refine (wByte_good HA.out.wt x.f1 C1.out.1 C1.out.2).mono ?_
    rintro e_ w3 ⟨k1, k2⟩
    obtain ⟨rfl, q2⟩ := k2 C2.out
    clear k1 k2
    replace HX := Aside0.mk (blk_below HX.out q2)
    replace HA := Aside0.mk (HA.out.step q2)
    clear q2
    have hq1 := blk_cell HX.out 1
    go_wp2_with fail
    clear hq1
    refine (provisoref01_Put.calls k _ _ _ x.f1 1 _ _ w _ HA.out.below HA.out.row HF.out).mono ?_
    rintro e_ w4 ⟨v', rfl, q1, q2, q3⟩
    have HA4 := Aside0.mk (HA.out.joined q1 q2 q3)
    clear q1 q2 q3 HA HX
    obtain ⟨Ab', cb', rfl⟩ := Kd.R_slice HA4.out.row
    go_wp2
    go_ret2
    exact ⟨_, rfl, _, _, HA4.out⟩
  · have C1 := Aside0.mk c1
    clear c1 hr
    have hq1 := blk_cell HX.out 1
    go_wp2_with fail
    clear hq1
    refine (wByte_bad HA.out.wt x.f1 C1.out).mono ?_
    rintro e_ w3 ⟨rfl, q0⟩
    have q2 := q0.below
    clear q0
    replace HX := Aside0.mk (blk_below HX.out q2)
    replace HA := Aside0.mk (HA.out.step q2)
    clear q2
    have hq1 := blk_cell HX.out 1
    go_wp2_with fail
    clear hq1
    refine (provisoref01_Put.calls k _ _ _ x.f1 1 _ _ w _ HA.out.below HA.out.row HF.out).mono ?_
    rintro e_ w4 ⟨v', rfl, q1, q2, q3⟩
    have HA4 := Aside0.mk (HA.out.joined q1 q2 q3)
    clear q1 q2 q3 HA HX
    obtain ⟨Ab', cb', rfl⟩ := Kd.R_slice HA4.out.row
    go_wp2
    go_ret2
    exact ⟨_, rfl, _, _, HA4.out⟩

set_option maxHeartbeats 3200000 in
set_option maxRecDepth 100000 in
theorem put_1 (k : Nat) (w : World) (g : Nat) (bs bs' : List Int) (v : Value) (W : World) (hst : PutSt w g bs v W) (x : S44) (A4 : Option Addr) (c4 : Nat) (hp : provisolaw01_pick.f x.f0 9 = some 1) (r : Int) (hr : provisoref01_Put.f k bs x.f1 2 = some (bs', r))
    (hc : ((0 ≤ x.f1 ∧ x.f1 ≤ 65535) ∧ bs.length + 2 ≤ 1048576 ∧ bs' = bs ++ [byt x.f1 256, byt x.f1 1] ∧ r = 0) ∨ ((0 ≤ x.f1 ∧ x.f1 ≤ 65535) ∧ 1048576 < bs.length + 2 ∧ bs' = bs ∧ r = 7) ∨ ((x.f1 < 0 ∨ x.f1 > 65535) ∧ bs' = bs ∧ r = 5)) :
    Calls Try.prog 26 #[.pointer (some ⟨g, 0, none⟩), v, .agg #[.int .i64 x.f0, .int .i64 x.f1, .int .i64 x.f2, .string x.f3, .slice A4 x.f4.length c4]] W fun e w' => ∃ v' : Value, e = .returned (.tuple #[v', .bool true]) ∧ PutSt w g bs' v' w' := by
  obtain ⟨S, T, h⟩ := hst
  obtain ⟨Ab, cb, rfl⟩ := Kd.R_slice h.row
  have hx0 := blk_new W (.cells #[.int .i64 x.f0, .int .i64 x.f1, .int .i64 x.f2, .string x.f3, .slice A4 x.f4.length c4] 44 (0, 0))
  have h0 := h.step (below_alloc (Below.refl W.heap.size W) (.cells #[.int .i64 x.f0, .int .i64 x.f1, .int .i64 x.f2, .string x.f3, .slice A4 x.f4.length c4] 44 (0, 0)))
  have hax : ¬ S W.heap.size ∧ W.heap.size ≠ g ∧ ¬ T W.heap.size := ⟨fun hh => Nat.lt_irrefl _ (h.sb _ hh), fun e => Nat.lt_irrefl _ (e ▸ h.gb), fun hh => Nat.lt_irrefl _ (h.tb _ hh)⟩
  have HP := Aside0.mk hp
  clear h hp
  go_enter Try.func26, Try.ntmps26
  go_wp2_with fail
  obtain ⟨gx, hgx⟩ : ∃ gx, gx = W.heap.size := ⟨_, rfl⟩
  rw [← hgx] at hx0 hax ⊢
  generalize (W.alloc (.cells #[.int .i64 x.f0, .int .i64 x.f1, .int .i64 x.f2, .string x.f3, .slice A4 x.f4.length c4] 44 (0, 0))) = w1 at hx0 h0 ⊢
  have HX := Aside0.mk hx0
  have HA := Aside0.mk h0
  have HAX := Aside0.mk hax
  clear hx0 h0 hax hgx
  refine (provisolaw01_pick.calls x.f0 9 1 _ HP.out).mono ?_
  rintro e_ w2 ⟨rfl, m, rfl⟩
  replace HA := Aside0.mk (HA.out.step (pw_below_drewN (Below.refl _ _) m))
  replace HX := Aside0.mk (blk_drewN HX.out m)
  generalize w1.drewN m = w2 at HA HX ⊢
  clear m HP
  have HF := Aside0.mk hr
  rcases hc with ⟨c1, c2, e1, rfl⟩ | ⟨c1, c2, rfl, rfl⟩ | ⟨c1, rfl, rfl⟩
  · have C1 := Aside0.mk c1
    have C2 := Aside0.mk c2
    have E1 := Aside0.mk e1
    clear c1 c2 hr e1
    have hq1 := blk_cell HX.out 1
    go_wp2_with fail
    clear hq1
    refine (wWord_good HA.out.wt x.f1 C1.out.1 C1.out.2).mono ?_
    rintro e_ w3 ⟨k1, k2⟩
    obtain ⟨rfl, q2, q3, q4⟩ := k1 C2.out
    rw [← E1.out] at q2
    clear k1 k2
    have HX3 := Aside0.mk (blk_kept HX.out q4 (fun hh => hh.elim HAX.out.1 HAX.out.2.1))
    have HA3 := Aside0.mk (HA.out.wrote q2 q3 q4)
    clear q2 q3 q4 HX HA
    have HX := HX3
    have HA := HA3
    clear HX3 HA3
    have hq1 := blk_cell HX.out 1
    go_wp2_with fail
    clear hq1
    refine (provisoref01_Put.calls k _ _ bs x.f1 2 _ _ w _ HA.out.below HA.out.row HF.out).mono ?_
    rintro e_ w4 ⟨v', rfl, q1, q2, q3⟩
    have HA4 := Aside0.mk (HA.out.joined q1 q2 q3)
    clear q1 q2 q3 HA HX
    obtain ⟨Ab', cb', rfl⟩ := Kd.R_slice HA4.out.row
    go_wp2
    go_ret2
    exact ⟨_, rfl, _, _, HA4.out⟩
  · have C1 := Aside0.mk c1
    have C2 := Aside0.mk c2
    clear c1 c2 hr
    have hq1 := blk_cell HX.out 1
    go_wp2_with fail
    clear hq1
    refine (wWord_good HA.out.wt x.f1 C1.out.1 C1.out.2).mono ?_
    rintro e_ w3 ⟨k1, k2⟩
    obtain ⟨rfl, q2⟩ := k2 C2.out
    clear k1 k2
    replace HX := Aside0.mk (blk_below HX.out q2)
    replace HA := Aside0.mk (HA.out.step q2)
    clear q2
    have hq1 := blk_cell HX.out 1
    go_wp2_with fail
    clear hq1
    refine (provisoref01_Put.calls k _ _ _ x.f1 2 _ _ w _ HA.out.below HA.out.row HF.out).mono ?_
    rintro e_ w4 ⟨v', rfl, q1, q2, q3⟩
    have HA4 := Aside0.mk (HA.out.joined q1 q2 q3)
    clear q1 q2 q3 HA HX
    obtain ⟨Ab', cb', rfl⟩ := Kd.R_slice HA4.out.row
    go_wp2
    go_ret2
    exact ⟨_, rfl, _, _, HA4.out⟩
  · have C1 := Aside0.mk c1
    clear c1 hr
    have hq1 := blk_cell HX.out 1
    go_wp2_with fail
    clear hq1
    refine (wWord_bad HA.out.wt x.f1 C1.out).mono ?_
    rintro e_ w3 ⟨rfl, q0⟩
    have q2 := q0.below
    clear q0
    replace HX := Aside0.mk (blk_below HX.out q2)
    replace HA := Aside0.mk (HA.out.step q2)
    clear q2
    have hq1 := blk_cell HX.out 1
    go_wp2_with fail
    clear hq1
    refine (provisoref01_Put.calls k _ _ _ x.f1 2 _ _ w _ HA.out.below HA.out.row HF.out).mono ?_
    rintro e_ w4 ⟨v', rfl, q1, q2, q3⟩
    have HA4 := Aside0.mk (HA.out.joined q1 q2 q3)
    clear q1 q2 q3 HA HX
    obtain ⟨Ab', cb', rfl⟩ := Kd.R_slice HA4.out.row
    go_wp2
    go_ret2
    exact ⟨_, rfl, _, _, HA4.out⟩

set_option maxHeartbeats 3200000 in
set_option maxRecDepth 100000 in
theorem put_2 (k : Nat) (w : World) (g : Nat) (bs bs' : List Int) (v : Value) (W : World) (hst : PutSt w g bs v W) (x : S44) (A4 : Option Addr) (c4 : Nat) (hp : provisolaw01_pick.f x.f0 9 = some 2) (r : Int) (hr : provisoref01_Put.f k bs x.f1 4 = some (bs', r))
    (hc : (((-2147483648) ≤ x.f1 ∧ x.f1 ≤ 2147483647) ∧ bs.length + 4 ≤ 1048576 ∧ bs' = bs ++ [byt x.f1 16777216, byt x.f1 65536, byt x.f1 256, byt x.f1 1] ∧ r = 0) ∨ (((-2147483648) ≤ x.f1 ∧ x.f1 ≤ 2147483647) ∧ 1048576 < bs.length + 4 ∧ bs' = bs ∧ r = 7) ∨ ((x.f1 < (-2147483648) ∨ x.f1 > 2147483647) ∧ bs' = bs ∧ r = 5)) :
    Calls Try.prog 26 #[.pointer (some ⟨g, 0, none⟩), v, .agg #[.int .i64 x.f0, .int .i64 x.f1, .int .i64 x.f2, .string x.f3, .slice A4 x.f4.length c4]] W fun e w' => ∃ v' : Value, e = .returned (.tuple #[v', .bool true]) ∧ PutSt w g bs' v' w' := by
  obtain ⟨S, T, h⟩ := hst
  obtain ⟨Ab, cb, rfl⟩ := Kd.R_slice h.row
  have hx0 := blk_new W (.cells #[.int .i64 x.f0, .int .i64 x.f1, .int .i64 x.f2, .string x.f3, .slice A4 x.f4.length c4] 44 (0, 0))
  have h0 := h.step (below_alloc (Below.refl W.heap.size W) (.cells #[.int .i64 x.f0, .int .i64 x.f1, .int .i64 x.f2, .string x.f3, .slice A4 x.f4.length c4] 44 (0, 0)))
  have hax : ¬ S W.heap.size ∧ W.heap.size ≠ g ∧ ¬ T W.heap.size := ⟨fun hh => Nat.lt_irrefl _ (h.sb _ hh), fun e => Nat.lt_irrefl _ (e ▸ h.gb), fun hh => Nat.lt_irrefl _ (h.tb _ hh)⟩
  have HP := Aside0.mk hp
  clear h hp
  go_enter Try.func26, Try.ntmps26
  go_wp2_with fail
  obtain ⟨gx, hgx⟩ : ∃ gx, gx = W.heap.size := ⟨_, rfl⟩
  rw [← hgx] at hx0 hax ⊢
  generalize (W.alloc (.cells #[.int .i64 x.f0, .int .i64 x.f1, .int .i64 x.f2, .string x.f3, .slice A4 x.f4.length c4] 44 (0, 0))) = w1 at hx0 h0 ⊢
  have HX := Aside0.mk hx0
  have HA := Aside0.mk h0
  have HAX := Aside0.mk hax
  clear hx0 h0 hax hgx
  refine (provisolaw01_pick.calls x.f0 9 2 _ HP.out).mono ?_
  rintro e_ w2 ⟨rfl, m, rfl⟩
  replace HA := Aside0.mk (HA.out.step (pw_below_drewN (Below.refl _ _) m))
  replace HX := Aside0.mk (blk_drewN HX.out m)
  generalize w1.drewN m = w2 at HA HX ⊢
  clear m HP
  have HF := Aside0.mk hr
  rcases hc with ⟨c1, c2, e1, rfl⟩ | ⟨c1, c2, rfl, rfl⟩ | ⟨c1, rfl, rfl⟩
  · have C1 := Aside0.mk c1
    have C2 := Aside0.mk c2
    have E1 := Aside0.mk e1
    clear c1 c2 hr e1
    have hq1 := blk_cell HX.out 1
    go_wp2_with fail
    clear hq1
    refine (wLong_good HA.out.wt x.f1 C1.out.1 C1.out.2).mono ?_
    rintro e_ w3 ⟨k1, k2⟩
    obtain ⟨rfl, q2, q3, q4⟩ := k1 C2.out
    rw [← E1.out] at q2
    clear k1 k2
    have HX3 := Aside0.mk (blk_kept HX.out q4 (fun hh => hh.elim HAX.out.1 HAX.out.2.1))
    have HA3 := Aside0.mk (HA.out.wrote q2 q3 q4)
    clear q2 q3 q4 HX HA
    have HX := HX3
    have HA := HA3
    clear HX3 HA3
    have hq1 := blk_cell HX.out 1
    go_wp2_with fail
    clear hq1
    refine (provisoref01_Put.calls k _ _ bs x.f1 4 _ _ w _ HA.out.below HA.out.row HF.out).mono ?_
    rintro e_ w4 ⟨v', rfl, q1, q2, q3⟩
    have HA4 := Aside0.mk (HA.out.joined q1 q2 q3)
    clear q1 q2 q3 HA HX
    obtain ⟨Ab', cb', rfl⟩ := Kd.R_slice HA4.out.row
    go_wp2
    go_ret2
    exact ⟨_, rfl, _, _, HA4.out⟩
  · have C1 := Aside0.mk c1
    have C2 := Aside0.mk c2
    clear c1 c2 hr
    have hq1 := blk_cell HX.out 1
    go_wp2_with fail
    clear hq1
    refine (wLong_good HA.out.wt x.f1 C1.out.1 C1.out.2).mono ?_
    rintro e_ w3 ⟨k1, k2⟩
    obtain ⟨rfl, q2⟩ := k2 C2.out
    clear k1 k2
    replace HX := Aside0.mk (blk_below HX.out q2)
    replace HA := Aside0.mk (HA.out.step q2)
    clear q2
    have hq1 := blk_cell HX.out 1
    go_wp2_with fail
    clear hq1
    refine (provisoref01_Put.calls k _ _ _ x.f1 4 _ _ w _ HA.out.below HA.out.row HF.out).mono ?_
    rintro e_ w4 ⟨v', rfl, q1, q2, q3⟩
    have HA4 := Aside0.mk (HA.out.joined q1 q2 q3)
    clear q1 q2 q3 HA HX
    obtain ⟨Ab', cb', rfl⟩ := Kd.R_slice HA4.out.row
    go_wp2
    go_ret2
    exact ⟨_, rfl, _, _, HA4.out⟩
  · have C1 := Aside0.mk c1
    clear c1 hr
    have hq1 := blk_cell HX.out 1
    go_wp2_with fail
    clear hq1
    refine (wLong_bad HA.out.wt x.f1 C1.out).mono ?_
    rintro e_ w3 ⟨rfl, q0⟩
    have q2 := q0.below
    clear q0
    replace HX := Aside0.mk (blk_below HX.out q2)
    replace HA := Aside0.mk (HA.out.step q2)
    clear q2
    have hq1 := blk_cell HX.out 1
    go_wp2_with fail
    clear hq1
    refine (provisoref01_Put.calls k _ _ _ x.f1 4 _ _ w _ HA.out.below HA.out.row HF.out).mono ?_
    rintro e_ w4 ⟨v', rfl, q1, q2, q3⟩
    have HA4 := Aside0.mk (HA.out.joined q1 q2 q3)
    clear q1 q2 q3 HA HX
    obtain ⟨Ab', cb', rfl⟩ := Kd.R_slice HA4.out.row
    go_wp2
    go_ret2
    exact ⟨_, rfl, _, _, HA4.out⟩

set_option maxHeartbeats 3200000 in
set_option maxRecDepth 100000 in
theorem put_7 (k : Nat) (w : World) (g : Nat) (bs : List Int) (v : Value) (W : World) (hst : PutSt w g bs v W) (x : S44) (A4 : Option Addr) (c4 : Nat) (hp : provisolaw01_pick.f x.f0 9 = some 7) :
    Calls Try.prog 26 #[.pointer (some ⟨g, 0, none⟩), v, .agg #[.int .i64 x.f0, .int .i64 x.f1, .int .i64 x.f2, .string x.f3, .slice A4 x.f4.length c4]] W fun e w' => ∃ v' : Value, e = .returned (.tuple #[v', .bool true]) ∧ PutSt w g bs v' w' := by
  obtain ⟨S, T, h⟩ := hst
  obtain ⟨Ab, cb, rfl⟩ := Kd.R_slice h.row
  have hx0 := blk_new W (.cells #[.int .i64 x.f0, .int .i64 x.f1, .int .i64 x.f2, .string x.f3, .slice A4 x.f4.length c4] 44 (0, 0))
  have h0 := h.step (below_alloc (Below.refl W.heap.size W) (.cells #[.int .i64 x.f0, .int .i64 x.f1, .int .i64 x.f2, .string x.f3, .slice A4 x.f4.length c4] 44 (0, 0)))
  have hax : ¬ S W.heap.size ∧ W.heap.size ≠ g ∧ ¬ T W.heap.size := ⟨fun hh => Nat.lt_irrefl _ (h.sb _ hh), fun e => Nat.lt_irrefl _ (e ▸ h.gb), fun hh => Nat.lt_irrefl _ (h.tb _ hh)⟩
  have HP := Aside0.mk hp
  clear h hp
  go_enter Try.func26, Try.ntmps26
  go_wp2_with fail
  obtain ⟨gx, hgx⟩ : ∃ gx, gx = W.heap.size := ⟨_, rfl⟩
  rw [← hgx] at hx0 hax ⊢
  generalize (W.alloc (.cells #[.int .i64 x.f0, .int .i64 x.f1, .int .i64 x.f2, .string x.f3, .slice A4 x.f4.length c4] 44 (0, 0))) = w1 at hx0 h0 ⊢
  have HX := Aside0.mk hx0
  have HA := Aside0.mk h0
  have HAX := Aside0.mk hax
  clear hx0 h0 hax hgx
  refine (provisolaw01_pick.calls x.f0 9 7 _ HP.out).mono ?_
  rintro e_ w2 ⟨rfl, m, rfl⟩
  replace HA := Aside0.mk (HA.out.step (pw_below_drewN (Below.refl _ _) m))
  replace HX := Aside0.mk (blk_drewN HX.out m)
  generalize w1.drewN m = w2 at HA HX ⊢
  clear m HP
  go_wp2_with fail
  refine (Len_wt HA.out.wt).mono ?_
  rintro e_ w3 ⟨rfl, q0⟩
  replace HA := Aside0.mk (HA.out.step q0.below)
  clear q0
  go_wp2
  go_ret2
  exact ⟨_, rfl, _, _, HA.out⟩

set_option maxHeartbeats 3200000 in
set_option maxRecDepth 100000 in
theorem put_8 (k : Nat) (w : World) (g : Nat) (bs : List Int) (v : Value) (W : World) (hst : PutSt w g bs v W) (x : S44) (A4 : Option Addr) (c4 : Nat) (hp : provisolaw01_pick.f x.f0 9 = some 8) (heq : slices_Equal_byte_byte.f k bs bs = some true) :
    Calls Try.prog 26 #[.pointer (some ⟨g, 0, none⟩), v, .agg #[.int .i64 x.f0, .int .i64 x.f1, .int .i64 x.f2, .string x.f3, .slice A4 x.f4.length c4]] W fun e w' => ∃ v' : Value, e = .returned (.tuple #[v', .bool true]) ∧ PutSt w g bs v' w' := by
  obtain ⟨S, T, h⟩ := hst
  obtain ⟨Ab, cb, rfl⟩ := Kd.R_slice h.row
  have hx0 := blk_new W (.cells #[.int .i64 x.f0, .int .i64 x.f1, .int .i64 x.f2, .string x.f3, .slice A4 x.f4.length c4] 44 (0, 0))
  have h0 := h.step (below_alloc (Below.refl W.heap.size W) (.cells #[.int .i64 x.f0, .int .i64 x.f1, .int .i64 x.f2, .string x.f3, .slice A4 x.f4.length c4] 44 (0, 0)))
  have hax : ¬ S W.heap.size ∧ W.heap.size ≠ g ∧ ¬ T W.heap.size := ⟨fun hh => Nat.lt_irrefl _ (h.sb _ hh), fun e => Nat.lt_irrefl _ (e ▸ h.gb), fun hh => Nat.lt_irrefl _ (h.tb _ hh)⟩
  have HP := Aside0.mk hp
  clear h hp
  go_enter Try.func26, Try.ntmps26
  go_wp2_with fail
  obtain ⟨gx, hgx⟩ : ∃ gx, gx = W.heap.size := ⟨_, rfl⟩
  rw [← hgx] at hx0 hax ⊢
  generalize (W.alloc (.cells #[.int .i64 x.f0, .int .i64 x.f1, .int .i64 x.f2, .string x.f3, .slice A4 x.f4.length c4] 44 (0, 0))) = w1 at hx0 h0 ⊢
  have HX := Aside0.mk hx0
  have HA := Aside0.mk h0
  have HAX := Aside0.mk hax
  clear hx0 h0 hax hgx
  refine (provisolaw01_pick.calls x.f0 9 8 _ HP.out).mono ?_
  rintro e_ w2 ⟨rfl, m, rfl⟩
  replace HA := Aside0.mk (HA.out.step (pw_below_drewN (Below.refl _ _) m))
  replace HX := Aside0.mk (blk_drewN HX.out m)
  generalize w1.drewN m = w2 at HA HX ⊢
  clear m HP
  have HE := Aside0.mk heq
  clear heq
  go_wp2_with fail
  refine (Bytes_wt HA.out.wt).mono ?_
  rintro e_ w3 ⟨vb, rfl, q1, q2⟩
  obtain ⟨Ac, cc, rfl, hcl, hcc⟩ := Kd.R_reads q1
  replace HA := Aside0.mk (HA.out.step q2)
  have HC := Aside0.mk hcc
  have HCL := Aside0.mk hcl
  obtain ⟨Ad, cd, e9, hdl, hdc⟩ := Kd.R_reads HA.out.row
  cases e9
  have HD := Aside0.mk hdc
  have HDL := Aside0.mk hdl
  clear q1 q2 hcl hcc hdl hdc
  go_wp2_with fail
  refine (slices_Equal_byte_byte.calls k Ac cc bs Ab cb bs true _ HC.out HCL.out HD.out HDL.out HE.out).mono ?_
  rintro e_ w4 ⟨rfl, q0⟩
  replace HA := Aside0.mk (HA.out.step q0.below)
  clear q0
  go_wp2
  go_ret2
  exact ⟨_, rfl, _, _, HA.out⟩

set_option maxHeartbeats 3200000 in
set_option maxRecDepth 100000 in
theorem put_4 (k : Nat) (w : World) (g : Nat) (bs bs' : List Int) (v : Value) (W : World) (hst : PutSt w g bs v W) (x : S44) (A4 : Option Addr) (c4 : Nat) (hp : provisolaw01_pick.f x.f0 9 = some 4) (r : Int)
    (hc : (wire_IsName.f k x.f3 = some true ∧ provisoref01_IsName.f k x.f3 = some true ∧ x.f3.size ≤ 24 ∧ provisoref01_Join.f bs (nameBytes x.f3) = some (bs', r) ∧ ((bs.length + (x.f3.size + 1) ≤ 1048576 ∧ bs' = bs ++ nameBytes x.f3 ∧ r = 0) ∨ (1048576 < bs.length + (x.f3.size + 1) ∧ bs' = bs ∧ r = 7))) ∨ (wire_IsName.f k x.f3 = some false ∧ provisoref01_IsName.f k x.f3 = some false ∧ bs' = bs)) :
    Calls Try.prog 26 #[.pointer (some ⟨g, 0, none⟩), v, .agg #[.int .i64 x.f0, .int .i64 x.f1, .int .i64 x.f2, .string x.f3, .slice A4 x.f4.length c4]] W fun e w' => ∃ v' : Value, e = .returned (.tuple #[v', .bool true]) ∧ PutSt w g bs' v' w' := by
  obtain ⟨S, T, h⟩ := hst
  obtain ⟨Ab, cb, rfl⟩ := Kd.R_slice h.row
  have hx0 := blk_new W (.cells #[.int .i64 x.f0, .int .i64 x.f1, .int .i64 x.f2, .string x.f3, .slice A4 x.f4.length c4] 44 (0, 0))
  have h0 := h.step (below_alloc (Below.refl W.heap.size W) (.cells #[.int .i64 x.f0, .int .i64 x.f1, .int .i64 x.f2, .string x.f3, .slice A4 x.f4.length c4] 44 (0, 0)))
  have hax : ¬ S W.heap.size ∧ W.heap.size ≠ g ∧ ¬ T W.heap.size := ⟨fun hh => Nat.lt_irrefl _ (h.sb _ hh), fun e => Nat.lt_irrefl _ (e ▸ h.gb), fun hh => Nat.lt_irrefl _ (h.tb _ hh)⟩
  have HP := Aside0.mk hp
  clear h hp
  go_enter Try.func26, Try.ntmps26
  go_wp2_with fail
  obtain ⟨gx, hgx⟩ : ∃ gx, gx = W.heap.size := ⟨_, rfl⟩
  rw [← hgx] at hx0 hax ⊢
  generalize (W.alloc (.cells #[.int .i64 x.f0, .int .i64 x.f1, .int .i64 x.f2, .string x.f3, .slice A4 x.f4.length c4] 44 (0, 0))) = w1 at hx0 h0 ⊢
  have HX := Aside0.mk hx0
  have HA := Aside0.mk h0
  have HAX := Aside0.mk hax
  clear hx0 h0 hax hgx
  refine (provisolaw01_pick.calls x.f0 9 4 _ HP.out).mono ?_
  rintro e_ w2 ⟨rfl, m, rfl⟩
  replace HA := Aside0.mk (HA.out.step (pw_below_drewN (Below.refl _ _) m))
  replace HX := Aside0.mk (blk_drewN HX.out m)
  generalize w1.drewN m = w2 at HA HX ⊢
  clear m HP
  rcases hc with ⟨c1, c2, c3, c4, c5⟩ | ⟨c1, c2, rfl⟩
  · have C1 := Aside0.mk c1
    have C2 := Aside0.mk c2
    have C3 := Aside0.mk c3
    have C4 := Aside0.mk c4
    clear c1 c2 c3 c4
    rcases c5 with ⟨d1, e1, rfl⟩ | ⟨d1, rfl, rfl⟩
    · have D1 := Aside0.mk d1
      have E1 := Aside0.mk e1
      clear d1 e1
      have hq3 := blk_cell HX.out 3
      go_wp2_with fail
      clear hq3
      refine (wName_good HA.out.wt k x.f3 C1.out C3.out).mono ?_
      rintro e_ w3 ⟨k1, k2⟩
      obtain ⟨rfl, q2, q3, q4⟩ := k1 D1.out
      rw [← E1.out] at q2
      clear k1 k2
      have HX3 := Aside0.mk (blk_kept HX.out q4 (fun hh => hh.elim HAX.out.1 HAX.out.2.1))
      have HA3 := Aside0.mk (HA.out.wrote q2 q3 q4)
      clear q2 q3 q4 HX HA
      have HX := HX3
      have HA := HA3
      clear HX3 HA3
      have hq3 := blk_cell HX.out 3
      go_wp2_with fail
      clear hq3
      refine (PutName_good k _ _ bs x.f3 _ _ w _ HA.out.below HA.out.row HA.out.tb C2.out C3.out C4.out).mono ?_
      rintro e_ w4 ⟨v', rfl, q1, q2, q3⟩
      have HA4 := Aside0.mk (HA.out.joined q1 q2 q3)
      clear q1 q2 q3 HA HX
      obtain ⟨Ab', cb', rfl⟩ := Kd.R_slice HA4.out.row
      go_wp2
      go_ret2
      exact ⟨_, rfl, _, _, HA4.out⟩
    · have D1 := Aside0.mk d1
      clear d1
      have hq3 := blk_cell HX.out 3
      go_wp2_with fail
      clear hq3
      refine (wName_good HA.out.wt k x.f3 C1.out C3.out).mono ?_
      rintro e_ w3 ⟨k1, k2⟩
      obtain ⟨rfl, q2⟩ := k2 D1.out
      clear k1 k2
      replace HX := Aside0.mk (blk_below HX.out q2)
      replace HA := Aside0.mk (HA.out.step q2)
      clear q2
      have hq3 := blk_cell HX.out 3
      go_wp2_with fail
      clear hq3
      refine (PutName_good k _ _ _ x.f3 _ _ w _ HA.out.below HA.out.row HA.out.tb C2.out C3.out C4.out).mono ?_
      rintro e_ w4 ⟨v', rfl, q1, q2, q3⟩
      have HA4 := Aside0.mk (HA.out.joined q1 q2 q3)
      clear q1 q2 q3 HA HX
      obtain ⟨Ab', cb', rfl⟩ := Kd.R_slice HA4.out.row
      go_wp2
      go_ret2
      exact ⟨_, rfl, _, _, HA4.out⟩
  · have C1 := Aside0.mk c1
    have C2 := Aside0.mk c2
    clear c1 c2
    have hq3 := blk_cell HX.out 3
    go_wp2_with fail
    clear hq3
    refine (wName_bad HA.out.wt k x.f3 C1.out).mono ?_
    rintro e_ w3 ⟨rfl, q0⟩
    have q2 := q0.below
    clear q0
    replace HX := Aside0.mk (blk_below HX.out q2)
    replace HA := Aside0.mk (HA.out.step q2)
    clear q2
    have hq3 := blk_cell HX.out 3
    go_wp2_with fail
    clear hq3
    refine (PutName_bad k _ _ _ x.f3 w _ HA.out.below HA.out.row C2.out).mono ?_
    rintro e_ w4 ⟨v', rfl, q1, q2, q3⟩
    have HA4 := Aside0.mk (HA.out.joined q1 q2 q3)
    clear q1 q2 q3 HA HX
    obtain ⟨Ab', cb', rfl⟩ := Kd.R_slice HA4.out.row
    go_wp2
    go_ret2
    exact ⟨_, rfl, _, _, HA4.out⟩

end Go.Proofs.Ytklbkonehcjmjaa.P
end

