/- Proved: the law WireBack holds for every input that the row lets in. No condition of ours. -/
import Derived.Test.YtklbkonehcjmjaaBWireBackb
import Derived.Test.YtklbkonehcjmjaaProg
import Derived.WalkSpells
import Derived.Test.YtklbkonehcjmjaaRows
import Derived.ShutString
import Derived.ChangeOld
import Derived.Lib.SmallJoins
section
namespace Go.Proofs.Ytklbkonehcjmjaa.P
open Go.RowKit Go.Proofs.YtklbkonehcjmjaaW.PrintWords Go.Proofs.YtklbkonehcjmjaaW.PrintLast Go.Proofs.YtklbkonehcjmjaaW.PrintMore
attribute [local go_sem] max2_int min2_int max_two min_two max_three min_three max_four min_four   -- for this text's walks alone
set_option linter.unusedVariables false
set_option linter.unusedSimpArgs false



theorem info5 : (Try.prog.info? 5).map (fun i => (i.zero, i.size, i.bytes)) = some (some (.int .u8 0), 1, 1) := by kernel_rfl
theorem info73 : (Try.prog.info? 73).map (fun i => (i.zero, i.size, i.bytes)) = some (some (.agg #[(.int .i64 0), (.int .i64 0), (.string ⟨#[]⟩), (.slice none 0 0)]), 4, 56) := by kernel_rfl
structure S44 where
  f0 : Int
  f1 : Int
  f2 : Int
  f3 : ByteArray
  f4 : (List Int)
def z44 : S44 := ⟨(0 : Int), (0 : Int), (0 : Int), (⟨#[]⟩ : ByteArray), ([] : List Int)⟩
def k44 : Kd S44 := Kd.iso (Kd.pair (Kd.int .i64) (Kd.pair (Kd.int .i64) (Kd.pair (Kd.int .i64) (Kd.pair Kd.string (Kd.slice 5 (Kd.int .u8)))))) (fun x : S44 => (x.f0, x.f1, x.f2, x.f3, x.f4))
theorem k44_open {w : World} {x : S44} {cs : List Value} (h : k44.K w x cs) : ∃ A4 c4, cs = [.int .i64 x.f0, .int .i64 x.f1, .int .i64 x.f2, .string x.f3, .slice A4 x.f4.length c4] ∧ x.f4.length ≤ c4 ∧ (Kd.int .u8).C w A4 x.f4.length x.f4 := by
  obtain ⟨_, _, rfl, rfl, ⟨_, _, rfl, rfl, ⟨_, _, rfl, rfl, ⟨_, _, rfl, rfl, ⟨A4, c4, rfl, l4, g4⟩⟩⟩⟩⟩ := h
  exact ⟨A4, c4, rfl, l4, g4⟩
def rd_T44 (xs : List S44) (i : Int) : S44 := xs.getD i.toNat z44
theorem at_T44 {w : World} {A : Option Addr} {n : Nat} {xs : List S44} (h : Kd.C k44 w A n xs) (i : Int) (h0 : 0 ≤ i) (h1 : i < n) : ∃ ad A4 c4, A = some ad ∧ w.cell? (ad.add (i.toNat * 5)) = some (.int .i64 (rd_T44 xs i).f0) ∧ w.cell? ⟨(ad.add (i.toNat * 5)).block, (ad.add (i.toNat * 5)).off + 1, none⟩ = some (.int .i64 (rd_T44 xs i).f1) ∧ w.cell? ⟨(ad.add (i.toNat * 5)).block, (ad.add (i.toNat * 5)).off + 2, none⟩ = some (.int .i64 (rd_T44 xs i).f2) ∧ w.cell? ⟨(ad.add (i.toNat * 5)).block, (ad.add (i.toNat * 5)).off + 3, none⟩ = some (.string (rd_T44 xs i).f3) ∧ w.cell? ⟨(ad.add (i.toNat * 5)).block, (ad.add (i.toNat * 5)).off + 4, none⟩ = some (.slice A4 (rd_T44 xs i).f4.length c4) ∧ (rd_T44 xs i).f4.length ≤ c4 ∧ (Kd.int .u8).C w A4 (rd_T44 xs i).f4.length (rd_T44 xs i).f4 := by
  obtain ⟨ad, c, e, _, hK, hc0⟩ := Kd.C_get h z44 i h0 h1
  have hc : ∀ j u, c[j]? = some u → w.cell? (ad.add (i.toNat * 5 + j)) = some u := hc0
  obtain ⟨A4, c4, rfl, l4, g4⟩ := k44_open hK
  exact ⟨ad, A4, c4, e, hc 0 _ rfl, by rw [← add_field _ _ 1 (by omega)]; exact hc 1 _ rfl, by rw [← add_field _ _ 2 (by omega)]; exact hc 2 _ rfl, by rw [← add_field _ _ 3 (by omega)]; exact hc 3 _ rfl, by rw [← add_field _ _ 4 (by omega)]; exact hc 4 _ rfl, l4, g4⟩

structure S73 where
  f0 : Int
  f1 : Int
  f2 : ByteArray
  f3 : (List Int)
def z73 : S73 := ⟨(0 : Int), (0 : Int), (⟨#[]⟩ : ByteArray), ([] : List Int)⟩
def k73 : Kd S73 := Kd.iso (Kd.pair (Kd.int .i64) (Kd.pair (Kd.int .i64) (Kd.pair Kd.string (Kd.slice 5 (Kd.int .u8))))) (fun x : S73 => (x.f0, x.f1, x.f2, x.f3))
theorem k73_open {w : World} {x : S73} {cs : List Value} (h : k73.K w x cs) : ∃ A3 c3, cs = [.int .i64 x.f0, .int .i64 x.f1, .string x.f2, .slice A3 x.f3.length c3] ∧ x.f3.length ≤ c3 ∧ (Kd.int .u8).C w A3 x.f3.length x.f3 := by
  obtain ⟨_, _, rfl, rfl, ⟨_, _, rfl, rfl, ⟨_, _, rfl, rfl, ⟨A3, c3, rfl, l3, g3⟩⟩⟩⟩ := h
  exact ⟨A3, c3, rfl, l3, g3⟩
theorem k73_mkM (w : World) (base : Nat) (ok : Nat → Prop) (x : S73) {v3 : Value} (g3 : (Kd.int .u8).R 5 w base ok v3 x.f3) : k73.M w base ok x [.int .i64 x.f0, .int .i64 x.f1, .string x.f2, v3] := ⟨[.int .i64 x.f0], [.int .i64 x.f1, .string x.f2, v3], rfl, rfl, ⟨[.int .i64 x.f1], [.string x.f2, v3], rfl, rfl, ⟨[.string x.f2], [v3], rfl, rfl, ⟨v3, rfl, g3⟩⟩⟩⟩
def rd_T73 (xs : List S73) (i : Int) : S73 := xs.getD i.toNat z73
theorem at_T73 {w : World} {A : Option Addr} {n : Nat} {xs : List S73} (h : Kd.C k73 w A n xs) (i : Int) (h0 : 0 ≤ i) (h1 : i < n) : ∃ ad A3 c3, A = some ad ∧ w.cell? (ad.add (i.toNat * 4)) = some (.int .i64 (rd_T73 xs i).f0) ∧ w.cell? ⟨(ad.add (i.toNat * 4)).block, (ad.add (i.toNat * 4)).off + 1, none⟩ = some (.int .i64 (rd_T73 xs i).f1) ∧ w.cell? ⟨(ad.add (i.toNat * 4)).block, (ad.add (i.toNat * 4)).off + 2, none⟩ = some (.string (rd_T73 xs i).f2) ∧ w.cell? ⟨(ad.add (i.toNat * 4)).block, (ad.add (i.toNat * 4)).off + 3, none⟩ = some (.slice A3 (rd_T73 xs i).f3.length c3) ∧ (rd_T73 xs i).f3.length ≤ c3 ∧ (Kd.int .u8).C w A3 (rd_T73 xs i).f3.length (rd_T73 xs i).f3 := by
  obtain ⟨ad, c, e, _, hK, hc0⟩ := Kd.C_get h z73 i h0 h1
  have hc : ∀ j u, c[j]? = some u → w.cell? (ad.add (i.toNat * 4 + j)) = some u := hc0
  obtain ⟨A3, c3, rfl, l3, g3⟩ := k73_open hK
  exact ⟨ad, A3, c3, e, hc 0 _ rfl, by rw [← add_field _ _ 1 (by omega)]; exact hc 1 _ rfl, by rw [← add_field _ _ 2 (by omega)]; exact hc 2 _ rfl, by rw [← add_field _ _ 3 (by omega)]; exact hc 3 _ rfl, l3, g3⟩

end Go.Proofs.Ytklbkonehcjmjaa.P

end

section
namespace Go.Proofs.Ytklbkonehcjmjaa.P
open Go.RowKit Go.Proofs.YtklbkonehcjmjaaW.PrintWords Go.Proofs.Ytklbkonehcjmjaa.Sees

def Ok44 (x : S44) : Prop := (fun n : Int => (Lit.int .i64 n).wf = true) x.f0 ∧ (fun n : Int => (Lit.int .i64 n).wf = true) x.f1 ∧ (fun n : Int => (Lit.int .i64 n).wf = true) x.f2 ∧ (fun s : ByteArray => s.size ≤ 140737488351232) x.f3 ∧ (fun l : List (Int) => l.length ≤ 9223372036854775807 ∧ l.length * 1 ≤ 140737488351232 ∧ ∀ x ∈ l, (fun n : Int => (Lit.int .u8 n).wf = true) x) x.f4
theorem sees44 : Sees Try.prog 44 k44 Ok44 := sees_struct (fun x : S44 => (x.f0, x.f1, x.f2, x.f3, x.f4)) (fun y => ⟨y.1, y.2.1, y.2.2.1, y.2.2.2.1, y.2.2.2.2⟩) (fun _ => rfl) Try.underlying44 (by kernel_rfl) (sees_more rfl (by kernel_rfl) (sees_int Try.underlying3) (sees_more rfl (by kernel_rfl) (sees_int Try.underlying3) (sees_more rfl (by kernel_rfl) (sees_int Try.underlying3) (sees_more rfl (by kernel_rfl) (sees_string Try.underlying9) (sees_last rfl (by kernel_rfl) (sees_slice (B := 1) Try.underlying23 (by kernel_rfl) (by kernel_rfl) (sees_int Try.underlying5)))))))
end Go.Proofs.Ytklbkonehcjmjaa.P

end

section
namespace Go.Proofs.Ytklbkonehcjmjaa.P
open Go.RowKit Go.Proofs.YtklbkonehcjmjaaW.PrintWords Go.Proofs.YtklbkonehcjmjaaW.PrintLast Go.Proofs.YtklbkonehcjmjaaW.PrintMore
attribute [local go_sem] max2_int min2_int max_two min_two max_three min_three max_four min_four   -- for this text's walks alone
set_option linter.unusedVariables false
set_option linter.unusedSimpArgs false

mutual
def wire_IsName.j0 : Nat → ByteArray → Bool → Option (Bool)
  | 0, _, _ => none
  | k + 1, x0, x12 => if x12 = true then (some false) else (wire_IsName.l0 k x0 (x0.size : Int) 0)
def wire_IsName.l0 : Nat → ByteArray → Int → Int → Option (Bool)
  | 0, _, _, _ => none
  | k + 1, x0, x14, x15 => if x15 < x14 then (if 0 ≤ x15 then (if x15 < (x0.size : Int) then (if (bt x0 x15) ≥ 97 then (wire_IsName.j2 k x0 x15 (bt x0 x15) x14 x15 (decide ((bt x0 x15) ≤ 122))) else (wire_IsName.j2 k x0 x15 (bt x0 x15) x14 x15 false)) else (none)) else (none)) else (some true)
def wire_IsName.j2 : Nat → ByteArray → Int → Int → Int → Int → Bool → Option (Bool)
  | 0, _, _, _, _, _, _ => none
  | k + 1, x0, x3, x4, x14, x15, x21 => if x21 = true then (wire_IsName.j3 k x0 x3 x4 x14 x15 x21) else (if x4 ≥ 65 then (wire_IsName.j3 k x0 x3 x4 x14 x15 (decide (x4 ≤ 90))) else (wire_IsName.j3 k x0 x3 x4 x14 x15 false))
def wire_IsName.j3 : Nat → ByteArray → Int → Int → Int → Int → Bool → Option (Bool)
  | 0, _, _, _, _, _, _ => none
  | k + 1, x0, x3, x4, x14, x15, x21 => if x21 = true then (wire_IsName.l0 k x0 x14 (wrap64 (x15 + 1))) else (if x3 > 0 then (if x4 ≥ 48 then (if x4 ≤ 57 then (wire_IsName.l0 k x0 x14 (wrap64 (x15 + 1))) else (if x4 = 95 then (wire_IsName.l0 k x0 x14 (wrap64 (x15 + 1))) else (some false))) else (if x4 = 95 then (wire_IsName.l0 k x0 x14 (wrap64 (x15 + 1))) else (some false))) else (some false))
end
def wire_IsName.f (k : Nat) (a0 : ByteArray) : Option (Bool) := if (a0.size : Int) = 0 then (wire_IsName.j0 k a0 true) else (wire_IsName.j0 k a0 (decide ((a0.size : Int) > 24)))
set_option maxHeartbeats 8000000 in
set_option maxRecDepth 100000 in
theorem wire_IsName.calls (k : Nat) (a0 : ByteArray) (r : Bool) (w : World) (h : wire_IsName.f k a0 = some r) :
    Calls Try.prog 11 #[.string a0] w fun e w' => e = .returned (.bool r) ∧ Drawn0 w w' := by
  have H : (if (a0.size : Int) = 0 then (wire_IsName.j0 k a0 true) else (wire_IsName.j0 k a0 (decide ((a0.size : Int) > 24)))) = some r := h
  clear h
  have HC2 := Aside0.mk H
  clear H
  go_enter Try.func11, Try.ntmps11
  go_upto_region 1 with (fail)
  go_cut [12] (fun v12 wc => ∃ (kq : Nat) (x12_1 : Bool), v12 = .bool x12_1 ∧ Aside0 (wire_IsName.j0 kq a0 x12_1 = some r) ∧ Aside0 (kq ≤ k) ∧ Drawn0 w wc)
  case first =>
    have H := HC2.out
    clear HC2
    by_cases c3 : (a0.size : Int) = 0
    · rw [if_pos c3] at H
      have c3b0 : ((a0.size : Int) == 0) = true := beq_iff_eq.mpr c3
      have c3b1 : ((a0.size : Int) != 0) = false := bne_eq_false_iff_eq.mpr c3
      clear c3
      (first | rw [c3b0] | (simp only [i64_w, i32_w]; rw [c3b0]) | skip)
      have H' := Aside0.mk H
      clear H
      go_wp2
      go_meet
      case rel => exact ⟨_, (true), (by first | rfl | (simp; done) | (simp [*]; done)), H', ⟨by first | omega | exact Nat.le_refl _⟩, by repeat (first | exact Drawn0.refl _ | apply Drawn0.step)⟩
    · rw [if_neg c3] at H
      have c3b0 : ((a0.size : Int) == 0) = false := beq_eq_false_iff_ne.mpr c3
      have c3b1 : ((a0.size : Int) != 0) = true := bne_iff_ne.mpr c3
      (first | rw [c3b0] | (simp only [i64_w, i32_w]; rw [c3b0]) | skip)
      have H' := Aside0.mk H
      clear H
      go_wp2
      go_meet
      case rel => exact ⟨_, (decide ((a0.size : Int) > 24)), (by first | rfl | (simp; done) | (simp [*]; done)), H', ⟨by first | omega | exact Nat.le_refl _⟩, by repeat (first | exact Drawn0.refl _ | apply Drawn0.step)⟩
  case rest =>
    clear HC2
    try clear c1
    try clear p2
    try clear c3
    try clear c3b0
    try clear c3b1
    obtain ⟨kq, x12_1, rfl, HA, HJ1, ⟨mc1, rfl⟩⟩ := hcut
    cases kq with
    | zero => exact absurd HA.out (by simp [wire_IsName.j0])
    | succ kj1 =>
      have H := HA.out
      clear HA
      simp only [wire_IsName.j0] at H
      by_cases c4 : x12_1 = true
      · subst c4
        have H1 : (some false) = some r := by rw [if_pos rfl] at H; exact H
        clear H
        have H := H1
        clear H1
        obtain rfl := Option.some.inj H
        go_wp2
        go_ret
        exact ⟨by first | rfl | (simp; done) | (simp [*]; done), by repeat (first | exact Drawn0.refl _ | apply Drawn0.step)⟩
      · replace c4 := Bool.eq_false_iff.mpr c4
        subst c4
        have H1 : (wire_IsName.l0 kj1 a0 (a0.size : Int) 0) = some r := by rw [if_neg (show ¬ (false = true) by decide)] at H; exact H
        clear H
        have H := H1
        clear H1
        have H' := Aside0.mk H
        clear H
        go_wp2
        go_loopg [15] kj1 (fun kq v15 w' => ∃ (x15_2 : Int), v15 = .int .i64 x15_2 ∧ Aside0 (wire_IsName.l0 kq a0 (a0.size : Int) x15_2 = some r) ∧ Aside0 (kq ≤ kj1) ∧ Drawn0 w w')
        case atStart => exact ⟨(0), (by first | rfl | (simp; done) | (simp [*]; done)), H', ⟨Nat.le_refl _⟩, by repeat (first | exact Drawn0.refl _ | apply Drawn0.step)⟩
        case round =>
          clear H'
          try clear c1
          try clear p2
          try clear c3
          try clear c3b0
          try clear c3b1
          try clear c4
          try clear p2
          obtain ⟨x15_2, rfl, HA, HK2, ⟨m2, rfl⟩⟩ := hrel
          cases gk with
          | zero => exact absurd HA.out (by simp [wire_IsName.l0])
          | succ k2 =>
            have H := HA.out
            clear HA
            simp only [wire_IsName.l0] at H
            by_cases c5 : x15_2 < (a0.size : Int)
            · rw [if_pos c5] at H
              have c5b0 : decide (x15_2 < (a0.size : Int)) = true := decide_eq_true c5
              clear c5
              by_cases c6 : 0 ≤ x15_2
              · rw [if_pos c6] at H
                have c6b0 : decide (0 ≤ x15_2) = true := decide_eq_true c6
                clear c6
                by_cases c7 : x15_2 < (a0.size : Int)
                · rw [if_pos c7] at H
                  have c7b0 : decide (x15_2 < (a0.size : Int)) = true := decide_eq_true c7
                  clear c7
                  have HC9 := Aside0.mk H
                  clear H
                  have p8 : 0 ≤ (x15_2 : Int) := of_decide_eq_true (by first | (with_reducible assumption) | assumption)
                  have q8 : x15_2 < (a0.size : Int) := of_decide_eq_true (by first | (with_reducible assumption) | assumption)
                  have hx8 := bt_at a0 x15_2
                  replace p8 := eq_true p8
                  replace q8 := eq_true q8
                  go_upto_region 8 with (fail)
                  go_cut [21] (fun v21 wc => ∃ (kq : Nat) (x21_8 : Bool), v21 = .bool x21_8 ∧ Aside0 (wire_IsName.j2 kq a0 x15_2 (bt a0 x15_2) (a0.size : Int) x15_2 x21_8 = some r) ∧ Aside0 (kq ≤ k2) ∧ Drawn0 w wc)
                  case first =>
                    have H := HC9.out
                    clear HC9
                    by_cases c10 : (bt a0 x15_2) ≥ 97
                    · rw [if_pos c10] at H
                      have c10b0 : decide (97 ≤ (bt a0 x15_2)) = true := decide_eq_true c10
                      clear c10
                      (first | rw [c10b0] | (simp only [i64_w, i32_w]; rw [c10b0]) | skip)
                      have H' := Aside0.mk H
                      clear H
                      go_wp2
                      go_meet
                      case rel => exact ⟨_, (decide ((bt a0 x15_2) ≤ 122)), (by first | rfl | (simp; done) | (simp [*]; done)), H', ⟨by have := HJ1.out; have := HK2.out; first | omega | exact Nat.le_refl _⟩, by repeat (first | exact Drawn0.refl _ | apply Drawn0.step)⟩
                    · rw [if_neg c10] at H
                      have c10b0 : decide (97 ≤ (bt a0 x15_2)) = false := decide_eq_false c10
                      clear c10
                      (first | rw [c10b0] | (simp only [i64_w, i32_w]; rw [c10b0]) | skip)
                      have H' := Aside0.mk H
                      clear H
                      go_wp2
                      go_meet
                      case rel => exact ⟨_, (false), (by first | rfl | (simp; done) | (simp [*]; done)), H', ⟨by have := HJ1.out; have := HK2.out; first | omega | exact Nat.le_refl _⟩, by repeat (first | exact Drawn0.refl _ | apply Drawn0.step)⟩
                  case rest =>
                    clear HC9
                    try clear c1
                    try clear p2
                    try clear c3
                    try clear c3b0
                    try clear c3b1
                    try clear c4
                    try clear c5
                    try clear c5b0
                    try clear c6
                    try clear c6b0
                    try clear c7
                    try clear c7b0
                    try clear p8
                    try clear q8
                    try clear hx8
                    try clear c10
                    try clear c10b0
                    try clear p2
                    try clear p8
                    try clear q8
                    obtain ⟨kq, x21_8, rfl, HA, HJ8, ⟨mc8, rfl⟩⟩ := hcut
                    cases kq with
                    | zero => exact absurd HA.out (by simp [wire_IsName.j2])
                    | succ kj8 =>
                      have H := HA.out
                      clear HA
                      simp only [wire_IsName.j2] at H
                      have HC11 := Aside0.mk H
                      clear H
                      go_upto_if 21 with (fail)
                      go_cut [21] (fun v21 wc => ∃ (kq : Nat) (x21_10 : Bool), v21 = .bool x21_10 ∧ Aside0 (wire_IsName.j3 kq a0 x15_2 (bt a0 x15_2) (a0.size : Int) x15_2 x21_10 = some r) ∧ Aside0 (kq ≤ kj8) ∧ Drawn0 w wc)
                      case first =>
                        have H := HC11.out
                        clear HC11
                        by_cases c12 : x21_8 = true
                        · subst c12
                          have H1 : (wire_IsName.j3 kj8 a0 x15_2 (bt a0 x15_2) (a0.size : Int) x15_2 true) = some r := by rw [if_pos rfl] at H; exact H
                          clear H
                          have H := H1
                          clear H1
                          have H' := Aside0.mk H
                          clear H
                          go_wp2
                          go_meet
                          case rel => exact ⟨_, (true), (by first | rfl | (simp; done) | (simp [*]; done)), H', ⟨by have := HJ1.out; have := HK2.out; have := HJ8.out; first | omega | exact Nat.le_refl _⟩, by repeat (first | exact Drawn0.refl _ | apply Drawn0.step)⟩
                        · replace c12 := Bool.eq_false_iff.mpr c12
                          subst c12
                          have H1 : (if (bt a0 x15_2) ≥ 65 then (wire_IsName.j3 kj8 a0 x15_2 (bt a0 x15_2) (a0.size : Int) x15_2 (decide ((bt a0 x15_2) ≤ 90))) else (wire_IsName.j3 kj8 a0 x15_2 (bt a0 x15_2) (a0.size : Int) x15_2 false)) = some r := by rw [if_neg (show ¬ (false = true) by decide)] at H; exact H
                          clear H
                          have H := H1
                          clear H1
                          by_cases c13 : (bt a0 x15_2) ≥ 65
                          · rw [if_pos c13] at H
                            have c13b0 : decide (65 ≤ (bt a0 x15_2)) = true := decide_eq_true c13
                            clear c13
                            (first | rw [c13b0] | (simp only [i64_w, i32_w]; rw [c13b0]) | skip)
                            have H' := Aside0.mk H
                            clear H
                            go_wp2
                            go_meet
                            case rel => exact ⟨_, (decide ((bt a0 x15_2) ≤ 90)), (by first | rfl | (simp; done) | (simp [*]; done)), H', ⟨by have := HJ1.out; have := HK2.out; have := HJ8.out; first | omega | exact Nat.le_refl _⟩, by repeat (first | exact Drawn0.refl _ | apply Drawn0.step)⟩
                          · rw [if_neg c13] at H
                            have c13b0 : decide (65 ≤ (bt a0 x15_2)) = false := decide_eq_false c13
                            clear c13
                            (first | rw [c13b0] | (simp only [i64_w, i32_w]; rw [c13b0]) | skip)
                            have H' := Aside0.mk H
                            clear H
                            go_wp2
                            go_meet
                            case rel => exact ⟨_, (false), (by first | rfl | (simp; done) | (simp [*]; done)), H', ⟨by have := HJ1.out; have := HK2.out; have := HJ8.out; first | omega | exact Nat.le_refl _⟩, by repeat (first | exact Drawn0.refl _ | apply Drawn0.step)⟩
                      case rest =>
                        clear HC11
                        try clear c1
                        try clear p2
                        try clear c3
                        try clear c3b0
                        try clear c3b1
                        try clear c4
                        try clear c5
                        try clear c5b0
                        try clear c6
                        try clear c6b0
                        try clear c7
                        try clear c7b0
                        try clear c8
                        try clear p8
                        try clear q8
                        try clear hx8
                        try clear c10
                        try clear c10b0
                        try clear c11
                        try clear c12
                        try clear c13
                        try clear c13b0
                        try clear p2
                        try clear p8
                        try clear q8
                        obtain ⟨kq, x21_10, rfl, HA, HJ10, ⟨mc10, rfl⟩⟩ := hcut
                        cases kq with
                        | zero => exact absurd HA.out (by simp [wire_IsName.j3])
                        | succ kj10 =>
                          have H := HA.out
                          clear HA
                          simp only [wire_IsName.j3] at H
                          by_cases c14 : x21_10 = true
                          · subst c14
                            have H1 : (wire_IsName.l0 kj10 a0 (a0.size : Int) (wrap64 (x15_2 + 1))) = some r := by rw [if_pos rfl] at H; exact H
                            clear H
                            have H := H1
                            clear H1
                            have H' := Aside0.mk H
                            clear H
                            go_wp2
                            go_roundg kj10
                            case measure => have := HJ1.out; have := HK2.out; have := HJ8.out; have := HJ10.out; omega
                            case rel => exact ⟨(wrap64 (x15_2 + 1)), (by first | rfl | (simp; done) | (simp [*]; done)), H', ⟨by have := HJ1.out; have := HK2.out; have := HJ8.out; have := HJ10.out; omega⟩, by repeat (first | exact Drawn0.refl _ | apply Drawn0.step)⟩
                          · replace c14 := Bool.eq_false_iff.mpr c14
                            subst c14
                            have H1 : (if x15_2 > 0 then (if (bt a0 x15_2) ≥ 48 then (if (bt a0 x15_2) ≤ 57 then (wire_IsName.l0 kj10 a0 (a0.size : Int) (wrap64 (x15_2 + 1))) else (if (bt a0 x15_2) = 95 then (wire_IsName.l0 kj10 a0 (a0.size : Int) (wrap64 (x15_2 + 1))) else (some false))) else (if (bt a0 x15_2) = 95 then (wire_IsName.l0 kj10 a0 (a0.size : Int) (wrap64 (x15_2 + 1))) else (some false))) else (some false)) = some r := by rw [if_neg (show ¬ (false = true) by decide)] at H; exact H
                            clear H
                            have H := H1
                            clear H1
                            by_cases c15 : x15_2 > 0
                            · rw [if_pos c15] at H
                              have c15b0 : decide (0 < x15_2) = true := decide_eq_true c15
                              clear c15
                              by_cases c16 : (bt a0 x15_2) ≥ 48
                              · rw [if_pos c16] at H
                                have c16b0 : decide (48 ≤ (bt a0 x15_2)) = true := decide_eq_true c16
                                clear c16
                                by_cases c17 : (bt a0 x15_2) ≤ 57
                                · rw [if_pos c17] at H
                                  have c17b0 : decide ((bt a0 x15_2) ≤ 57) = true := decide_eq_true c17
                                  clear c17
                                  have H' := Aside0.mk H
                                  clear H
                                  go_wp2
                                  go_roundg kj10
                                  case measure => have := HJ1.out; have := HK2.out; have := HJ8.out; have := HJ10.out; omega
                                  case rel => exact ⟨(wrap64 (x15_2 + 1)), (by first | rfl | (simp; done) | (simp [*]; done)), H', ⟨by have := HJ1.out; have := HK2.out; have := HJ8.out; have := HJ10.out; omega⟩, by repeat (first | exact Drawn0.refl _ | apply Drawn0.step)⟩
                                · rw [if_neg c17] at H
                                  have c17b0 : decide ((bt a0 x15_2) ≤ 57) = false := decide_eq_false c17
                                  clear c17
                                  by_cases c18 : (bt a0 x15_2) = 95
                                  · rw [if_pos c18] at H
                                    have c18b0 : ((bt a0 x15_2) == 95) = true := beq_iff_eq.mpr c18
                                    have c18b1 : ((bt a0 x15_2) != 95) = false := bne_eq_false_iff_eq.mpr c18
                                    clear c18
                                    have H' := Aside0.mk H
                                    clear H
                                    go_wp2
                                    go_roundg kj10
                                    case measure => have := HJ1.out; have := HK2.out; have := HJ8.out; have := HJ10.out; omega
                                    case rel => exact ⟨(wrap64 (x15_2 + 1)), (by first | rfl | (simp; done) | (simp [*]; done)), H', ⟨by have := HJ1.out; have := HK2.out; have := HJ8.out; have := HJ10.out; omega⟩, by repeat (first | exact Drawn0.refl _ | apply Drawn0.step)⟩
                                  · rw [if_neg c18] at H
                                    have c18b0 : ((bt a0 x15_2) == 95) = false := beq_eq_false_iff_ne.mpr c18
                                    have c18b1 : ((bt a0 x15_2) != 95) = true := bne_iff_ne.mpr c18
                                    obtain rfl := Option.some.inj H
                                    go_wp2
                                    go_ret
                                    exact ⟨by first | rfl | (simp; done) | (simp [*]; done), by repeat (first | exact Drawn0.refl _ | apply Drawn0.step)⟩
                              · rw [if_neg c16] at H
                                have c16b0 : decide (48 ≤ (bt a0 x15_2)) = false := decide_eq_false c16
                                clear c16
                                by_cases c19 : (bt a0 x15_2) = 95
                                · rw [if_pos c19] at H
                                  have c19b0 : ((bt a0 x15_2) == 95) = true := beq_iff_eq.mpr c19
                                  have c19b1 : ((bt a0 x15_2) != 95) = false := bne_eq_false_iff_eq.mpr c19
                                  clear c19
                                  have H' := Aside0.mk H
                                  clear H
                                  go_wp2
                                  go_roundg kj10
                                  case measure => have := HJ1.out; have := HK2.out; have := HJ8.out; have := HJ10.out; omega
                                  case rel => exact ⟨(wrap64 (x15_2 + 1)), (by first | rfl | (simp; done) | (simp [*]; done)), H', ⟨by have := HJ1.out; have := HK2.out; have := HJ8.out; have := HJ10.out; omega⟩, by repeat (first | exact Drawn0.refl _ | apply Drawn0.step)⟩
                                · rw [if_neg c19] at H
                                  have c19b0 : ((bt a0 x15_2) == 95) = false := beq_eq_false_iff_ne.mpr c19
                                  have c19b1 : ((bt a0 x15_2) != 95) = true := bne_iff_ne.mpr c19
                                  obtain rfl := Option.some.inj H
                                  go_wp2
                                  go_ret
                                  exact ⟨by first | rfl | (simp; done) | (simp [*]; done), by repeat (first | exact Drawn0.refl _ | apply Drawn0.step)⟩
                            · rw [if_neg c15] at H
                              have c15b0 : decide (0 < x15_2) = false := decide_eq_false c15
                              clear c15
                              obtain rfl := Option.some.inj H
                              go_wp2
                              go_ret
                              exact ⟨by first | rfl | (simp; done) | (simp [*]; done), by repeat (first | exact Drawn0.refl _ | apply Drawn0.step)⟩
                · rw [if_neg c7] at H
                  exact absurd H (by simp)
              · rw [if_neg c6] at H
                exact absurd H (by simp)
            · rw [if_neg c5] at H
              have c5b0 : decide (x15_2 < (a0.size : Int)) = false := decide_eq_false c5
              clear c5
              obtain rfl := Option.some.inj H
              go_wp2
              go_ret
              exact ⟨by first | rfl | (simp; done) | (simp [*]; done), by repeat (first | exact Drawn0.refl _ | apply Drawn0.step)⟩

end Go.Proofs.Ytklbkonehcjmjaa.P

end

section
namespace Go.Proofs.Ytklbkonehcjmjaa.P
open Go.RowKit Go.Proofs.YtklbkonehcjmjaaW.PrintWords Go.Proofs.YtklbkonehcjmjaaW.PrintLast Go.Proofs.YtklbkonehcjmjaaW.PrintMore
attribute [local go_sem] max2_int min2_int max_two min_two max_three min_three max_four min_four   -- for this text's walks alone
set_option linter.unusedVariables false
set_option linter.unusedSimpArgs false

def slices_Clone_byte_byte.f (l0 : List Int) : Option (List Int) := if l0.length < 140737488355328 then some l0 else none
set_option maxHeartbeats 800000 in
set_option maxRecDepth 100000 in
theorem slices_Clone_byte_byte.calls (A0 : Option Addr) (c0 : Nat) (l0 : List Int) (r : List Int) (w : World) (hr0 : Kd.C (Kd.int .u8) w A0 l0.length l0) (hc0 : l0.length ≤ c0) (h : slices_Clone_byte_byte.f l0 = some r) :
    Calls Try.prog 17 #[.slice A0 l0.length c0] w fun e w' => ∃ v0_ : Value, e = .returned v0_ ∧ Kd.R (Kd.int .u8) 5 w' w.heap.size (fun _ => True) v0_ r ∧ Below w.heap.size w w' := by
  obtain ⟨hlim, rfl⟩ : l0.length < 140737488355328 ∧ r = l0 := by
    unfold slices_Clone_byte_byte.f at h
    split at h
    · rename_i h9
      exact ⟨h9, (Option.some.inj h).symm⟩
    · cases h
  have hnil := Lib.run_eql_slice_nil (P := Try.prog) (h := Try.underlying23)
  have HR := Aside0.mk hr0
  have HL := Aside0.mk hlim
  cases A0 with
  | none =>
    have e0 : r = [] := by
      rcases Nat.eq_zero_or_pos r.length with h0 | h0
      · exact List.length_eq_zero_iff.1 h0
      · obtain ⟨ad, e, _⟩ := hr0.2.2 h0
        cases e
    have E0 := Aside0.mk e0
    clear h hr0 hlim e0
    go_enter Try.func17, Try.ntmps17
    go_wp2
    go_ret
    refine ⟨_, rfl, ?_, Below.refl _ _⟩
    rw [E0.out]
    exact Kd.R_nil _ _ _ _ _
  | some ad =>
    clear h hr0 hlim
    go_enter Try.func17, Try.ntmps17
    go_wp2_with (first | ((with_reducible refine gate_dst (N := 5) rfl ?_); refine Kd.R_lit (Kd.int .u8) _ 5 ?hg (N := 5) ?hd (xs := ([] : List Int)) (inner := []) (ok := fun _ => True) (okp := fun _ => True) ?hr ?hp (fun _ hk => hk) trivial (Below.refl _ _) (Nat.le_refl _) (by simp) ?_; (case hd => rfl); (case hg => rfl); (case hr => first | (go_simp; done) | (go_simp; rfl)); (case hp => exact (Reps.none _ _)); intro v1 w1 ho1 hb1 _ _; have n1 := Aside0.mk ho1; have n2 := Aside0.mk hb1; clear ho1 hb1; obtain ⟨A1, c1, e1⟩ := Kd.R_slice n1.out; subst e1) | ((with_reducible refine gate_builtin (b := .append) (xs := #[.tmp 5, .tmp 6]) rfl ?_); at_builtin; refine Kd.R_append_rows (Kd.int .u8) (w0 := w) w.heap.size rfl (.tmp 5) (.tmp 6) 23 5 (.int .u8 0) 1 rfl Try.underlying23 info5 rfl (by decide) (by omega) (.slice A1 (([] : List Int)).length c1) ([] : List Int) r _ _ _ (fun _ => True) (fun _ => False) rfl rfl ?aO ?aR (fun _ _ h => h) (fun _ h => h.elim) ?aF ?aB ?aS ?aL ?_; (case aR => exact Kd.C_below HR.out n2.out); (case aB => exact n2.out); (case aF => exact (fun _ _ => trivial)); (case aO => exact n1.out); (case aS => exact n2.out.size); (case aL => have h9 := HL.out; simp only [List.length_nil]; omega); intro v2 w2 ho2 hb2 _ _; have n3 := Aside0.mk ho2; have n4 := Aside0.mk hb2; clear ho2 hb2))
    go_ret
    exact ⟨_, rfl, n3.out, n4.out⟩




end Go.Proofs.Ytklbkonehcjmjaa.P

end

section
namespace Go.Proofs.Ytklbkonehcjmjaa.P
open Go.RowKit Go.Proofs.YtklbkonehcjmjaaW.PrintWords Go.Proofs.YtklbkonehcjmjaaW.PrintLast Go.Proofs.YtklbkonehcjmjaaW.PrintMore
attribute [local go_sem] max2_int min2_int max_two min_two max_three min_three max_four min_four   -- for this text's walks alone
set_option linter.unusedVariables false
set_option linter.unusedSimpArgs false

def slices_Equal_byte_byte.l0 : Nat → List Int → List Int → Int → Int → Option (Bool)
  | 0, _, _, _, _ => none
  | k + 1, x0, x1, x12, x13 => if x13 < x12 then (if 0 ≤ x13 then (if x13 < (x0.length : Int) then (if x13 < (x1.length : Int) then (if (rd x0 x13) = (rd x1 x13) then (slices_Equal_byte_byte.l0 k x0 x1 x12 (wrap64 (x13 + 1))) else (some false)) else (none)) else (none)) else (none)) else (some true)
def slices_Equal_byte_byte.f (k : Nat) (l0 : List Int) (l1 : List Int) : Option (Bool) := if (l0.length : Int) = (l1.length : Int) then (slices_Equal_byte_byte.l0 k l0 l1 (l0.length : Int) 0) else (some false)
set_option maxHeartbeats 8000000 in
set_option maxRecDepth 100000 in
theorem slices_Equal_byte_byte.calls (k : Nat) (A0 : Option Addr) (c0 : Nat) (l0 : List Int) (A1 : Option Addr) (c1 : Nat) (l1 : List Int) (r : Bool) (w : World) (hr0 : Kd.C (Kd.int .u8) w A0 l0.length l0) (hc0 : l0.length ≤ c0) (hr1 : Kd.C (Kd.int .u8) w A1 l1.length l1) (hc1 : l1.length ≤ c1) (h : slices_Equal_byte_byte.f k l0 l1 = some r) :
    Calls Try.prog 28 #[.slice A0 l0.length c0, .slice A1 l1.length c1] w fun e w' => e = .returned (.bool r) ∧ Drawn0 w w' := by
  have HR0 := Aside0.mk hr0
  have HC0 := Aside0.mk hc0
  clear hr0 hc0
  have HR1 := Aside0.mk hr1
  have HC1 := Aside0.mk hc1
  clear hr1 hc1
  have H : (if (l0.length : Int) = (l1.length : Int) then (slices_Equal_byte_byte.l0 k l0 l1 (l0.length : Int) 0) else (some false)) = some r := h
  clear h
  by_cases c3 : (l0.length : Int) = (l1.length : Int)
  · rw [if_pos c3] at H
    have c3b0 : ((l0.length : Int) == (l1.length : Int)) = true := beq_iff_eq.mpr c3
    have c3b1 : ((l0.length : Int) != (l1.length : Int)) = false := bne_eq_false_iff_eq.mpr c3
    have c3b2 : (l0.length == l1.length) = true := by first | simpa using c3 | (simp at c3 ⊢; omega)
    clear c3
    have H' := Aside0.mk H
    clear H
    go_enter Try.func28, Try.ntmps28
    go_wp2
    repeat (go_quiet (fail); try go_wp2)
    go_loopg [13] k (fun kq v13 w' => ∃ (x13_1 : Int), v13 = .int .i64 x13_1 ∧ Aside0 (slices_Equal_byte_byte.l0 kq l0 l1 (l0.length : Int) x13_1 = some r) ∧ Aside0 (kq ≤ k) ∧ Drawn0 w w')
    case atStart => exact ⟨(0), (by first | rfl | (simp; done) | (simp [*]; done)), H', ⟨Nat.le_refl _⟩, by repeat (first | exact Drawn0.refl _ | apply Drawn0.step)⟩
    case round =>
      clear H'
      try clear c1
      try clear c2
      try clear p2
      try clear c3
      try clear c3b0
      try clear c3b1
      try clear c3b2
      obtain ⟨x13_1, rfl, HA, HK1, ⟨m1, rfl⟩⟩ := hrel
      cases gk with
      | zero => exact absurd HA.out (by simp [slices_Equal_byte_byte.l0])
      | succ k1 =>
        have H := HA.out
        clear HA
        simp only [slices_Equal_byte_byte.l0] at H
        by_cases c4 : x13_1 < (l0.length : Int)
        · rw [if_pos c4] at H
          have c4b0 : decide (x13_1 < (l0.length : Int)) = true := decide_eq_true c4
          clear c4
          by_cases c5 : 0 ≤ x13_1
          · rw [if_pos c5] at H
            have c5b0 : decide (0 ≤ x13_1) = true := decide_eq_true c5
            clear c5
            by_cases c6 : x13_1 < (l0.length : Int)
            · rw [if_pos c6] at H
              have c6b0 : decide (x13_1 < (l0.length : Int)) = true := decide_eq_true c6
              clear c6
              by_cases c7 : x13_1 < (l1.length : Int)
              · rw [if_pos c7] at H
                have c7b0 : decide (x13_1 < (l1.length : Int)) = true := decide_eq_true c7
                clear c7
                by_cases c8 : (rd l0 x13_1) = (rd l1 x13_1)
                · rw [if_pos c8] at H
                  have c8b0 : ((rd l0 x13_1) == (rd l1 x13_1)) = true := beq_iff_eq.mpr c8
                  have c8b1 : ((rd l0 x13_1) != (rd l1 x13_1)) = false := bne_eq_false_iff_eq.mpr c8
                  clear c8
                  have H' := Aside0.mk H
                  clear H
                  have p116 : 0 ≤ (x13_1 : Int) := of_decide_eq_true (by first | (with_reducible assumption) | assumption)
                  have q116 : x13_1 < (l0.length : Int) := of_decide_eq_true (by first | (with_reducible assumption) | assumption)
                  obtain ⟨ad116, e116, hx116_0⟩ := Kd.at_int HR0.out x13_1 p116 q116
                  cases e116
                  replace p116 := eq_true p116
                  replace q116 := eq_true q116
                  have p117 : 0 ≤ (x13_1 : Int) := of_decide_eq_true (by first | (with_reducible assumption) | assumption)
                  have q117 : x13_1 < (l1.length : Int) := of_decide_eq_true (by first | (with_reducible assumption) | assumption)
                  obtain ⟨ad117, e117, hx117_0⟩ := Kd.at_int HR1.out x13_1 p117 q117
                  cases e117
                  replace p117 := eq_true p117
                  replace q117 := eq_true q117
                  go_wp2
                  repeat (go_quiet (fail); try go_wp2)
                  go_roundg k1
                  case measure => have := HK1.out; omega
                  case rel => exact ⟨(wrap64 (x13_1 + 1)), (by first | rfl | (simp; done) | (simp [*]; done)), H', ⟨by have := HK1.out; omega⟩, by repeat (first | exact Drawn0.refl _ | apply Drawn0.step)⟩
                · rw [if_neg c8] at H
                  have c8b0 : ((rd l0 x13_1) == (rd l1 x13_1)) = false := beq_eq_false_iff_ne.mpr c8
                  have c8b1 : ((rd l0 x13_1) != (rd l1 x13_1)) = true := bne_iff_ne.mpr c8
                  obtain rfl := Option.some.inj H
                  have p116 : 0 ≤ (x13_1 : Int) := of_decide_eq_true (by first | (with_reducible assumption) | assumption)
                  have q116 : x13_1 < (l0.length : Int) := of_decide_eq_true (by first | (with_reducible assumption) | assumption)
                  obtain ⟨ad116, e116, hx116_0⟩ := Kd.at_int HR0.out x13_1 p116 q116
                  cases e116
                  replace p116 := eq_true p116
                  replace q116 := eq_true q116
                  have p117 : 0 ≤ (x13_1 : Int) := of_decide_eq_true (by first | (with_reducible assumption) | assumption)
                  have q117 : x13_1 < (l1.length : Int) := of_decide_eq_true (by first | (with_reducible assumption) | assumption)
                  obtain ⟨ad117, e117, hx117_0⟩ := Kd.at_int HR1.out x13_1 p117 q117
                  cases e117
                  replace p117 := eq_true p117
                  replace q117 := eq_true q117
                  go_wp2
                  repeat (go_quiet (fail); try go_wp2)
                  go_ret
                  exact ⟨by first | rfl | (simp; done) | (simp [*]; done), by repeat (first | exact Drawn0.refl _ | apply Drawn0.step)⟩
              · rw [if_neg c7] at H
                exact absurd H (by simp)
            · rw [if_neg c6] at H
              exact absurd H (by simp)
          · rw [if_neg c5] at H
            exact absurd H (by simp)
        · rw [if_neg c4] at H
          have c4b0 : decide (x13_1 < (l0.length : Int)) = false := decide_eq_false c4
          clear c4
          obtain rfl := Option.some.inj H
          go_wp2
          repeat (go_quiet (fail); try go_wp2)
          go_ret
          exact ⟨by first | rfl | (simp; done) | (simp [*]; done), by repeat (first | exact Drawn0.refl _ | apply Drawn0.step)⟩
  · rw [if_neg c3] at H
    have c3b0 : ((l0.length : Int) == (l1.length : Int)) = false := beq_eq_false_iff_ne.mpr c3
    have c3b1 : ((l0.length : Int) != (l1.length : Int)) = true := bne_iff_ne.mpr c3
    have c3b2 : (l0.length == l1.length) = false := by first | simpa using c3 | (simp at c3 ⊢; omega)
    obtain rfl := Option.some.inj H
    go_enter Try.func28, Try.ntmps28
    go_wp2
    repeat (go_quiet (fail); try go_wp2)
    go_ret
    exact ⟨by first | rfl | (simp; done) | (simp [*]; done), by repeat (first | exact Drawn0.refl _ | apply Drawn0.step)⟩

def provisolaw01_pick.f (a0 : Int) (a1 : Int) : Option (Int) := if (IntKind.u64.wrap (a1)) = 0 then (none) else (some (wrap64 (Int.tmod (IntKind.u64.wrap (a0)) (IntKind.u64.wrap (a1)))))
set_option maxHeartbeats 8000000 in
set_option maxRecDepth 100000 in
theorem provisolaw01_pick.calls (a0 : Int) (a1 : Int) (r : Int) (w : World) (h : provisolaw01_pick.f a0 a1 = some r) :
    Calls Try.prog 18 #[.int .i64 a0, .int .i64 a1] w fun e w' => e = .returned (.int .i64 r) ∧ Drawn0 w w' := by
  have H : (if (IntKind.u64.wrap (a1)) = 0 then (none) else (some (wrap64 (Int.tmod (IntKind.u64.wrap (a0)) (IntKind.u64.wrap (a1)))))) = some r := h
  clear h
  by_cases c3 : (IntKind.u64.wrap (a1)) = 0
  · rw [if_pos c3] at H
    exact absurd H (by simp)
  · rw [if_neg c3] at H
    have c3b0 : ((IntKind.u64.wrap (a1)) == 0) = false := beq_eq_false_iff_ne.mpr c3
    have c3b1 : ((IntKind.u64.wrap (a1)) != 0) = true := bne_iff_ne.mpr c3
    obtain rfl := Option.some.inj H
    go_enter Try.func18, Try.ntmps18
    go_wp2
    go_ret
    exact ⟨by first | rfl | (simp; done) | (simp [*]; done), by repeat (first | exact Drawn0.refl _ | apply Drawn0.step)⟩


end Go.Proofs.Ytklbkonehcjmjaa.P

end

section
namespace Go.Proofs.Ytklbkonehcjmjaa.P
open Go.RowKit Go.Proofs.YtklbkonehcjmjaaW.PrintWords Go.Proofs.YtklbkonehcjmjaaW.PrintLast Go.Proofs.YtklbkonehcjmjaaW.PrintMore
attribute [local go_sem] max2_int min2_int max_two min_two max_three min_three max_four min_four   -- for this text's walks alone
set_option linter.unusedVariables false
set_option linter.unusedSimpArgs false

theorem copy_own {P : Program} {W : World} {base : Nat} {ok : Nat → Prop} {v : Value} {zs bs : List Int} {A : Option Addr} {cA : Nat} {ty : TypeId} (hu : P.underlying 23 = some (.slice 5)) (hi : (P.info? 5).map (·.size) = some 1)
    (HR : Kd.R (Kd.int .u8) 5 W base ok v zs) (HS : Kd.C (Kd.int .u8) W A bs.length bs) (hl : zs.length = bs.length) :
    ∃ W', (Builtin.copy_ #[23, 23] ty #[v, .slice A bs.length cA]).run P W = .ok (goInt bs.length) W' ∧ Kd.R (Kd.int .u8) 5 W' base ok v bs ∧ W.grownBy W' v.ownBlock := by
  have hrefl : ∀ row, W.grownBy W row := fun row => ⟨rfl, rfl, rfl, Nat.le_refl _, fun _ _ _ => rfl⟩
  obtain ⟨h0, inner, ⟨h1, h2⟩, hr⟩ := HR
  rcases h2 with ⟨rfl, hn⟩ | ⟨g, cap, cur, rfl, hg, hh, r1, r2, r3, r4⟩
  · have e : bs = [] := List.length_eq_zero_iff.1 (by omega)
    subst e
    exact ⟨W, run_copy_none W _ _ ty _ none A 0 0 0 cA hu hi rfl, Kd.R_nil _ _ _ _ _, hrefl _⟩
  · by_cases hz : bs.length = 0
    · have e : bs = [] := List.length_eq_zero_iff.1 hz
      subst e
      have ez : zs = [] := List.length_eq_zero_iff.1 (by simpa using hl)
      subst ez
      exact ⟨W, run_copy_none W _ _ ty _ _ A _ cap 0 cA hu hi rfl, ⟨h0, inner, ⟨h1, .inr ⟨g, cap, cur, rfl, hg, hh, r1, r2, r3, r4⟩⟩, hr⟩, hrefl _⟩
    · obtain ⟨ad, rfl, hc⟩ := HS.2.2 (by omega)
      have hlen : (bs.map (Value.int .u8)).length = bs.length := List.length_map _
      have hrun := run_copy_row (P := P) W 23 23 ty 5 g 0 zs.length cap ad bs.length cA cur 5 (bs.map (Value.int .u8)) hu hi hh (by rw [hlen, hl]; exact (Nat.min_self _).symm)
        (fun j u hj => by
          rw [List.getElem?_map] at hj
          cases hb : bs[j]? with
          | none => rw [hb] at hj; cases hj
          | some x =>
            rw [hb] at hj
            obtain ⟨c, _, hK, hcc⟩ := hc j x hb
            have hK' : c = [Value.int .u8 x] := hK
            subst hK'
            have := hcc 0 _ rfl
            have e1 : u = Value.int .u8 x := (Option.some.inj hj).symm
            rw [e1]
            simpa [show (Kd.int .u8).sz = 1 from rfl] using this)
        (by rw [hlen, r3, show (Kd.int .u8).sz = 1 from rfl]; omega) (fun u hu => by
          obtain ⟨x, _, rfl⟩ := List.mem_map.1 hu
          rfl)
      rw [hlen] at hrun
      refine ⟨_, hrun, ⟨h0, bs.map (Value.int .u8), ⟨by rw [hlen]; exact (Nat.mul_one _).symm, .inr ⟨g, cap, _, by rw [hl], hg, setRow_heap W g cur _ _ _ hh, by omega, r2, ?_, ?_⟩⟩, ?_⟩, ⟨rfl, rfl, rfl, by simp, fun k _ hk => setRow_other W g k _ (fun e => hk (by rw [e]; rfl))⟩⟩
      · simp [r3, show (Kd.int .u8).sz = 1 from rfl]
        have : bs.length ≤ cap := by omega
        omega
      · simp [show (Kd.int .u8).sz = 1 from rfl]
      · exact Kd.reps_scalar bs
theorem Kd.R_base_ {base : Nat} {W : World} {ok : Nat → Prop} {v : Value} {xs : List Int} (h : Kd.R (Kd.int .u8) 5 W base ok v xs) (k : Nat) (hk : v.ownBlock = some k) : base ≤ k := by
  obtain ⟨_, inner, ho, _⟩ := h
  exact own_base ho k hk
structure RdAt (base g : Nat) (bs : List Int) (at_ : Nat) (W : World) : Prop where
  le : at_ ≤ bs.length
  ge : base ≤ g
  now : ∃ v : Value, W.heap[g]? = some (.cells #[v, .int .i64 (at_ : Int), .bool true] 79 (0, 0)) ∧ Kd.R (Kd.int .u8) 5 W base (fun _ => True) v bs
set_option maxHeartbeats 1600000 in
set_option maxRecDepth 100000 in
theorem Over_calls (A0 : Option Addr) (c0 : Nat) (l0 : List Int) (w : World) (hr0 : Kd.C (Kd.int .u8) w A0 l0.length l0) (hc0 : l0.length ≤ c0) (hlim : l0.length ≤ 281474976710656) :
    Calls Try.prog 19 #[.slice A0 l0.length c0] w fun e w' => ∃ g, e = .returned (.pointer (some ⟨g, 0, none⟩)) ∧ RdAt w.heap.size g l0 0 w' ∧ Below w.heap.size w w' := by
  have HR := Aside0.mk hr0
  have HL := Aside0.mk hlim
  have hlen : l0.length ≤ 9223372036854775807 := hr0.2.1
  clear hr0 hc0 hlim
  go_enter Try.func19, Try.ntmps19
  go_wp2_with (first | ((with_reducible refine gate_dst (N := 6) rfl ?_); refine Kd.R_make (Kd.int .u8) (w0 := w) w.heap.size 5 rfl (N := 6) rfl 23 (.tmp 5) (.tmp 5) rfl (l0.length : Int) rfl rfl Try.underlying23 (.int .u8 0) 1 info5 rfl (by decide) (by decide) 0 (ok := fun _ => True) (okp := fun _ => True) rfl (fun _ h => h) trivial (by omega) ?hl (Below.refl _ _) (Nat.le_refl _) ?_; (case hl => have := HL.out; rw [Int.toNat_natCast]; omega); intro v1 w1 ho hb hg hat; rw [Int.toNat_natCast] at ho; have HB := Aside0.mk hb; obtain ⟨Av, cv, e1⟩ := Kd.R_slice ho; rw [List.length_replicate] at e1; subst e1; obtain ⟨w2, hrun, hR2, hg2⟩ := copy_own (P := Try.prog) (ty := 3) (cA := c0) Try.underlying23 (by kernel_rfl) ho (Kd.C_below HR.out hb) (by simp); have HR2 := Aside0.mk hR2; have HG2 := Aside0.mk (Below.grown hb hg2 hb.size (fun k hk => (Kd.R_base_ ho k hk))); clear ho hb hg hat hR2 hg2))
  have h1 := blk_new w2 (.cells #[.slice Av l0.length cv, .int .i64 0, .bool true] 79)
  have h2 := Kd.R_alloc HR2.out (.cells #[.slice Av l0.length cv, .int .i64 0, .bool true] 79)
  have h3 := below_alloc HG2.out (.cells #[.slice Av l0.length cv, .int .i64 0, .bool true] 79)
  have h4 := HG2.out.size
  go_ret
  exact ⟨w2.heap.size, rfl, ⟨Nat.zero_le _, h4, _, h1, h2⟩, h3⟩
theorem RdAt.drewN {base g : Nat} {bs : List Int} {at_ : Nat} {W : World} (h : RdAt base g bs at_ W) (m : Nat) : RdAt base g bs at_ (W.drewN m) := by
  obtain ⟨h1, h2, v, h3, h4⟩ := h
  exact ⟨h1, h2, v, blk_drewN h3 m, Kd.R_drewN h4 m⟩
theorem RdAt.step {base g : Nat} {bs : List Int} {at_ : Nat} {W W' : World} (h : RdAt base g bs at_ W) (hb : Below W.heap.size W W') : RdAt base g bs at_ W' := by
  obtain ⟨h1, h2, v, h3, h4⟩ := h
  exact ⟨h1, h2, v, blk_below h3 hb, Kd.R_below h4 hb⟩
theorem RdAt.set {base g : Nat} {bs : List Int} {at_ : Nat} {W : World} (h : RdAt base g bs at_ W) (n : Nat) (hn : n ≤ bs.length) : RdAt base g bs n (W.setCell ⟨g, 1, none⟩ (.int .i64 (n : Int))) := by
  obtain ⟨h1, h2, v, h3, h4⟩ := h
  exact ⟨hn, h2, v, blk_set h3 1 _, Kd.R_set h4 h3 (by decide) _ _⟩
theorem RdAt.len {base g : Nat} {bs : List Int} {at_ : Nat} {W : World} (h : RdAt base g bs at_ W) : bs.length ≤ 9223372036854775807 := by
  obtain ⟨_, _, v, _, h4⟩ := h
  obtain ⟨A, c, rfl⟩ := Kd.R_slice h4
  exact (Kd.R_reads' h4).2.2.2.1
set_option maxHeartbeats 800000 in
set_option maxRecDepth 100000 in
theorem ready_rd {base g : Nat} {bs : List Int} {at_ : Nat} {w : World} (h : RdAt base g bs at_ w) : Calls Try.prog 45 #[.pointer (some ⟨g, 0, none⟩)] w fun e w' => e = .returned (.bool true) ∧ Drawn0 w w' := by
  obtain ⟨_, _, v, h3, _⟩ := h
  have hc := blk_cell h3 2
  clear h3
  go_enter Try.func45, Try.ntmps45
  go_wp2
  go_ret
  exact ⟨rfl, 0, rfl⟩
set_option maxHeartbeats 800000 in
set_option maxRecDepth 100000 in
theorem Left_rd {base g : Nat} {bs : List Int} {at_ : Nat} {w : World} (h : RdAt base g bs at_ w) : Calls Try.prog 21 #[.pointer (some ⟨g, 0, none⟩)] w fun e w' => e = .returned (.int .i64 ((bs.length : Int) - (at_ : Int))) ∧ Drawn0 w w' := by
  obtain ⟨v, h3, h4⟩ := h.now
  obtain ⟨A, c, rfl⟩ := Kd.R_slice h4
  have hc := blk_cell h3 1
  have hc0 := blk_cell h3 0
  have hlen := h.len
  have hle := h.le
  have H := Aside0.mk h
  clear h3 h h4
  go_enter Try.func21, Try.ntmps21
  go_wp2_with fail
  refine (ready_rd H.out).mono ?_
  rintro e w1 ⟨rfl, m, rfl⟩
  go_wp2
  go_quiet (fail)
  go_wp2
  go_ret
  exact ⟨rfl, _, World.drewN_drewN _ _ _⟩
set_option maxHeartbeats 1600000 in
set_option maxRecDepth 100000 in
theorem next_good {base g : Nat} {bs : List Int} {at_ : Nat} {w : World} (h : RdAt base g bs at_ w) (n : Nat) (hn : at_ + n ≤ bs.length) : Calls Try.prog 46 #[.pointer (some ⟨g, 0, none⟩), .int .i64 (n : Int)] w fun e w' => ∃ (A : Option Addr) (c m m2 : Nat), e = .returned (.tuple #[.slice A n c, .int .i64 0]) ∧ n ≤ c ∧ w' = ((w.drewN m).setCell ⟨g, 1, none⟩ (.int .i64 ((at_ + n : Nat) : Int))).drewN m2 ∧ Kd.C (Kd.int .u8) w' A n ((bs.take (at_ + n)).drop at_) := by
  have hlen := h.len
  have hle := h.le
  have H := Aside0.mk h
  clear h
  have c1b : decide ((n : Int) < 0) = false := decide_eq_false (by omega)
  have c2b : decide ((bs.length : Int) - (at_ : Int) < (n : Int)) = false := decide_eq_false (by omega)
  go_enter Try.func46, Try.ntmps46
  go_wp2_with fail
  refine (ready_rd H.out).mono ?_
  rintro e w1 ⟨rfl, m, rfl⟩
  go_wp2_with fail
  refine (Left_rd (H.out.drewN m)).mono ?_
  rintro e w2 ⟨rfl, m2, rfl⟩
  have H2 := (H.out.drewN m).drewN m2
  rw [World.drewN_drewN] at H2 ⊢
  generalize hw3 : w.drewN (m + m2) = w3 at H2 ⊢
  obtain ⟨v, h3, h4⟩ := H2.now
  obtain ⟨A, c, rfl⟩ := Kd.R_slice h4
  have hc1 := blk_cell h3 1
  have hf1 := blk_frozen h3 1
  have h5 := blk_set h3 1 (.int .i64 ((at_ + n : Nat) : Int))
  have h6 := H2.set (at_ + n) hn
  have hc := blk_cell h5 0
  have hcc := blk_cell h5 1
  have H6 := Aside0.mk h6
  have HW3 := Aside0.mk hw3
  have hcap : at_ + n ≤ c := by have := (Kd.R_reads' h4).2.1; omega
  have hsl := Kd.C_mid (Kd.R_reads' (show Kd.R (Kd.int .u8) 5 (w3.setCell ⟨g, 1, none⟩ (.int .i64 ((at_ + n : Nat) : Int))) base (fun _ => True) (.slice A bs.length c) bs from Kd.R_set h4 h3 (by decide) _ _)).2.2 (lo := at_) (hi := at_ + n) (c := c) (Nat.le_add_right _ _) hn (Kd.R_reads' h4).2.1
  have HS := Aside0.mk hsl
  have en : ((at_ + n : Nat) : Int) = (at_ : Int) + (n : Int) := Int.natCast_add _ _
  have hgoal : w3.setCell ⟨g, 1, none⟩ (.int .i64 ((at_ + n : Nat) : Int)) = (w.drewN (m + m2)).setCell ⟨g, 1, none⟩ (.int .i64 ((at_ + n : Nat) : Int)) := by rw [HW3.out]
  have HG := Aside0.mk hgoal
  have q1 : decide (at_ ≤ at_ + n) = true := decide_eq_true (Nat.le_add_right _ _)
  have q2 : (at_ + n ≤ c) = True := eq_true hcap
  clear h3 h4 h5 h6 H2 H hw3 hsl hgoal hcap HW3
  rw [en] at HS HG H6 hc hcc
  clear en
  go_upto_region 8 with fail
  generalize w3.setCell ⟨g, 1, none⟩ (.int .i64 ((at_ : Int) + (n : Int))) = w4 at HS HG H6 hc hcc ⊢
  clear hc1 hf1
  have hA : w4.cell? ⟨g, 0, none⟩ = some (.slice A bs.length c) := hc.trans rfl
  have hB : w4.cell? ⟨g, 1, none⟩ = some (.int .i64 ((at_ : Int) + (n : Int))) := hcc.trans rfl
  have hw0 : IntKind.i64.wrap (at_ : Int) = (at_ : Int) := by rw [IntKind.wrap_i64]; omega
  have hw1 : IntKind.i64.wrap ((at_ : Int) + (n : Int)) = (at_ : Int) + (n : Int) := by rw [IntKind.wrap_i64]; omega
  have q3 : ((at_ : Int) + (n : Int)).toNat = at_ + n := by omega
  have q4 : (0 : Int) ≤ (at_ : Int) + (n : Int) := by omega
  have q5 : (at_ : Int) ≤ (at_ : Int) + (n : Int) := by omega
  have q6 : (at_ : Int) + (n : Int) ≤ (c : Int) := by have := of_eq_true q2; omega
  have q7 : (at_ : Int) ≤ (c : Int) := by have := of_eq_true q2; omega
  have q8 : at_ + n - at_ = n := by omega
  clear hc hcc
  go_region_held3 (fun w' => w'.cell? ⟨g, 0, none⟩ = some (.slice A bs.length c) ∧ w'.cell? ⟨g, 1, none⟩ = some (.int .i64 ((at_ : Int) + (n : Int))))
    (first | exact ⟨hA, hB⟩ | (refine ⟨?_, ?_⟩ <;> first | exact hA | exact hB | simpa using hA | simpa using hB))
    (first | fail)
  clear q1 q3 q4 q5 q6 q7 q8 hA hB hw0 hw1 c1b c2b
  have h9 := Kd.C_drewN HS.out 1
  rw [show (Kd.int .u8).sz = 1 from rfl, Nat.mul_one] at h9
  have h8 : ((bs.take (at_ + n)).drop at_).length = n := by rw [List.length_drop, List.length_take]; omega
  rw [h8] at h9
  clear HS h8
  generalize (if c = at_ then A else Option.map (fun x => x.add at_) A) = Ax at h9 ⊢
  have HS := Aside0.mk h9
  clear h9
  go_wp2
  go_ret2
  exact ⟨_, _, m + m2, 1, rfl, by have := of_eq_true q2; omega, by rw [Int.natCast_add, ← HG.out]; rfl, HS.out⟩
theorem u32_or8 (x y : Int) (hx₀ : 0 ≤ x) (hx : x % 256 = 0) (hx₁ : x < 4294967296) (h₀ : 0 ≤ y) (h₁ : y < 256) : bits .or .u32 x y = x + y :=
  bits_join .u32 32 (by decide) (fun n a b => by rw [IntKind.wrap_u32]; omega) 8 x y hx₀ hx hx₁ h₀ h₁ (by omega)
def numOf (bs : List Int) : Int := bs.foldl (fun x c => x * 256 + c) 0
theorem num_bound : ∀ (bs : List Int), (∀ x ∈ bs, 0 ≤ x ∧ x ≤ 255) → ∀ z : Int, 0 ≤ z → 0 ≤ bs.foldl (fun x c => x * 256 + c) z ∧ bs.foldl (fun x c => x * 256 + c) z < (z + 1) * 256 ^ bs.length
  | [], _, z, hz => ⟨hz, by simp; omega⟩
  | x :: bs, h, z, hz => by
    have hx := h x List.mem_cons_self
    obtain ⟨h1, h2⟩ := num_bound bs (fun y hy => h y (List.mem_cons_of_mem _ hy)) (z * 256 + x) (by omega)
    refine ⟨h1, Int.lt_of_lt_of_le h2 ?_⟩
    rw [List.length_cons, Int.pow_succ, ← Int.mul_assoc, Int.mul_right_comm]
    exact Int.mul_le_mul_of_nonneg_right (by omega) (Int.pow_nonneg (by decide))
theorem num_next (seg : List Int) (hb : ∀ x ∈ seg, 0 ≤ x ∧ x ≤ 255) (i : Nat) (hi : i < seg.length) (h4 : seg.length ≤ 4) : bits .or .u32 (numOf (seg.take i) * 256 % 4294967296) (rd seg (i : Int) % 4294967296) = numOf (seg.take (i + 1)) := by
  have hr : rd seg (i : Int) = seg[i] := by simp [rd, List.getD_eq_getElem?_getD, hi]
  have hx := hb _ (List.getElem_mem hi)
  have hz := num_bound (seg.take i) (fun x hx => hb x (List.mem_of_mem_take hx)) 0 (Int.le_refl _)
  rw [List.length_take, Nat.min_eq_left (by omega)] at hz
  have hp : (256 : Int) ^ i ≤ 16777216 := by
    have : i = 0 ∨ i = 1 ∨ i = 2 ∨ i = 3 := by omega
    rcases this with rfl | rfl | rfl | rfl <;> decide
  have e1 : numOf (seg.take (i + 1)) = numOf (seg.take i) * 256 + seg[i] := by
    unfold numOf
    rw [List.take_succ_eq_append_getElem hi, List.foldl_append]
    rfl
  have hz' : 0 ≤ numOf (seg.take i) ∧ numOf (seg.take i) < 16777216 := by
    unfold numOf
    omega
  rw [e1, hr, u32_or8 _ _ (by omega) (by omega) (by omega) (by omega) (by omega)]
  omega
set_option maxHeartbeats 1600000 in
set_option maxRecDepth 100000 in
theorem number_good {base g : Nat} {bs : List Int} {at_ : Nat} {w : World} (h : RdAt base g bs at_ w) (hb : ∀ x ∈ bs, 0 ≤ x ∧ x ≤ 255) (n : Nat) (hn : at_ + n ≤ bs.length) (h4 : n ≤ 4) : Calls Try.prog 47 #[.pointer (some ⟨g, 0, none⟩), .int .i64 (n : Int)] w fun e w' => ∃ m m2 : Nat, e = .returned (.tuple #[.int .u32 (numOf ((bs.take (at_ + n)).drop at_)), .int .i64 0]) ∧ w' = ((w.drewN m).setCell ⟨g, 1, none⟩ (.int .i64 ((at_ + n : Nat) : Int))).drewN m2 := by
  have HN := Aside0.mk (next_good h n hn)
  have hn4 : (n : Int) ≤ 4 := by omega
  obtain ⟨seg, hseg⟩ : ∃ seg, seg = (bs.take (at_ + n)).drop at_ := ⟨_, rfl⟩
  have hsl : seg.length = n := by rw [hseg, List.length_drop, List.length_take]; omega
  have hsb : ∀ x ∈ seg, 0 ≤ x ∧ x ≤ 255 := fun x hx => hb x (by rw [hseg] at hx; exact List.mem_of_mem_take (List.mem_of_mem_drop hx))
  rw [← hseg] at HN ⊢
  have HSB := Aside0.mk hsb
  have HSL := Aside0.mk hsl
  clear h hn hseg hb hsb hsl
  go_enter Try.func47, Try.ntmps47
  go_wp2_with fail
  refine HN.out.mono ?_
  rintro e w1 ⟨A, c, m, m2, rfl, hc, hw, hC⟩
  have HW := Aside0.mk hw
  have HC := Aside0.mk hC
  clear hw hC HN hc
  go_wp2
  go_loopw [8, 19] (fun v8 v19 wr => ∃ i : Nat, v19 = .int .i64 (i : Int) ∧ i ≤ n ∧ v8 = .int .u32 (numOf (seg.take i)) ∧ wr = w1) (fun _ v19 _ => ((n : Int) - intOf v19).toNat)
  case atStart => exact ⟨0, rfl, Nat.zero_le _, rfl, rfl⟩
  case round =>
    obtain ⟨i, rfl, hi, rfl, rfl⟩ := hrel
    by_cases c1 : i < n
    · have c1b : decide ((i : Int) < (n : Int)) = true := decide_eq_true (by omega)
      have hC2 := HC.out
      rw [← HSL.out] at hC2
      obtain ⟨ad, e3, hx⟩ := Kd.at_int hC2 (i : Int) (by omega) (by have := HSL.out; omega)
      subst e3
      have p5 : (0 ≤ (i : Int)) = True := eq_true (by omega)
      have p6 : ((i : Int) < (n : Int)) = True := eq_true (by omega)
      simp only [Int.toNat_natCast] at hx
      generalize hz : numOf (seg.take i) = z
      have HZ := Aside0.mk hz
      clear hC2 hz
      go_wp2
      refine ⟨⟨i + 1, rfl, by omega, by rw [← HZ.out, num_next seg HSB.out i (by have := HSL.out; omega) (by have := HSL.out; omega)], trivial⟩, by simp [intOf]; omega⟩
    · have c1b : decide ((i : Int) < (n : Int)) = false := decide_eq_false (by omega)
      have e9 : seg.take i = seg := List.take_of_length_le (by have := HSL.out; omega)
      rw [e9]
      clear e9
      go_wp2
      go_ret2
      exact ⟨m, m2, rfl, HW.out⟩
set_option maxHeartbeats 800000 in
set_option maxRecDepth 100000 in
theorem Byte_good {base g : Nat} {bs : List Int} {at_ : Nat} {w : World} (h : RdAt base g bs at_ w) (hb : ∀ x ∈ bs, 0 ≤ x ∧ x ≤ 255) (hn : at_ + 1 ≤ bs.length) : Calls Try.prog 23 #[.pointer (some ⟨g, 0, none⟩)] w fun e w' => ∃ m m2 : Nat, e = .returned (.tuple #[.int .i64 (numOf ((bs.take (at_ + 1)).drop at_)), .int .i64 0]) ∧ w' = ((w.drewN m).setCell ⟨g, 1, none⟩ (.int .i64 ((at_ + 1 : Nat) : Int))).drewN m2 := by
  have HN := Aside0.mk (number_good h hb 1 hn (by decide))
  have hz := num_bound ((bs.take (at_ + 1)).drop at_) (fun x hx => hb x (List.mem_of_mem_take (List.mem_of_mem_drop hx))) 0 (Int.le_refl _)
  have hl : ((bs.take (at_ + 1)).drop at_).length = 1 := by rw [List.length_drop, List.length_take]; omega
  rw [hl] at hz
  have hz2 : 0 ≤ numOf ((bs.take (at_ + 1)).drop at_) ∧ numOf ((bs.take (at_ + 1)).drop at_) < 256 := by
    unfold numOf
    exact ⟨hz.1, by have := hz.2; simpa using this⟩
  clear h hb hn hz hl
  generalize numOf ((bs.take (at_ + 1)).drop at_) = z at HN hz2 ⊢
  obtain ⟨hz0, hz1⟩ := hz2
  have hzw : IntKind.i64.wrap z = z := by rw [IntKind.wrap_i64]; omega
  go_enter Try.func23, Try.ntmps23
  go_wp2_with fail
  refine HN.out.mono ?_
  rintro e w1 ⟨m, m2, rfl, rfl⟩
  go_wp2
  go_ret2
  exact ⟨m, m2, rfl, rfl⟩
set_option maxHeartbeats 800000 in
set_option maxRecDepth 100000 in
theorem Word_good {base g : Nat} {bs : List Int} {at_ : Nat} {w : World} (h : RdAt base g bs at_ w) (hb : ∀ x ∈ bs, 0 ≤ x ∧ x ≤ 255) (hn : at_ + 2 ≤ bs.length) : Calls Try.prog 60 #[.pointer (some ⟨g, 0, none⟩)] w fun e w' => ∃ m m2 : Nat, e = .returned (.tuple #[.int .i64 (numOf ((bs.take (at_ + 2)).drop at_)), .int .i64 0]) ∧ w' = ((w.drewN m).setCell ⟨g, 1, none⟩ (.int .i64 ((at_ + 2 : Nat) : Int))).drewN m2 := by
  have HN := Aside0.mk (number_good h hb 2 hn (by decide))
  have hz := num_bound ((bs.take (at_ + 2)).drop at_) (fun x hx => hb x (List.mem_of_mem_take (List.mem_of_mem_drop hx))) 0 (Int.le_refl _)
  have hl : ((bs.take (at_ + 2)).drop at_).length = 2 := by rw [List.length_drop, List.length_take]; omega
  rw [hl] at hz
  have hz2 : 0 ≤ numOf ((bs.take (at_ + 2)).drop at_) ∧ numOf ((bs.take (at_ + 2)).drop at_) < 65536 := by
    unfold numOf
    exact ⟨hz.1, by have := hz.2; simpa using this⟩
  clear h hb hn hz hl
  generalize numOf ((bs.take (at_ + 2)).drop at_) = z at HN hz2 ⊢
  obtain ⟨hz0, hz1⟩ := hz2
  have hzw : IntKind.i64.wrap z = z := by rw [IntKind.wrap_i64]; omega
  go_enter Try.func60, Try.ntmps60
  go_wp2_with fail
  refine HN.out.mono ?_
  rintro e w1 ⟨m, m2, rfl, rfl⟩
  go_wp2
  go_ret2
  exact ⟨m, m2, rfl, rfl⟩
set_option maxHeartbeats 800000 in
set_option maxRecDepth 100000 in
theorem End_rd {base g : Nat} {bs : List Int} {at_ : Nat} {w : World} (h : RdAt base g bs at_ w) : Calls Try.prog 24 #[.pointer (some ⟨g, 0, none⟩)] w fun e w' => e = .returned (.int .i64 (if at_ = bs.length then 0 else 3)) ∧ Drawn0 w w' := by
  have hle := h.le
  have H := Aside0.mk h
  clear h
  by_cases c1 : at_ = bs.length
  · have c1b : decide (at_ < bs.length) = false := decide_eq_false (by omega)
    rw [if_pos c1]
    clear c1
    go_enter Try.func24, Try.ntmps24
    go_wp2_with fail
    refine (ready_rd H.out).mono ?_
    rintro e w1 ⟨rfl, m, rfl⟩
    go_wp2_with fail
    refine (Left_rd (H.out.drewN m)).mono ?_
    rintro e w2 ⟨rfl, m2, rfl⟩
    go_wp2
    go_ret
    exact ⟨rfl, _, rfl⟩
  · have c1b : decide (at_ < bs.length) = true := decide_eq_true (by omega)
    rw [if_neg c1]
    clear c1
    go_enter Try.func24, Try.ntmps24
    go_wp2_with fail
    refine (ready_rd H.out).mono ?_
    rintro e w1 ⟨rfl, m, rfl⟩
    go_wp2_with fail
    refine (Left_rd (H.out.drewN m)).mono ?_
    rintro e w2 ⟨rfl, m2, rfl⟩
    go_wp2
    go_ret
    exact ⟨rfl, _, rfl⟩
set_option maxHeartbeats 1600000 in
set_option maxRecDepth 100000 in
theorem Take_good {base g : Nat} {bs : List Int} {at_ : Nat} {w : World} (h : RdAt base g bs at_ w) (n : Nat) (hn : at_ + n ≤ bs.length) (hlim : bs.length ≤ 281474976710656) : Calls Try.prog 30 #[.pointer (some ⟨g, 0, none⟩), .int .i64 (n : Int)] w fun e w' => ∃ (v : Value) (m m2 : Nat) (w1 : World), e = .returned (.tuple #[v, .int .i64 0]) ∧ w1 = ((w.drewN m).setCell ⟨g, 1, none⟩ (.int .i64 ((at_ + n : Nat) : Int))).drewN m2 ∧ Kd.R (Kd.int .u8) 5 w' w1.heap.size (fun _ => True) v ((bs.take (at_ + n)).drop at_) ∧ Below w1.heap.size w1 w' := by
  have HN := Aside0.mk (next_good h n hn)
  have hnl : (n : Int) ≤ 281474976710656 := by omega
  obtain ⟨seg, hseg⟩ : ∃ seg, seg = (bs.take (at_ + n)).drop at_ := ⟨_, rfl⟩
  have hsl : seg.length = n := by rw [hseg, List.length_drop, List.length_take]; omega
  rw [← hseg] at HN ⊢
  have HSL := Aside0.mk hsl
  clear h hn hlim hsl hseg
  go_enter Try.func30, Try.ntmps30
  go_wp2_with fail
  refine HN.out.mono ?_
  rintro e w1 ⟨A, c, m, m2, rfl, hc, hw, hC⟩
  have HW := Aside0.mk hw
  have HC := Aside0.mk hC
  clear hw hC HN hc
  go_wp2_with (first | ((with_reducible refine gate_dst (N := 20) rfl ?_); refine Kd.R_make (Kd.int .u8) (w0 := w1) w1.heap.size 5 rfl (N := 20) rfl 23 (.tmp 19) (.tmp 19) rfl (n : Int) rfl rfl Try.underlying23 (.int .u8 0) 1 info5 rfl (by decide) (by decide) 0 (ok := fun _ => True) (okp := fun _ => True) rfl (fun _ h => h) trivial (by omega) ?hl (Below.refl _ _) (Nat.le_refl _) ?_; (case hl => rw [Int.toNat_natCast]; omega); intro v1 w2 ho hb hg hat; rw [Int.toNat_natCast] at ho; obtain ⟨Av, cv, e1⟩ := Kd.R_slice ho; rw [List.length_replicate] at e1; subst e1; obtain ⟨w3, hrun, hR2, hg2⟩ := copy_own (P := Try.prog) (ty := 3) (cA := c) (A := A) (bs := seg) Try.underlying23 (by kernel_rfl) ho (by rw [HSL.out]; exact Kd.C_below HC.out hb) (by rw [HSL.out]; simp); rw [HSL.out] at hrun; have HR2 := Aside0.mk hR2; have HG2 := Aside0.mk (Below.grown hb hg2 hb.size (fun k hk => (Kd.R_base_ ho k hk))); clear ho hb hg hat hR2 hg2))
  go_ret2
  exact ⟨_, m, m2, w1, rfl, HW.out, HR2.out, HG2.out⟩
def signOf (z : Int) : Int := if z < 2147483648 then z else z - 4294967296
set_option maxHeartbeats 1600000 in
set_option maxRecDepth 100000 in
theorem Long_good {base g : Nat} {bs : List Int} {at_ : Nat} {w : World} (h : RdAt base g bs at_ w) (hb : ∀ x ∈ bs, 0 ≤ x ∧ x ≤ 255) (hn : at_ + 4 ≤ bs.length) : Calls Try.prog 61 #[.pointer (some ⟨g, 0, none⟩)] w fun e w' => ∃ m m2 : Nat, e = .returned (.tuple #[.int .i64 (signOf (numOf ((bs.take (at_ + 4)).drop at_))), .int .i64 0]) ∧ w' = ((w.drewN m).setCell ⟨g, 1, none⟩ (.int .i64 ((at_ + 4 : Nat) : Int))).drewN m2 := by
  have HN := Aside0.mk (number_good h hb 4 hn (by decide))
  have hz := num_bound ((bs.take (at_ + 4)).drop at_) (fun x hx => hb x (List.mem_of_mem_take (List.mem_of_mem_drop hx))) 0 (Int.le_refl _)
  have hl : ((bs.take (at_ + 4)).drop at_).length = 4 := by rw [List.length_drop, List.length_take]; omega
  rw [hl] at hz
  have hz2 : 0 ≤ numOf ((bs.take (at_ + 4)).drop at_) ∧ numOf ((bs.take (at_ + 4)).drop at_) < 4294967296 := by
    unfold numOf
    exact ⟨hz.1, by have := hz.2; simpa using this⟩
  clear h hb hn hz hl
  generalize numOf ((bs.take (at_ + 4)).drop at_) = z at HN hz2 ⊢
  obtain ⟨hz0, hz1⟩ := hz2
  obtain ⟨y, hy⟩ : ∃ y, y = signOf z := ⟨_, rfl⟩
  have hyb : -2147483648 ≤ y ∧ y < 2147483648 ∧ (y = z ∨ y = z - 4294967296) := by
    rw [hy]
    unfold signOf
    split <;> omega
  rw [← hy]
  have hw1 : IntKind.i32.wrap z = y := by rw [IntKind.wrap_i32]; omega
  have hw2 : IntKind.i64.wrap y = y := by rw [IntKind.wrap_i64]; omega
  clear hy hyb hz0 hz1
  go_enter Try.func61, Try.ntmps61
  go_wp2_with fail
  refine HN.out.mono ?_
  rintro e w1 ⟨m, m2, rfl, rfl⟩
  go_wp2
  go_ret2
  exact ⟨m, m2, rfl, rfl⟩
theorem RdAt.frozen {base g : Nat} {bs : List Int} {at_ : Nat} {W : World} (h : RdAt base g bs at_ W) : ∃ cs, W.heap[g]? = some (.cells cs 79 (0, 0)) := by
  obtain ⟨v, h3, _⟩ := h.now
  exact ⟨_, h3⟩
theorem num_one (bs : List Int) (i : Nat) (h : i < bs.length) : numOf ((bs.take (i + 1)).drop i) = rd bs (i : Int) := by
  have hr : rd bs (i : Int) = bs[i] := by simp [rd, List.getD_eq_getElem?_getD, h]
  have e : (bs.take (i + 1)).drop i = [bs[i]] := by
    rw [List.take_succ_eq_append_getElem h, List.drop_append_of_le_length (by rw [List.length_take]; omega), List.drop_of_length_le (by rw [List.length_take]; omega)]
    rfl
  rw [e, hr]
  simp [numOf]
theorem RdAt.self {base g : Nat} {bs : List Int} {at_ : Nat} {W : World} (h : RdAt base g bs at_ W) (n m m2 : Nat) (hn : n ≤ bs.length) : RdAt base g bs n (((W.drewN m).setCell ⟨g, 1, none⟩ (.int .i64 (n : Int))).drewN m2) := ((h.drewN m).set n hn).drewN m2
theorem below_rd {B g : Nat} {w0 W : World} (h : Below B w0 W) (hg : B ≤ g) (m m2 : Nat) (u : Value) : Below B w0 (((W.drewN m).setCell ⟨g, 1, none⟩ u).drewN m2) := pw_below_drewN ((pw_below_drewN h m).setCell hg u) m2
theorem str_of_bytes (s : ByteArray) : strOfNums (bytesOf s) = s := by
  unfold strOfNums bytesOf
  rw [List.map_map]
  have : (List.map ((fun x : Int => UInt8.ofNat x.toNat) ∘ fun b : UInt8 => (b.toNat : Int)) s.data.toList) = s.data.toList := by
    conv => rhs; rw [← List.map_id s.data.toList]
    refine List.map_congr_left fun b _ => ?_
    simp
  rw [this]
set_option maxHeartbeats 1600000 in
set_option maxRecDepth 100000 in
theorem Name_good {base g : Nat} {bs : List Int} {at_ : Nat} {w : World} (h : RdAt base g bs at_ w) (hb : ∀ x ∈ bs, 0 ≤ x ∧ x ≤ 255) (k : Nat) (s : ByteArray) (hs : wire_IsName.f k s = some true) (h1 : 1 ≤ s.size) (h24 : s.size ≤ 24) (hl : at_ + 1 + s.size ≤ bs.length) (hby : rd bs (at_ : Int) = (s.size : Int)) (hseg : (bs.take (at_ + 1 + s.size)).drop (at_ + 1) = bytesOf s) :
    Calls Try.prog 63 #[.pointer (some ⟨g, 0, none⟩)] w fun e w' => e = .returned (.tuple #[.string s, .int .i64 0]) ∧ RdAt base g bs (at_ + 1 + s.size) w' ∧ Kept w w' (fun k => k = g) ∧ ∀ (B : Nat) (w0 : World), B ≤ g → Below B w0 w → Below B w0 w' := by
  have hle := h.le
  have H := Aside0.mk h
  have HBY := Aside0.mk hb
  have HS := Aside0.mk hs
  have HL := Aside0.mk hl
  have HSEG := Aside0.mk hseg
  have HBT := Aside0.mk hby
  obtain ⟨v, h3, _⟩ := h.now
  have hc := blk_cell h3 1
  have c1 : ((s.size : Int) == 0) = false := beq_eq_false_iff_ne.mpr (by omega)
  have c2 : decide ((24 : Int) < (s.size : Int)) = false := decide_eq_false (by omega)
  have c3 : decide (24 < s.size) = false := decide_eq_false (by omega)
  have c4 : decide (s.size = 0) = false := decide_eq_false (by omega)
  clear h hb hs hby hl hseg h3 h1 h24
  go_enter Try.func63, Try.ntmps63
  go_wp2_with fail
  refine (ready_rd H.out).mono ?_
  rintro e w1 ⟨rfl, m, rfl⟩
  go_wp2_with fail
  have hB := Byte_good (H.out.drewN m) HBY.out (by have := HL.out; omega)
  rw [num_one bs at_ (by have := HL.out; omega), HBT.out] at hB
  refine hB.mono ?_
  clear hB
  rintro e w2 ⟨m2, m3, rfl, hw2⟩
  have H2 := (H.out.drewN m).self (at_ + 1) m2 m3 (by have := HL.out; omega)
  have K2 := ((Kept.refl w (fun k => k = g)).drewN m |>.drewN m2 |>.setCell (p := ⟨g, 1, none⟩) (.inl rfl) (.int .i64 ((at_ + 1 : Nat) : Int))).drewN m3
  have B2 : ∀ (B : Nat) (w0 : World), B ≤ g → Below B w0 w → Below B w0 w2 := fun B w0 hB hb => by
    rw [hw2]
    exact below_rd (pw_below_drewN hb m) hB m2 m3 _
  rw [← hw2] at H2 K2
  have HH2 := Aside0.mk H2
  have HK2 := Aside0.mk K2
  have HB2 := Aside0.mk B2
  clear H2 K2 B2 hw2 H hc
  go_wp2_with fail
  have hN := next_good HH2.out s.size HL.out
  rw [HSEG.out] at hN
  refine hN.mono ?_
  clear hN
  rintro e w3 ⟨A, c, m4, m5, rfl, hcap, hw3, hC⟩
  have H3 := HH2.out.self (at_ + 1 + s.size) m4 m5 HL.out
  have K3 := ((HK2.out.drewN m4).setCell (p := ⟨g, 1, none⟩) (.inl rfl) (.int .i64 ((at_ + 1 + s.size : Nat) : Int))).drewN m5
  have B3 : ∀ (B : Nat) (w0 : World), B ≤ g → Below B w0 w → Below B w0 w3 := fun B w0 hB hb => by
    rw [hw3]
    exact below_rd (HB2.out B w0 hB hb) hB m4 m5 _
  rw [← hw3] at H3 K3
  have HH3 := Aside0.mk H3
  have HK3 := Aside0.mk K3
  have HB3 := Aside0.mk B3
  have hconv := Kd.C_string (P := Try.prog) (c := c) (src := 23) (dst := 9) Try.underlying23 Try.underlying5 Try.underlying9 hC
  rw [str_of_bytes] at hconv
  have HC := Aside0.mk hC
  clear H3 K3 B3 hw3 hcap hC HH2 HK2 HB2
  go_wp2_with fail
  refine (wire_IsName.calls k s true _ HS.out).mono ?_
  rintro e w4 ⟨rfl, m6, rfl⟩
  have hconv2 := Kd.C_string (P := Try.prog) (c := c) (src := 23) (dst := 9) Try.underlying23 Try.underlying5 Try.underlying9 (Kd.C_drewN HC.out m6)
  rw [str_of_bytes] at hconv2
  clear hconv
  go_wp2
  go_ret2
  exact ⟨rfl, HH3.out.drewN m6, HK3.out.drewN m6, fun B w0 hB hb => pw_below_drewN (HB3.out B w0 hB hb) m6⟩









end Go.Proofs.Ytklbkonehcjmjaa.P

end

section
namespace Go.Proofs.Ytklbkonehcjmjaa.P
open Go.RowKit Go.Proofs.YtklbkonehcjmjaaW.PrintWords Go.Proofs.YtklbkonehcjmjaaW.PrintLast Go.Proofs.YtklbkonehcjmjaaW.PrintMore
attribute [local go_sem] max2_int min2_int max_two min_two max_three min_three max_four min_four   -- for this text's walks alone
set_option linter.unusedVariables false
set_option linter.unusedSimpArgs false

theorem pick_some (a : Int) (n : Nat) (hn : 0 < n) (h : n ≤ 9223372036854775807) : ∃ k : Nat, k < n ∧ provisolaw01_pick.f a (n : Int) = some (k : Int) := by
  have h1 : IntKind.u64.wrap (n : Int) = (n : Int) := IntWalk.u64_in _ (by omega)
  have h2 : 0 ≤ IntKind.u64.wrap a := by rw [IntKind.wrap_u64]; omega
  have h3 := Int.tmod_nonneg (n : Int) h2
  have h4 := Int.tmod_lt_of_pos (IntKind.u64.wrap a) (show (0 : Int) < (n : Int) by omega)
  refine ⟨(Int.tmod (IntKind.u64.wrap a) (n : Int)).toNat, by omega, ?_⟩
  unfold provisolaw01_pick.f
  rw [h1, if_neg (by omega)]
  congr 1
  generalize Int.tmod (IntKind.u64.wrap a) (n : Int) = q at h3 h4
  unfold wrap64
  omega
structure WtAt (base g : Nat) (ok : Nat → Prop) (bs : List Int) (W : World) : Prop where
  ge : base ≤ g
  le : bs.length ≤ 1048576
  now : ∃ v : Value, W.heap[g]? = some (.cells #[v, .bool true] 81 (0, 0)) ∧ Kd.R (Kd.int .u8) 5 W base ok v bs
theorem WtAt.drewN {base g : Nat} {ok : Nat → Prop} {bs : List Int} {W : World} (h : WtAt base g ok bs W) (m : Nat) : WtAt base g ok bs (W.drewN m) := by
  obtain ⟨h1, h2, v, h3, h4⟩ := h
  exact ⟨h1, h2, v, blk_drewN h3 m, Kd.R_drewN h4 m⟩
theorem WtAt.step {base g : Nat} {ok : Nat → Prop} {bs : List Int} {W W' : World} (h : WtAt base g ok bs W) (hb : Below W.heap.size W W') : WtAt base g ok bs W' := by
  obtain ⟨h1, h2, v, h3, h4⟩ := h
  exact ⟨h1, h2, v, blk_below h3 hb, Kd.R_below h4 hb⟩
theorem WtAt.mono {base g : Nat} {ok ok' : Nat → Prop} {bs : List Int} {W : World} (h : WtAt base g ok bs W) (hk : ∀ k, ok k → ok' k) : WtAt base g ok' bs W := by
  obtain ⟨h1, h2, v, h3, h4⟩ := h
  exact ⟨h1, h2, v, h3, Kd.R_mono h4 hk⟩
set_option maxHeartbeats 800000 in
set_option maxRecDepth 100000 in
theorem New_calls (w : World) : Calls Try.prog 25 #[] w fun e w' => ∃ g, e = .returned (.pointer (some ⟨g, 0, none⟩)) ∧ WtAt w.heap.size g (fun _ => True) [] w' ∧ Below w.heap.size w w' := by
  go_enter Try.func25, Try.ntmps25
  go_wp2
  have h1 := blk_new w (.cells #[.slice none 0 0, .bool true] 81)
  have h3 := below_alloc (Below.refl w.heap.size w) (.cells #[.slice none 0 0, .bool true] 81)
  go_ret
  exact ⟨w.heap.size, rfl, ⟨Nat.le_refl _, Nat.zero_le _, _, h1, Kd.R_nil _ _ _ _ _⟩, h3⟩
set_option maxHeartbeats 800000 in
set_option maxRecDepth 100000 in
theorem ready_wt {base g : Nat} {ok : Nat → Prop} {bs : List Int} {w : World} (h : WtAt base g ok bs w) : Calls Try.prog 53 #[.pointer (some ⟨g, 0, none⟩)] w fun e w' => e = .returned (.bool true) ∧ Drawn0 w w' := by
  obtain ⟨_, _, v, h3, _⟩ := h
  have hc := blk_cell h3 1
  clear h3
  go_enter Try.func53, Try.ntmps53
  go_wp2
  go_ret
  exact ⟨rfl, 0, rfl⟩
set_option maxHeartbeats 1600000 in
set_option maxRecDepth 100000 in
theorem Bytes_wt {base g : Nat} {ok : Nat → Prop} {bs : List Int} {w : World} (h : WtAt base g ok bs w) : Calls Try.prog 29 #[.pointer (some ⟨g, 0, none⟩)] w fun e w' => ∃ v : Value, e = .returned v ∧ Kd.R (Kd.int .u8) 5 w' w.heap.size (fun _ => True) v bs ∧ Below w.heap.size w w' := by
  have hle := h.le
  have H := Aside0.mk h
  clear h
  go_enter Try.func29, Try.ntmps29
  go_wp2_with fail
  refine (ready_wt H.out).mono ?_
  rintro e w1 ⟨rfl, m, hm⟩
  have H1 := H.out.drewN m
  have hb := pw_below_drewN (Below.refl w.heap.size w) m
  rw [← hm] at H1 hb
  clear hm
  obtain ⟨v, h3, h4⟩ := H1.now
  obtain ⟨A, c, rfl⟩ := Kd.R_slice h4
  have hc := blk_cell h3 0
  have HRW := Aside0.mk h4
  have HB := Aside0.mk hb
  have HBK := Aside0.mk h3
  clear h3 h4 H1 H hb
  go_wp2_with (first | ((with_reducible refine gate_dst (N := 12) rfl ?_); refine Kd.R_make (Kd.int .u8) (w0 := w) w.heap.size 5 rfl (N := 12) rfl 23 (.tmp 11) (.tmp 11) rfl (bs.length : Int) rfl rfl Try.underlying23 (.int .u8 0) 1 info5 rfl (by decide) (by decide) 0 (ok := fun _ => True) (okp := fun _ => True) rfl (fun _ h => h) trivial (by omega) ?hl HB.out HB.out.size ?_; (case hl => rw [Int.toNat_natCast]; omega); intro v1 w2 ho hb hg hat; rw [Int.toNat_natCast] at ho; have HB2 := Aside0.mk hb; obtain ⟨Av, cv, e1⟩ := Kd.R_slice ho; rw [List.length_replicate] at e1; subst e1; have hsrc := Kd.R_grown HRW.out hg (fun k _ h => by cases h); obtain ⟨w3, hrun, hR2, hg2⟩ := copy_own (P := Try.prog) (ty := 3) (cA := c) Try.underlying23 (by kernel_rfl) ho (Kd.R_reads' hsrc).2.2 (by simp); have HR2 := Aside0.mk hR2; have HG2 := Aside0.mk (Below.grown hb hg2 hb.size (fun k hk => (Kd.R_base_ ho k hk))); have hc2 := blk_cell (blk_grown HBK.out hg (by simp)) 0; clear ho hb hg hat hR2 hg2 hsrc))
  go_ret
  exact ⟨_, rfl, HR2.out, HG2.out⟩
theorem WtAt.kept {base g : Nat} {ok : Nat → Prop} {bs : List Int} {W W' : World} {S : Nat → Prop} (h : WtAt base g ok bs W) (hk : Kept W W' S) (h1 : ∀ k, ok k → ¬ S k) (h2 : ¬ S g) : WtAt base g ok bs W' := by
  obtain ⟨q1, q2, v, h3, h4⟩ := h
  exact ⟨q1, q2, v, blk_kept h3 hk h2, Kd.R_kept h4 hk h1⟩
set_option maxHeartbeats 1600000 in
set_option maxRecDepth 100000 in
theorem put_full {base g : Nat} {ok : Nat → Prop} {bs : List Int} {w : World} (h : WtAt base g ok bs w) (A : Option Addr) (m c : Nat) (hm : 1048576 < bs.length + m) : Calls Try.prog 55 #[.pointer (some ⟨g, 0, none⟩), .slice A m c] w fun e w' => e = .returned (.int .i64 7) ∧ Drawn0 w w' := by
  have hle := h.le
  obtain ⟨v, h3, h4⟩ := h.now
  obtain ⟨A1, c1, rfl⟩ := Kd.R_slice h4
  have hc := blk_cell h3 0
  clear h3 h4 h
  have hw1 : wrap64 ((1048576 : Int) - (bs.length : Int)) = (1048576 : Int) - (bs.length : Int) := by unfold wrap64; omega
  have c1b : decide ((1048576 : Int) - (bs.length : Int) < (m : Int)) = true := decide_eq_true (by omega)
  go_enter Try.func55, Try.ntmps55
  go_wp2
  go_ret
  exact ⟨rfl, 0, rfl⟩
set_option maxHeartbeats 1600000 in
set_option maxRecDepth 100000 in
theorem put_good {base g : Nat} {ok : Nat → Prop} {bs more : List Int} {w : World} (h : WtAt base g ok bs w) (A : Option Addr) (c : Nat) (hr : Kd.C (Kd.int .u8) w A more.length more) (hm : bs.length + more.length ≤ 1048576) : Calls Try.prog 55 #[.pointer (some ⟨g, 0, none⟩), .slice A more.length c] w fun e w' => e = .returned (.int .i64 0) ∧ WtAt base g (fun k => ok k ∨ w.heap.size ≤ k) (bs ++ more) w' ∧ Below base w w' ∧ Kept w w' (fun k => ok k ∨ k = g) := by
  have hle := h.le
  have hge := h.ge
  obtain ⟨v, h3, h4⟩ := h.now
  have hlt := blk_lt h3
  obtain ⟨A1, c1, rfl⟩ := Kd.R_slice h4
  have hc := blk_cell h3 0
  have hf := blk_frozen h3 0
  have HBK := Aside0.mk h3
  have HRW := Aside0.mk (Kd.R_mono h4 (fun k hk => (.inl hk : ok k ∨ w.heap.size ≤ k)))
  have HOK := Aside0.mk h4.1
  have HR := Aside0.mk hr
  clear h3 h4 h hr
  have hw1 : wrap64 ((1048576 : Int) - (bs.length : Int)) = (1048576 : Int) - (bs.length : Int) := by unfold wrap64; omega
  have c1b : decide ((1048576 : Int) - (bs.length : Int) < (more.length : Int)) = false := decide_eq_false (by omega)
  go_enter Try.func55, Try.ntmps55
  go_wp2_with (first | ((with_reducible refine gate_builtin (b := .append) (xs := #[.tmp 18, .tmp 19]) rfl ?_); at_builtin; refine Kd.R_append_rows (Kd.int .u8) (w0 := w) base rfl (.tmp 18) (.tmp 19) 23 5 (.int .u8 0) 1 rfl Try.underlying23 info5 rfl (by decide) (by omega) (.slice A1 bs.length c1) bs more A more.length c (fun k => ok k ∨ w.heap.size ≤ k) (fun _ => False) rfl rfl HRW.out HR.out (fun _ _ h => h) (fun _ h => h.elim) (fun k hk => .inr hk) (Below.refl _ _) (by omega) (by omega) ?_; intro v1 w1 ho hb hg hat; obtain ⟨Av, cv, e7⟩ := Kd.R_slice ho; subst e7; rw [List.length_append] at ho; have hI := blk_grown HBK.out hg (Kd.R_ne HRW.out HBK.out (by decide)); have hcI := blk_cell hI 0; have hfI := blk_frozen hI 0; have HI := Aside0.mk hI; have HO := Aside0.mk ho; have HB := Aside0.mk hb; have HG := Aside0.mk hg; clear hI ho hb hg hat))
  go_ret
  exact ⟨rfl, ⟨hge, by rw [List.length_append]; exact hm, _, blk_set HI.out 0 _, Kd.R_set HO.out HI.out (by decide) _ _⟩, HB.out.setCell hge _, (Kept.of_grown HG.out (Kept.refl w _) (fun k hk => .inl (.inl (HOK.out k hk)))).setCell (.inl (.inr rfl)) _⟩
set_option maxHeartbeats 1600000 in
set_option maxRecDepth 100000 in
theorem Put_full {base g : Nat} {ok : Nat → Prop} {bs : List Int} {w : World} (h : WtAt base g ok bs w) (A : Option Addr) (m c : Nat) (hm : 1048576 < bs.length + m) : Calls Try.prog 33 #[.pointer (some ⟨g, 0, none⟩), .slice A m c] w fun e w' => e = .returned (.int .i64 7) ∧ Drawn0 w w' := by
  have H := Aside0.mk h
  have HM := Aside0.mk hm
  clear h hm
  go_enter Try.func33, Try.ntmps33
  go_wp2_with fail
  refine (ready_wt H.out).mono ?_
  rintro e w1 ⟨rfl, k, rfl⟩
  go_wp2_with fail
  refine (put_full (H.out.drewN k) A m c HM.out).mono ?_
  rintro e w2 ⟨rfl, k2, rfl⟩
  go_wp2
  go_ret
  exact ⟨rfl, _, rfl⟩
set_option maxHeartbeats 1600000 in
set_option maxRecDepth 100000 in
theorem Put_good {base g : Nat} {ok : Nat → Prop} {bs more : List Int} {w : World} (h : WtAt base g ok bs w) (A : Option Addr) (c : Nat) (hr : Kd.C (Kd.int .u8) w A more.length more) (hm : bs.length + more.length ≤ 1048576) : Calls Try.prog 33 #[.pointer (some ⟨g, 0, none⟩), .slice A more.length c] w fun e w' => e = .returned (.int .i64 0) ∧ WtAt base g (fun k => ok k ∨ w.heap.size ≤ k) (bs ++ more) w' ∧ Below base w w' ∧ Kept w w' (fun k => ok k ∨ k = g) := by
  have H := Aside0.mk h
  have HR := Aside0.mk hr
  have HM := Aside0.mk hm
  clear h hr hm
  go_enter Try.func33, Try.ntmps33
  go_wp2_with fail
  refine (ready_wt H.out).mono ?_
  rintro e w1 ⟨rfl, k, rfl⟩
  go_wp2_with fail
  refine (put_good (H.out.drewN k) A c (Kd.C_drewN HR.out k) HM.out).mono ?_
  rintro e w2 ⟨rfl, h1, h2, h3⟩
  have H1 := Aside0.mk h1
  have H2 := Aside0.mk h2
  have H3 := Aside0.mk h3
  clear h1 h2 h3
  go_wp2
  go_ret
  exact ⟨rfl, H1.out, (pw_below_drewN (Below.refl _ _) k).trans H2.out, H3.out⟩
set_option maxHeartbeats 1600000 in
set_option maxRecDepth 100000 in
theorem wnumber_bad {base g : Nat} {ok : Nat → Prop} {bs : List Int} {w : World} (h : WtAt base g ok bs w) (n lo hi k : Int) (hn : n < lo ∨ n > hi) : Calls Try.prog 58 #[.pointer (some ⟨g, 0, none⟩), .int .i64 n, .int .i64 lo, .int .i64 hi, .int .i64 k] w fun e w' => e = .returned (.int .i64 5) ∧ Drawn0 w w' := by
  have H := Aside0.mk h
  clear h
  by_cases c1 : n < lo
  · have c1b : decide (n < lo) = true := decide_eq_true c1
    clear hn c1
    go_enter Try.func58, Try.ntmps58
    go_wp2_with fail
    refine (ready_wt H.out).mono ?_
    rintro e w1 ⟨rfl, m, rfl⟩
    go_wp2
    go_ret
    exact ⟨rfl, m, rfl⟩
  · have c1b : decide (n < lo) = false := decide_eq_false c1
    have c2b : decide (hi < n) = true := decide_eq_true (by omega)
    clear hn c1
    go_enter Try.func58, Try.ntmps58
    go_wp2_with fail
    refine (ready_wt H.out).mono ?_
    rintro e w1 ⟨rfl, m, rfl⟩
    go_wp2
    go_ret
    exact ⟨rfl, m, rfl⟩
def byt (n s : Int) : Int := n % 4294967296 / s % 256
theorem C_of_block {W : World} {gb : Nat} {cs : Array Value} {t : TypeId} {xs : List Int} (h : W.heap[gb]? = some (.cells cs t (0, 0))) (hl : xs.length ≤ 9223372036854775807) (hx : ∀ (j : Nat) (p : Int), xs[j]? = some p → cs[j]? = some (.int .u8 p)) : Kd.C (Kd.int .u8) W (some ⟨gb, 0, none⟩) xs.length xs :=
  ⟨rfl, hl, fun _ => ⟨⟨gb, 0, none⟩, rfl, fun j p hj => ⟨[.int .u8 p], rfl, rfl, fun i u hu => by
    cases i with
    | zero =>
      obtain rfl := Option.some.inj hu
      have h2 := (blk_cell h j).trans (hx j p hj)
      rcases Nat.eq_zero_or_pos j with rfl | hj0
      · simpa [Addr.add, show (Kd.int .u8).sz = 1 from rfl] using h2
      · have : ¬ j = 0 := by omega
        simpa [Addr.add, show (Kd.int .u8).sz = 1 from rfl, this] using h2
    | succ i => cases hu⟩⟩⟩
set_option maxHeartbeats 1600000 in
set_option maxRecDepth 100000 in
theorem wnumber_good1 {base g : Nat} {ok : Nat → Prop} {bs : List Int} {w : World} (h : WtAt base g ok bs w) (n lo hi : Int) (h1 : lo ≤ n) (h2 : n ≤ hi) : Calls Try.prog 58 #[.pointer (some ⟨g, 0, none⟩), .int .i64 n, .int .i64 lo, .int .i64 hi, .int .i64 1] w fun e w' => (bs.length + 1 ≤ 1048576 → e = .returned (.int .i64 0) ∧ WtAt base g (fun k => ok k ∨ w.heap.size ≤ k) (bs ++ [byt n 1]) w' ∧ Below base w w' ∧ Kept w w' (fun k => ok k ∨ k = g)) ∧ (1048576 < bs.length + 1 → e = .returned (.int .i64 7) ∧ Below w.heap.size w w') := by
  have H := Aside0.mk h
  have HBS : Aside0 (base ≤ w.heap.size) := ⟨by obtain ⟨v, h8, _⟩ := h.now; have := blk_lt h8; have := h.ge; omega⟩
  clear h
  have c1b : decide (n < lo) = false := decide_eq_false (by omega)
  have c2b : decide (hi < n) = false := decide_eq_false (by omega)
  clear h1 h2
  go_enter Try.func58, Try.ntmps58
  go_wp2_with fail
  refine (ready_wt H.out).mono ?_
  rintro e w1 ⟨rfl, m, hw1⟩
  have H1 := H.out.drewN m
  have hb1 := pw_below_drewN (Below.refl w.heap.size w) m
  rw [← hw1] at H1 hb1
  have h3 := blk_new w1 (.cells #[.int .u8 0, .int .u8 0, .int .u8 0, .int .u8 0] 106)
  have h4 := H1.step (below_alloc (Below.refl w1.heap.size w1) (.cells #[.int .u8 0, .int .u8 0, .int .u8 0, .int .u8 0] 106))
  have h5 := below_alloc hb1 (.cells #[.int .u8 0, .int .u8 0, .int .u8 0, .int .u8 0] 106)
  have HGB : Aside0 (w.heap.size ≤ w1.heap.size) := ⟨hb1.size⟩
  clear hw1 H1 hb1
  go_wp2
  generalize w1.alloc (.cells #[.int .u8 0, .int .u8 0, .int .u8 0, .int .u8 0] 106) = w2 at h3 h4 h5 ⊢
  have H3 := Aside0.mk h3
  have H4 := Aside0.mk h4
  have H5 := Aside0.mk h5
  clear h3 h4 h5 H
  generalize w1.heap.size = gb at H3 HGB ⊢
  go_loopw [27] (fun v27 wr => ((v27 = .int .i64 0 ∧ Aside0 (wr.heap[gb]? = some (.cells #[.int .u8 0, .int .u8 0, .int .u8 0, .int .u8 0] 106 (0, 0)))) ∨ (v27 = .int .i64 1 ∧ Aside0 (wr.heap[gb]? = some (.cells #[.int .u8 (byt n 1), .int .u8 0, .int .u8 0, .int .u8 0] 106 (0, 0))))) ∧ Aside0 (WtAt base g ok bs wr) ∧ Aside0 (Below w.heap.size w wr)) (fun v27 _ => (4 - intOf v27).toNat)
  case atStart => exact ⟨.inl ⟨rfl, H3⟩, H4, H5⟩
  case round =>
    obtain ⟨⟨rfl, H3⟩ | ⟨rfl, H3⟩, H4, H5⟩ := hrel
    · have hc := blk_cell H3.out 0
      have hf := blk_frozen H3.out 0
      have hne : g ≠ gb := by
        obtain ⟨v, h8, _⟩ := H4.out.now
        exact blk_ne h8 H3.out (by decide)
      have HNE := Aside0.mk hne
      clear hne
      go_wp2
      refine ⟨⟨.inr (⟨rfl, ⟨blk_put H3.out 0 _ (by first | (simp [byt]; done) | (simp [byt]; omega))⟩⟩), ⟨?_⟩, ⟨H5.out.setCell HGB.out _⟩⟩, by simp [intOf]⟩
      obtain ⟨q1, q2, v, h8, h9⟩ := H4.out
      exact ⟨q1, q2, v, blk_far h8 (by simpa using HNE.out) _, Kd.R_set h9 H3.out (by decide) _ _⟩
    · have hC : Kd.C (Kd.int .u8) wr (some ⟨gb, 0, none⟩) [byt n 1].length [byt n 1] := C_of_block H3.out (by simp) (fun j p hj => by
        have : j = 0 := by
          have := (List.getElem?_eq_some_iff.1 hj).1
          simp at this
          omega
        rcases this with rfl <;> simpa using hj)
      have HCC := Aside0.mk hC
      clear hC
      go_wp2_with fail
      by_cases d1 : bs.length + 1 ≤ 1048576
      · refine (put_good H4.out (some ⟨gb, 0, none⟩) 4 HCC.out d1).mono ?_
        rintro e w3 ⟨rfl, k1, k2, k3⟩
        have K1 := Aside0.mk (k1.mono (fun k hk => hk.imp id (Nat.le_trans H5.out.size)))
        have K2 := Aside0.mk (Below.trans (H5.out.mono HBS.out) k2)
        have K3 := Aside0.mk ((Kept.of_below H5.out (fun k => ok k ∨ k = g)).then_ k3 (fun k hk => .inl hk))
        clear k1 k2 k3
        go_wp2
        go_ret
        exact ⟨fun _ => ⟨rfl, K1.out, K2.out, K3.out⟩, fun h => by omega⟩
      · refine (put_full H4.out (some ⟨gb, 0, none⟩) 1 4 (by omega)).mono ?_
        rintro e w3 ⟨rfl, m3, rfl⟩
        go_wp2
        go_ret
        exact ⟨fun h => absurd h d1, fun _ => ⟨rfl, pw_below_drewN H5.out m3⟩⟩
set_option maxHeartbeats 1600000 in
set_option maxRecDepth 100000 in
theorem wnumber_good2 {base g : Nat} {ok : Nat → Prop} {bs : List Int} {w : World} (h : WtAt base g ok bs w) (n lo hi : Int) (h1 : lo ≤ n) (h2 : n ≤ hi) : Calls Try.prog 58 #[.pointer (some ⟨g, 0, none⟩), .int .i64 n, .int .i64 lo, .int .i64 hi, .int .i64 2] w fun e w' => (bs.length + 2 ≤ 1048576 → e = .returned (.int .i64 0) ∧ WtAt base g (fun k => ok k ∨ w.heap.size ≤ k) (bs ++ [byt n 256, byt n 1]) w' ∧ Below base w w' ∧ Kept w w' (fun k => ok k ∨ k = g)) ∧ (1048576 < bs.length + 2 → e = .returned (.int .i64 7) ∧ Below w.heap.size w w') := by
  have H := Aside0.mk h
  have HBS : Aside0 (base ≤ w.heap.size) := ⟨by obtain ⟨v, h8, _⟩ := h.now; have := blk_lt h8; have := h.ge; omega⟩
  clear h
  have c1b : decide (n < lo) = false := decide_eq_false (by omega)
  have c2b : decide (hi < n) = false := decide_eq_false (by omega)
  clear h1 h2
  go_enter Try.func58, Try.ntmps58
  go_wp2_with fail
  refine (ready_wt H.out).mono ?_
  rintro e w1 ⟨rfl, m, hw1⟩
  have H1 := H.out.drewN m
  have hb1 := pw_below_drewN (Below.refl w.heap.size w) m
  rw [← hw1] at H1 hb1
  have h3 := blk_new w1 (.cells #[.int .u8 0, .int .u8 0, .int .u8 0, .int .u8 0] 106)
  have h4 := H1.step (below_alloc (Below.refl w1.heap.size w1) (.cells #[.int .u8 0, .int .u8 0, .int .u8 0, .int .u8 0] 106))
  have h5 := below_alloc hb1 (.cells #[.int .u8 0, .int .u8 0, .int .u8 0, .int .u8 0] 106)
  have HGB : Aside0 (w.heap.size ≤ w1.heap.size) := ⟨hb1.size⟩
  clear hw1 H1 hb1
  go_wp2
  generalize w1.alloc (.cells #[.int .u8 0, .int .u8 0, .int .u8 0, .int .u8 0] 106) = w2 at h3 h4 h5 ⊢
  have H3 := Aside0.mk h3
  have H4 := Aside0.mk h4
  have H5 := Aside0.mk h5
  clear h3 h4 h5 H
  generalize w1.heap.size = gb at H3 HGB ⊢
  go_loopw [27] (fun v27 wr => ((v27 = .int .i64 0 ∧ Aside0 (wr.heap[gb]? = some (.cells #[.int .u8 0, .int .u8 0, .int .u8 0, .int .u8 0] 106 (0, 0)))) ∨ (v27 = .int .i64 1 ∧ Aside0 (wr.heap[gb]? = some (.cells #[.int .u8 (byt n 256), .int .u8 0, .int .u8 0, .int .u8 0] 106 (0, 0)))) ∨ (v27 = .int .i64 2 ∧ Aside0 (wr.heap[gb]? = some (.cells #[.int .u8 (byt n 256), .int .u8 (byt n 1), .int .u8 0, .int .u8 0] 106 (0, 0))))) ∧ Aside0 (WtAt base g ok bs wr) ∧ Aside0 (Below w.heap.size w wr)) (fun v27 _ => (4 - intOf v27).toNat)
  case atStart => exact ⟨.inl ⟨rfl, H3⟩, H4, H5⟩
  case round =>
    obtain ⟨⟨rfl, H3⟩ | ⟨rfl, H3⟩ | ⟨rfl, H3⟩, H4, H5⟩ := hrel
    · have hc := blk_cell H3.out 0
      have hf := blk_frozen H3.out 0
      have hne : g ≠ gb := by
        obtain ⟨v, h8, _⟩ := H4.out.now
        exact blk_ne h8 H3.out (by decide)
      have HNE := Aside0.mk hne
      clear hne
      go_wp2
      refine ⟨⟨.inr (.inl (⟨rfl, ⟨blk_put H3.out 0 _ (by first | (simp [byt]; done) | (simp [byt]; omega))⟩⟩)), ⟨?_⟩, ⟨H5.out.setCell HGB.out _⟩⟩, by simp [intOf]⟩
      obtain ⟨q1, q2, v, h8, h9⟩ := H4.out
      exact ⟨q1, q2, v, blk_far h8 (by simpa using HNE.out) _, Kd.R_set h9 H3.out (by decide) _ _⟩
    · have hc := blk_cell H3.out 1
      have hf := blk_frozen H3.out 1
      have hne : g ≠ gb := by
        obtain ⟨v, h8, _⟩ := H4.out.now
        exact blk_ne h8 H3.out (by decide)
      have HNE := Aside0.mk hne
      clear hne
      go_wp2
      refine ⟨⟨.inr (.inr (⟨rfl, ⟨blk_put H3.out 1 _ (by first | (simp [byt]; done) | (simp [byt]; omega))⟩⟩)), ⟨?_⟩, ⟨H5.out.setCell HGB.out _⟩⟩, by simp [intOf]⟩
      obtain ⟨q1, q2, v, h8, h9⟩ := H4.out
      exact ⟨q1, q2, v, blk_far h8 (by simpa using HNE.out) _, Kd.R_set h9 H3.out (by decide) _ _⟩
    · have hC : Kd.C (Kd.int .u8) wr (some ⟨gb, 0, none⟩) [byt n 256, byt n 1].length [byt n 256, byt n 1] := C_of_block H3.out (by simp) (fun j p hj => by
        have : j = 0 ∨ j = 1 := by
          have := (List.getElem?_eq_some_iff.1 hj).1
          simp at this
          omega
        rcases this with rfl | rfl <;> simpa using hj)
      have HCC := Aside0.mk hC
      clear hC
      go_wp2_with fail
      by_cases d1 : bs.length + 2 ≤ 1048576
      · refine (put_good H4.out (some ⟨gb, 0, none⟩) 4 HCC.out d1).mono ?_
        rintro e w3 ⟨rfl, k1, k2, k3⟩
        have K1 := Aside0.mk (k1.mono (fun k hk => hk.imp id (Nat.le_trans H5.out.size)))
        have K2 := Aside0.mk (Below.trans (H5.out.mono HBS.out) k2)
        have K3 := Aside0.mk ((Kept.of_below H5.out (fun k => ok k ∨ k = g)).then_ k3 (fun k hk => .inl hk))
        clear k1 k2 k3
        go_wp2
        go_ret
        exact ⟨fun _ => ⟨rfl, K1.out, K2.out, K3.out⟩, fun h => by omega⟩
      · refine (put_full H4.out (some ⟨gb, 0, none⟩) 2 4 (by omega)).mono ?_
        rintro e w3 ⟨rfl, m3, rfl⟩
        go_wp2
        go_ret
        exact ⟨fun h => absurd h d1, fun _ => ⟨rfl, pw_below_drewN H5.out m3⟩⟩
set_option maxHeartbeats 1600000 in
set_option maxRecDepth 100000 in
theorem wnumber_good4 {base g : Nat} {ok : Nat → Prop} {bs : List Int} {w : World} (h : WtAt base g ok bs w) (n lo hi : Int) (h1 : lo ≤ n) (h2 : n ≤ hi) : Calls Try.prog 58 #[.pointer (some ⟨g, 0, none⟩), .int .i64 n, .int .i64 lo, .int .i64 hi, .int .i64 4] w fun e w' => (bs.length + 4 ≤ 1048576 → e = .returned (.int .i64 0) ∧ WtAt base g (fun k => ok k ∨ w.heap.size ≤ k) (bs ++ [byt n 16777216, byt n 65536, byt n 256, byt n 1]) w' ∧ Below base w w' ∧ Kept w w' (fun k => ok k ∨ k = g)) ∧ (1048576 < bs.length + 4 → e = .returned (.int .i64 7) ∧ Below w.heap.size w w') := by
  have H := Aside0.mk h
  have HBS : Aside0 (base ≤ w.heap.size) := ⟨by obtain ⟨v, h8, _⟩ := h.now; have := blk_lt h8; have := h.ge; omega⟩
  clear h
  have c1b : decide (n < lo) = false := decide_eq_false (by omega)
  have c2b : decide (hi < n) = false := decide_eq_false (by omega)
  clear h1 h2
  go_enter Try.func58, Try.ntmps58
  go_wp2_with fail
  refine (ready_wt H.out).mono ?_
  rintro e w1 ⟨rfl, m, hw1⟩
  have H1 := H.out.drewN m
  have hb1 := pw_below_drewN (Below.refl w.heap.size w) m
  rw [← hw1] at H1 hb1
  have h3 := blk_new w1 (.cells #[.int .u8 0, .int .u8 0, .int .u8 0, .int .u8 0] 106)
  have h4 := H1.step (below_alloc (Below.refl w1.heap.size w1) (.cells #[.int .u8 0, .int .u8 0, .int .u8 0, .int .u8 0] 106))
  have h5 := below_alloc hb1 (.cells #[.int .u8 0, .int .u8 0, .int .u8 0, .int .u8 0] 106)
  have HGB : Aside0 (w.heap.size ≤ w1.heap.size) := ⟨hb1.size⟩
  clear hw1 H1 hb1
  go_wp2
  generalize w1.alloc (.cells #[.int .u8 0, .int .u8 0, .int .u8 0, .int .u8 0] 106) = w2 at h3 h4 h5 ⊢
  have H3 := Aside0.mk h3
  have H4 := Aside0.mk h4
  have H5 := Aside0.mk h5
  clear h3 h4 h5 H
  generalize w1.heap.size = gb at H3 HGB ⊢
  go_loopw [27] (fun v27 wr => ((v27 = .int .i64 0 ∧ Aside0 (wr.heap[gb]? = some (.cells #[.int .u8 0, .int .u8 0, .int .u8 0, .int .u8 0] 106 (0, 0)))) ∨ (v27 = .int .i64 1 ∧ Aside0 (wr.heap[gb]? = some (.cells #[.int .u8 (byt n 16777216), .int .u8 0, .int .u8 0, .int .u8 0] 106 (0, 0)))) ∨ (v27 = .int .i64 2 ∧ Aside0 (wr.heap[gb]? = some (.cells #[.int .u8 (byt n 16777216), .int .u8 (byt n 65536), .int .u8 0, .int .u8 0] 106 (0, 0)))) ∨ (v27 = .int .i64 3 ∧ Aside0 (wr.heap[gb]? = some (.cells #[.int .u8 (byt n 16777216), .int .u8 (byt n 65536), .int .u8 (byt n 256), .int .u8 0] 106 (0, 0)))) ∨ (v27 = .int .i64 4 ∧ Aside0 (wr.heap[gb]? = some (.cells #[.int .u8 (byt n 16777216), .int .u8 (byt n 65536), .int .u8 (byt n 256), .int .u8 (byt n 1)] 106 (0, 0))))) ∧ Aside0 (WtAt base g ok bs wr) ∧ Aside0 (Below w.heap.size w wr)) (fun v27 _ => (4 - intOf v27).toNat)
  case atStart => exact ⟨.inl ⟨rfl, H3⟩, H4, H5⟩
  case round =>
    obtain ⟨⟨rfl, H3⟩ | ⟨rfl, H3⟩ | ⟨rfl, H3⟩ | ⟨rfl, H3⟩ | ⟨rfl, H3⟩, H4, H5⟩ := hrel
    · have hc := blk_cell H3.out 0
      have hf := blk_frozen H3.out 0
      have hne : g ≠ gb := by
        obtain ⟨v, h8, _⟩ := H4.out.now
        exact blk_ne h8 H3.out (by decide)
      have HNE := Aside0.mk hne
      clear hne
      go_wp2
      refine ⟨⟨.inr (.inl (⟨rfl, ⟨blk_put H3.out 0 _ (by first | (simp [byt]; done) | (simp [byt]; omega))⟩⟩)), ⟨?_⟩, ⟨H5.out.setCell HGB.out _⟩⟩, by simp [intOf]⟩
      obtain ⟨q1, q2, v, h8, h9⟩ := H4.out
      exact ⟨q1, q2, v, blk_far h8 (by simpa using HNE.out) _, Kd.R_set h9 H3.out (by decide) _ _⟩
    · have hc := blk_cell H3.out 1
      have hf := blk_frozen H3.out 1
      have hne : g ≠ gb := by
        obtain ⟨v, h8, _⟩ := H4.out.now
        exact blk_ne h8 H3.out (by decide)
      have HNE := Aside0.mk hne
      clear hne
      go_wp2
      refine ⟨⟨.inr (.inr (.inl (⟨rfl, ⟨blk_put H3.out 1 _ (by first | (simp [byt]; done) | (simp [byt]; omega))⟩⟩))), ⟨?_⟩, ⟨H5.out.setCell HGB.out _⟩⟩, by simp [intOf]⟩
      obtain ⟨q1, q2, v, h8, h9⟩ := H4.out
      exact ⟨q1, q2, v, blk_far h8 (by simpa using HNE.out) _, Kd.R_set h9 H3.out (by decide) _ _⟩
    · have hc := blk_cell H3.out 2
      have hf := blk_frozen H3.out 2
      have hne : g ≠ gb := by
        obtain ⟨v, h8, _⟩ := H4.out.now
        exact blk_ne h8 H3.out (by decide)
      have HNE := Aside0.mk hne
      clear hne
      go_wp2
      refine ⟨⟨.inr (.inr (.inr (.inl (⟨rfl, ⟨blk_put H3.out 2 _ (by first | (simp [byt]; done) | (simp [byt]; omega))⟩⟩)))), ⟨?_⟩, ⟨H5.out.setCell HGB.out _⟩⟩, by simp [intOf]⟩
      obtain ⟨q1, q2, v, h8, h9⟩ := H4.out
      exact ⟨q1, q2, v, blk_far h8 (by simpa using HNE.out) _, Kd.R_set h9 H3.out (by decide) _ _⟩
    · have hc := blk_cell H3.out 3
      have hf := blk_frozen H3.out 3
      have hne : g ≠ gb := by
        obtain ⟨v, h8, _⟩ := H4.out.now
        exact blk_ne h8 H3.out (by decide)
      have HNE := Aside0.mk hne
      clear hne
      go_wp2
      refine ⟨⟨.inr (.inr (.inr (.inr (⟨rfl, ⟨blk_put H3.out 3 _ (by first | (simp [byt]; done) | (simp [byt]; omega))⟩⟩)))), ⟨?_⟩, ⟨H5.out.setCell HGB.out _⟩⟩, by simp [intOf]⟩
      obtain ⟨q1, q2, v, h8, h9⟩ := H4.out
      exact ⟨q1, q2, v, blk_far h8 (by simpa using HNE.out) _, Kd.R_set h9 H3.out (by decide) _ _⟩
    · have hC : Kd.C (Kd.int .u8) wr (some ⟨gb, 0, none⟩) [byt n 16777216, byt n 65536, byt n 256, byt n 1].length [byt n 16777216, byt n 65536, byt n 256, byt n 1] := C_of_block H3.out (by simp) (fun j p hj => by
        have : j = 0 ∨ j = 1 ∨ j = 2 ∨ j = 3 := by
          have := (List.getElem?_eq_some_iff.1 hj).1
          simp at this
          omega
        rcases this with rfl | rfl | rfl | rfl <;> simpa using hj)
      have HCC := Aside0.mk hC
      clear hC
      go_wp2_with fail
      by_cases d1 : bs.length + 4 ≤ 1048576
      · refine (put_good H4.out (some ⟨gb, 0, none⟩) 4 HCC.out d1).mono ?_
        rintro e w3 ⟨rfl, k1, k2, k3⟩
        have K1 := Aside0.mk (k1.mono (fun k hk => hk.imp id (Nat.le_trans H5.out.size)))
        have K2 := Aside0.mk (Below.trans (H5.out.mono HBS.out) k2)
        have K3 := Aside0.mk ((Kept.of_below H5.out (fun k => ok k ∨ k = g)).then_ k3 (fun k hk => .inl hk))
        clear k1 k2 k3
        go_wp2
        go_ret
        exact ⟨fun _ => ⟨rfl, K1.out, K2.out, K3.out⟩, fun h => by omega⟩
      · refine (put_full H4.out (some ⟨gb, 0, none⟩) 4 4 (by omega)).mono ?_
        rintro e w3 ⟨rfl, m3, rfl⟩
        go_wp2
        go_ret
        exact ⟨fun h => absurd h d1, fun _ => ⟨rfl, pw_below_drewN H5.out m3⟩⟩
set_option maxHeartbeats 1600000 in
set_option maxRecDepth 100000 in
theorem wByte_good {base g : Nat} {ok : Nat → Prop} {bs : List Int} {w : World} (h : WtAt base g ok bs w) (n : Int) (h1 : 0 ≤ n) (h2 : n ≤ 255) : Calls Try.prog 36 #[.pointer (some ⟨g, 0, none⟩), .int .i64 n] w fun e w' => (bs.length + 1 ≤ 1048576 → e = .returned (.int .i64 0) ∧ WtAt base g (fun k => ok k ∨ w.heap.size ≤ k) (bs ++ [byt n 1]) w' ∧ Below base w w' ∧ Kept w w' (fun k => ok k ∨ k = g)) ∧ (1048576 < bs.length + 1 → e = .returned (.int .i64 7) ∧ Below w.heap.size w w') := by
  have HN := Aside0.mk (wnumber_good1 h n 0 255 h1 h2)
  clear h h1 h2
  go_enter Try.func36, Try.ntmps36
  go_wp2_with fail
  refine HN.out.mono ?_
  rintro e w1 ⟨k1, k2⟩
  by_cases d1 : bs.length + 1 ≤ 1048576
  · obtain ⟨rfl, k3⟩ := k1 d1
    have K3 := Aside0.mk k3
    clear k1 k2 k3
    go_wp2
    go_ret
    exact ⟨fun _ => ⟨rfl, K3.out⟩, fun h => by omega⟩
  · obtain ⟨rfl, k3⟩ := k2 (by omega)
    have K3 := Aside0.mk k3
    clear k1 k2 k3
    go_wp2
    go_ret
    exact ⟨fun h => absurd h d1, fun _ => ⟨rfl, K3.out⟩⟩
set_option maxHeartbeats 1600000 in
set_option maxRecDepth 100000 in
theorem wByte_bad {base g : Nat} {ok : Nat → Prop} {bs : List Int} {w : World} (h : WtAt base g ok bs w) (n : Int) (h1 : n < 0 ∨ n > 255) : Calls Try.prog 36 #[.pointer (some ⟨g, 0, none⟩), .int .i64 n] w fun e w' => e = .returned (.int .i64 5) ∧ Drawn0 w w' := by
  have HN := Aside0.mk (wnumber_bad h n 0 255 1 h1)
  clear h h1
  go_enter Try.func36, Try.ntmps36
  go_wp2_with fail
  refine HN.out.mono ?_
  rintro e w1 ⟨rfl, m, rfl⟩
  go_wp2
  go_ret
  exact ⟨rfl, m, rfl⟩
set_option maxHeartbeats 1600000 in
set_option maxRecDepth 100000 in
theorem wWord_good {base g : Nat} {ok : Nat → Prop} {bs : List Int} {w : World} (h : WtAt base g ok bs w) (n : Int) (h1 : 0 ≤ n) (h2 : n ≤ 65535) : Calls Try.prog 39 #[.pointer (some ⟨g, 0, none⟩), .int .i64 n] w fun e w' => (bs.length + 2 ≤ 1048576 → e = .returned (.int .i64 0) ∧ WtAt base g (fun k => ok k ∨ w.heap.size ≤ k) (bs ++ [byt n 256, byt n 1]) w' ∧ Below base w w' ∧ Kept w w' (fun k => ok k ∨ k = g)) ∧ (1048576 < bs.length + 2 → e = .returned (.int .i64 7) ∧ Below w.heap.size w w') := by
  have HN := Aside0.mk (wnumber_good2 h n 0 65535 h1 h2)
  clear h h1 h2
  go_enter Try.func39, Try.ntmps39
  go_wp2_with fail
  refine HN.out.mono ?_
  rintro e w1 ⟨k1, k2⟩
  by_cases d1 : bs.length + 2 ≤ 1048576
  · obtain ⟨rfl, k3⟩ := k1 d1
    have K3 := Aside0.mk k3
    clear k1 k2 k3
    go_wp2
    go_ret
    exact ⟨fun _ => ⟨rfl, K3.out⟩, fun h => by omega⟩
  · obtain ⟨rfl, k3⟩ := k2 (by omega)
    have K3 := Aside0.mk k3
    clear k1 k2 k3
    go_wp2
    go_ret
    exact ⟨fun h => absurd h d1, fun _ => ⟨rfl, K3.out⟩⟩
set_option maxHeartbeats 1600000 in
set_option maxRecDepth 100000 in
theorem wWord_bad {base g : Nat} {ok : Nat → Prop} {bs : List Int} {w : World} (h : WtAt base g ok bs w) (n : Int) (h1 : n < 0 ∨ n > 65535) : Calls Try.prog 39 #[.pointer (some ⟨g, 0, none⟩), .int .i64 n] w fun e w' => e = .returned (.int .i64 5) ∧ Drawn0 w w' := by
  have HN := Aside0.mk (wnumber_bad h n 0 65535 2 h1)
  clear h h1
  go_enter Try.func39, Try.ntmps39
  go_wp2_with fail
  refine HN.out.mono ?_
  rintro e w1 ⟨rfl, m, rfl⟩
  go_wp2
  go_ret
  exact ⟨rfl, m, rfl⟩
set_option maxHeartbeats 1600000 in
set_option maxRecDepth 100000 in
theorem wLong_good {base g : Nat} {ok : Nat → Prop} {bs : List Int} {w : World} (h : WtAt base g ok bs w) (n : Int) (h1 : (-2147483648) ≤ n) (h2 : n ≤ 2147483647) : Calls Try.prog 40 #[.pointer (some ⟨g, 0, none⟩), .int .i64 n] w fun e w' => (bs.length + 4 ≤ 1048576 → e = .returned (.int .i64 0) ∧ WtAt base g (fun k => ok k ∨ w.heap.size ≤ k) (bs ++ [byt n 16777216, byt n 65536, byt n 256, byt n 1]) w' ∧ Below base w w' ∧ Kept w w' (fun k => ok k ∨ k = g)) ∧ (1048576 < bs.length + 4 → e = .returned (.int .i64 7) ∧ Below w.heap.size w w') := by
  have HN := Aside0.mk (wnumber_good4 h n (-2147483648) 2147483647 h1 h2)
  clear h h1 h2
  go_enter Try.func40, Try.ntmps40
  go_wp2_with fail
  refine HN.out.mono ?_
  rintro e w1 ⟨k1, k2⟩
  by_cases d1 : bs.length + 4 ≤ 1048576
  · obtain ⟨rfl, k3⟩ := k1 d1
    have K3 := Aside0.mk k3
    clear k1 k2 k3
    go_wp2
    go_ret
    exact ⟨fun _ => ⟨rfl, K3.out⟩, fun h => by omega⟩
  · obtain ⟨rfl, k3⟩ := k2 (by omega)
    have K3 := Aside0.mk k3
    clear k1 k2 k3
    go_wp2
    go_ret
    exact ⟨fun h => absurd h d1, fun _ => ⟨rfl, K3.out⟩⟩
set_option maxHeartbeats 1600000 in
set_option maxRecDepth 100000 in
theorem wLong_bad {base g : Nat} {ok : Nat → Prop} {bs : List Int} {w : World} (h : WtAt base g ok bs w) (n : Int) (h1 : n < (-2147483648) ∨ n > 2147483647) : Calls Try.prog 40 #[.pointer (some ⟨g, 0, none⟩), .int .i64 n] w fun e w' => e = .returned (.int .i64 5) ∧ Drawn0 w w' := by
  have HN := Aside0.mk (wnumber_bad h n (-2147483648) 2147483647 4 h1)
  clear h h1
  go_enter Try.func40, Try.ntmps40
  go_wp2_with fail
  refine HN.out.mono ?_
  rintro e w1 ⟨rfl, m, rfl⟩
  go_wp2
  go_ret
  exact ⟨rfl, m, rfl⟩
def nameBytes (s : ByteArray) : List Int := [(s.size : Int) % 256] ++ bytesOf s
theorem R_of_nums {w : World} {base : Nat} {v : Value} {xs : List Int} (h : w.ownsRow base 5 1 v xs.length (nums .u8 xs)) : Kd.R (Kd.int .u8) 5 w base (fun _ => True) v xs := ⟨fun _ _ => trivial, nums .u8 xs, h, Kd.reps_scalar (enc := Value.int .u8) xs⟩
theorem one_own (W : World) (x : Int) : (W.alloc (.cells #[.int .u8 x] 5)).ownsRow W.heap.size 5 1 (.slice (some ⟨W.heap.size, 0, none⟩) 1 1) [x].length (nums .u8 [x]) :=
  ⟨rfl, .inr ⟨W.heap.size, 1, _, rfl, Nat.le_refl _, blk_new _ _, Nat.le_refl _, by decide, rfl, rfl⟩⟩
set_option maxHeartbeats 1600000 in
set_option maxRecDepth 100000 in
theorem wName_bad {base g : Nat} {ok : Nat → Prop} {bs : List Int} {w : World} (h : WtAt base g ok bs w) (k : Nat) (s : ByteArray) (hs : wire_IsName.f k s = some false) : Calls Try.prog 41 #[.pointer (some ⟨g, 0, none⟩), .string s] w fun e w' => e = .returned (.int .i64 6) ∧ Drawn0 w w' := by
  have H := Aside0.mk h
  have HS := Aside0.mk hs
  clear h hs
  go_enter Try.func41, Try.ntmps41
  go_wp2_with fail
  refine (ready_wt H.out).mono ?_
  rintro e w1 ⟨rfl, m, rfl⟩
  go_wp2_with fail
  refine (wire_IsName.calls k s false _ HS.out).mono ?_
  rintro e w2 ⟨rfl, m2, rfl⟩
  go_wp2
  go_ret
  exact ⟨rfl, _, rfl⟩
set_option maxHeartbeats 1600000 in
set_option maxRecDepth 100000 in
theorem wName_good {base g : Nat} {ok : Nat → Prop} {bs : List Int} {w : World} (h : WtAt base g ok bs w) (k : Nat) (s : ByteArray) (hs : wire_IsName.f k s = some true) (hl : s.size ≤ 24) : Calls Try.prog 41 #[.pointer (some ⟨g, 0, none⟩), .string s] w fun e w' => (bs.length + (s.size + 1) ≤ 1048576 → e = .returned (.int .i64 0) ∧ WtAt base g (fun k => ok k ∨ w.heap.size ≤ k) (bs ++ nameBytes s) w' ∧ Below base w w' ∧ Kept w w' (fun k => ok k ∨ k = g)) ∧ (1048576 < bs.length + (s.size + 1) → e = .returned (.int .i64 7) ∧ Below w.heap.size w w') := by
  have H := Aside0.mk h
  have HS := Aside0.mk hs
  have HL := Aside0.mk hl
  have HBS : Aside0 (base ≤ w.heap.size) := ⟨by obtain ⟨v, h8, _⟩ := h.now; have := blk_lt h8; have := h.ge; omega⟩
  clear h hs hl
  go_enter Try.func41, Try.ntmps41
  go_wp2_with fail
  refine (ready_wt H.out).mono ?_
  rintro e w1 ⟨rfl, m, rfl⟩
  go_wp2_with fail
  refine (wire_IsName.calls k s true _ HS.out).mono ?_
  rintro e w2 ⟨rfl, m2, hm⟩
  have h1 := (H.out.drewN m).drewN m2
  have hb1 := pw_below_drewN (pw_below_drewN (Below.refl w.heap.size w) m) m2
  rw [← hm] at h1 hb1
  have H1 := Aside0.mk h1
  have HB1 := Aside0.mk hb1
  clear hm h1 hb1 H
  go_wp2_with (first | ((with_reducible refine gate_builtin (b := .append) (xs := #[.tmp 17, .tmp 18]) rfl ?_); at_builtin; refine print_append_str (w0 := w2) w2.heap.size rfl (.tmp 17) (.tmp 18) 23 9 5 rfl Try.underlying23 Try.underlying9 info5 (.slice (some ⟨w2.heap.size, 0, none⟩) 1 1) [(s.size : Int) % 256] s rfl rfl ?aO ?aB ?aS ?aL ?_; (case aO => exact one_own w2 _); (case aB => exact below_alloc (Below.refl _ _) _); (case aS => simp); (case aL => have := HL.out; simp; omega); intro v1 w3 hown hb hg; have hR : Kd.R (Kd.int .u8) 5 w3 w2.heap.size (fun _ => True) v1 (nameBytes s) := R_of_nums hown; obtain ⟨Av, cv, e7⟩ := Kd.R_slice hR; subst e7; have HR3 := Aside0.mk hR; have HB3 := Aside0.mk hb; clear hown hb hg hR))
  have hnl : (nameBytes s).length = s.size + 1 := by unfold nameBytes; rw [List.length_append, bytesOf_length]; simp; omega
  have H3 := H1.out.step HB3.out
  have HB4 := Aside0.mk (below_step HB1.out HB3.out)
  by_cases d1 : bs.length + (s.size + 1) ≤ 1048576
  · refine (put_good H3 Av cv (Kd.R_reads' HR3.out).2.2 (by rw [hnl]; exact d1)).mono ?_
    rintro e w4 ⟨rfl, k1, k2, k3⟩
    have K1 := Aside0.mk (k1.mono (fun k hk => hk.imp id (Nat.le_trans HB4.out.size)))
    have K2 := Aside0.mk (Below.trans (HB4.out.mono HBS.out) k2)
    have K3 := Aside0.mk ((Kept.of_below HB4.out (fun k => ok k ∨ k = g)).then_ k3 (fun k hk => .inl hk))
    clear k1 k2 k3 hnl
    go_wp2
    go_ret
    exact ⟨fun _ => ⟨rfl, K1.out, K2.out, K3.out⟩, fun h => by omega⟩
  · refine (put_full H3 Av (nameBytes s).length cv (by omega)).mono ?_
    rintro e w4 ⟨rfl, m3, rfl⟩
    clear hnl
    go_wp2
    go_ret
    exact ⟨fun h => absurd h d1, fun _ => ⟨rfl, pw_below_drewN HB4.out m3⟩⟩











end Go.Proofs.Ytklbkonehcjmjaa.P

end

section
namespace Go.Proofs.Ytklbkonehcjmjaa.P
open Go.RowKit Go.Proofs.YtklbkonehcjmjaaW.PrintWords Go.Proofs.YtklbkonehcjmjaaW.PrintLast Go.Proofs.YtklbkonehcjmjaaW.PrintMore
attribute [local go_sem] max2_int min2_int max_two min_two max_three min_three max_four min_four   -- for this text's walks alone
set_option linter.unusedVariables false
set_option linter.unusedSimpArgs false

set_option maxHeartbeats 1600000 in
set_option maxRecDepth 100000 in
theorem again_Byte {base g : Nat} {bs : List Int} {at_ : Nat} {w : World} (h : RdAt base g bs at_ w) (hb : ∀ x ∈ bs, 0 ≤ x ∧ x ≤ 255) (n : Int) (s : ByteArray) (u : Value) (hu : ∃ A l c, u = .slice A l c) (hn : at_ + 1 ≤ bs.length) (hv : numOf ((bs.take (at_ + 1)).drop at_) = n) : Calls Try.prog 42 #[.pointer (some ⟨g, 0, none⟩), .agg #[.int .i64 0, .int .i64 n, .string s, u]] w fun e w' => e = .returned (.bool true) ∧ RdAt base g bs (at_ + 1) w' ∧ Kept w w' (fun k => k = g) ∧ ∀ (B : Nat) (w0 : World), B ≤ w.heap.size → B ≤ g → Below B w0 w → Below B w0 w' := by
  obtain ⟨Au, lu, cu, rfl⟩ := hu
  have h1 := h.step (below_alloc (Below.refl w.heap.size w) (.cells #[.int .i64 0, .int .i64 n, .string s, .slice Au lu cu] 73))
  have h2 := blk_new w (.cells #[.int .i64 0, .int .i64 n, .string s, .slice Au lu cu] 73)
  have h3 := (Kept.refl w (fun k => k = g)).alloc (.cells #[.int .i64 0, .int .i64 n, .string s, .slice Au lu cu] 73)
  have h4 : ∀ (B : Nat) (w0 : World), B ≤ w.heap.size → B ≤ g → Below B w0 w → Below B w0 (w.alloc (.cells #[.int .i64 0, .int .i64 n, .string s, .slice Au lu cu] 73)) := fun B w0 h1 _ hb => hb.alloc h1 _
  have HNE : Aside0 (g ≠ w.heap.size) := ⟨by obtain ⟨cs, hc⟩ := h.frozen; have := blk_lt hc; omega⟩
  have HBY := Aside0.mk hb
  have HV := Aside0.mk hv
  have HN := Aside0.mk hn
  have H1 := Aside0.mk h1
  have H2 := Aside0.mk h2
  have H3 := Aside0.mk h3
  have H4 := Aside0.mk h4
  clear h hb hv hn h1 h2 h3 h4
  go_enter Try.func42, Try.ntmps42
  go_wp2_with fail
  generalize w.alloc (.cells #[.int .i64 0, .int .i64 n, .string s, .slice Au lu cu] 73) = w1 at H1 H2 H3 H4 ⊢
  have hB := Byte_good H1.out HBY.out HN.out
  rw [HV.out] at hB
  refine hB.mono ?_
  clear hB
  rintro e w2 ⟨m, m2, rfl, hw2⟩
  have k1 := H1.out.self (at_ + 1) m m2 HN.out
  have k2 := ((H3.out.drewN m).setCell (p := ⟨g, 1, none⟩) (.inl rfl) (.int .i64 ((at_ + 1 : Nat) : Int))).drewN m2
  have k3 := blk_drewN (blk_far (blk_drewN H2.out m) (p := ⟨g, 1, none⟩) (by simpa using Ne.symm HNE.out) (.int .i64 ((at_ + 1 : Nat) : Int))) m2
  have k4 : ∀ (B : Nat) (w0 : World), B ≤ w.heap.size → B ≤ g → Below B w0 w → Below B w0 w2 := fun B w0 h1 h2 hb => by
    rw [hw2]
    exact below_rd (H4.out B w0 h1 h2 hb) h2 m m2 _
  rw [← hw2] at k1 k2 k3
  have hc := blk_cell k3 1
  have K1 := Aside0.mk k1
  have K2 := Aside0.mk k2
  have K4 := Aside0.mk k4
  clear k1 k2 k3 k4 hw2 H1 H2 H3 H4
  generalize w.heap.size = gb at hc ⊢
  go_wp2
  go_ret
  exact ⟨rfl, K1.out, K2.out, K4.out⟩
set_option maxHeartbeats 1600000 in
set_option maxRecDepth 100000 in
theorem again_Word {base g : Nat} {bs : List Int} {at_ : Nat} {w : World} (h : RdAt base g bs at_ w) (hb : ∀ x ∈ bs, 0 ≤ x ∧ x ≤ 255) (n : Int) (s : ByteArray) (u : Value) (hu : ∃ A l c, u = .slice A l c) (hn : at_ + 2 ≤ bs.length) (hv : numOf ((bs.take (at_ + 2)).drop at_) = n) : Calls Try.prog 42 #[.pointer (some ⟨g, 0, none⟩), .agg #[.int .i64 1, .int .i64 n, .string s, u]] w fun e w' => e = .returned (.bool true) ∧ RdAt base g bs (at_ + 2) w' ∧ Kept w w' (fun k => k = g) ∧ ∀ (B : Nat) (w0 : World), B ≤ w.heap.size → B ≤ g → Below B w0 w → Below B w0 w' := by
  obtain ⟨Au, lu, cu, rfl⟩ := hu
  have h1 := h.step (below_alloc (Below.refl w.heap.size w) (.cells #[.int .i64 1, .int .i64 n, .string s, .slice Au lu cu] 73))
  have h2 := blk_new w (.cells #[.int .i64 1, .int .i64 n, .string s, .slice Au lu cu] 73)
  have h3 := (Kept.refl w (fun k => k = g)).alloc (.cells #[.int .i64 1, .int .i64 n, .string s, .slice Au lu cu] 73)
  have h4 : ∀ (B : Nat) (w0 : World), B ≤ w.heap.size → B ≤ g → Below B w0 w → Below B w0 (w.alloc (.cells #[.int .i64 1, .int .i64 n, .string s, .slice Au lu cu] 73)) := fun B w0 h1 _ hb => hb.alloc h1 _
  have HNE : Aside0 (g ≠ w.heap.size) := ⟨by obtain ⟨cs, hc⟩ := h.frozen; have := blk_lt hc; omega⟩
  have HBY := Aside0.mk hb
  have HV := Aside0.mk hv
  have HN := Aside0.mk hn
  have H1 := Aside0.mk h1
  have H2 := Aside0.mk h2
  have H3 := Aside0.mk h3
  have H4 := Aside0.mk h4
  clear h hb hv hn h1 h2 h3 h4
  go_enter Try.func42, Try.ntmps42
  go_wp2_with fail
  generalize w.alloc (.cells #[.int .i64 1, .int .i64 n, .string s, .slice Au lu cu] 73) = w1 at H1 H2 H3 H4 ⊢
  have hB := Word_good H1.out HBY.out HN.out
  rw [HV.out] at hB
  refine hB.mono ?_
  clear hB
  rintro e w2 ⟨m, m2, rfl, hw2⟩
  have k1 := H1.out.self (at_ + 2) m m2 HN.out
  have k2 := ((H3.out.drewN m).setCell (p := ⟨g, 1, none⟩) (.inl rfl) (.int .i64 ((at_ + 2 : Nat) : Int))).drewN m2
  have k3 := blk_drewN (blk_far (blk_drewN H2.out m) (p := ⟨g, 1, none⟩) (by simpa using Ne.symm HNE.out) (.int .i64 ((at_ + 2 : Nat) : Int))) m2
  have k4 : ∀ (B : Nat) (w0 : World), B ≤ w.heap.size → B ≤ g → Below B w0 w → Below B w0 w2 := fun B w0 h1 h2 hb => by
    rw [hw2]
    exact below_rd (H4.out B w0 h1 h2 hb) h2 m m2 _
  rw [← hw2] at k1 k2 k3
  have hc := blk_cell k3 1
  have K1 := Aside0.mk k1
  have K2 := Aside0.mk k2
  have K4 := Aside0.mk k4
  clear k1 k2 k3 k4 hw2 H1 H2 H3 H4
  generalize w.heap.size = gb at hc ⊢
  go_wp2
  go_ret
  exact ⟨rfl, K1.out, K2.out, K4.out⟩
set_option maxHeartbeats 1600000 in
set_option maxRecDepth 100000 in
theorem again_Long {base g : Nat} {bs : List Int} {at_ : Nat} {w : World} (h : RdAt base g bs at_ w) (hb : ∀ x ∈ bs, 0 ≤ x ∧ x ≤ 255) (n : Int) (s : ByteArray) (u : Value) (hu : ∃ A l c, u = .slice A l c) (hn : at_ + 4 ≤ bs.length) (hv : signOf (numOf ((bs.take (at_ + 4)).drop at_)) = n) : Calls Try.prog 42 #[.pointer (some ⟨g, 0, none⟩), .agg #[.int .i64 2, .int .i64 n, .string s, u]] w fun e w' => e = .returned (.bool true) ∧ RdAt base g bs (at_ + 4) w' ∧ Kept w w' (fun k => k = g) ∧ ∀ (B : Nat) (w0 : World), B ≤ w.heap.size → B ≤ g → Below B w0 w → Below B w0 w' := by
  obtain ⟨Au, lu, cu, rfl⟩ := hu
  have h1 := h.step (below_alloc (Below.refl w.heap.size w) (.cells #[.int .i64 2, .int .i64 n, .string s, .slice Au lu cu] 73))
  have h2 := blk_new w (.cells #[.int .i64 2, .int .i64 n, .string s, .slice Au lu cu] 73)
  have h3 := (Kept.refl w (fun k => k = g)).alloc (.cells #[.int .i64 2, .int .i64 n, .string s, .slice Au lu cu] 73)
  have h4 : ∀ (B : Nat) (w0 : World), B ≤ w.heap.size → B ≤ g → Below B w0 w → Below B w0 (w.alloc (.cells #[.int .i64 2, .int .i64 n, .string s, .slice Au lu cu] 73)) := fun B w0 h1 _ hb => hb.alloc h1 _
  have HNE : Aside0 (g ≠ w.heap.size) := ⟨by obtain ⟨cs, hc⟩ := h.frozen; have := blk_lt hc; omega⟩
  have HBY := Aside0.mk hb
  have HV := Aside0.mk hv
  have HN := Aside0.mk hn
  have H1 := Aside0.mk h1
  have H2 := Aside0.mk h2
  have H3 := Aside0.mk h3
  have H4 := Aside0.mk h4
  clear h hb hv hn h1 h2 h3 h4
  go_enter Try.func42, Try.ntmps42
  go_wp2_with fail
  generalize w.alloc (.cells #[.int .i64 2, .int .i64 n, .string s, .slice Au lu cu] 73) = w1 at H1 H2 H3 H4 ⊢
  have hB := Long_good H1.out HBY.out HN.out
  rw [HV.out] at hB
  refine hB.mono ?_
  clear hB
  rintro e w2 ⟨m, m2, rfl, hw2⟩
  have k1 := H1.out.self (at_ + 4) m m2 HN.out
  have k2 := ((H3.out.drewN m).setCell (p := ⟨g, 1, none⟩) (.inl rfl) (.int .i64 ((at_ + 4 : Nat) : Int))).drewN m2
  have k3 := blk_drewN (blk_far (blk_drewN H2.out m) (p := ⟨g, 1, none⟩) (by simpa using Ne.symm HNE.out) (.int .i64 ((at_ + 4 : Nat) : Int))) m2
  have k4 : ∀ (B : Nat) (w0 : World), B ≤ w.heap.size → B ≤ g → Below B w0 w → Below B w0 w2 := fun B w0 h1 h2 hb => by
    rw [hw2]
    exact below_rd (H4.out B w0 h1 h2 hb) h2 m m2 _
  rw [← hw2] at k1 k2 k3
  have hc := blk_cell k3 1
  have K1 := Aside0.mk k1
  have K2 := Aside0.mk k2
  have K4 := Aside0.mk k4
  clear k1 k2 k3 k4 hw2 H1 H2 H3 H4
  generalize w.heap.size = gb at hc ⊢
  go_wp2
  go_ret
  exact ⟨rfl, K1.out, K2.out, K4.out⟩
set_option maxHeartbeats 1600000 in
set_option maxRecDepth 100000 in
theorem again_Name {base g : Nat} {bs : List Int} {at_ : Nat} {w : World} (h : RdAt base g bs at_ w) (hb : ∀ x ∈ bs, 0 ≤ x ∧ x ≤ 255) (n : Int) (s : ByteArray) (u : Value) (hu : ∃ A l c, u = .slice A l c) (k : Nat) (hs : wire_IsName.f k s = some true) (h1' : 1 ≤ s.size) (h24 : s.size ≤ 24) (hl : at_ + 1 + s.size ≤ bs.length) (hby : rd bs (at_ : Int) = (s.size : Int)) (hseg : (bs.take (at_ + 1 + s.size)).drop (at_ + 1) = bytesOf s) : Calls Try.prog 42 #[.pointer (some ⟨g, 0, none⟩), .agg #[.int .i64 4, .int .i64 n, .string s, u]] w fun e w' => e = .returned (.bool true) ∧ RdAt base g bs (at_ + 1 + s.size) w' ∧ Kept w w' (fun k => k = g) ∧ ∀ (B : Nat) (w0 : World), B ≤ w.heap.size → B ≤ g → Below B w0 w → Below B w0 w' := by
  obtain ⟨Au, lu, cu, rfl⟩ := hu
  have h1 := h.step (below_alloc (Below.refl w.heap.size w) (.cells #[.int .i64 4, .int .i64 n, .string s, .slice Au lu cu] 73))
  have h2 := blk_new w (.cells #[.int .i64 4, .int .i64 n, .string s, .slice Au lu cu] 73)
  have h3 := (Kept.refl w (fun k => k = g)).alloc (.cells #[.int .i64 4, .int .i64 n, .string s, .slice Au lu cu] 73)
  have h4 : ∀ (B : Nat) (w0 : World), B ≤ w.heap.size → B ≤ g → Below B w0 w → Below B w0 (w.alloc (.cells #[.int .i64 4, .int .i64 n, .string s, .slice Au lu cu] 73)) := fun B w0 h1 _ hb => hb.alloc h1 _
  have HNE : Aside0 (g ≠ w.heap.size) := ⟨by obtain ⟨cs, hc⟩ := h.frozen; have := blk_lt hc; omega⟩
  have hN := Name_good h1 hb k s hs h1' h24 hl hby hseg
  have HN := Aside0.mk hN
  have H2 := Aside0.mk h2
  have H3 := Aside0.mk h3
  have H4 := Aside0.mk h4
  clear h hb hs h1' h24 hl hby hseg h1 h2 h3 h4 hN
  go_enter Try.func42, Try.ntmps42
  go_wp2_with fail
  generalize w.alloc (.cells #[.int .i64 4, .int .i64 n, .string s, .slice Au lu cu] 73) = w1 at HN H2 H3 H4 ⊢
  refine HN.out.mono ?_
  rintro e w2 ⟨rfl, k1, k2, k3⟩
  have hc := blk_cell (blk_kept H2.out k2 (fun h => HNE.out h.symm)) 2
  have K1 := Aside0.mk k1
  have K2 := Aside0.mk (H3.out.then_ k2 (fun k hk => .inl hk))
  have K4 : Aside0 (∀ (B : Nat) (w0 : World), B ≤ w.heap.size → B ≤ g → Below B w0 w → Below B w0 w2) := ⟨fun B w0 h1 h2 hb => k3 B w0 h2 (H4.out B w0 h1 h2 hb)⟩
  clear k1 k2 k3 HN H2 H3 H4
  generalize w.heap.size = gb at hc ⊢
  go_wp2
  go_ret
  exact ⟨rfl, K1.out, K2.out, K4.out⟩
set_option maxHeartbeats 1600000 in
set_option maxRecDepth 100000 in
theorem again_Take {base g : Nat} {bs : List Int} {at_ : Nat} {w : World} (h : RdAt base g bs at_ w) (hlim : bs.length ≤ 281474976710656) (n : Int) (s : ByteArray) (Au : Option Addr) (cu : Nat) (ys : List Int) (hy : ∀ W', Kept w W' (fun k => k = g) → Kd.C (Kd.int .u8) W' Au ys.length ys) (hyc : ys.length ≤ cu) (k : Nat) (heq : slices_Equal_byte_byte.f k ys ys = some true) (hl : at_ + ys.length ≤ bs.length) (hseg : (bs.take (at_ + ys.length)).drop at_ = ys) : Calls Try.prog 42 #[.pointer (some ⟨g, 0, none⟩), .agg #[.int .i64 3, .int .i64 n, .string s, .slice Au ys.length cu]] w fun e w' => e = .returned (.bool true) ∧ RdAt base g bs (at_ + ys.length) w' ∧ Kept w w' (fun k => k = g) ∧ ∀ (B : Nat) (w0 : World), B ≤ w.heap.size → B ≤ g → Below B w0 w → Below B w0 w' := by
  have h1 := h.step (below_alloc (Below.refl w.heap.size w) (.cells #[.int .i64 3, .int .i64 n, .string s, .slice Au ys.length cu] 73))
  have h2 := blk_new w (.cells #[.int .i64 3, .int .i64 n, .string s, .slice Au ys.length cu] 73)
  have h3 := (Kept.refl w (fun k => k = g)).alloc (.cells #[.int .i64 3, .int .i64 n, .string s, .slice Au ys.length cu] 73)
  have h4 : ∀ (B : Nat) (w0 : World), B ≤ w.heap.size → B ≤ g → Below B w0 w → Below B w0 (w.alloc (.cells #[.int .i64 3, .int .i64 n, .string s, .slice Au ys.length cu] 73)) := fun B w0 h1 _ hb => hb.alloc h1 _
  have HNE : Aside0 (g ≠ w.heap.size) := ⟨by obtain ⟨cs, hc⟩ := h.frozen; have := blk_lt hc; omega⟩
  have hT := Take_good h1 ys.length hl hlim
  rw [hseg] at hT
  have HT := Aside0.mk hT
  have HL := Aside0.mk hl
  have HY := Aside0.mk hy
  have HYC := Aside0.mk hyc
  have HEQ := Aside0.mk heq
  have H1 := Aside0.mk h1
  have H2 := Aside0.mk h2
  have H3 := Aside0.mk h3
  have H4 := Aside0.mk h4
  have hc := blk_cell h2 3
  clear h hlim hy hyc heq hl hseg h1 h2 h3 h4 hT
  go_enter Try.func42, Try.ntmps42
  go_wp2_with fail
  generalize w.alloc (.cells #[.int .i64 3, .int .i64 n, .string s, .slice Au ys.length cu] 73) = w1 at HT H1 H2 H3 H4 hc ⊢
  refine HT.out.mono ?_
  rintro e w3 ⟨v, m, m2, w2, rfl, hw2, hR, hb3⟩
  have k1 := H1.out.self (at_ + ys.length) m m2 HL.out
  have k2 := ((H3.out.drewN m).setCell (p := ⟨g, 1, none⟩) (.inl rfl) (.int .i64 ((at_ + ys.length : Nat) : Int))).drewN m2
  have k3 := blk_drewN (blk_far (blk_drewN H2.out m) (p := ⟨g, 1, none⟩) (by simpa using Ne.symm HNE.out) (.int .i64 ((at_ + ys.length : Nat) : Int))) m2
  have k4 : ∀ (B : Nat) (w0 : World), B ≤ w.heap.size → B ≤ g → Below B w0 w → Below B w0 w2 := fun B w0 h1 h2 hb => by
    rw [hw2]
    exact below_rd (H4.out B w0 h1 h2 hb) h2 m m2 _
  rw [← hw2] at k1 k2 k3
  obtain ⟨Av, cv, rfl⟩ := Kd.R_slice hR
  have HR := Aside0.mk (Kd.R_reads' hR)
  have K1 := Aside0.mk (k1.step hb3)
  have K2 := Aside0.mk (k2.below hb3)
  have hc3 := blk_cell (blk_below k3 hb3) 3
  have K4 : Aside0 (∀ (B : Nat) (w0 : World), B ≤ w.heap.size → B ≤ g → Below B w0 w → Below B w0 w3) := ⟨fun B w0 h1 h2 hb => (k4 B w0 h1 h2 hb).trans (hb3.mono (Nat.le_trans h1 k2.1))⟩
  clear k1 k2 k3 k4 hw2 HT H1 H2 H3 H4 hc hR hb3
  generalize w.heap.size = gb at hc3 ⊢
  go_wp2_with fail
  refine (slices_Equal_byte_byte.calls k Av cv ys Au cu ys true _ HR.out.2.2 HR.out.2.1 (HY.out _ K2.out) HYC.out HEQ.out).mono ?_
  rintro e w4 ⟨rfl, m3, rfl⟩
  go_wp2
  go_ret
  exact ⟨rfl, K1.out.drewN m3, K2.out.drewN m3, fun B w0 h1 h2 hb => pw_below_drewN (K4.out B w0 h1 h2 hb) m3⟩

end Go.Proofs.Ytklbkonehcjmjaa.P

end

section
namespace Go.Proofs.Ytklbkonehcjmjaa.P
open Go.RowKit Go.Proofs.YtklbkonehcjmjaaW.PrintWords Go.Proofs.YtklbkonehcjmjaaW.PrintLast Go.Proofs.YtklbkonehcjmjaaW.PrintMore
attribute [local go_sem] max2_int min2_int max_two min_two max_three min_three max_four min_four   -- for this text's walks alone
set_option linter.unusedVariables false
set_option linter.unusedSimpArgs false

theorem num_byt1 (n : Int) (h0 : 0 ≤ n) (h1 : n ≤ 255) : numOf [byt n 1] = n := by
  simp only [numOf, byt, List.foldl]
  omega
theorem num_byt2 (n : Int) (h0 : 0 ≤ n) (h1 : n ≤ 65535) : numOf [byt n 256, byt n 1] = n := by
  simp only [numOf, byt, List.foldl]
  omega
theorem num_byt4 (n : Int) (h0 : -2147483648 ≤ n) (h1 : n ≤ 2147483647) : signOf (numOf [byt n 16777216, byt n 65536, byt n 256, byt n 1]) = n := by
  have e : numOf [byt n 16777216, byt n 65536, byt n 256, byt n 1] = n % 4294967296 := by
    simp only [numOf, byt, List.foldl]
    omega
  rw [e]
  unfold signOf
  by_cases c : n % 4294967296 < 2147483648
  · rw [if_pos c]
    omega
  · rw [if_neg c]
    omega
theorem byt_range (n s : Int) : 0 ≤ byt n s ∧ byt n s ≤ 255 := by
  unfold byt
  omega
theorem bytesOf_range (s : ByteArray) : ∀ x ∈ bytesOf s, 0 ≤ x ∧ x ≤ 255 := by
  intro x hx
  unfold bytesOf at hx
  obtain ⟨b, _, rfl⟩ := List.mem_map.1 hx
  have := b.toNat_lt
  omega
theorem seg_mid (pre xs post : List Int) : ((pre ++ (xs ++ post)).take (pre.length + xs.length)).drop pre.length = xs := by
  rw [List.take_append, List.take_of_length_le (by omega), show pre.length + xs.length - pre.length = xs.length by omega, List.take_append, List.take_of_length_le (by omega), Nat.sub_self, List.take_zero, List.append_nil, List.drop_append, List.drop_of_length_le (Nat.le_refl _), Nat.sub_self, List.drop_zero]
  rfl
def sgn (i c : Int) : Bool :=
  (decide (97 ≤ c) && decide (c ≤ 122)) || (decide (65 ≤ c) && decide (c ≤ 90)) || (decide (0 < i) && ((decide (48 ≤ c) && decide (c ≤ 57)) || decide (c = 95)))
def tailName (s : ByteArray) : Nat → Bool
  | 0 => true
  | d + 1 => sgn ((s.size : Int) - (d + 1)) (bt s ((s.size : Int) - (d + 1))) && tailName s d
def isNameB (s : ByteArray) : Bool := decide (1 ≤ s.size) && decide (s.size ≤ 24) && tailName s s.size
theorem name_tells (s : ByteArray) (hn : s.size ≤ 140737488351232) (d : Nat) : ∀ (k : Nat) (i : Int), 0 ≤ i → i ≤ s.size → (s.size : Int) - i = d → 3 * d < k → wire_IsName.l0 k s (s.size : Int) i = some (tailName s d) := by
  induction d with
  | zero =>
    intro k i h0 h1 hd hk
    obtain ⟨k, rfl⟩ : ∃ m, k = m + 1 := ⟨k - 1, by omega⟩
    simp only [wire_IsName.l0]; rw [if_neg (by omega)]; rfl
  | succ d ih =>
    intro k i h0 h1 hd hk
    obtain ⟨k, rfl⟩ : ∃ m, k = m + 3 := ⟨k - 3, by omega⟩
    have hlt : i < (s.size : Int) := by omega
    have hi : (s.size : Int) - (d + 1) = i := by omega
    have hw : wrap64 (i + 1) = i + 1 := by unfold wrap64; omega
    have h := ih k (i + 1) (by omega) (by omega) (by omega) (by omega)
    simp only [wire_IsName.l0, wire_IsName.j2, wire_IsName.j3, tailName, hi]
    rw [if_pos hlt, if_pos h0, if_pos hlt, hw]
    have h' : wire_IsName.l0 k s (s.size : Int) (i + 1) = some (tailName s d) := h
    rw [h']
    generalize bt s i = c
    generalize tailName s d = t
    by_cases a1 : 97 ≤ c <;> by_cases a2 : c ≤ 122 <;> by_cases a3 : 65 ≤ c <;> by_cases a4 : c ≤ 90 <;> by_cases a5 : 0 < i <;> by_cases a6 : 48 ≤ c <;> by_cases a7 : c ≤ 57 <;> by_cases a8 : c = 95 <;> (try omega) <;> simp [sgn, a1, a2, a3, a4, a5, a6, a7, a8]
theorem name_100 (s : ByteArray) : wire_IsName.f 100 s = some (isNameB s) := by
  unfold wire_IsName.f isNameB
  by_cases a1 : (s.size : Int) = 0
  · rw [if_pos a1, decide_eq_false (by omega)]
    simp [wire_IsName.j0]
  · rw [if_neg a1, decide_eq_true (by omega : 1 ≤ s.size)]
    by_cases a3 : (s.size : Int) > 24
    · rw [decide_eq_true a3, decide_eq_false (by omega : ¬ s.size ≤ 24)]
      simp [wire_IsName.j0]
    · rw [decide_eq_false a3, decide_eq_true (by omega : s.size ≤ 24)]
      have h1 := name_tells s (by omega) s.size 99 0 (by omega) (by omega) (by omega) (by omega)
      simp only [wire_IsName.j0]
      rw [if_neg (by simp)]
      rw [show wire_IsName.l0 99 s (s.size : Int) 0 = some (tailName s s.size) from h1]
      simp
theorem isNameB_size {s : ByteArray} (h : isNameB s = true) : 1 ≤ s.size ∧ s.size ≤ 24 := by
  unfold isNameB at h
  simp at h
  exact ⟨h.1.1, h.1.2⟩
theorem equal_self (xs : List Int) (hl : xs.length ≤ 9223372036854775807) : ∀ (d i k : Nat), i + d = xs.length → d < k → slices_Equal_byte_byte.l0 k xs xs (xs.length : Int) (i : Int) = some true
  | 0, i, k, hd, hk => by
    obtain ⟨k, rfl⟩ : ∃ m, k = m + 1 := ⟨k - 1, by omega⟩
    simp only [slices_Equal_byte_byte.l0]
    rw [if_neg (by omega)]
  | d + 1, i, k, hd, hk => by
    obtain ⟨k, rfl⟩ : ∃ m, k = m + 1 := ⟨k - 1, by omega⟩
    have hw : wrap64 ((i : Int) + 1) = ((i + 1 : Nat) : Int) := by unfold wrap64; omega
    have ih := equal_self xs hl d (i + 1) k (by omega) (by omega)
    simp only [slices_Equal_byte_byte.l0]
    rw [if_pos (by omega), if_pos (by omega), if_pos (by omega), if_pos (by omega), if_pos trivial, hw]
    exact ih
theorem equal_is (xs : List Int) (hl : xs.length ≤ 9223372036854775807) (k : Nat) (hk : xs.length < k) : slices_Equal_byte_byte.f k xs xs = some true := by
  unfold slices_Equal_byte_byte.f
  rw [if_pos rfl]
  exact equal_self xs hl xs.length 0 k (by omega) hk
theorem WtAt.bound {base g : Nat} {ok : Nat → Prop} {bs : List Int} {W : World} (h : WtAt base g ok bs W) : WtAt base g (fun k => ok k ∧ k < W.heap.size) bs W := by
  obtain ⟨h1, h2, v, h3, h4⟩ := h
  exact ⟨h1, h2, v, h3, Kd.R_mono (Kd.R_bound h4) (fun k hk => ⟨hk.1, hk.2.2.1⟩)⟩
def encOf (x : S73) : List Int :=
  if x.f0 = 0 then [byt x.f1 1] else if x.f0 = 1 then [byt x.f1 256, byt x.f1 1] else if x.f0 = 2 then [byt x.f1 16777216, byt x.f1 65536, byt x.f1 256, byt x.f1 1] else if x.f0 = 3 then x.f3 else nameBytes x.f2
def ValidE (x : S73) : Prop :=
  (x.f0 = 0 ∧ 0 ≤ x.f1 ∧ x.f1 ≤ 255) ∨ (x.f0 = 1 ∧ 0 ≤ x.f1 ∧ x.f1 ≤ 65535) ∨ (x.f0 = 2 ∧ -2147483648 ≤ x.f1 ∧ x.f1 ≤ 2147483647) ∨ (x.f0 = 3 ∧ ∀ y ∈ x.f3, 0 ≤ y ∧ y ≤ 255) ∨ (x.f0 = 4 ∧ isNameB x.f2 = true)
theorem encOf_range (x : S73) (h : ValidE x) : ∀ y ∈ encOf x, 0 ≤ y ∧ y ≤ 255 := by
  intro y hy
  rcases h with ⟨e, _⟩ | ⟨e, _⟩ | ⟨e, _⟩ | ⟨e, h⟩ | ⟨e, h⟩
  · simp [encOf, e] at hy
    subst hy
    exact byt_range _ _
  · simp [encOf, e] at hy
    rcases hy with rfl | rfl <;> exact byt_range _ _
  · simp [encOf, e] at hy
    rcases hy with rfl | rfl | rfl | rfl <;> exact byt_range _ _
  · simp [encOf, e] at hy
    exact h y hy
  · have hs := isNameB_size h
    simp [encOf, e, nameBytes] at hy
    rcases hy with rfl | hy
    · omega
    · exact bytesOf_range _ y hy
theorem one_wrote (W : World) (x : S73) (c : Value) (ok : Nat → Prop) (base : Nat) (hbase : base ≤ W.heap.size) (hok : ok W.heap.size) (hc : Kd.R (Kd.int .u8) 5 (W.alloc (.cells #[.int .i64 x.f0, .int .i64 x.f1, .string x.f2, c] 73)) base (fun k => ok k ∧ k ≠ W.heap.size) c x.f3) :
    Kd.R k73 73 (W.alloc (.cells #[.int .i64 x.f0, .int .i64 x.f1, .string x.f2, c] 73)) base ok (.slice (some ⟨W.heap.size, 0, none⟩) 1 1) [x] := by
  refine ⟨fun k hk => ?_, [.int .i64 x.f0, .int .i64 x.f1, .string x.f2, c], ⟨rfl, .inr ⟨W.heap.size, 1, _, rfl, hbase, blk_new _ _, Nat.le_refl _, by decide, rfl, rfl⟩⟩, ?_⟩
  · have : W.heap.size = k := by simpa [Value.ownBlock] using hk
    rw [← this]
    exact hok
  · have := Reps.snoc (Reps.none ((k73).M (W.alloc (.cells #[.int .i64 x.f0, .int .i64 x.f1, .string x.f2, c] 73)) base (fun k => ok k ∧ some k ≠ (Value.slice (some ⟨W.heap.size, 0, none⟩) 1 1).ownBlock)) 4) (p := x) (c := [.int .i64 x.f0, .int .i64 x.f1, .string x.f2, c]) (k73_mkM _ _ _ x (Kd.R_mono hc (fun k hk => ⟨hk.1, by simpa [Value.ownBlock] using hk.2⟩))) rfl
    exact this
structure BackAt (w : World) (g : Nat) (S : Nat → Prop) (bs : List Int) (v : Value) (xs : List S73) (gb : Nat) (x : S44) (A4 : Option Addr) (c4 : Nat) (W : World) : Prop where
  wt : WtAt w.heap.size g S bs W
  row : Kd.R k73 73 W w.heap.size (fun k => ¬ S k ∧ k ≠ g) v xs
  below : Below w.heap.size w W
  box : W.heap[gb]? = some (.cells #[.int .i64 x.f0, .int .i64 x.f1, .int .i64 x.f2, .string x.f3, .slice A4 x.f4.length c4] 44 (0, 0))
theorem BackAt.step {w : World} {g : Nat} {S : Nat → Prop} {bs : List Int} {v : Value} {xs : List S73} {gb : Nat} {x : S44} {A4 : Option Addr} {c4 : Nat} {W W' : World} (h : BackAt w g S bs v xs gb x A4 c4 W) (hb : Below W.heap.size W W') : BackAt w g S bs v xs gb x A4 c4 W' := ⟨h.wt.step hb, Kd.R_below h.row hb, below_step h.below hb, blk_below h.box hb⟩
theorem BackAt.drewN {w : World} {g : Nat} {S : Nat → Prop} {bs : List Int} {v : Value} {xs : List S73} {gb : Nat} {x : S44} {A4 : Option Addr} {c4 : Nat} {W : World} (h : BackAt w g S bs v xs gb x A4 c4 W) (m : Nat) : BackAt w g S bs v xs gb x A4 c4 (W.drewN m) := h.step (pw_below_drewN (Below.refl _ _) m)
theorem BackAt.drew {w : World} {g : Nat} {S : Nat → Prop} {bs : List Int} {v : Value} {xs : List S73} {gb : Nat} {x : S44} {A4 : Option Addr} {c4 : Nat} {W : World} (h : BackAt w g S bs v xs gb x A4 c4 W) : BackAt w g S bs v xs gb x A4 c4 W.drew := h.step (below_drew1 (Below.refl _ _))
theorem BackAt.alloc {w : World} {g : Nat} {S : Nat → Prop} {bs : List Int} {v : Value} {xs : List S73} {gb : Nat} {x : S44} {A4 : Option Addr} {c4 : Nat} {W : World} (h : BackAt w g S bs v xs gb x A4 c4 W) (o : Obj) : BackAt w g S bs v xs gb x A4 c4 (W.alloc o) := h.step (below_alloc (Below.refl _ _) o)
theorem BackAt.all {w : World} {g : Nat} {S : Nat → Prop} {bs : List Int} {v : Value} {xs : List S73} {gb : Nat} {x : S44} {A4 : Option Addr} {c4 : Nat} {W : World} (h : BackAt w g S bs v xs gb x A4 c4 W) : W.cell? ⟨gb, 0, none⟩ = some (.int .i64 x.f0) ∧ W.cell? ⟨gb, 1, none⟩ = some (.int .i64 x.f1) ∧ W.cell? ⟨gb, 3, none⟩ = some (.string x.f3) ∧ W.cell? ⟨gb, 4, none⟩ = some (.slice A4 x.f4.length c4) ∧ BackAt w g S bs v xs gb x A4 c4 W := ⟨blk_cell h.box 0, blk_cell h.box 1, blk_cell h.box 3, blk_cell h.box 4, h⟩
theorem region_gen {P : Program} {id : Nat} {ops : Array Oper} {bo : Bool} {Q : Exit → Act → World → Prop} {a : Act} {w : World} (Fact : Nat → Option Addr → Nat → World → Prop) (A : Nat → Option Addr → Nat → Act) (hreg : (Code.region id ops bo).wp P (fun e a' w' => ∃ b Ac cc, Fact b Ac cc w' ∧ e = .normal ∧ a' = A b Ac cc) a w) (h : ∀ b Ac cc w', Fact b Ac cc w' → Q .normal (A b Ac cc) w') : (Code.region id ops bo).wp P Q a w :=
  Code.wp_mono (fun e a w h1 => by obtain ⟨b, Ac, cc, h2, rfl, rfl⟩ := h1; exact h b Ac cc w h2) hreg
structure MadeAt (w : World) (g : Nat) (S : Nat → Prop) (bs : List Int) (v : Value) (xs : List S73) (gb : Nat) (x : S44) (A4 : Option Addr) (c4 : Nat) (op : Nat) (s6 : Nat) (b : Nat) (Ac : Option Addr) (cc : Nat) (W : World) : Prop where
  back : BackAt w g S bs v xs gb x A4 c4 W
  lies : W.heap[b]? = some (.cells #[.int .i64 (op : Int), .int .i64 x.f1, .string x.f3, .slice Ac x.f4.length cc] 73 (0, 0))
  own : Kd.R (Kd.int .u8) 5 W s6 (fun _ => True) (.slice Ac x.f4.length cc) x.f4
  ge : s6 ≤ b
theorem MadeAt.step {w : World} {g : Nat} {S : Nat → Prop} {bs : List Int} {v : Value} {xs : List S73} {gb : Nat} {x : S44} {A4 : Option Addr} {c4 op s6 b : Nat} {Ac : Option Addr} {cc : Nat} {W W' : World} (h : MadeAt w g S bs v xs gb x A4 c4 op s6 b Ac cc W) (hb : Below W.heap.size W W') : MadeAt w g S bs v xs gb x A4 c4 op s6 b Ac cc W' := ⟨h.back.step hb, blk_below h.lies hb, Kd.R_below h.own hb, h.ge⟩
theorem WtAt.grown {base g : Nat} {ok : Nat → Prop} {bs : List Int} {W W' : World} {row : Option Nat} (h : WtAt base g ok bs W) (hg : W.grownBy W' row) (h1 : ∀ k, ok k → some k ≠ row) (h2 : some g ≠ row) : WtAt base g ok bs W' := by
  obtain ⟨q1, q2, v, h3, h4⟩ := h
  exact ⟨q1, q2, v, blk_grown h3 hg h2, Kd.R_grown h4 hg h1⟩
structure WentAt (w : World) (g : Nat) (S2 : Nat → Prop) (bs : List Int) (v : Value) (xs : List S73) (x : S44) (op : Nat) (s6 : Nat) (b : Nat) (Ac : Option Addr) (cc : Nat) (W : World) : Prop where
  wt : WtAt w.heap.size g S2 bs W
  row : Kd.R k73 73 W w.heap.size (fun k => ¬ S2 k ∧ k ≠ g) v xs
  below : Below w.heap.size w W
  lies : W.heap[b]? = some (.cells #[.int .i64 (op : Int), .int .i64 x.f1, .string x.f3, .slice Ac x.f4.length cc] 73 (0, 0))
  elem : (k73).M W w.heap.size (fun k => (¬ S2 k ∧ k ≠ g) ∧ s6 ≤ k) ⟨(op : Int), x.f1, x.f3, x.f4⟩ [.int .i64 (op : Int), .int .i64 x.f1, .string x.f3, .slice Ac x.f4.length cc]
  lt : g < W.heap.size
theorem MadeAt.put {w : World} {g : Nat} {S : Nat → Prop} {bs : List Int} {v : Value} {xs : List S73} {gb : Nat} {x : S44} {A4 : Option Addr} {c4 op s6 b : Nat} {Ac : Option Addr} {cc : Nat} {W : World} (h : MadeAt w g S bs v xs gb x A4 c4 op s6 b Ac cc W) (hS : ∀ k, S k → k < s6) (hg : g < s6 ∧ w.heap.size ≤ s6) (more : List Int) (W8 : World) (h1 : WtAt w.heap.size g (fun k => S k ∨ W.heap.size ≤ k) (bs ++ more) W8) (h2 : Below w.heap.size W W8) (h3 : Kept W W8 (fun k => S k ∨ k = g)) : WentAt w g (fun k => (S k ∨ W.heap.size ≤ k) ∧ k < W8.heap.size) (bs ++ more) v xs x op s6 b Ac cc W8 := by
  have hb : b < W.heap.size := blk_lt h.lies
  have hS2 : ∀ k, k < W.heap.size → ¬ S k → ¬ ((S k ∨ W.heap.size ≤ k) ∧ k < W8.heap.size) := fun k hk hn hh => hh.1.elim hn (fun h => by omega)
  refine ⟨h1.bound, Kd.R_mono (Kd.R_keptB h.back.row h3 (fun k hk hh => hh.elim hk.1 hk.2)) (fun k hk => ⟨hS2 k hk.2.2 hk.1.1, hk.1.2⟩), h.back.below.trans h2, blk_kept h.lies h3 (fun hh => ?_), ?_, ?_⟩
  · have := h.ge
    rcases hh with hh | hh
    · have := hS _ hh
      omega
    · omega
  · refine k73_mkM W8 _ _ ⟨(op : Int), x.f1, x.f3, x.f4⟩ ?_
    have q1 := Kd.R_bound h.own
    have q2 := Kd.R_kept q1 h3 (fun k hk hh => by
      have := hk.2.1
      rcases hh with hh | hh
      · have := hS _ hh
        omega
      · omega)
    refine Kd.R_lower (Kd.R_mono q2 (fun k hk => ⟨⟨hS2 k hk.2.2.1 (fun hh => ?_), ?_⟩, hk.2.1⟩)) hg.2
    · have := hS _ hh
      have := hk.2.1
      omega
    · have := hk.2.1
      omega
  · obtain ⟨v8, h8, _⟩ := h1.now
    exact blk_lt h8
theorem again_one {base g : Nat} {bs pre post : List Int} {w : World} (x : S73) (hbs : bs = pre ++ (encOf x ++ post)) (hv : ValidE x) (hb : ∀ y ∈ bs, 0 ≤ y ∧ y ≤ 255) (hle : bs.length ≤ 1048576) (h : RdAt base g bs pre.length w) (Au : Option Addr) (cu : Nat) (hy : ∀ W', Kept w W' (fun k => k = g) → Kd.C (Kd.int .u8) W' Au x.f3.length x.f3) (hyc : x.f3.length ≤ cu) :
    Calls Try.prog 42 #[.pointer (some ⟨g, 0, none⟩), .agg #[.int .i64 x.f0, .int .i64 x.f1, .string x.f2, .slice Au x.f3.length cu]] w fun e w' => e = .returned (.bool true) ∧ RdAt base g bs (pre.length + (encOf x).length) w' ∧ ∀ (B : Nat) (w0 : World), B ≤ w.heap.size → B ≤ g → Below B w0 w → Below B w0 w' := by
  have hs := seg_mid pre (encOf x) post
  rw [← hbs] at hs
  have hl : pre.length + (encOf x).length ≤ bs.length := by rw [hbs, List.length_append, List.length_append]; omega
  rcases hv with ⟨e, h0, h1⟩ | ⟨e, h0, h1⟩ | ⟨e, h0, h1⟩ | ⟨e, h0⟩ | ⟨e, h0⟩
  · have he : encOf x = [byt x.f1 1] := by simp [encOf, e]
    rw [he] at hs hl ⊢
    rw [e]
    refine (again_Byte h hb x.f1 x.f2 _ ⟨_, _, _, rfl⟩ hl ?_).mono ?_
    · rw [show (bs.take (pre.length + 1)).drop pre.length = [byt x.f1 1] from hs]
      exact num_byt1 _ h0 h1
    · rintro e w' ⟨k1, k2, _, k3⟩
      exact ⟨k1, k2, k3⟩
  · have he : encOf x = [byt x.f1 256, byt x.f1 1] := by simp [encOf, e]
    rw [he] at hs hl ⊢
    rw [e]
    refine (again_Word h hb x.f1 x.f2 _ ⟨_, _, _, rfl⟩ hl ?_).mono ?_
    · rw [show (bs.take (pre.length + 2)).drop pre.length = [byt x.f1 256, byt x.f1 1] from hs]
      exact num_byt2 _ h0 h1
    · rintro e w' ⟨k1, k2, _, k3⟩
      exact ⟨k1, k2, k3⟩
  · have he : encOf x = [byt x.f1 16777216, byt x.f1 65536, byt x.f1 256, byt x.f1 1] := by simp [encOf, e]
    rw [he] at hs hl ⊢
    rw [e]
    refine (again_Long h hb x.f1 x.f2 _ ⟨_, _, _, rfl⟩ hl ?_).mono ?_
    · rw [show (bs.take (pre.length + 4)).drop pre.length = [byt x.f1 16777216, byt x.f1 65536, byt x.f1 256, byt x.f1 1] from hs]
      exact num_byt4 _ h0 h1
    · rintro e w' ⟨k1, k2, _, k3⟩
      exact ⟨k1, k2, k3⟩
  · have he : encOf x = x.f3 := by simp [encOf, e]
    rw [he] at hs hl ⊢
    rw [e]
    refine (again_Take h (by omega) x.f1 x.f2 Au cu x.f3 hy hyc (x.f3.length + 1) (equal_is x.f3 (by omega) _ (Nat.lt_succ_self _)) hl hs).mono ?_
    rintro e w' ⟨k1, k2, _, k3⟩
    exact ⟨k1, k2, k3⟩
  · have he : encOf x = nameBytes x.f2 := by simp [encOf, e]
    have hz := isNameB_size h0
    have hn : nameBytes x.f2 = (x.f2.size : Int) :: bytesOf x.f2 := by
      unfold nameBytes
      rw [Int.emod_eq_of_lt (by omega) (by omega)]
      rfl
    have hnl : (nameBytes x.f2).length = x.f2.size + 1 := by rw [hn, List.length_cons, bytesOf_length]
    have hs2 := seg_mid (pre ++ [(x.f2.size : Int)]) (bytesOf x.f2) post
    have hbs2 : (pre ++ [(x.f2.size : Int)]) ++ (bytesOf x.f2 ++ post) = bs := by rw [hbs, he, hn]; simp
    rw [hbs2, List.length_append, List.length_singleton, bytesOf_length] at hs2
    rw [he, hnl] at hl ⊢
    rw [e]
    refine (again_Name h hb x.f1 x.f2 _ ⟨_, _, _, rfl⟩ 100 (by rw [name_100, h0]) hz.1 hz.2 (by omega) ?_ hs2).mono ?_
    · rw [hbs, he, hn]
      simp [rd, List.getD_eq_getElem?_getD]
    · rintro e w' ⟨k1, k2, _, k3⟩
      exact ⟨k1, by rw [show pre.length + (x.f2.size + 1) = pre.length + 1 + x.f2.size by omega]; exact k2, k3⟩
theorem flat_at (xs : List S73) (j : Nat) (h : j < xs.length) : xs.flatMap encOf = (xs.take j).flatMap encOf ++ (encOf xs[j] ++ (xs.drop (j + 1)).flatMap encOf) := by
  conv => lhs; rw [← List.take_append_drop j xs, List.drop_eq_getElem_cons h, List.flatMap_append, List.flatMap_cons]
theorem flat_succ (xs : List S73) (j : Nat) (h : j < xs.length) : ((xs.take (j + 1)).flatMap encOf).length = ((xs.take j).flatMap encOf).length + (encOf xs[j]).length := by
  rw [List.take_succ_eq_append_getElem h, List.flatMap_append, List.length_append]
  simp
def provisolaw01_WireBack.f (l0 : List S44) : Option Bool := if l0.length * 64 ≤ 140737488351232 ∧ ∀ x ∈ l0, x.f4.length < 140737488355328 ∧ ∀ y ∈ x.f4, 0 ≤ y ∧ y ≤ 255 then some true else none
set_option maxHeartbeats 6400000 in
set_option maxRecDepth 100000 in
theorem provisolaw01_WireBack.calls (A0 : Option Addr) (c0 : Nat) (l0 : List S44) (r : Bool) (w : World) (hr0 : Kd.C k44 w A0 l0.length l0) (hc0 : l0.length ≤ c0) (h : provisolaw01_WireBack.f l0 = some r) :
    Calls Try.prog 9 #[.slice A0 l0.length c0] w fun e w' => e = .returned (.bool r) ∧ Below w.heap.size w w' := by
  obtain ⟨hlim, hb, rfl⟩ : l0.length * 64 ≤ 140737488351232 ∧ (∀ x ∈ l0, x.f4.length < 140737488355328 ∧ ∀ y ∈ x.f4, 0 ≤ y ∧ y ≤ 255) ∧ r = true := by
    unfold provisolaw01_WireBack.f at h
    split at h
    · rename_i h9
      exact ⟨h9.1, h9.2, (Option.some.inj h).symm⟩
    · cases h
  have HR := Aside0.mk hr0
  have HC := Aside0.mk hc0
  have HBY := Aside0.mk hb
  have HLIM := Aside0.mk hlim
  have hlen : l0.length ≤ 9223372036854775806 := by omega
  clear h hr0 hc0 hb hlim
  go_enter Try.func9, Try.ntmps9
  go_wp2_with fail
  refine (New_calls w).mono ?_
  rintro e w1 ⟨g, rfl, hwt, hb1⟩
  have HW := Aside0.mk hwt
  have HB := Aside0.mk hb1
  clear hwt hb1
  go_wp2_with fail
  refine (wByte_good HW.out 7 (by decide) (by decide)).mono ?_
  rintro e w2 ⟨k1, _⟩
  obtain ⟨rfl, k2, k3, k4⟩ := k1 (by simp)
  rw [List.nil_append] at k2
  have HB2 := Aside0.mk (HB.out.trans k3)
  have hk2 := k2.bound
  have hr2 := one_wrote w2 ⟨0, 7, ⟨#[]⟩, []⟩ (.slice none 0 0) (fun k => ¬ k < w2.heap.size ∧ k ≠ g) w.heap.size HB2.out.size ⟨by omega, by
    obtain ⟨v, h8, _⟩ := k2.now
    have := blk_lt h8
    omega⟩ (Kd.R_nil _ _ _ _ _)
  have hw3 := (hk2.mono (fun k hk => hk.2)).step (below_alloc (Below.refl w2.heap.size w2) (.cells #[.int .i64 0, .int .i64 7, .string ⟨#[]⟩, .slice none 0 0] 73))
  have hb3 := below_alloc HB2.out (.cells #[.int .i64 0, .int .i64 7, .string ⟨#[]⟩, .slice none 0 0] 73)
  have HR3 := Aside0.mk hr2
  have HW3 := Aside0.mk hw3
  have HB3 := Aside0.mk hb3
  clear k1 k2 k3 k4 HW HB hk2 hr2 hw3 hb3
  go_wp2
  generalize w2.heap.size = s2 at HR3 HW3 ⊢
  generalize w2.alloc (.cells #[.int .i64 0, .int .i64 7, .string ⟨#[]⟩, .slice none 0 0] 73) = w3 at HR3 HW3 HB3 ⊢
  go_loopw [4, 24] (fun v4 v24 wr => ∃ (i : Nat) (xs : List S73) (S : Nat → Prop) (bs : List Int), v24 = .int .i64 (i : Int) ∧ i ≤ l0.length ∧ xs.length ≤ i + 1 ∧ Aside0 (WtAt w.heap.size g S bs wr) ∧ Aside0 (Kd.R k73 73 wr w.heap.size (fun k => ¬ S k ∧ k ≠ g) v4 xs) ∧ Aside0 (Below w.heap.size w wr) ∧ Aside0 (bs = xs.flatMap encOf ∧ ∀ x ∈ xs, ValidE x)) (fun _ v24 _ => ((l0.length : Int) - intOf v24).toNat)
  case atStart => exact ⟨0, [⟨0, 7, ⟨#[]⟩, []⟩], fun k => k < s2, [byt 7 1], rfl, Nat.zero_le _, Nat.le_refl _, HW3, HR3, HB3, ⟨by simp [encOf], fun x hx => by
    rw [List.mem_singleton.1 hx]
    exact .inl ⟨rfl, by decide, by decide⟩⟩⟩
  case round =>
    obtain ⟨i, xs, S, bs, rfl, hi, hxl, HW, HX, HB, HE⟩ := hrel
    obtain ⟨S, hSB, HW, HX⟩ : ∃ S1 : Nat → Prop, (∀ k, S1 k → k < wr.heap.size) ∧ Aside0 (WtAt w.heap.size g S1 bs wr) ∧ Aside0 (Kd.R k73 73 wr w.heap.size (fun k => ¬ S1 k ∧ k ≠ g) u4 xs) := ⟨fun k => S k ∧ k < wr.heap.size, fun _ h => h.2, ⟨HW.out.bound⟩, ⟨Kd.R_mono HX.out (fun k hk => ⟨fun h => hk.1 h.1, hk.2⟩)⟩⟩
    have HSB := Aside0.mk hSB
    clear hSB
    by_cases c1 : i < l0.length
    · have c1b : decide ((i : Int) < (l0.length : Int)) = true := decide_eq_true (by omega)
      obtain ⟨ad, A4, c4, e1, hx0, hx1, hx2, hx3, hx4, hl4, hC4⟩ := at_T44 HR.out (i : Int) (by omega) (by omega)
      cases e1
      replace hx0 := (HB.out.cell (World.block_lt_of_cell? w _ hx0)).trans hx0
      replace hx1 := (HB.out.cell (World.block_lt_of_cell? w _ hx1)).trans hx1
      replace hx2 := (HB.out.cell (World.block_lt_of_cell? w _ hx2)).trans hx2
      replace hx3 := (HB.out.cell (World.block_lt_of_cell? w _ hx3)).trans hx3
      replace hx4 := (HB.out.cell (World.block_lt_of_cell? w _ hx4)).trans hx4
      simp only [Int.toNat_natCast] at hx0 hx1 hx2 hx3 hx4
      have hmem : rd_T44 l0 (i : Int) ∈ l0 := by
        have : rd_T44 l0 (i : Int) = l0[i] := by simp [rd_T44, List.getD_eq_getElem?_getD, c1]
        rw [this]
        exact List.getElem_mem c1
      have HPB := Aside0.mk (HBY.out _ hmem)
      obtain ⟨x, hx⟩ : ∃ x, x = rd_T44 l0 (i : Int) := ⟨_, rfl⟩
      rw [← hx] at hx0 hx1 hx2 hx3 hx4 hl4 hC4 HPB
      have HC4 := Aside0.mk hC4
      have HL4 := Aside0.mk hl4
      have p5 : (0 ≤ (i : Int)) = True := eq_true (by omega)
      have p6 : ((i : Int) < (l0.length : Int)) = True := eq_true (by omega)
      clear hx hmem hC4 hl4
      go_upto_region 8 with (first | ((with_reducible refine gate_dst (N := 6) rfl ?_); refine box_event ?hg (N := 6) ?hd (cs := #[.int .i64 0, .int .i64 0, .int .i64 0, .string (⟨#[]⟩ : ByteArray), .slice none 0 0]) (t := 44) ?hr ?_; (case hd => rfl); (case hg => rfl); (case hr => first | (go_simp; done) | (go_simp; rfl)); intro gb hg w5 hbox hb; have n1 := Aside0.mk hbox; have n2 := Aside0.mk hb; have n3 := Aside0.mk hg; have hcz0 := blk_cell hbox 0; have hcz1 := blk_cell hbox 1; have hcz2 := blk_cell hbox 2; have hcz3 := blk_cell hbox 3; have hcz4 := blk_cell hbox 4; have hfz0 := blk_frozen hbox 0; have hfz1 := blk_frozen hbox 1; have hfz2 := blk_frozen hbox 2; have hfz3 := blk_frozen hbox 3; have hfz4 := blk_frozen hbox 4; clear hbox hb hg))
      have hgb := n3.out
      have hb6 : Below wr.heap.size wr (((((w5.setCell ⟨gb, 0, none⟩ (.int .i64 x.f0)).setCell ⟨gb, 1, none⟩ (.int .i64 x.f1)).setCell ⟨gb, 2, none⟩ (.int .i64 x.f2)).setCell ⟨gb, 3, none⟩ (.string x.f3)).setCell ⟨gb, 4, none⟩ (.slice A4 x.f4.length c4)) :=
        (((((n2.out).setCell (p := ⟨gb, 0, none⟩) (by simp; omega) _).setCell (p := ⟨gb, 1, none⟩) (by simp; omega) _).setCell (p := ⟨gb, 2, none⟩) (by simp; omega) _).setCell (p := ⟨gb, 3, none⟩) (by simp; omega) _).setCell (p := ⟨gb, 4, none⟩) (by simp; omega) _
      have hA : BackAt w g S bs u4 xs gb x A4 c4 (((((w5.setCell ⟨gb, 0, none⟩ (.int .i64 x.f0)).setCell ⟨gb, 1, none⟩ (.int .i64 x.f1)).setCell ⟨gb, 2, none⟩ (.int .i64 x.f2)).setCell ⟨gb, 3, none⟩ (.string x.f3)).setCell ⟨gb, 4, none⟩ (.slice A4 x.f4.length c4)) :=
        ⟨HW.out.step hb6, Kd.R_below HX.out hb6, below_step HB.out hb6, blk_set (blk_set (blk_set (blk_set (blk_set n1.out 0 _) 1 _) 2 _) 3 _) 4 _⟩
      have HS : Aside0 (∀ k, S k → k < (((((w5.setCell ⟨gb, 0, none⟩ (.int .i64 x.f0)).setCell ⟨gb, 1, none⟩ (.int .i64 x.f1)).setCell ⟨gb, 2, none⟩ (.int .i64 x.f2)).setCell ⟨gb, 3, none⟩ (.string x.f3)).setCell ⟨gb, 4, none⟩ (.slice A4 x.f4.length c4)).heap.size) := ⟨fun k hk => Nat.lt_of_lt_of_le (HSB.out k hk) hb6.size⟩
      have HOB : Aside0 (∀ k, u4.ownBlock = some k → k < (((((w5.setCell ⟨gb, 0, none⟩ (.int .i64 x.f0)).setCell ⟨gb, 1, none⟩ (.int .i64 x.f1)).setCell ⟨gb, 2, none⟩ (.int .i64 x.f2)).setCell ⟨gb, 3, none⟩ (.string x.f3)).setCell ⟨gb, 4, none⟩ (.slice A4 x.f4.length c4)).heap.size) := ⟨fun k hk => Nat.lt_of_lt_of_le ((Kd.R_bound HX.out).1 k hk).2.2.1 hb6.size⟩
      have HGB : Aside0 (g < (((((w5.setCell ⟨gb, 0, none⟩ (.int .i64 x.f0)).setCell ⟨gb, 1, none⟩ (.int .i64 x.f1)).setCell ⟨gb, 2, none⟩ (.int .i64 x.f2)).setCell ⟨gb, 3, none⟩ (.string x.f3)).setCell ⟨gb, 4, none⟩ (.slice A4 x.f4.length c4)).heap.size ∧ w.heap.size ≤ (((((w5.setCell ⟨gb, 0, none⟩ (.int .i64 x.f0)).setCell ⟨gb, 1, none⟩ (.int .i64 x.f1)).setCell ⟨gb, 2, none⟩ (.int .i64 x.f2)).setCell ⟨gb, 3, none⟩ (.string x.f3)).setCell ⟨gb, 4, none⟩ (.slice A4 x.f4.length c4)).heap.size) := ⟨Nat.lt_of_lt_of_le (by obtain ⟨v8, h8, _⟩ := HW.out.now; exact blk_lt h8) hb6.size, Nat.le_trans HB.out.size hb6.size⟩
      generalize ((((w5.setCell ⟨gb, 0, none⟩ (.int .i64 x.f0)).setCell ⟨gb, 1, none⟩ (.int .i64 x.f1)).setCell ⟨gb, 2, none⟩ (.int .i64 x.f2)).setCell ⟨gb, 3, none⟩ (.string x.f3)).setCell ⟨gb, 4, none⟩ (.slice A4 x.f4.length c4) = w6 at hA HS HOB HGB ⊢
      clear hb6 n1 n2 n3 hcz0 hcz1 hcz2 hcz3 hcz4 hfz0 hfz1 hfz2 hfz3 hfz4 hx0 hx1 hx2 hx3 hx4 HW HX HB hgb
      obtain ⟨op, hop, hpick⟩ := pick_some x.f0 5 (by decide) (by decide)
      have HPK : Aside0 (provisolaw01_pick.f x.f0 5 = some (op : Int)) := ⟨hpick⟩
      have hclone : slices_Clone_byte_byte.f x.f4 = some x.f4 := by unfold slices_Clone_byte_byte.f; rw [if_pos HPB.out.1]
      have HCL := Aside0.mk hclone
      have hq := hA.all
      clear hpick hclone
      have hz0a : ∀ (W : World) (v0 v1 v2 v3 : Value), (W.alloc (.cells #[v0, v1, v2, v3] 73)).cell? ⟨W.heap.size, 0, none⟩ = some v0 := fun W v0 v1 v2 v3 => blk_cell (blk_new W _) 0
      have hz0b : ∀ (W : World) (v0 v1 v2 v3 : Value), (W.alloc (.cells #[v0, v1, v2, v3] 73)).frozen? ⟨W.heap.size, 0, none⟩ = false := fun W v0 v1 v2 v3 => blk_frozen (blk_new W _) 0
      have hz0c : ∀ (W : World) (m : Nat) (v0 v1 v2 v3 : Value), ((W.drewN m).alloc (.cells #[v0, v1, v2, v3] 73)).cell? ⟨W.heap.size, 0, none⟩ = some v0 := fun W m v0 v1 v2 v3 => blk_cell (blk_new (W.drewN m) _) 0
      have hz0d : ∀ (W : World) (m : Nat) (v0 v1 v2 v3 : Value), ((W.drewN m).alloc (.cells #[v0, v1, v2, v3] 73)).frozen? ⟨W.heap.size, 0, none⟩ = false := fun W m v0 v1 v2 v3 => blk_frozen (blk_new (W.drewN m) _) 0
      have hz0e : ∀ (W : World) (v0 v1 v2 v3 : Value), (W.drew.alloc (.cells #[v0, v1, v2, v3] 73)).cell? ⟨W.heap.size, 0, none⟩ = some v0 := fun W v0 v1 v2 v3 => blk_cell (blk_new (W.drewN 1) _) 0
      have hz0f : ∀ (W : World) (v0 v1 v2 v3 : Value), (W.drew.alloc (.cells #[v0, v1, v2, v3] 73)).frozen? ⟨W.heap.size, 0, none⟩ = false := fun W v0 v1 v2 v3 => blk_frozen (blk_new (W.drewN 1) _) 0
      have hz1a : ∀ (W : World) (v0 v1 v2 v3 : Value), (W.alloc (.cells #[v0, v1, v2, v3] 73)).cell? ⟨W.heap.size, 1, none⟩ = some v1 := fun W v0 v1 v2 v3 => blk_cell (blk_new W _) 1
      have hz1b : ∀ (W : World) (v0 v1 v2 v3 : Value), (W.alloc (.cells #[v0, v1, v2, v3] 73)).frozen? ⟨W.heap.size, 1, none⟩ = false := fun W v0 v1 v2 v3 => blk_frozen (blk_new W _) 1
      have hz1c : ∀ (W : World) (m : Nat) (v0 v1 v2 v3 : Value), ((W.drewN m).alloc (.cells #[v0, v1, v2, v3] 73)).cell? ⟨W.heap.size, 1, none⟩ = some v1 := fun W m v0 v1 v2 v3 => blk_cell (blk_new (W.drewN m) _) 1
      have hz1d : ∀ (W : World) (m : Nat) (v0 v1 v2 v3 : Value), ((W.drewN m).alloc (.cells #[v0, v1, v2, v3] 73)).frozen? ⟨W.heap.size, 1, none⟩ = false := fun W m v0 v1 v2 v3 => blk_frozen (blk_new (W.drewN m) _) 1
      have hz1e : ∀ (W : World) (v0 v1 v2 v3 : Value), (W.drew.alloc (.cells #[v0, v1, v2, v3] 73)).cell? ⟨W.heap.size, 1, none⟩ = some v1 := fun W v0 v1 v2 v3 => blk_cell (blk_new (W.drewN 1) _) 1
      have hz1f : ∀ (W : World) (v0 v1 v2 v3 : Value), (W.drew.alloc (.cells #[v0, v1, v2, v3] 73)).frozen? ⟨W.heap.size, 1, none⟩ = false := fun W v0 v1 v2 v3 => blk_frozen (blk_new (W.drewN 1) _) 1
      have hz2a : ∀ (W : World) (v0 v1 v2 v3 : Value), (W.alloc (.cells #[v0, v1, v2, v3] 73)).cell? ⟨W.heap.size, 2, none⟩ = some v2 := fun W v0 v1 v2 v3 => blk_cell (blk_new W _) 2
      have hz2b : ∀ (W : World) (v0 v1 v2 v3 : Value), (W.alloc (.cells #[v0, v1, v2, v3] 73)).frozen? ⟨W.heap.size, 2, none⟩ = false := fun W v0 v1 v2 v3 => blk_frozen (blk_new W _) 2
      have hz2c : ∀ (W : World) (m : Nat) (v0 v1 v2 v3 : Value), ((W.drewN m).alloc (.cells #[v0, v1, v2, v3] 73)).cell? ⟨W.heap.size, 2, none⟩ = some v2 := fun W m v0 v1 v2 v3 => blk_cell (blk_new (W.drewN m) _) 2
      have hz2d : ∀ (W : World) (m : Nat) (v0 v1 v2 v3 : Value), ((W.drewN m).alloc (.cells #[v0, v1, v2, v3] 73)).frozen? ⟨W.heap.size, 2, none⟩ = false := fun W m v0 v1 v2 v3 => blk_frozen (blk_new (W.drewN m) _) 2
      have hz2e : ∀ (W : World) (v0 v1 v2 v3 : Value), (W.drew.alloc (.cells #[v0, v1, v2, v3] 73)).cell? ⟨W.heap.size, 2, none⟩ = some v2 := fun W v0 v1 v2 v3 => blk_cell (blk_new (W.drewN 1) _) 2
      have hz2f : ∀ (W : World) (v0 v1 v2 v3 : Value), (W.drew.alloc (.cells #[v0, v1, v2, v3] 73)).frozen? ⟨W.heap.size, 2, none⟩ = false := fun W v0 v1 v2 v3 => blk_frozen (blk_new (W.drewN 1) _) 2
      have hz3a : ∀ (W : World) (v0 v1 v2 v3 : Value), (W.alloc (.cells #[v0, v1, v2, v3] 73)).cell? ⟨W.heap.size, 3, none⟩ = some v3 := fun W v0 v1 v2 v3 => blk_cell (blk_new W _) 3
      have hz3b : ∀ (W : World) (v0 v1 v2 v3 : Value), (W.alloc (.cells #[v0, v1, v2, v3] 73)).frozen? ⟨W.heap.size, 3, none⟩ = false := fun W v0 v1 v2 v3 => blk_frozen (blk_new W _) 3
      have hz3c : ∀ (W : World) (m : Nat) (v0 v1 v2 v3 : Value), ((W.drewN m).alloc (.cells #[v0, v1, v2, v3] 73)).cell? ⟨W.heap.size, 3, none⟩ = some v3 := fun W m v0 v1 v2 v3 => blk_cell (blk_new (W.drewN m) _) 3
      have hz3d : ∀ (W : World) (m : Nat) (v0 v1 v2 v3 : Value), ((W.drewN m).alloc (.cells #[v0, v1, v2, v3] 73)).frozen? ⟨W.heap.size, 3, none⟩ = false := fun W m v0 v1 v2 v3 => blk_frozen (blk_new (W.drewN m) _) 3
      have hz3e : ∀ (W : World) (v0 v1 v2 v3 : Value), (W.drew.alloc (.cells #[v0, v1, v2, v3] 73)).cell? ⟨W.heap.size, 3, none⟩ = some v3 := fun W v0 v1 v2 v3 => blk_cell (blk_new (W.drewN 1) _) 3
      have hz3f : ∀ (W : World) (v0 v1 v2 v3 : Value), (W.drew.alloc (.cells #[v0, v1, v2, v3] 73)).frozen? ⟨W.heap.size, 3, none⟩ = false := fun W v0 v1 v2 v3 => blk_frozen (blk_new (W.drewN 1) _) 3
      refine' region_gen (MadeAt w g S bs u4 xs gb x A4 c4 op w6.heap.size) _ ?hreg ?hgo
      case hreg =>
        go_region_held3 (fun w' => w'.cell? ⟨gb, 0, none⟩ = some (.int .i64 x.f0) ∧ w'.cell? ⟨gb, 1, none⟩ = some (.int .i64 x.f1) ∧ w'.cell? ⟨gb, 3, none⟩ = some (.string x.f3) ∧ w'.cell? ⟨gb, 4, none⟩ = some (.slice A4 x.f4.length c4) ∧ BackAt w g S bs u4 xs gb x A4 c4 w')
          (first | (refine BackAt.all (BackAt.step hA ?_); (repeat (first | exact Below.refl _ _ | exact hB9 | refine Below.setCell ?_ (by first | exact Nat.le_refl _ | exact hB9.size) _ | refine below_alloc ?_ _ | refine below_drew1 ?_ | refine pw_below_drewN ?_ _))))
          (first | (go_at_call 18; (with_reducible refine (provisolaw01_pick.calls x.f0 5 (op : Int) _ HPK.out).mono ?_); rintro e w9 ⟨rfl, ⟨m, rfl⟩⟩) | (go_at_call 17; (with_reducible refine (slices_Clone_byte_byte.calls A4 c4 x.f4 x.f4 _ ?hr1 HL4.out HCL.out).mono ?_); (case hr1 => (refine Kd.C_below HC4.out (BackAt.below (BackAt.step hA ?_)); (repeat (first | exact Below.refl _ _ | exact hB9 | refine Below.setCell ?_ (by first | exact Nat.le_refl _ | exact hB9.size) _ | refine below_alloc ?_ _ | refine below_drew1 ?_ | refine pw_below_drewN ?_ _)))); rintro e w9 ⟨vc, rfl, hR, hbc⟩; obtain ⟨Ac, cc, rfl⟩ := Kd.R_slice hR; have hB9 : Below w6.heap.size w6 w9 := (by refine below_step ?_ hbc; (repeat (first | exact Below.refl _ _ | exact hB9 | refine Below.setCell ?_ (by first | exact Nat.le_refl _ | exact hB9.size) _ | refine below_alloc ?_ _ | refine below_drew1 ?_ | refine pw_below_drewN ?_ _))); have HR9 := Aside0.mk (Kd.R_lower (base' := w6.heap.size) hR (by first | exact Nat.le_refl _ | (simp; done) | (simp; omega))); clear hR; (try (have hbl : w9.heap[w6.heap.size]? = some (.cells #[.int .i64 0, .int .i64 0, .string ⟨#[]⟩, .slice none 0 0] 73 (0, 0)) := (by first | exact blk_below (blk_new _ _) hbc | exact blk_below (blk_drewN (blk_new _ _) _) hbc); have hk0 := blk_cell hbl 0; have hk1 := blk_cell hbl 1; have hk2 := blk_cell hbl 2; have hk3 := blk_cell hbl 3; have hl0 := blk_frozen hbl 0; have hl1 := blk_frozen hbl 1; have hl2 := blk_frozen hbl 2; have hl3 := blk_frozen hbl 3))))
        · refine ⟨w9.heap.size, Ac, cc, ⟨BackAt.step hA (by (repeat (first | exact Below.refl _ _ | exact hB9 | refine Below.setCell ?_ (by first | exact Nat.le_refl _ | exact hB9.size) _ | refine below_alloc ?_ _ | refine below_drew1 ?_ | refine pw_below_drewN ?_ _))), blk_new _ _, Kd.R_below HR9.out (below_alloc (Below.refl _ _) _), hB9.size⟩, rfl, ?_⟩
          generalize w9.heap.size = b0
          exact Eq.refl _
        all_goals
          refine ⟨w6.heap.size, Ac, cc, ⟨BackAt.step hA ?_, ?_, ?_, Nat.le_refl _⟩, rfl, ?_⟩
          · (repeat (first | exact Below.refl _ _ | exact hB9 | refine Below.setCell ?_ (by first | exact Nat.le_refl _ | exact hB9.size) _ | refine below_alloc ?_ _ | refine below_drew1 ?_ | refine pw_below_drewN ?_ _))
          · exact blk_set (blk_set (blk_set (blk_set hbl 0 _) 1 _) 2 _) 3 _
          · exact Kd.R_set (Kd.R_set (Kd.R_set (Kd.R_set HR9.out hbl (by decide) _ _) (blk_set hbl 0 _) (by decide) _ _) (blk_set (blk_set hbl 0 _) 1 _) (by decide) _ _) (blk_set (blk_set (blk_set hbl 0 _) 1 _) 2 _) (by decide) _ _
          · generalize w6.heap.size = b0
            exact Eq.refl _
      case hgo =>
        intro gx Ac cc w7 hmade
        generalize w6.heap.size = s6 at hmade HS HOB HGB
        clear hq hA HBY
        obtain rfl | rfl | rfl | rfl | rfl : op = 0 ∨ op = 1 ∨ op = 2 ∨ op = 3 ∨ op = 4 := by omega
        · have hc0 : w7.cell? ⟨gx, 0, none⟩ = some (.int .i64 0) := blk_cell hmade.lies 0
          have hc1 := blk_cell hmade.back.box 1
          have HM := Aside0.mk hmade
          clear hmade
          by_cases d1 : 0 ≤ x.f1 ∧ x.f1 ≤ 255
          · have D1 := Aside0.mk d1
            clear d1
            go_wp2_with fail
            refine (wByte_good HM.out.back.wt x.f1 D1.out.1 D1.out.2).mono ?_
            rintro e w8 ⟨k1, k2⟩
            by_cases d2 : bs.length + 1 ≤ 1048576
            · obtain ⟨rfl, k3, k4, k5⟩ := k1 d2
              have HG := Aside0.mk (HM.out.put HS.out HGB.out _ w8 k3 k4 k5)
              generalize w7.heap.size = s7 at HG
              clear k1 k2 k3 k4 k5 d2 hc0 hc1 HM
              have hq0 : w8.cell? ⟨gx, 0, none⟩ = some (.int .i64 0) := blk_cell HG.out.lies 0
              have hq1 := blk_cell HG.out.lies 1
              have hq2 := blk_cell HG.out.lies 2
              have hq3 := blk_cell HG.out.lies 3
              have HV : Aside0 (ValidE ⟨0, x.f1, x.f3, x.f4⟩) := ⟨.inl ⟨rfl, D1.out.1, D1.out.2⟩⟩
              have HN : Aside0 (encOf ⟨0, x.f1, x.f3, x.f4⟩ = [byt x.f1 1]) := ⟨by simp [encOf]⟩
              go_wp2_with (first | ((with_reducible refine gate_builtin (b := .append) (xs := #[.tmp 72, .tmp 74]) rfl ?_); at_builtin; refine Kd.R_append k73 (w0 := w) w.heap.size rfl (.tmp 72) (.tmp 74) 74 73 (.agg #[.int .i64 0, .int .i64 0, .string ⟨#[]⟩, .slice none 0 0]) 56 rfl Try.underlying74 info73 rfl (by decide) (by omega) u4 xs ⟨0, x.f1, x.f3, x.f4⟩ [.int .i64 0, .int .i64 x.f1, .string x.f3, .slice Ac x.f4.length cc] (fun k => ¬ ((S k ∨ s7 ≤ k) ∧ k < w8.heap.size) ∧ k ≠ g) (fun k => (¬ ((S k ∨ s7 ≤ k) ∧ k < w8.heap.size) ∧ k ≠ g) ∧ s6 ≤ k) rfl rfl HG.out.elem (fun k hk => ⟨hk.1, fun h => by have := HOB.out k h.symm; have := hk.2; omega⟩) (fun k hk => ⟨fun h => by have := h.2; omega, by have := HG.out.lt; omega⟩) HG.out.row HG.out.below HG.out.below.size (by have := HLIM.out; omega) ?_; intro v1 w12 ho hb hg hat; have h12 := HG.out.wt.grown hg (fun k hk h => (HG.out.row.1 k h.symm).1 hk) (fun h => (HG.out.row.1 g h.symm).2 rfl); have n1 := Aside0.mk ho; have n2 := Aside0.mk hb; have n3 := Aside0.mk h12; clear ho hb hg hat h12))
              exact ⟨⟨i + 1, xs ++ [⟨0, x.f1, x.f3, x.f4⟩], fun k => (S k ∨ s7 ≤ k) ∧ k < w8.heap.size, bs ++ [byt x.f1 1], rfl, by omega, by rw [List.length_append, List.length_singleton]; omega, n3, n1, n2, ⟨by rw [HE.out.1, List.flatMap_append, List.flatMap_cons, List.flatMap_nil, List.append_nil, HN.out], fun y hy => by
                rcases List.mem_append.1 hy with h | h
                · exact HE.out.2 y h
                · rw [List.mem_singleton.1 h]
                  exact HV.out⟩⟩, by simp [intOf]; omega⟩
            · obtain ⟨rfl, k3⟩ := k2 (by omega)
              have HK := Aside0.mk (HM.out.back.step k3)
              clear k1 k2 k3 d2 hc0 hc1 HM
              go_wp2
              exact ⟨⟨i + 1, xs, S, bs, rfl, by omega, by omega, ⟨HK.out.wt⟩, ⟨HK.out.row⟩, ⟨HK.out.below⟩, HE⟩, by simp [intOf]; omega⟩
          · go_wp2_with fail
            refine (wByte_bad HM.out.back.wt x.f1 (by omega)).mono ?_
            rintro e w8 ⟨rfl, m, rfl⟩
            have HK := Aside0.mk (HM.out.back.drewN m)
            generalize w7.drewN m = w8 at HK ⊢
            clear hc0 hc1 HM d1
            go_wp2
            exact ⟨⟨i + 1, xs, S, bs, rfl, by omega, by omega, ⟨HK.out.wt⟩, ⟨HK.out.row⟩, ⟨HK.out.below⟩, HE⟩, by simp [intOf]; omega⟩
        · have hc0 : w7.cell? ⟨gx, 0, none⟩ = some (.int .i64 1) := blk_cell hmade.lies 0
          have hc1 := blk_cell hmade.back.box 1
          have HM := Aside0.mk hmade
          clear hmade
          by_cases d1 : 0 ≤ x.f1 ∧ x.f1 ≤ 65535
          · have D1 := Aside0.mk d1
            clear d1
            go_wp2_with fail
            refine (wWord_good HM.out.back.wt x.f1 D1.out.1 D1.out.2).mono ?_
            rintro e w8 ⟨k1, k2⟩
            by_cases d2 : bs.length + 2 ≤ 1048576
            · obtain ⟨rfl, k3, k4, k5⟩ := k1 d2
              have HG := Aside0.mk (HM.out.put HS.out HGB.out _ w8 k3 k4 k5)
              generalize w7.heap.size = s7 at HG
              clear k1 k2 k3 k4 k5 d2 hc0 hc1 HM
              have hq0 : w8.cell? ⟨gx, 0, none⟩ = some (.int .i64 1) := blk_cell HG.out.lies 0
              have hq1 := blk_cell HG.out.lies 1
              have hq2 := blk_cell HG.out.lies 2
              have hq3 := blk_cell HG.out.lies 3
              have HV : Aside0 (ValidE ⟨1, x.f1, x.f3, x.f4⟩) := ⟨.inr (.inl ⟨rfl, D1.out.1, D1.out.2⟩)⟩
              have HN : Aside0 (encOf ⟨1, x.f1, x.f3, x.f4⟩ = [byt x.f1 256, byt x.f1 1]) := ⟨by simp [encOf]⟩
              go_wp2_with (first | ((with_reducible refine gate_builtin (b := .append) (xs := #[.tmp 72, .tmp 74]) rfl ?_); at_builtin; refine Kd.R_append k73 (w0 := w) w.heap.size rfl (.tmp 72) (.tmp 74) 74 73 (.agg #[.int .i64 0, .int .i64 0, .string ⟨#[]⟩, .slice none 0 0]) 56 rfl Try.underlying74 info73 rfl (by decide) (by omega) u4 xs ⟨1, x.f1, x.f3, x.f4⟩ [.int .i64 1, .int .i64 x.f1, .string x.f3, .slice Ac x.f4.length cc] (fun k => ¬ ((S k ∨ s7 ≤ k) ∧ k < w8.heap.size) ∧ k ≠ g) (fun k => (¬ ((S k ∨ s7 ≤ k) ∧ k < w8.heap.size) ∧ k ≠ g) ∧ s6 ≤ k) rfl rfl HG.out.elem (fun k hk => ⟨hk.1, fun h => by have := HOB.out k h.symm; have := hk.2; omega⟩) (fun k hk => ⟨fun h => by have := h.2; omega, by have := HG.out.lt; omega⟩) HG.out.row HG.out.below HG.out.below.size (by have := HLIM.out; omega) ?_; intro v1 w12 ho hb hg hat; have h12 := HG.out.wt.grown hg (fun k hk h => (HG.out.row.1 k h.symm).1 hk) (fun h => (HG.out.row.1 g h.symm).2 rfl); have n1 := Aside0.mk ho; have n2 := Aside0.mk hb; have n3 := Aside0.mk h12; clear ho hb hg hat h12))
              exact ⟨⟨i + 1, xs ++ [⟨1, x.f1, x.f3, x.f4⟩], fun k => (S k ∨ s7 ≤ k) ∧ k < w8.heap.size, bs ++ [byt x.f1 256, byt x.f1 1], rfl, by omega, by rw [List.length_append, List.length_singleton]; omega, n3, n1, n2, ⟨by rw [HE.out.1, List.flatMap_append, List.flatMap_cons, List.flatMap_nil, List.append_nil, HN.out], fun y hy => by
                rcases List.mem_append.1 hy with h | h
                · exact HE.out.2 y h
                · rw [List.mem_singleton.1 h]
                  exact HV.out⟩⟩, by simp [intOf]; omega⟩
            · obtain ⟨rfl, k3⟩ := k2 (by omega)
              have HK := Aside0.mk (HM.out.back.step k3)
              clear k1 k2 k3 d2 hc0 hc1 HM
              go_wp2
              exact ⟨⟨i + 1, xs, S, bs, rfl, by omega, by omega, ⟨HK.out.wt⟩, ⟨HK.out.row⟩, ⟨HK.out.below⟩, HE⟩, by simp [intOf]; omega⟩
          · go_wp2_with fail
            refine (wWord_bad HM.out.back.wt x.f1 (by omega)).mono ?_
            rintro e w8 ⟨rfl, m, rfl⟩
            have HK := Aside0.mk (HM.out.back.drewN m)
            generalize w7.drewN m = w8 at HK ⊢
            clear hc0 hc1 HM d1
            go_wp2
            exact ⟨⟨i + 1, xs, S, bs, rfl, by omega, by omega, ⟨HK.out.wt⟩, ⟨HK.out.row⟩, ⟨HK.out.below⟩, HE⟩, by simp [intOf]; omega⟩
        · have hc0 : w7.cell? ⟨gx, 0, none⟩ = some (.int .i64 2) := blk_cell hmade.lies 0
          have hc1 := blk_cell hmade.back.box 1
          have HM := Aside0.mk hmade
          clear hmade
          by_cases d1 : (-2147483648) ≤ x.f1 ∧ x.f1 ≤ 2147483647
          · have D1 := Aside0.mk d1
            clear d1
            go_wp2_with fail
            refine (wLong_good HM.out.back.wt x.f1 D1.out.1 D1.out.2).mono ?_
            rintro e w8 ⟨k1, k2⟩
            by_cases d2 : bs.length + 4 ≤ 1048576
            · obtain ⟨rfl, k3, k4, k5⟩ := k1 d2
              have HG := Aside0.mk (HM.out.put HS.out HGB.out _ w8 k3 k4 k5)
              generalize w7.heap.size = s7 at HG
              clear k1 k2 k3 k4 k5 d2 hc0 hc1 HM
              have hq0 : w8.cell? ⟨gx, 0, none⟩ = some (.int .i64 2) := blk_cell HG.out.lies 0
              have hq1 := blk_cell HG.out.lies 1
              have hq2 := blk_cell HG.out.lies 2
              have hq3 := blk_cell HG.out.lies 3
              have HV : Aside0 (ValidE ⟨2, x.f1, x.f3, x.f4⟩) := ⟨.inr (.inr (.inl ⟨rfl, D1.out.1, D1.out.2⟩))⟩
              have HN : Aside0 (encOf ⟨2, x.f1, x.f3, x.f4⟩ = [byt x.f1 16777216, byt x.f1 65536, byt x.f1 256, byt x.f1 1]) := ⟨by simp [encOf]⟩
              go_wp2_with (first | ((with_reducible refine gate_builtin (b := .append) (xs := #[.tmp 72, .tmp 74]) rfl ?_); at_builtin; refine Kd.R_append k73 (w0 := w) w.heap.size rfl (.tmp 72) (.tmp 74) 74 73 (.agg #[.int .i64 0, .int .i64 0, .string ⟨#[]⟩, .slice none 0 0]) 56 rfl Try.underlying74 info73 rfl (by decide) (by omega) u4 xs ⟨2, x.f1, x.f3, x.f4⟩ [.int .i64 2, .int .i64 x.f1, .string x.f3, .slice Ac x.f4.length cc] (fun k => ¬ ((S k ∨ s7 ≤ k) ∧ k < w8.heap.size) ∧ k ≠ g) (fun k => (¬ ((S k ∨ s7 ≤ k) ∧ k < w8.heap.size) ∧ k ≠ g) ∧ s6 ≤ k) rfl rfl HG.out.elem (fun k hk => ⟨hk.1, fun h => by have := HOB.out k h.symm; have := hk.2; omega⟩) (fun k hk => ⟨fun h => by have := h.2; omega, by have := HG.out.lt; omega⟩) HG.out.row HG.out.below HG.out.below.size (by have := HLIM.out; omega) ?_; intro v1 w12 ho hb hg hat; have h12 := HG.out.wt.grown hg (fun k hk h => (HG.out.row.1 k h.symm).1 hk) (fun h => (HG.out.row.1 g h.symm).2 rfl); have n1 := Aside0.mk ho; have n2 := Aside0.mk hb; have n3 := Aside0.mk h12; clear ho hb hg hat h12))
              exact ⟨⟨i + 1, xs ++ [⟨2, x.f1, x.f3, x.f4⟩], fun k => (S k ∨ s7 ≤ k) ∧ k < w8.heap.size, bs ++ [byt x.f1 16777216, byt x.f1 65536, byt x.f1 256, byt x.f1 1], rfl, by omega, by rw [List.length_append, List.length_singleton]; omega, n3, n1, n2, ⟨by rw [HE.out.1, List.flatMap_append, List.flatMap_cons, List.flatMap_nil, List.append_nil, HN.out], fun y hy => by
                rcases List.mem_append.1 hy with h | h
                · exact HE.out.2 y h
                · rw [List.mem_singleton.1 h]
                  exact HV.out⟩⟩, by simp [intOf]; omega⟩
            · obtain ⟨rfl, k3⟩ := k2 (by omega)
              have HK := Aside0.mk (HM.out.back.step k3)
              clear k1 k2 k3 d2 hc0 hc1 HM
              go_wp2
              exact ⟨⟨i + 1, xs, S, bs, rfl, by omega, by omega, ⟨HK.out.wt⟩, ⟨HK.out.row⟩, ⟨HK.out.below⟩, HE⟩, by simp [intOf]; omega⟩
          · go_wp2_with fail
            refine (wLong_bad HM.out.back.wt x.f1 (by omega)).mono ?_
            rintro e w8 ⟨rfl, m, rfl⟩
            have HK := Aside0.mk (HM.out.back.drewN m)
            generalize w7.drewN m = w8 at HK ⊢
            clear hc0 hc1 HM d1
            go_wp2
            exact ⟨⟨i + 1, xs, S, bs, rfl, by omega, by omega, ⟨HK.out.wt⟩, ⟨HK.out.row⟩, ⟨HK.out.below⟩, HE⟩, by simp [intOf]; omega⟩
        · have hc0 : w7.cell? ⟨gx, 0, none⟩ = some (.int .i64 3) := blk_cell hmade.lies 0
          have hc1 := blk_cell hmade.back.box 4
          have HM := Aside0.mk hmade
          clear hmade
          go_wp2_with fail
          refine (slices_Clone_byte_byte.calls A4 c4 x.f4 x.f4 _ (Kd.C_below HC4.out HM.out.back.below) HL4.out HCL.out).mono ?_
          rintro e w9 ⟨vq, rfl, hR, hbc⟩
          obtain ⟨Aq, cq, rfl⟩ := Kd.R_slice hR
          replace HM := Aside0.mk (HM.out.step hbc)
          have HQ := Aside0.mk ((Kd.R_reads' hR).2.2)
          clear hR hbc hc0 hc1
          generalize w7.heap.size = sX at *
          go_wp2_with fail
          by_cases d2 : bs.length + x.f4.length ≤ 1048576
          · refine (Put_good HM.out.back.wt Aq cq HQ.out d2).mono ?_
            rintro e w8 ⟨rfl, k3, k4, k5⟩
            have HG := Aside0.mk (HM.out.put HS.out HGB.out _ w8 k3 k4 k5)
            generalize w9.heap.size = s7 at HG
            clear k3 k4 k5 d2 HM HQ
            have hq0 : w8.cell? ⟨gx, 0, none⟩ = some (.int .i64 3) := blk_cell HG.out.lies 0
            have hq1 := blk_cell HG.out.lies 1
            have hq2 := blk_cell HG.out.lies 2
            have hq3 := blk_cell HG.out.lies 3
            have HV : Aside0 (ValidE ⟨3, x.f1, x.f3, x.f4⟩) := ⟨.inr (.inr (.inr (.inl ⟨rfl, HPB.out.2⟩)))⟩
            have HN : Aside0 (encOf ⟨3, x.f1, x.f3, x.f4⟩ = x.f4) := ⟨by simp [encOf]⟩
            go_wp2_with (first | ((with_reducible refine gate_builtin (b := .append) (xs := #[.tmp 72, .tmp 74]) rfl ?_); at_builtin; refine Kd.R_append k73 (w0 := w) w.heap.size rfl (.tmp 72) (.tmp 74) 74 73 (.agg #[.int .i64 0, .int .i64 0, .string ⟨#[]⟩, .slice none 0 0]) 56 rfl Try.underlying74 info73 rfl (by decide) (by omega) u4 xs ⟨3, x.f1, x.f3, x.f4⟩ [.int .i64 3, .int .i64 x.f1, .string x.f3, .slice Ac x.f4.length cc] (fun k => ¬ ((S k ∨ s7 ≤ k) ∧ k < w8.heap.size) ∧ k ≠ g) (fun k => (¬ ((S k ∨ s7 ≤ k) ∧ k < w8.heap.size) ∧ k ≠ g) ∧ s6 ≤ k) rfl rfl HG.out.elem (fun k hk => ⟨hk.1, fun h => by have := HOB.out k h.symm; have := hk.2; omega⟩) (fun k hk => ⟨fun h => by have := h.2; omega, by have := HG.out.lt; omega⟩) HG.out.row HG.out.below HG.out.below.size (by have := HLIM.out; omega) ?_; intro v1 w12 ho hb hg hat; have h12 := HG.out.wt.grown hg (fun k hk h => (HG.out.row.1 k h.symm).1 hk) (fun h => (HG.out.row.1 g h.symm).2 rfl); have n1 := Aside0.mk ho; have n2 := Aside0.mk hb; have n3 := Aside0.mk h12; clear ho hb hg hat h12))
            exact ⟨⟨i + 1, xs ++ [⟨3, x.f1, x.f3, x.f4⟩], fun k => (S k ∨ s7 ≤ k) ∧ k < w8.heap.size, bs ++ x.f4, rfl, by omega, by rw [List.length_append, List.length_singleton]; omega, n3, n1, n2, ⟨by rw [HE.out.1, List.flatMap_append, List.flatMap_cons, List.flatMap_nil, List.append_nil, HN.out], fun y hy => by
              rcases List.mem_append.1 hy with h | h
              · exact HE.out.2 y h
              · rw [List.mem_singleton.1 h]
                exact HV.out⟩⟩, by simp [intOf]; omega⟩
          · refine (Put_full HM.out.back.wt Aq x.f4.length cq (by omega)).mono ?_
            rintro e w8 ⟨rfl, m, rfl⟩
            have HK := Aside0.mk (HM.out.back.drewN m)
            generalize w9.drewN m = w8 at HK ⊢
            clear HM HQ d2
            go_wp2
            exact ⟨⟨i + 1, xs, S, bs, rfl, by omega, by omega, ⟨HK.out.wt⟩, ⟨HK.out.row⟩, ⟨HK.out.below⟩, HE⟩, by simp [intOf]; omega⟩
        · have hc0 : w7.cell? ⟨gx, 0, none⟩ = some (.int .i64 4) := blk_cell hmade.lies 0
          have hc1 := blk_cell hmade.back.box 3
          have HM := Aside0.mk hmade
          clear hmade
          by_cases d1 : isNameB x.f3 = true
          · have D1 := Aside0.mk d1
            clear d1
            go_wp2_with fail
            refine (wName_good HM.out.back.wt 100 x.f3 (by rw [name_100, D1.out]) (isNameB_size D1.out).2).mono ?_
            rintro e w8 ⟨k1, k2⟩
            by_cases d2 : bs.length + (x.f3.size + 1) ≤ 1048576
            · obtain ⟨rfl, k3, k4, k5⟩ := k1 d2
              have HG := Aside0.mk (HM.out.put HS.out HGB.out _ w8 k3 k4 k5)
              generalize w7.heap.size = s7 at HG
              clear k1 k2 k3 k4 k5 d2 hc0 hc1 HM
              have hq0 : w8.cell? ⟨gx, 0, none⟩ = some (.int .i64 4) := blk_cell HG.out.lies 0
              have hq1 := blk_cell HG.out.lies 1
              have hq2 := blk_cell HG.out.lies 2
              have hq3 := blk_cell HG.out.lies 3
              have HV : Aside0 (ValidE ⟨4, x.f1, x.f3, x.f4⟩) := ⟨.inr (.inr (.inr (.inr ⟨rfl, D1.out⟩)))⟩
              have HN : Aside0 (encOf ⟨4, x.f1, x.f3, x.f4⟩ = nameBytes x.f3) := ⟨by simp [encOf]⟩
              go_wp2_with (first | ((with_reducible refine gate_builtin (b := .append) (xs := #[.tmp 72, .tmp 74]) rfl ?_); at_builtin; refine Kd.R_append k73 (w0 := w) w.heap.size rfl (.tmp 72) (.tmp 74) 74 73 (.agg #[.int .i64 0, .int .i64 0, .string ⟨#[]⟩, .slice none 0 0]) 56 rfl Try.underlying74 info73 rfl (by decide) (by omega) u4 xs ⟨4, x.f1, x.f3, x.f4⟩ [.int .i64 4, .int .i64 x.f1, .string x.f3, .slice Ac x.f4.length cc] (fun k => ¬ ((S k ∨ s7 ≤ k) ∧ k < w8.heap.size) ∧ k ≠ g) (fun k => (¬ ((S k ∨ s7 ≤ k) ∧ k < w8.heap.size) ∧ k ≠ g) ∧ s6 ≤ k) rfl rfl HG.out.elem (fun k hk => ⟨hk.1, fun h => by have := HOB.out k h.symm; have := hk.2; omega⟩) (fun k hk => ⟨fun h => by have := h.2; omega, by have := HG.out.lt; omega⟩) HG.out.row HG.out.below HG.out.below.size (by have := HLIM.out; omega) ?_; intro v1 w12 ho hb hg hat; have h12 := HG.out.wt.grown hg (fun k hk h => (HG.out.row.1 k h.symm).1 hk) (fun h => (HG.out.row.1 g h.symm).2 rfl); have n1 := Aside0.mk ho; have n2 := Aside0.mk hb; have n3 := Aside0.mk h12; clear ho hb hg hat h12))
              exact ⟨⟨i + 1, xs ++ [⟨4, x.f1, x.f3, x.f4⟩], fun k => (S k ∨ s7 ≤ k) ∧ k < w8.heap.size, bs ++ nameBytes x.f3, rfl, by omega, by rw [List.length_append, List.length_singleton]; omega, n3, n1, n2, ⟨by rw [HE.out.1, List.flatMap_append, List.flatMap_cons, List.flatMap_nil, List.append_nil, HN.out], fun y hy => by
                rcases List.mem_append.1 hy with h | h
                · exact HE.out.2 y h
                · rw [List.mem_singleton.1 h]
                  exact HV.out⟩⟩, by simp [intOf]; omega⟩
            · obtain ⟨rfl, k3⟩ := k2 (by omega)
              have HK := Aside0.mk (HM.out.back.step k3)
              clear k1 k2 k3 d2 hc0 hc1 HM
              go_wp2
              exact ⟨⟨i + 1, xs, S, bs, rfl, by omega, by omega, ⟨HK.out.wt⟩, ⟨HK.out.row⟩, ⟨HK.out.below⟩, HE⟩, by simp [intOf]; omega⟩
          · go_wp2_with fail
            refine (wName_bad HM.out.back.wt 100 x.f3 (by rw [name_100, Bool.eq_false_iff.mpr d1])).mono ?_
            rintro e w8 ⟨rfl, m, rfl⟩
            have HK := Aside0.mk (HM.out.back.drewN m)
            generalize w7.drewN m = w8 at HK ⊢
            clear hc0 hc1 HM d1
            go_wp2
            exact ⟨⟨i + 1, xs, S, bs, rfl, by omega, by omega, ⟨HK.out.wt⟩, ⟨HK.out.row⟩, ⟨HK.out.below⟩, HE⟩, by simp [intOf]; omega⟩
    · have c1b : decide ((i : Int) < (l0.length : Int)) = false := decide_eq_false (by omega)
      have HBN := Aside0.mk HW.out.le
      go_wp2_with fail
      refine (Bytes_wt HW.out).mono ?_
      rintro e w5 ⟨vb, rfl, hR, hb5⟩
      obtain ⟨Ab, cb, rfl, hcb, hCb⟩ := Kd.R_reads hR
      have hX5 := Kd.R_below HX.out hb5
      obtain ⟨Al, cl, rfl, hcl, hCl⟩ := Kd.R_reads hX5
      have HB5 := Aside0.mk (below_step HB.out hb5)
      have HCB := Aside0.mk hCb
      have HCL5 := Aside0.mk hCl
      have HRNG : Aside0 (∀ y ∈ bs, 0 ≤ y ∧ y ≤ 255) := ⟨fun y hy => by
        rw [HE.out.1] at hy
        obtain ⟨x, hx, hy⟩ := List.mem_flatMap.1 hy
        exact encOf_range x (HE.out.2 x hx) y hy⟩
      have hxs : xs.length ≤ 9223372036854775807 := by omega
      clear hR hb5 hX5 hCb hCl HW HX HB hcl
      go_wp2_with fail
      refine (Over_calls Ab cb bs _ HCB.out hcb (by have := HBN.out; omega)).mono ?_
      rintro e w6 ⟨g2, rfl, hrd, hb6⟩
      have HRD := Aside0.mk hrd
      have HGE := Aside0.mk hrd.ge
      have HB6 := Aside0.mk hb6
      clear hrd hb6 HCB hcb
      obtain ⟨b5, hb5⟩ : ∃ b5, w5.heap.size = b5 := ⟨_, rfl⟩
      have HSZ5 := Aside0.mk hb5
      rw [hb5] at HRD HGE HB6
      clear hb5
      go_wp2
      go_loopw [84] (fun v84 wr2 => ∃ j : Nat, v84 = .int .i64 (j : Int) ∧ j ≤ xs.length ∧ Aside0 (RdAt b5 g2 bs ((xs.take j).flatMap encOf).length wr2) ∧ Aside0 (Below b5 w5 wr2)) (fun v84 _ => ((xs.length : Int) - intOf v84).toNat)
      case atStart => exact ⟨0, rfl, Nat.zero_le _, HRD, HB6⟩
      case round =>
        obtain ⟨j, rfl, hj, HR7, HB7⟩ := hrel
        by_cases d1 : j < xs.length
        · have d1b : decide ((j : Int) < (xs.length : Int)) = true := decide_eq_true (by omega)
          have hCw : Kd.C k73 wr Al xs.length xs := Kd.C_below HCL5.out (HSZ5.out ▸ HB7.out)
          obtain ⟨al, A3, c3, e1, hx0, hx1, hx2, hx3, hl3, hC3⟩ := at_T73 HCL5.out (j : Int) (by omega) (by omega)
          cases e1
          replace hx0 := (HB7.out.cell (HSZ5.out ▸ World.block_lt_of_cell? _ _ hx0)).trans hx0
          replace hx1 := (HB7.out.cell (HSZ5.out ▸ World.block_lt_of_cell? _ _ hx1)).trans hx1
          replace hx2 := (HB7.out.cell (HSZ5.out ▸ World.block_lt_of_cell? _ _ hx2)).trans hx2
          replace hx3 := (HB7.out.cell (HSZ5.out ▸ World.block_lt_of_cell? _ _ hx3)).trans hx3
          simp only [Int.toNat_natCast] at hx0 hx1 hx2 hx3
          obtain ⟨x, hx⟩ : ∃ x, x = rd_T73 xs (j : Int) := ⟨_, rfl⟩
          have hget : x = xs[j] := by rw [hx]; simp [rd_T73, List.getD_eq_getElem?_getD, d1]
          rw [← hx] at hx0 hx1 hx2 hx3 hl3 hC3
          have HGET := Aside0.mk hget
          have HC3 := Aside0.mk hC3
          have HL3 := Aside0.mk hl3
          have p5 : (0 ≤ (j : Int)) = True := eq_true (by omega)
          have p6 : ((j : Int) < (xs.length : Int)) = True := eq_true (by omega)
          clear hx hget hC3 hl3 hCw
          go_upto_region 29 with (first | ((with_reducible refine gate_dst (N := 11) rfl ?_); refine box_event ?hg (N := 11) ?hd (cs := #[.int .i64 0, .int .i64 0, .string (⟨#[]⟩ : ByteArray), .slice none 0 0]) (t := 73) ?hr ?_; (case hd => rfl); (case hg => rfl); (case hr => first | (go_simp; done) | (go_simp; rfl)); intro gb hg w7 hbox hb; have n1 := Aside0.mk hbox; have n2 := Aside0.mk hb; have n3 := Aside0.mk hg; have hcz0 := blk_cell hbox 0; have hcz1 := blk_cell hbox 1; have hcz2 := blk_cell hbox 2; have hcz3 := blk_cell hbox 3; have hfz0 := blk_frozen hbox 0; have hfz1 := blk_frozen hbox 1; have hfz2 := blk_frozen hbox 2; have hfz3 := blk_frozen hbox 3; clear hbox hb hg))
          have hgb := n3.out
          have hb8 : Below wr.heap.size wr ((((w7.setCell ⟨gb, 0, none⟩ (.int .i64 x.f0)).setCell ⟨gb, 1, none⟩ (.int .i64 x.f1)).setCell ⟨gb, 2, none⟩ (.string x.f2)).setCell ⟨gb, 3, none⟩ (.slice A3 x.f3.length c3)) := ((((n2.out).setCell (p := ⟨gb, 0, none⟩) (by simp; omega) _).setCell (p := ⟨gb, 1, none⟩) (by simp; omega) _).setCell (p := ⟨gb, 2, none⟩) (by simp; omega) _).setCell (p := ⟨gb, 3, none⟩) (by simp; omega) _
          have hbx := blk_set (blk_set (blk_set (blk_set n1.out 0 (.int .i64 x.f0)) 1 (.int .i64 x.f1)) 2 (.string x.f2)) 3 (.slice A3 x.f3.length c3)
          have HR8 := Aside0.mk (HR7.out.step hb8)
          have HB8 := Aside0.mk (HB7.out.trans (hb8.mono (HSZ5.out ▸ HB7.out.size)))
          generalize ((((w7.setCell ⟨gb, 0, none⟩ (.int .i64 x.f0)).setCell ⟨gb, 1, none⟩ (.int .i64 x.f1)).setCell ⟨gb, 2, none⟩ (.string x.f2)).setCell ⟨gb, 3, none⟩ (.slice A3 x.f3.length c3)) = w8 at hb8 hbx HR8 HB8 ⊢
          have hq0 := blk_cell hbx 0
          have hq1 := blk_cell hbx 1
          have hq2 := blk_cell hbx 2
          have hq3 := blk_cell hbx 3
          clear hgb hb8 hbx n1 n2 n3 hcz0 hcz1 hcz2 hcz3 hfz0 hfz1 hfz2 hfz3 hx0 hx1 hx2 hx3 HR7 HB7
          go_wp2_with fail
          have hat := again_one x (by rw [HE.out.1, HGET.out]; exact flat_at xs j d1) (HE.out.2 x (by rw [HGET.out]; exact List.getElem_mem d1)) HRNG.out HBN.out HR8.out A3 c3 (Kd.C_kept_came (Kd.heap_int .u8) HC3.out (HSZ5.out ▸ HB8.out) (fun k hk => by rw [hk, HSZ5.out]; exact HGE.out)) HL3.out
          refine hat.mono ?_
          clear hat
          rintro e w9 ⟨rfl, k1, k2⟩
          have HR9 := Aside0.mk k1
          have HB9 := Aside0.mk (k2 b5 w5 (HSZ5.out ▸ HB8.out.size) HGE.out HB8.out)
          clear k1 k2
          go_wp2
          exact ⟨⟨j + 1, rfl, by omega, ⟨by rw [flat_succ xs j d1, ← HGET.out]; exact HR9.out⟩, HB9⟩, by simp [intOf]; omega⟩
        · have d1b : decide ((j : Int) < (xs.length : Int)) = false := decide_eq_false (by omega)
          have E1 : Aside0 (j = xs.length) := ⟨by omega⟩
          go_wp2_with fail
          have hE := End_rd HR7.out
          rw [if_pos (by rw [E1.out, List.take_length, ← HE.out.1])] at hE
          refine hE.mono ?_
          clear hE
          rintro e w9 ⟨rfl, m, rfl⟩
          go_wp2
          go_ret
          exact ⟨rfl, pw_below_drewN (below_step HB5.out (HSZ5.out ▸ HB7.out)) m⟩


end Go.Proofs.Ytklbkonehcjmjaa.P

end

section
namespace Go.Proofs.Ytklbkonehcjmjaa.P
open Go.RowKit Go.Proofs.YtklbkonehcjmjaaW.PrintWords
def provisolaw01_WireBack.Pure : Prop := ∀ (l0 : List (S44)), (fun l : List (S44) => l.length ≤ 9223372036854775807 ∧ l.length * 64 ≤ 140737488351232 ∧ ∀ x ∈ l, Ok44 x) l0 → provisolaw01_WireBack.f l0 = some true
end Go.Proofs.Ytklbkonehcjmjaa.P

end

section
namespace Go.Proofs.Ytklbkonehcjmjaa.Pure
open Go.RowKit Go.Proofs.Ytklbkonehcjmjaa.P Go.Proofs.YtklbkonehcjmjaaW.PrintWords
theorem WireBack : provisolaw01_WireBack.Pure := by
  intro l0 h
  unfold provisolaw01_WireBack.f
  rw [if_pos ⟨h.2.1, fun x hx => by
    have h1 := (h.2.2 x hx).2.2.2.2
    refine ⟨by have := h1.2.1; omega, fun y hy => ?_⟩
    have := h1.2.2 y hy
    simp [Lit.wf, IntKind.min, IntKind.max, IntKind.signed, IntKind.bits] at this
    exact this⟩]
end Go.Proofs.Ytklbkonehcjmjaa.Pure

end

section
namespace Go.Proofs.Ytklbkonehcjmjaa.wireBack
open Go.ChangeShapes Go.WideShapes Go.ChangeAt Go.RowKit Go.Proofs.YtklbkonehcjmjaaW.PrintWords Go.Proofs.Ytklbkonehcjmjaa.Sees Go.Proofs.Ytklbkonehcjmjaa.P
open Go.ChangeMaps (open_string shut_string)
set_option linter.unusedVariables false
set_option linter.unusedSimpArgs false
theorem own : ownKnob Try.prog.godebug = none := by kernel_rfl
theorem laidOut : laidOutB Try.prog = true := by kernel_rfl
set_option maxRecDepth 100000 in
theorem lifted (os : Os) (started : os.Started) (H : Type) (enc : TypeId × Value → H) :
    ReturnsInHanded {} Try.checked os 9 .any (Rows.wireBackSpec.pre6 enc Try.prog Try.f9 Rows.wireBackRow.domain false) (Rows.wireBackSpec.post enc Try.prog Try.f9 false true false false) := by
  refine returnsInHanded_of_change_sized (C := Try.checked) own started (by kernel_rfl) Try.func9
    (ChangeSpec.witness6 (enc := enc) (C := Try.checked) false ⟨#[], #[.slice none 0 0], []⟩ 8 (by kernel_rfl) (by kernel_rfl) (by kernel_rfl) (by kernel_rfl)) ?_
  intro W base args ds gs before hval0 hW hcnd hsz0 _
  have hsz : (DataW.weightsEach Try.prog (Try.f9.params.toList ++ Rows.wireBackSpec.plain.varTypes Try.prog) (ds ++ gs)).all (· ≤ reachBytes) = true := hsz0
  have hval : ∀ (j : Nat) t v, Try.f9.params[j]? = some t → args[j]? = some v → Value.okWide Try.prog W .any base t v := hval0
  have hW' := hW
  obtain ⟨p, q, hA0, hV, rfl, hfz, hnd⟩ := hW
  have hA : DataW.TrodAll enc Try.prog W 0 (fun _ => true) true Try.f9.params.toList args.toList ds p := hA0
  rw [Try.params9] at hA hval hsz
  obtain ⟨v0, vs0, d0, ds0, p0, q0, hargs, rfl, rfl, h0, r0⟩ := trodAll_cons hA
  obtain ⟨rfl, rfl, rfl⟩ := trodAll_nil r0
  obtain rfl : args = #[v0] := by cases args; simp_all
  obtain ⟨rfl, rfl⟩ := trodVars_none hV
  have k0 := h0
  have lt0 : ∀ x ∈ p0, x.block < W.heap.size := by obtain ⟨m, hm⟩ := k0; exact DataW.trod_lt m _ _ _ hm
  obtain ⟨y0, hy0, oy0⟩ := see_arg (j := 0) (t := 40) (sees_slice (B := 64) Try.underlying40 (by kernel_rfl) (by kernel_rfl) sees44) hsz rfl rfl h0
  obtain ⟨a0, len0, cap0, rfl⟩ := okWide_slice Try.underlying40 (hval 0 40 v0 rfl rfl)
  obtain ⟨rfl, hc0, hr0⟩ := see_slice rfl hy0
  clear hA0 hval0 hsz0 hsz
  have hk := Pure.WireBack y0 oy0
  refine (provisolaw01_WireBack.calls _ _ y0 true W hr0 hc0 hk).mono ?_
  rintro e W' ⟨rfl, bel0⟩
  have bel : Below W.heap.size W W' := bel0
  exact ⟨_, rfl, _, _, _, [], _, [], hW', trodAll_mk1 (shut_bool Try.underlying4 _), (trodAll_cons_mk (Below.trod laidOut (by kernel_rfl) (of_decide_eq_true (by kernel_rfl)) k0 bel lt0) trodAll_mk0), rfl, bel.frame _, fun h => by cases h⟩
theorem over : Rows.wireBackRow.holds Try.pinned (OpenSpec.ofChange Rows.wireBackSpec) :=
  OpenClaim.holds_of_wide 9 Try.f9 rfl rfl rfl rfl rfl rfl rfl ⟨rfl, rfl, rfl, rfl, rfl⟩ rfl rfl rfl rfl rfl (by kernel_rfl) Try.func9 (by kernel_rfl)
    (of_decide_eq_true (by kernel_rfl)) (by unfold Func.isWrapper; first | (rw [if_pos (by decide +kernel)]; kernel_rfl) | (rw [if_neg (by decide +kernel)]; exact ⟨rfl, rfl⟩))
    (fun os started H enc _ => lifted os started H enc)
theorem proved : Rows.WireBackSaid := over
end Go.Proofs.Ytklbkonehcjmjaa.wireBack
namespace Go.Proofs.Ytklbkonehcjmjaa
theorem wireBack_holds : Rows.WireBackSaid := wireBack.proved
end Go.Proofs.Ytklbkonehcjmjaa

end

