/- Proved: the law FlowOwn holds for every input that the row lets in. No condition of ours. -/
import Derived.Test.YtcffniaieegbgaaBFlowOwnb
import Derived.Test.YtcffniaieegbgaaProg
import Derived.WalkSpells
import Derived.ChangeKeysEq
import Derived.Deep.MidRow
import Derived.Maps.RangeWalk
import Derived.Maps.OwnSet
import Derived.Maps.OwnOps
import Derived.Shelf.Sort.Plain
import Derived.Shelf.Slices.In.SortNone
import Derived.Sort.OwnSortedInts
section
namespace Go.Proofs.Ytcffniaieegbgaa.P
open Go.RowKit Go.Proofs.YtcffniaieegbgaaW.PrintWords Go.Proofs.YtcffniaieegbgaaW.PrintLast Go.Proofs.YtcffniaieegbgaaW.PrintMore
attribute [local go_sem] max2_int min2_int max_two min_two max_three min_three max_four min_four   -- for this text's walks alone
set_option linter.unusedVariables false
set_option linter.unusedSimpArgs false



def errW : Option Int → Value
  | none => .nilIface
  | some c => .iface 0 (.int .i64 c)
theorem errW_none : errW none = .nilIface := rfl
theorem errW_some (c : Int) : errW (some c) = .iface 0 (.int .i64 c) := rfl

theorem info3 : (Try.prog.info? 3).map (fun i => (i.zero, i.size, i.bytes)) = some (some (.int .i64 0), 1, 8) := by kernel_rfl
theorem info4 : (Try.prog.info? 4).map (fun i => (i.zero, i.size, i.bytes)) = some (some (.bool false), 1, 1) := by kernel_rfl
theorem info5 : (Try.prog.info? 5).map (fun i => (i.zero, i.size, i.bytes)) = some (some (.int .u8 0), 1, 1) := by kernel_rfl
theorem info46 : (Try.prog.info? 46).map (fun i => (i.zero, i.size, i.bytes)) = some (some (.agg #[(.int .i64 0), (.int .u8 0), (.int .i64 0), (.int .i64 0)]), 4, 32) := by kernel_rfl
structure S46 where
  f0 : Int
  f1 : Int
  f2 : Int
  f3 : Int
def z46 : S46 := ⟨(0 : Int), (0 : Int), (0 : Int), (0 : Int)⟩
def k46 : Kd S46 := Kd.iso (Kd.pair (Kd.int .i64) (Kd.pair (Kd.int .u8) (Kd.pair (Kd.int .i64) (Kd.int .i64)))) (fun x : S46 => (x.f0, x.f1, x.f2, x.f3))
theorem k46_open {w : World} {x : S46} {cs : List Value} (h : k46.K w x cs) : cs = [.int .i64 x.f0, .int .u8 x.f1, .int .i64 x.f2, .int .i64 x.f3] := by
  obtain ⟨_, _, rfl, rfl, ⟨_, _, rfl, rfl, ⟨_, _, rfl, rfl, rfl⟩⟩⟩ := h
  exact rfl
theorem k46_mkM (w : World) (base : Nat) (ok : Nat → Prop) (x : S46)  : k46.M w base ok x [.int .i64 x.f0, .int .u8 x.f1, .int .i64 x.f2, .int .i64 x.f3] := ⟨[.int .i64 x.f0], [.int .u8 x.f1, .int .i64 x.f2, .int .i64 x.f3], rfl, rfl, ⟨[.int .u8 x.f1], [.int .i64 x.f2, .int .i64 x.f3], rfl, rfl, ⟨[.int .i64 x.f2], [.int .i64 x.f3], rfl, rfl, rfl⟩⟩⟩
def rd_T46 (xs : List S46) (i : Int) : S46 := xs.getD i.toNat z46
theorem at_T46 {w : World} {A : Option Addr} {n : Nat} {xs : List S46} (h : Kd.C k46 w A n xs) (i : Int) (h0 : 0 ≤ i) (h1 : i < n) : ∃ ad , A = some ad ∧ w.cell? (ad.add (i.toNat * 4)) = some (.int .i64 (rd_T46 xs i).f0) ∧ w.cell? ⟨(ad.add (i.toNat * 4)).block, (ad.add (i.toNat * 4)).off + 1, none⟩ = some (.int .u8 (rd_T46 xs i).f1) ∧ w.cell? ⟨(ad.add (i.toNat * 4)).block, (ad.add (i.toNat * 4)).off + 2, none⟩ = some (.int .i64 (rd_T46 xs i).f2) ∧ w.cell? ⟨(ad.add (i.toNat * 4)).block, (ad.add (i.toNat * 4)).off + 3, none⟩ = some (.int .i64 (rd_T46 xs i).f3) := by
  obtain ⟨ad, c, e, _, hK, hc0⟩ := Kd.C_get h z46 i h0 h1
  have hc : ∀ j u, c[j]? = some u → w.cell? (ad.add (i.toNat * 4 + j)) = some u := hc0
  obtain rfl := k46_open hK
  exact ⟨ad, e, hc 0 _ rfl, by rw [← add_field _ _ 1 (by omega)]; exact hc 1 _ rfl, by rw [← add_field _ _ 2 (by omega)]; exact hc 2 _ rfl, by rw [← add_field _ _ 3 (by omega)]; exact hc 3 _ rfl⟩

structure S35 where
  f0 : Int
  f1 : Int
  f2 : (List Int)
def z35 : S35 := ⟨(0 : Int), (0 : Int), ([] : List Int)⟩
def k35 : Kd S35 := Kd.iso (Kd.pair (Kd.int .i64) (Kd.pair (Kd.int .i64) (Kd.slice 3 (Kd.int .i64)))) (fun x : S35 => (x.f0, x.f1, x.f2))
theorem k35_open {w : World} {x : S35} {cs : List Value} (h : k35.K w x cs) : ∃ A2 c2, cs = [.int .i64 x.f0, .int .i64 x.f1, .slice A2 x.f2.length c2] ∧ x.f2.length ≤ c2 ∧ (Kd.int .i64).C w A2 x.f2.length x.f2 := by
  obtain ⟨_, _, rfl, rfl, ⟨_, _, rfl, rfl, ⟨A2, c2, rfl, l2, g2⟩⟩⟩ := h
  exact ⟨A2, c2, rfl, l2, g2⟩
def rd_T35 (xs : List S35) (i : Int) : S35 := xs.getD i.toNat z35
theorem at_T35 {w : World} {A : Option Addr} {n : Nat} {xs : List S35} (h : Kd.C k35 w A n xs) (i : Int) (h0 : 0 ≤ i) (h1 : i < n) : ∃ ad A2 c2, A = some ad ∧ w.cell? (ad.add (i.toNat * 3)) = some (.int .i64 (rd_T35 xs i).f0) ∧ w.cell? ⟨(ad.add (i.toNat * 3)).block, (ad.add (i.toNat * 3)).off + 1, none⟩ = some (.int .i64 (rd_T35 xs i).f1) ∧ w.cell? ⟨(ad.add (i.toNat * 3)).block, (ad.add (i.toNat * 3)).off + 2, none⟩ = some (.slice A2 (rd_T35 xs i).f2.length c2) ∧ (rd_T35 xs i).f2.length ≤ c2 ∧ (Kd.int .i64).C w A2 (rd_T35 xs i).f2.length (rd_T35 xs i).f2 := by
  obtain ⟨ad, c, e, _, hK, hc0⟩ := Kd.C_get h z35 i h0 h1
  have hc : ∀ j u, c[j]? = some u → w.cell? (ad.add (i.toNat * 3 + j)) = some u := hc0
  obtain ⟨A2, c2, rfl, l2, g2⟩ := k35_open hK
  exact ⟨ad, A2, c2, e, hc 0 _ rfl, by rw [← add_field _ _ 1 (by omega)]; exact hc 1 _ rfl, by rw [← add_field _ _ 2 (by omega)]; exact hc 2 _ rfl, l2, g2⟩

end Go.Proofs.Ytcffniaieegbgaa.P

end

section
namespace Go.Proofs.Ytcffniaieegbgaa.P
open Go.RowKit Go.Proofs.YtcffniaieegbgaaW.PrintWords Go.Proofs.YtcffniaieegbgaaW.PrintLast Go.Proofs.YtcffniaieegbgaaW.PrintMore
attribute [local go_sem] max2_int min2_int max_two min_two max_three min_three max_four min_four   -- for this text's walks alone
set_option linter.unusedVariables false
set_option linter.unusedSimpArgs false

def slices_Equal_int_int.l0 : Nat → List Int → List Int → Int → Int → Option (Bool)
  | 0, _, _, _, _ => none
  | k + 1, x0, x1, x12, x13 => if x13 < x12 then (if 0 ≤ x13 then (if x13 < (x0.length : Int) then (if x13 < (x1.length : Int) then (if (rd x0 x13) = (rd x1 x13) then (slices_Equal_int_int.l0 k x0 x1 x12 (wrap64 (x13 + 1))) else (some false)) else (none)) else (none)) else (none)) else (some true)
def slices_Equal_int_int.f (k : Nat) (l0 : List Int) (l1 : List Int) : Option (Bool) := if (l0.length : Int) = (l1.length : Int) then (slices_Equal_int_int.l0 k l0 l1 (l0.length : Int) 0) else (some false)
set_option maxHeartbeats 8000000 in
set_option maxRecDepth 100000 in
theorem slices_Equal_int_int.calls (k : Nat) (A0 : Option Addr) (c0 : Nat) (l0 : List Int) (A1 : Option Addr) (c1 : Nat) (l1 : List Int) (r : Bool) (w : World) (hr0 : Kd.C (Kd.int .i64) w A0 l0.length l0) (hc0 : l0.length ≤ c0) (hr1 : Kd.C (Kd.int .i64) w A1 l1.length l1) (hc1 : l1.length ≤ c1) (h : slices_Equal_int_int.f k l0 l1 = some r) :
    Calls Try.prog 22 #[.slice A0 l0.length c0, .slice A1 l1.length c1] w fun e w' => e = .returned (.bool r) ∧ Drawn0 w w' := by
  have HR0 := Aside0.mk hr0
  have HC0 := Aside0.mk hc0
  clear hr0 hc0
  have HR1 := Aside0.mk hr1
  have HC1 := Aside0.mk hc1
  clear hr1 hc1
  have H : (if (l0.length : Int) = (l1.length : Int) then (slices_Equal_int_int.l0 k l0 l1 (l0.length : Int) 0) else (some false)) = some r := h
  clear h
  by_cases c3 : (l0.length : Int) = (l1.length : Int)
  · rw [if_pos c3] at H
    have c3b0 : ((l0.length : Int) == (l1.length : Int)) = true := beq_iff_eq.mpr c3
    have c3b1 : ((l0.length : Int) != (l1.length : Int)) = false := bne_eq_false_iff_eq.mpr c3
    have c3b2 : (l0.length == l1.length) = true := by first | simpa using c3 | (simp at c3 ⊢; omega)
    clear c3
    have H' := Aside0.mk H
    clear H
    go_enter Try.func22, Try.ntmps22
    go_wp2
    repeat (go_quiet (fail); try go_wp2)
    go_loopg [13] k (fun kq v13 w' => ∃ (x13_1 : Int), v13 = .int .i64 x13_1 ∧ Aside0 (slices_Equal_int_int.l0 kq l0 l1 (l0.length : Int) x13_1 = some r) ∧ Aside0 (kq ≤ k) ∧ Drawn0 w w')
    case atStart => exact ⟨(0), (by first | rfl | (simp; done) | (simp [*]; done)), H', ⟨Nat.le_refl _⟩, by repeat (first | exact Drawn0.refl _ | apply Drawn0.step)⟩
    case round =>
      clear H'
      try clear c1
      try clear c2
      try clear p2
      try clear c3
      try clear c3b0
      try clear c3b1
      try clear c3b2
      obtain ⟨x13_1, rfl, HA, HK1, ⟨m1, rfl⟩⟩ := hrel
      cases gk with
      | zero => exact absurd HA.out (by simp [slices_Equal_int_int.l0])
      | succ k1 =>
        have H := HA.out
        clear HA
        simp only [slices_Equal_int_int.l0] at H
        by_cases c4 : x13_1 < (l0.length : Int)
        · rw [if_pos c4] at H
          have c4b0 : decide (x13_1 < (l0.length : Int)) = true := decide_eq_true c4
          clear c4
          by_cases c5 : 0 ≤ x13_1
          · rw [if_pos c5] at H
            have c5b0 : decide (0 ≤ x13_1) = true := decide_eq_true c5
            clear c5
            by_cases c6 : x13_1 < (l0.length : Int)
            · rw [if_pos c6] at H
              have c6b0 : decide (x13_1 < (l0.length : Int)) = true := decide_eq_true c6
              clear c6
              by_cases c7 : x13_1 < (l1.length : Int)
              · rw [if_pos c7] at H
                have c7b0 : decide (x13_1 < (l1.length : Int)) = true := decide_eq_true c7
                clear c7
                by_cases c8 : (rd l0 x13_1) = (rd l1 x13_1)
                · rw [if_pos c8] at H
                  have c8b0 : ((rd l0 x13_1) == (rd l1 x13_1)) = true := beq_iff_eq.mpr c8
                  have c8b1 : ((rd l0 x13_1) != (rd l1 x13_1)) = false := bne_eq_false_iff_eq.mpr c8
                  clear c8
                  have H' := Aside0.mk H
                  clear H
                  have p101 : 0 ≤ (x13_1 : Int) := of_decide_eq_true (by first | (with_reducible assumption) | assumption)
                  have q101 : x13_1 < (l0.length : Int) := of_decide_eq_true (by first | (with_reducible assumption) | assumption)
                  obtain ⟨ad101, e101, hx101_0⟩ := Kd.at_int HR0.out x13_1 p101 q101
                  cases e101
                  replace p101 := eq_true p101
                  replace q101 := eq_true q101
                  have p102 : 0 ≤ (x13_1 : Int) := of_decide_eq_true (by first | (with_reducible assumption) | assumption)
                  have q102 : x13_1 < (l1.length : Int) := of_decide_eq_true (by first | (with_reducible assumption) | assumption)
                  obtain ⟨ad102, e102, hx102_0⟩ := Kd.at_int HR1.out x13_1 p102 q102
                  cases e102
                  replace p102 := eq_true p102
                  replace q102 := eq_true q102
                  go_wp2
                  repeat (go_quiet (fail); try go_wp2)
                  go_roundg k1
                  case measure => have := HK1.out; omega
                  case rel => exact ⟨(wrap64 (x13_1 + 1)), (by first | rfl | (simp; done) | (simp [*]; done)), H', ⟨by have := HK1.out; omega⟩, by repeat (first | exact Drawn0.refl _ | apply Drawn0.step)⟩
                · rw [if_neg c8] at H
                  have c8b0 : ((rd l0 x13_1) == (rd l1 x13_1)) = false := beq_eq_false_iff_ne.mpr c8
                  have c8b1 : ((rd l0 x13_1) != (rd l1 x13_1)) = true := bne_iff_ne.mpr c8
                  obtain rfl := Option.some.inj H
                  have p101 : 0 ≤ (x13_1 : Int) := of_decide_eq_true (by first | (with_reducible assumption) | assumption)
                  have q101 : x13_1 < (l0.length : Int) := of_decide_eq_true (by first | (with_reducible assumption) | assumption)
                  obtain ⟨ad101, e101, hx101_0⟩ := Kd.at_int HR0.out x13_1 p101 q101
                  cases e101
                  replace p101 := eq_true p101
                  replace q101 := eq_true q101
                  have p102 : 0 ≤ (x13_1 : Int) := of_decide_eq_true (by first | (with_reducible assumption) | assumption)
                  have q102 : x13_1 < (l1.length : Int) := of_decide_eq_true (by first | (with_reducible assumption) | assumption)
                  obtain ⟨ad102, e102, hx102_0⟩ := Kd.at_int HR1.out x13_1 p102 q102
                  cases e102
                  replace p102 := eq_true p102
                  replace q102 := eq_true q102
                  go_wp2
                  repeat (go_quiet (fail); try go_wp2)
                  go_ret
                  exact ⟨by first | rfl | (simp; done) | (simp [*]; done), by repeat (first | exact Drawn0.refl _ | apply Drawn0.step)⟩
              · rw [if_neg c7] at H
                exact absurd H (by simp)
            · rw [if_neg c6] at H
              exact absurd H (by simp)
          · rw [if_neg c5] at H
            exact absurd H (by simp)
        · rw [if_neg c4] at H
          have c4b0 : decide (x13_1 < (l0.length : Int)) = false := decide_eq_false c4
          clear c4
          obtain rfl := Option.some.inj H
          go_wp2
          repeat (go_quiet (fail); try go_wp2)
          go_ret
          exact ⟨by first | rfl | (simp; done) | (simp [*]; done), by repeat (first | exact Drawn0.refl _ | apply Drawn0.step)⟩
  · rw [if_neg c3] at H
    have c3b0 : ((l0.length : Int) == (l1.length : Int)) = false := beq_eq_false_iff_ne.mpr c3
    have c3b1 : ((l0.length : Int) != (l1.length : Int)) = true := bne_iff_ne.mpr c3
    have c3b2 : (l0.length == l1.length) = false := by first | simpa using c3 | (simp at c3 ⊢; omega)
    obtain rfl := Option.some.inj H
    go_enter Try.func22, Try.ntmps22
    go_wp2
    repeat (go_quiet (fail); try go_wp2)
    go_ret
    exact ⟨by first | rfl | (simp; done) | (simp [*]; done), by repeat (first | exact Drawn0.refl _ | apply Drawn0.step)⟩

mutual
def code_widths.j0 : Nat → Int → Bool → Option (Int × Int)
  | 0, _, _ => none
  | k + 1, x4, x7 => if x7 = true then (some (2, 0)) else (if x4 = 24 then (code_widths.j1 k x4 (x4 == 24)) else (code_widths.j1 k x4 (x4 == 25)))
def code_widths.j1 : Nat → Int → Bool → Option (Int × Int)
  | 0, _, _ => none
  | k + 1, x4, x10 => if x10 = true then (some (1, 1)) else (if x4 = 2 then (code_widths.j2 k x4 (x4 == 2)) else (if x4 = 4 then (code_widths.j2 k x4 (x4 == 4)) else (code_widths.j2 k x4 (x4 == 5))))
def code_widths.j2 : Nat → Int → Bool → Option (Int × Int)
  | 0, _, _ => none
  | k + 1, x4, x13 => if x13 = true then (some (1, 0)) else (if x4 = 21 then (some (1, 0)) else (if x4 = 23 then (some (1, 0)) else (if x4 = 30 then (some (1, 0)) else (if x4 = 31 then (some (1, 0)) else (if x4 = 32 then (some (1, 0)) else (some (0, 0)))))))
end
def code_widths.f (k : Nat) (a0 : Int) : Option (Int × Int) := if a0 = 1 then (some (4, 0)) else (if a0 = 19 then (code_widths.j0 k a0 (a0 == 19)) else (code_widths.j0 k a0 (a0 == 20)))
theorem code_widths.mono_l : ∀ k, (∀ y0 y1, LeO (code_widths.j0 k y0 y1) (code_widths.j0 (k + 1) y0 y1)) ∧ (∀ y0 y1, LeO (code_widths.j1 k y0 y1) (code_widths.j1 (k + 1) y0 y1)) ∧ (∀ y0 y1, LeO (code_widths.j2 k y0 y1) (code_widths.j2 (k + 1) y0 y1))
  | 0 => ⟨fun _ _ r h => by simp [code_widths.j0] at h, fun _ _ r h => by simp [code_widths.j1] at h, fun _ _ r h => by simp [code_widths.j2] at h⟩
  | k + 1 => by
    obtain ⟨ih0, ih1, ih2⟩ := code_widths.mono_l k
    refine ⟨?_, ?_, ?_⟩
    · intro y0 y1
      unfold code_widths.j0
      repeat' first
      | (with_reducible exact ih0 _ _)
      | (with_reducible exact ih1 _ _)
      | (with_reducible exact ih2 _ _)
      | (with_reducible exact LeO.refl _)
      | (with_reducible exact LeO.none _)
      | (with_reducible refine LeO.ite ?_ ?_)
      | (with_reducible refine LeO.bind ?_ (fun _ => ?_))
      | exact ih0 _ _
      | exact ih1 _ _
      | exact ih2 _ _
      | exact LeO.none _
      | refine LeO.ite ?_ ?_
      | refine LeO.bind ?_ (fun _ => ?_)
    · intro y0 y1
      unfold code_widths.j1
      repeat' first
      | (with_reducible exact ih0 _ _)
      | (with_reducible exact ih1 _ _)
      | (with_reducible exact ih2 _ _)
      | (with_reducible exact LeO.refl _)
      | (with_reducible exact LeO.none _)
      | (with_reducible refine LeO.ite ?_ ?_)
      | (with_reducible refine LeO.bind ?_ (fun _ => ?_))
      | exact ih0 _ _
      | exact ih1 _ _
      | exact ih2 _ _
      | exact LeO.none _
      | refine LeO.ite ?_ ?_
      | refine LeO.bind ?_ (fun _ => ?_)
    · intro y0 y1
      unfold code_widths.j2
      repeat' first
      | (with_reducible exact ih0 _ _)
      | (with_reducible exact ih1 _ _)
      | (with_reducible exact ih2 _ _)
      | (with_reducible exact LeO.refl _)
      | (with_reducible exact LeO.none _)
      | (with_reducible refine LeO.ite ?_ ?_)
      | (with_reducible refine LeO.bind ?_ (fun _ => ?_))
      | exact ih0 _ _
      | exact ih1 _ _
      | exact ih2 _ _
      | exact LeO.none _
      | refine LeO.ite ?_ ?_
      | refine LeO.bind ?_ (fun _ => ?_)
theorem code_widths.mono : ∀ a0 k, LeO (code_widths.f k a0) (code_widths.f (k + 1) a0) := by
  intro a0 k
  obtain ⟨ih0, ih1, ih2⟩ := code_widths.mono_l k
  unfold code_widths.f
  repeat' first
      | (with_reducible exact ih0 _ _)
      | (with_reducible exact ih1 _ _)
      | (with_reducible exact ih2 _ _)
      | (with_reducible exact LeO.refl _)
      | (with_reducible exact LeO.none _)
      | (with_reducible refine LeO.ite ?_ ?_)
      | (with_reducible refine LeO.bind ?_ (fun _ => ?_))
      | exact ih0 _ _
      | exact ih1 _ _
      | exact ih2 _ _
      | exact LeO.none _
      | refine LeO.ite ?_ ?_
      | refine LeO.bind ?_ (fun _ => ?_)
set_option maxHeartbeats 8000000 in
set_option maxRecDepth 100000 in
theorem code_widths.calls (k : Nat) (a0 : Int) (r1 : Int) (r2 : Int) (w : World) (h : code_widths.f k a0 = some (r1, r2)) :
    Calls Try.prog 68 #[.int .u8 a0] w fun e w' => e = .returned (.tuple #[.int .i64 r1, .int .i64 r2]) ∧ Drawn0 w w' := by
  have H : (if a0 = 1 then (some (4, 0)) else (if a0 = 19 then (code_widths.j0 k a0 (a0 == 19)) else (code_widths.j0 k a0 (a0 == 20)))) = some (r1, r2) := h
  clear h
  by_cases c2 : a0 = 1
  · rw [if_pos c2] at H
    have c2b0 : (a0 == 1) = true := beq_iff_eq.mpr c2
    have c2b1 : (a0 != 1) = false := bne_eq_false_iff_eq.mpr c2
    clear c2
    simp only [Option.some.injEq, Prod.mk.injEq] at H
    obtain ⟨rfl, rfl⟩ := H
    go_enter Try.func68, Try.ntmps68
    go_wp2
    go_ret2
    exact ⟨by first | rfl | (simp; done) | (simp [*]; done), by repeat (first | exact Drawn0.refl _ | apply Drawn0.step)⟩
  · rw [if_neg c2] at H
    have c2b0 : (a0 == 1) = false := beq_eq_false_iff_ne.mpr c2
    have c2b1 : (a0 != 1) = true := bne_iff_ne.mpr c2
    have HC3 := Aside0.mk H
    clear H
    go_enter Try.func68, Try.ntmps68
    go_upto_if 7 with (fail)
    go_cut [7] (fun v7 wc => ∃ (kq : Nat) (x7_2 : Bool), v7 = .bool x7_2 ∧ Aside0 (code_widths.j0 kq a0 x7_2 = some (r1, r2)) ∧ Aside0 (kq ≤ k) ∧ Drawn0 w wc)
    case first =>
      have H := HC3.out
      clear HC3
      by_cases c4 : a0 = 19
      · rw [if_pos c4] at H
        have c4b0 : (a0 == 19) = true := beq_iff_eq.mpr c4
        have c4b1 : (a0 != 19) = false := bne_eq_false_iff_eq.mpr c4
        clear c4
        (first | rw [c4b0] | (simp only [i64_w, i32_w]; rw [c4b0]) | skip)
        have H' := Aside0.mk H
        clear H
        go_wp2
        go_meet
        case rel => exact ⟨_, ((a0 == 19)), (by first | rfl | (simp; done) | (simp [*]; done)), H', ⟨by first | omega | exact Nat.le_refl _⟩, by repeat (first | exact Drawn0.refl _ | apply Drawn0.step)⟩
      · rw [if_neg c4] at H
        have c4b0 : (a0 == 19) = false := beq_eq_false_iff_ne.mpr c4
        have c4b1 : (a0 != 19) = true := bne_iff_ne.mpr c4
        (first | rw [c4b0] | (simp only [i64_w, i32_w]; rw [c4b0]) | skip)
        have H' := Aside0.mk H
        clear H
        go_wp2
        go_meet
        case rel => exact ⟨_, ((a0 == 20)), (by first | rfl | (simp; done) | (simp [*]; done)), H', ⟨by first | omega | exact Nat.le_refl _⟩, by repeat (first | exact Drawn0.refl _ | apply Drawn0.step)⟩
    case rest =>
      clear HC3
      try clear c2
      try clear c2b0
      try clear c2b1
      try clear p2
      try clear c4
      try clear c4b0
      try clear c4b1
      obtain ⟨kq, x7_2, rfl, HA, HJ2, ⟨mc2, rfl⟩⟩ := hcut
      cases kq with
      | zero => exact absurd HA.out (by simp [code_widths.j0])
      | succ kj2 =>
        have H := HA.out
        clear HA
        simp only [code_widths.j0] at H
        by_cases c5 : x7_2 = true
        · subst c5
          have H1 : (some (2, 0)) = some (r1, r2) := by rw [if_pos rfl] at H; exact H
          clear H
          have H := H1
          clear H1
          simp only [Option.some.injEq, Prod.mk.injEq] at H
          obtain ⟨rfl, rfl⟩ := H
          go_wp2
          go_ret2
          exact ⟨by first | rfl | (simp; done) | (simp [*]; done), by repeat (first | exact Drawn0.refl _ | apply Drawn0.step)⟩
        · replace c5 := Bool.eq_false_iff.mpr c5
          subst c5
          have H1 : (if a0 = 24 then (code_widths.j1 kj2 a0 (a0 == 24)) else (code_widths.j1 kj2 a0 (a0 == 25))) = some (r1, r2) := by rw [if_neg (show ¬ (false = true) by decide)] at H; exact H
          clear H
          have H := H1
          clear H1
          have HC6 := Aside0.mk H
          clear H
          go_upto_if 10 with (fail)
          go_cut [10] (fun v10 wc => ∃ (kq : Nat) (x10_5 : Bool), v10 = .bool x10_5 ∧ Aside0 (code_widths.j1 kq a0 x10_5 = some (r1, r2)) ∧ Aside0 (kq ≤ kj2) ∧ Drawn0 w wc)
          case first =>
            have H := HC6.out
            clear HC6
            by_cases c7 : a0 = 24
            · rw [if_pos c7] at H
              have c7b0 : (a0 == 24) = true := beq_iff_eq.mpr c7
              have c7b1 : (a0 != 24) = false := bne_eq_false_iff_eq.mpr c7
              clear c7
              (first | rw [c7b0] | (simp only [i64_w, i32_w]; rw [c7b0]) | skip)
              have H' := Aside0.mk H
              clear H
              go_wp2
              go_meet
              case rel => exact ⟨_, ((a0 == 24)), (by first | rfl | (simp; done) | (simp [*]; done)), H', ⟨by have := HJ2.out; first | omega | exact Nat.le_refl _⟩, by repeat (first | exact Drawn0.refl _ | apply Drawn0.step)⟩
            · rw [if_neg c7] at H
              have c7b0 : (a0 == 24) = false := beq_eq_false_iff_ne.mpr c7
              have c7b1 : (a0 != 24) = true := bne_iff_ne.mpr c7
              (first | rw [c7b0] | (simp only [i64_w, i32_w]; rw [c7b0]) | skip)
              have H' := Aside0.mk H
              clear H
              go_wp2
              go_meet
              case rel => exact ⟨_, ((a0 == 25)), (by first | rfl | (simp; done) | (simp [*]; done)), H', ⟨by have := HJ2.out; first | omega | exact Nat.le_refl _⟩, by repeat (first | exact Drawn0.refl _ | apply Drawn0.step)⟩
          case rest =>
            clear HC6
            try clear c2
            try clear c2b0
            try clear c2b1
            try clear p2
            try clear c4
            try clear c4b0
            try clear c4b1
            try clear c5
            try clear c6
            try clear c7
            try clear c7b0
            try clear c7b1
            try clear p2
            obtain ⟨kq, x10_5, rfl, HA, HJ5, ⟨mc5, rfl⟩⟩ := hcut
            cases kq with
            | zero => exact absurd HA.out (by simp [code_widths.j1])
            | succ kj5 =>
              have H := HA.out
              clear HA
              simp only [code_widths.j1] at H
              by_cases c8 : x10_5 = true
              · subst c8
                have H1 : (some (1, 1)) = some (r1, r2) := by rw [if_pos rfl] at H; exact H
                clear H
                have H := H1
                clear H1
                simp only [Option.some.injEq, Prod.mk.injEq] at H
                obtain ⟨rfl, rfl⟩ := H
                go_wp2
                go_ret2
                exact ⟨by first | rfl | (simp; done) | (simp [*]; done), by repeat (first | exact Drawn0.refl _ | apply Drawn0.step)⟩
              · replace c8 := Bool.eq_false_iff.mpr c8
                subst c8
                have H1 : (if a0 = 2 then (code_widths.j2 kj5 a0 (a0 == 2)) else (if a0 = 4 then (code_widths.j2 kj5 a0 (a0 == 4)) else (code_widths.j2 kj5 a0 (a0 == 5)))) = some (r1, r2) := by rw [if_neg (show ¬ (false = true) by decide)] at H; exact H
                clear H
                have H := H1
                clear H1
                have HC9 := Aside0.mk H
                clear H
                go_upto_if 13 with (fail)
                go_cut [13] (fun v13 wc => ∃ (kq : Nat) (x13_8 : Bool), v13 = .bool x13_8 ∧ Aside0 (code_widths.j2 kq a0 x13_8 = some (r1, r2)) ∧ Aside0 (kq ≤ kj5) ∧ Drawn0 w wc)
                case first =>
                  have H := HC9.out
                  clear HC9
                  by_cases c10 : a0 = 2
                  · rw [if_pos c10] at H
                    have c10b0 : (a0 == 2) = true := beq_iff_eq.mpr c10
                    have c10b1 : (a0 != 2) = false := bne_eq_false_iff_eq.mpr c10
                    clear c10
                    (first | rw [c10b0] | (simp only [i64_w, i32_w]; rw [c10b0]) | skip)
                    have H' := Aside0.mk H
                    clear H
                    go_wp2
                    go_meet
                    case rel => exact ⟨_, ((a0 == 2)), (by first | rfl | (simp; done) | (simp [*]; done)), H', ⟨by have := HJ2.out; have := HJ5.out; first | omega | exact Nat.le_refl _⟩, by repeat (first | exact Drawn0.refl _ | apply Drawn0.step)⟩
                  · rw [if_neg c10] at H
                    have c10b0 : (a0 == 2) = false := beq_eq_false_iff_ne.mpr c10
                    have c10b1 : (a0 != 2) = true := bne_iff_ne.mpr c10
                    (first | rw [c10b0] | (simp only [i64_w, i32_w]; rw [c10b0]) | skip)
                    by_cases c11 : a0 = 4
                    · rw [if_pos c11] at H
                      have c11b0 : (a0 == 4) = true := beq_iff_eq.mpr c11
                      have c11b1 : (a0 != 4) = false := bne_eq_false_iff_eq.mpr c11
                      clear c11
                      have H' := Aside0.mk H
                      clear H
                      go_wp2
                      go_meet
                      case rel => exact ⟨_, ((a0 == 4)), (by first | rfl | (simp; done) | (simp [*]; done)), H', ⟨by have := HJ2.out; have := HJ5.out; first | omega | exact Nat.le_refl _⟩, by repeat (first | exact Drawn0.refl _ | apply Drawn0.step)⟩
                    · rw [if_neg c11] at H
                      have c11b0 : (a0 == 4) = false := beq_eq_false_iff_ne.mpr c11
                      have c11b1 : (a0 != 4) = true := bne_iff_ne.mpr c11
                      have H' := Aside0.mk H
                      clear H
                      go_wp2
                      go_meet
                      case rel => exact ⟨_, ((a0 == 5)), (by first | rfl | (simp; done) | (simp [*]; done)), H', ⟨by have := HJ2.out; have := HJ5.out; first | omega | exact Nat.le_refl _⟩, by repeat (first | exact Drawn0.refl _ | apply Drawn0.step)⟩
                case rest =>
                  clear HC9
                  try clear c1
                  try clear c2
                  try clear c2b0
                  try clear c2b1
                  try clear p2
                  try clear c4
                  try clear c4b0
                  try clear c4b1
                  try clear c5
                  try clear c6
                  try clear c7
                  try clear c7b0
                  try clear c7b1
                  try clear c8
                  try clear c10
                  try clear c10b0
                  try clear c10b1
                  try clear c11
                  try clear c11b0
                  try clear c11b1
                  try clear p2
                  obtain ⟨kq, x13_8, rfl, HA, HJ8, ⟨mc8, rfl⟩⟩ := hcut
                  cases kq with
                  | zero => exact absurd HA.out (by simp [code_widths.j2])
                  | succ kj8 =>
                    have H := HA.out
                    clear HA
                    simp only [code_widths.j2] at H
                    by_cases c12 : x13_8 = true
                    · subst c12
                      have H1 : (some (1, 0)) = some (r1, r2) := by rw [if_pos rfl] at H; exact H
                      clear H
                      have H := H1
                      clear H1
                      simp only [Option.some.injEq, Prod.mk.injEq] at H
                      obtain ⟨rfl, rfl⟩ := H
                      go_wp2
                      go_ret2
                      exact ⟨by first | rfl | (simp; done) | (simp [*]; done), by repeat (first | exact Drawn0.refl _ | apply Drawn0.step)⟩
                    · replace c12 := Bool.eq_false_iff.mpr c12
                      subst c12
                      have H1 : (if a0 = 21 then (some (1, 0)) else (if a0 = 23 then (some (1, 0)) else (if a0 = 30 then (some (1, 0)) else (if a0 = 31 then (some (1, 0)) else (if a0 = 32 then (some (1, 0)) else (some (0, 0))))))) = some (r1, r2) := by rw [if_neg (show ¬ (false = true) by decide)] at H; exact H
                      clear H
                      have H := H1
                      clear H1
                      by_cases c13 : a0 = 21
                      · rw [if_pos c13] at H
                        have c13b0 : (a0 == 21) = true := beq_iff_eq.mpr c13
                        have c13b1 : (a0 != 21) = false := bne_eq_false_iff_eq.mpr c13
                        clear c13
                        simp only [Option.some.injEq, Prod.mk.injEq] at H
                        obtain ⟨rfl, rfl⟩ := H
                        go_wp2
                        go_ret2
                        exact ⟨by first | rfl | (simp; done) | (simp [*]; done), by repeat (first | exact Drawn0.refl _ | apply Drawn0.step)⟩
                      · rw [if_neg c13] at H
                        have c13b0 : (a0 == 21) = false := beq_eq_false_iff_ne.mpr c13
                        have c13b1 : (a0 != 21) = true := bne_iff_ne.mpr c13
                        by_cases c14 : a0 = 23
                        · rw [if_pos c14] at H
                          have c14b0 : (a0 == 23) = true := beq_iff_eq.mpr c14
                          have c14b1 : (a0 != 23) = false := bne_eq_false_iff_eq.mpr c14
                          clear c14
                          simp only [Option.some.injEq, Prod.mk.injEq] at H
                          obtain ⟨rfl, rfl⟩ := H
                          go_wp2
                          go_ret2
                          exact ⟨by first | rfl | (simp; done) | (simp [*]; done), by repeat (first | exact Drawn0.refl _ | apply Drawn0.step)⟩
                        · rw [if_neg c14] at H
                          have c14b0 : (a0 == 23) = false := beq_eq_false_iff_ne.mpr c14
                          have c14b1 : (a0 != 23) = true := bne_iff_ne.mpr c14
                          by_cases c15 : a0 = 30
                          · rw [if_pos c15] at H
                            have c15b0 : (a0 == 30) = true := beq_iff_eq.mpr c15
                            have c15b1 : (a0 != 30) = false := bne_eq_false_iff_eq.mpr c15
                            clear c15
                            simp only [Option.some.injEq, Prod.mk.injEq] at H
                            obtain ⟨rfl, rfl⟩ := H
                            go_wp2
                            go_ret2
                            exact ⟨by first | rfl | (simp; done) | (simp [*]; done), by repeat (first | exact Drawn0.refl _ | apply Drawn0.step)⟩
                          · rw [if_neg c15] at H
                            have c15b0 : (a0 == 30) = false := beq_eq_false_iff_ne.mpr c15
                            have c15b1 : (a0 != 30) = true := bne_iff_ne.mpr c15
                            by_cases c16 : a0 = 31
                            · rw [if_pos c16] at H
                              have c16b0 : (a0 == 31) = true := beq_iff_eq.mpr c16
                              have c16b1 : (a0 != 31) = false := bne_eq_false_iff_eq.mpr c16
                              clear c16
                              simp only [Option.some.injEq, Prod.mk.injEq] at H
                              obtain ⟨rfl, rfl⟩ := H
                              go_wp2
                              go_ret2
                              exact ⟨by first | rfl | (simp; done) | (simp [*]; done), by repeat (first | exact Drawn0.refl _ | apply Drawn0.step)⟩
                            · rw [if_neg c16] at H
                              have c16b0 : (a0 == 31) = false := beq_eq_false_iff_ne.mpr c16
                              have c16b1 : (a0 != 31) = true := bne_iff_ne.mpr c16
                              by_cases c17 : a0 = 32
                              · rw [if_pos c17] at H
                                have c17b0 : (a0 == 32) = true := beq_iff_eq.mpr c17
                                have c17b1 : (a0 != 32) = false := bne_eq_false_iff_eq.mpr c17
                                clear c17
                                simp only [Option.some.injEq, Prod.mk.injEq] at H
                                obtain ⟨rfl, rfl⟩ := H
                                go_wp2
                                go_ret2
                                exact ⟨by first | rfl | (simp; done) | (simp [*]; done), by repeat (first | exact Drawn0.refl _ | apply Drawn0.step)⟩
                              · rw [if_neg c17] at H
                                have c17b0 : (a0 == 32) = false := beq_eq_false_iff_ne.mpr c17
                                have c17b1 : (a0 != 32) = true := bne_iff_ne.mpr c17
                                simp only [Option.some.injEq, Prod.mk.injEq] at H
                                obtain ⟨rfl, rfl⟩ := H
                                go_wp2
                                go_ret2
                                exact ⟨by first | rfl | (simp; done) | (simp [*]; done), by repeat (first | exact Drawn0.refl _ | apply Drawn0.step)⟩

section
variable {P : Program} {ops : Array Oper} {rest : List Oper} {o : Oper} {a : Act} {Q : Exit → Act → World → Prop} {K : Act → World → Prop}
structure Rws (w0 : World) (l : List (Nat × TypeId × Array Value)) (W : World) : Prop where
  lies : ∀ p ∈ l, W.heap[p.1]? = some (.cells p.2.2 p.2.1 (0, 0)) ∧ w0.heap.size ≤ p.1
  ne : (l.map Prod.fst).Nodup
  below : Below w0.heap.size w0 W
theorem Rws.nil (w : World) : Rws w [] w := ⟨fun _ h => by simp at h, by simp, Below.refl _ _⟩
theorem Rws.step {w0 W W1 : World} {l : List (Nat × TypeId × Array Value)} (h : Rws w0 l W) (hb : Below W.heap.size W W1) : Rws w0 l W1 := ⟨fun p hp => ⟨blk_below (h.lies p hp).1 hb, (h.lies p hp).2⟩, h.ne, below_step h.below hb⟩
theorem Rws.drewN {w0 W : World} {l : List (Nat × TypeId × Array Value)} (h : Rws w0 l W) (m : Nat) : Rws w0 l (W.drewN m) := h.step (pw_below_drewN (Below.refl _ _) m)
theorem Rws.mem {w0 W : World} {l : List (Nat × TypeId × Array Value)} (h : Rws w0 l W) {g : Nat} {t : TypeId} {cs : Array Value} (hm : (g, t, cs) ∈ l) : W.heap[g]? = some (.cells cs t (0, 0)) := (h.lies _ hm).1
theorem Rws.add {w0 W : World} {l : List (Nat × TypeId × Array Value)} (h : Rws w0 l W) (t : TypeId) (cs : Array Value) : Rws w0 ((W.heap.size, t, cs) :: l) (W.alloc (.cells cs t (0, 0))) := by
  have hb : Below W.heap.size W (W.alloc (.cells cs t (0, 0))) := below_alloc (Below.refl _ _) _
  refine ⟨fun p hp => ?_, ?_, below_step h.below hb⟩
  · rcases List.mem_cons.1 hp with rfl | hp
    · exact ⟨blk_new W _, h.below.size⟩
    · exact ⟨blk_below (h.lies p hp).1 hb, (h.lies p hp).2⟩
  · rw [List.map_cons, List.nodup_cons]
    refine ⟨fun hm => ?_, h.ne⟩
    obtain ⟨p, hp, e⟩ := List.mem_map.1 hm
    have := blk_lt (h.lies p hp).1
    have e : p.1 = W.heap.size := e
    omega
theorem Rws.tail {w0 W : World} {p : Nat × TypeId × Array Value} {l : List (Nat × TypeId × Array Value)} (h : Rws w0 (p :: l) W) : Rws w0 l W := ⟨fun q hq => h.lies q (List.mem_cons_of_mem _ hq), (List.nodup_cons.1 h.ne).2, h.below⟩
theorem Rws.swap {w0 W : World} {p q : Nat × TypeId × Array Value} {l : List (Nat × TypeId × Array Value)} (h : Rws w0 (p :: q :: l) W) : Rws w0 (q :: p :: l) W := ⟨fun r hr => h.lies r (by
  rcases List.mem_cons.1 hr with rfl | hr
  · exact List.mem_cons_of_mem _ List.mem_cons_self
  · rcases List.mem_cons.1 hr with rfl | hr
    · exact List.mem_cons_self
    · exact List.mem_cons_of_mem _ (List.mem_cons_of_mem _ hr)), (by
  have h1 := h.ne
  simp only [List.map_cons, List.nodup_cons, List.mem_cons, not_or] at h1 ⊢
  exact ⟨⟨fun e => h1.1.1 e.symm, h1.2.1⟩, h1.1.2, h1.2.2⟩), h.below⟩
theorem Rws.put {w0 W W1 : World} (l1 : List (Nat × TypeId × Array Value)) {l2 : List (Nat × TypeId × Array Value)} {g : Nat} {t : TypeId} {cs cs' : Array Value} (h : Rws w0 (l1 ++ (g, t, cs) :: l2) W) (hx : W1.heap[g]? = some (.cells cs' t (0, 0))) (hk : Kept W W1 (fun k => k = g)) (hb : ∀ (B : Nat) (w0 : World), B ≤ g → Below B w0 W → Below B w0 W1) : Rws w0 (l1 ++ (g, t, cs') :: l2) W1 := by
  have hn : ((l1 ++ (g, t, cs) :: l2).map Prod.fst) = ((l1 ++ (g, t, cs') :: l2).map Prod.fst) := by simp
  have hne := h.ne
  have hge := (h.lies (g, t, cs) (by simp)).2
  refine ⟨fun p hp => ?_, hn ▸ hne, hb _ _ hge h.below⟩
  have hnd : ∀ q ∈ l1 ++ l2, q.1 ≠ g := by
    rw [List.map_append, List.map_cons, List.nodup_append] at hne
    intro q hq e
    rcases List.mem_append.1 hq with hq | hq
    · exact hne.2.2 q.1 (List.mem_map.2 ⟨q, hq, rfl⟩) g (by simp) e
    · have := (List.nodup_cons.1 hne.2.1).1
      exact this (List.mem_map.2 ⟨q, hq, e⟩)
  rcases List.mem_append.1 hp with hp | hp
  · have hq := h.lies p (List.mem_append.2 (.inl hp))
    exact ⟨blk_kept hq.1 hk (fun e => hnd p (List.mem_append.2 (.inl hp)) e), hq.2⟩
  · rcases List.mem_cons.1 hp with rfl | hp
    · exact ⟨hx, hge⟩
    · have hq := h.lies p (List.mem_append.2 (.inr (List.mem_cons_of_mem _ hp)))
      exact ⟨blk_kept hq.1 hk (fun e => hnd p (List.mem_append.2 (.inr hp)) e), hq.2⟩
theorem rw_load (hgd : o.guard = none) (ty : TypeId) {x : Operand} (ho : o.op = .load ty x) {g : Nat} (hx : a.eval x = .pointer (some ⟨g, 0, none⟩)) {w0 W : World} {l : List (Nat × TypeId × Array Value)} (hl : Rws w0 l W) {cs : Array Value} (hm : (g, ty, cs) ∈ l) (d : TypeDesc) (hu : P.underlying ty = some d) (hd : (match d with | .struct _ | .array _ _ => true | _ => false) = true) (hi : (P.info? ty).map (·.size) = some cs.size)
    (h : wpList P ops Q rest (a.put o.dst (.agg cs)) W) : wpList P ops Q (o :: rest) a W :=
  wpList_load_row hgd ty x ho g hx ty cs (0, 0) d (hl.mem hm) hu hd hi h
theorem rw_box (hgd : o.guard = none) (ty : TypeId) {x : Operand} (ho : o.op = .box ty x) {cs : Array Value} (hx : a.eval x = .agg cs) {w0 W : World} {l : List (Nat × TypeId × Array Value)} (hl : Rws w0 l W)
    (h : ∀ g w1, Rws w0 ((g, ty, cs) :: l) w1 → wpList P ops Q rest (a.put o.dst (.pointer (some ⟨g, 0, none⟩))) w1) : wpList P ops Q (o :: rest) a W :=
  Kd.event_run hgd (by
    unfold execOp
    simp only [ho, hx]
    simp [Instr.box, newVar, newRow, Value.cells, Sem.run_bind]) (h W.heap.size _ (hl.add ty cs))
theorem rw_alloc_wp (ty : TypeId) (ho : o.op = .alloc ty) {cs : Array Value} (hz : (P.info? ty).map (·.zero) = some (some (.agg cs))) {w0 W : World} {l : List (Nat × TypeId × Array Value)} (hl : Rws w0 l W)
    (h : ∀ g w1, g = W.heap.size → Rws w0 ((g, ty, cs) :: l) w1 → Below W.heap.size W w1 → K (a.put o.dst (.pointer (some ⟨g, 0, none⟩))) w1) : Oper.wp P o a W K Q := by
  have hrun : (execOp a.eval o).run P W = .ok (.value (.pointer (some ⟨W.heap.size, 0, none⟩))) (W.alloc (.cells cs ty (0, 0))) := by
    unfold execOp
    cases hq : P.info? ty with
    | none => simp [hq] at hz
    | some i =>
      have hs : i.zero = some (.agg cs) := by simpa [hq] using hz
      simp only [ho]
      simp [Instr.alloc, zeroValue, typeInfo, hq, hs, newVar, newRow, Value.cells, Sem.run_bind]
  have hw := h W.heap.size _ rfl (hl.add ty cs) (below_alloc (Below.refl _ _) _)
  unfold Oper.wp
  rw [hrun]
  exact hw
theorem rw_store_wp (ty : TypeId) {x y : Operand} (ho : o.op = .store ty x y) {g : Nat} (hx : a.eval x = .pointer (some ⟨g, 0, none⟩)) {cs' : Array Value} (hy : a.eval y = .agg cs') {w0 W : World} (l1 : List (Nat × TypeId × Array Value)) {l2 : List (Nat × TypeId × Array Value)} {cs : Array Value} (hl : Rws w0 (l1 ++ (g, ty, cs) :: l2) W) (hi : (P.info? ty).map (·.size) = some cs'.size) (hs : cs.size = cs'.size) (h1 : cs'.all (·.oneCell') = true)
    (h : ∀ w1, Rws w0 (l1 ++ (g, ty, cs') :: l2) w1 → Kept W w1 (fun k => k = g) → K (a.put o.dst undef) w1) : Oper.wp P o a W K Q := by
  have hg := hl.mem (g := g) (t := ty) (cs := cs) (by simp)
  have hrun := run_storeVar_row W g ty ty cs cs' hg hi hs h1
  have hk : Kept W (W.setRow g cs') (fun k => k = g) := ⟨by simp, fun i _ hn => setRow_other W g i cs' hn⟩
  unfold Oper.wp execOp
  simp only [ho, hx, hy, Instr.storeAt, Instr.sureAddr, Sem.run_bind, Sem.run_pure, Result.andThen_ok, hrun]
  exact h _ (hl.put l1 (setRow_heap W g cs cs' ty (0, 0) hg) hk (fun B w0 hB hw => ⟨hw.os, hw.tape, hw.output, by simpa using hw.size, fun k hk => (setRow_other W g k cs' (by omega)).trans (hw.block k hk)⟩)) hk
theorem take_dst {S : World → Prop} {md : Region.Mode} {i : Nat} (N : Tmp) {oi : Oper} {v : Value} {fuel : Nat} {listed : Array Bool} {a : Act} {w : World} (hi : ops[i]? = some oi) (hN : oi.dst = some N)
    (hs : Region.noSelect ops = true) (hf : Region.free md ops listed i = true) (hr : (Region.ready md ops listed).contains i = true)
    (hQ : ∀ c a w, Q (.panic c) (a.put (some N) v) w → Q (.panic c) a w) (hy : YieldsIf P ops S oi v a) (hS : S w)
    (h : wpAnyH P md ops Q S fuel (listed.setIfInBounds i true) (a.put (some N) v) w) : wpAnyH P md ops Q S (fuel + 1) listed a w :=
  wpAnyH_take hi hs hf hr (by rw [hN]; exact hQ) hy hS (by rw [hN]; exact h)
end
section
variable {P : Program} {ops : Array Oper} {rest : List Oper} {o : Oper} {a : Act} {Q : Exit → Act → World → Prop} {K : Act → World → Prop}
theorem one_cells {u : Value} (h : u.oneCell' = true) : u.cells = #[u] := by cases u <;> first | rfl | cases h
theorem Rws.set {w0 W : World} (l1 : List (Nat × TypeId × Array Value)) {l2 : List (Nat × TypeId × Array Value)} {g : Nat} {t : TypeId} {cs : Array Value} (h : Rws w0 (l1 ++ (g, t, cs) :: l2) W) (i : Nat) (u : Value) : Rws w0 (l1 ++ (g, t, cs.setIfInBounds i u) :: l2) (W.setCell ⟨g, i, none⟩ u) :=
  h.put l1 (blk_set (h.mem (g := g) (t := t) (cs := cs) (by simp)) i u) ⟨by simp [World.setCell], fun k _ hn => Below.heap_setCell W ⟨g, i, none⟩ u k hn⟩ (fun B w0 hB hb => hb.setCell hB u)
theorem set_kept (W : World) (g i : Nat) (u : Value) : Kept W (W.setCell ⟨g, i, none⟩ u) (fun k => k = g) := ⟨by simp [World.setCell], fun k _ hn => Below.heap_setCell W ⟨g, i, none⟩ u k hn⟩
theorem run_store_one_cell (ty : TypeId) {W : World} {g i : Nat} {t : TypeId} {cs : Array Value} {u : Value} (hg : W.heap[g]? = some (.cells cs t (0, 0))) (hi : i < cs.size) (hu : u.oneCell' = true) (hsz : (P.info? ty).map (·.size) = some 1) : (storeVar ty ⟨g, i, none⟩ u).run P W = .ok () (W.setCell ⟨g, i, none⟩ u) := by
  have h1 := run_store P W ⟨g, i, none⟩ u .plain hu
  rw [blk_cell hg i, blk_frozen hg i, Array.getElem?_eq_getElem hi] at h1
  cases hq : P.info? ty with
  | none => simp [hq] at hsz
  | some j =>
    have hs : j.size = 1 := by simpa [hq] using hsz
    have := run_storeCells_cells (P := P) g i [u] 0 W (fun j hj => by simp at hj; subst hj; simp only [Nat.add_zero]; rw [blk_cell hg i, Array.getElem?_eq_getElem hi]; rfl) (fun j hj => by simp at hj; subst hj; simp only [Nat.add_zero]; rw [blk_frozen hg i]) (fun v hv => by simp at hv; subst hv; exact hu)
    simp only [Nat.add_zero] at this
    simp [storeVar, sizeOf, typeInfo, hq, one_cells hu, hs, this, World.setCells]
theorem rw_cell_wp (ty : TypeId) {x y : Operand} (ho : o.op = .store ty x y) {g i : Nat} (hx : a.eval x = .pointer (some ⟨g, i, none⟩)) {u : Value} (hy : a.eval y = u) (hu : u.oneCell' = true) {w0 W : World} (l1 : List (Nat × TypeId × Array Value)) {l2 : List (Nat × TypeId × Array Value)} {t : TypeId} {cs : Array Value} (hl : Rws w0 (l1 ++ (g, t, cs) :: l2) W) (hi : i < cs.size) (hsz : (P.info? ty).map (·.size) = some 1)
    (h : ∀ w1, Rws w0 (l1 ++ (g, t, cs.setIfInBounds i u) :: l2) w1 → Kept W w1 (fun k => k = g) → K (a.put o.dst undef) w1) : Oper.wp P o a W K Q := by
  have hrun := run_store_one_cell (P := P) ty (hl.mem (g := g) (t := t) (cs := cs) (by simp)) hi hu hsz
  unfold Oper.wp execOp
  simp only [ho, hx, hy, Instr.storeAt, Instr.sureAddr, Sem.run_bind, Sem.run_pure, Result.andThen_ok, hrun]
  exact h _ (hl.set l1 i u) (set_kept W g i u)
theorem rw_cell (hgd : o.guard = none) (ty : TypeId) {x y : Operand} (ho : o.op = .store ty x y) {g i : Nat} (hx : a.eval x = .pointer (some ⟨g, i, none⟩)) {u : Value} (hy : a.eval y = u) (hu : u.oneCell' = true) {w0 W : World} (l1 : List (Nat × TypeId × Array Value)) {l2 : List (Nat × TypeId × Array Value)} {t : TypeId} {cs : Array Value} (hl : Rws w0 (l1 ++ (g, t, cs) :: l2) W) (hi : i < cs.size) (hsz : (P.info? ty).map (·.size) = some 1)
    (h : ∀ w1, Rws w0 (l1 ++ (g, t, cs.setIfInBounds i u) :: l2) w1 → Kept W w1 (fun k => k = g) → wpList P ops Q rest (a.put o.dst undef) w1) : wpList P ops Q (o :: rest) a W :=
  wpList_plain hgd fun _ hK => rw_cell_wp ty ho hx hy hu l1 hl hi hsz (fun w1 hX hk => hK _ _ (h w1 hX hk))
theorem rw_alloc1 (hgd : o.guard = none) (ty : TypeId) (ho : o.op = .alloc ty) {z : Value} (hz : (P.info? ty).map (·.zero) = some (some z)) (h1 : z.oneCell' = true) {w0 W : World} {l : List (Nat × TypeId × Array Value)} (hl : Rws w0 l W)
    (h : ∀ g w1, g = W.heap.size → Rws w0 ((g, ty, #[z]) :: l) w1 → Below W.heap.size W w1 → wpList P ops Q rest (a.put o.dst (.pointer (some ⟨g, 0, none⟩))) w1) : wpList P ops Q (o :: rest) a W :=
  Kd.event_run hgd (by
    unfold execOp
    cases hq : P.info? ty with
    | none => simp [hq] at hz
    | some i =>
      have hs : i.zero = some z := by simpa [hq] using hz
      simp only [ho]
      simp [Instr.alloc, zeroValue, typeInfo, hq, hs, newVar, newRow, one_cells h1, Sem.run_bind]) (h W.heap.size _ rfl (hl.add ty #[z]) (below_alloc (Below.refl _ _) _))
end
section
variable {P : Program} {ops : Array Oper} {rest : List Oper} {o : Oper} {a : Act} {Q : Exit → Act → World → Prop}
theorem rw_alloc (hgd : o.guard = none) (ty : TypeId) (ho : o.op = .alloc ty) {cs : Array Value} (hz : (P.info? ty).map (·.zero) = some (some (.agg cs))) {w0 W : World} {l : List (Nat × TypeId × Array Value)} (hl : Rws w0 l W)
    (h : ∀ g w1, g = W.heap.size → Rws w0 ((g, ty, cs) :: l) w1 → Below W.heap.size W w1 → wpList P ops Q rest (a.put o.dst (.pointer (some ⟨g, 0, none⟩))) w1) : wpList P ops Q (o :: rest) a W :=
  wpList_plain hgd fun _ hK => rw_alloc_wp ty ho hz hl (fun g w1 hg hX hb => hK _ _ (h g w1 hg hX hb))
theorem rw_store (hgd : o.guard = none) (ty : TypeId) {x y : Operand} (ho : o.op = .store ty x y) {g : Nat} (hx : a.eval x = .pointer (some ⟨g, 0, none⟩)) {cs' : Array Value} (hy : a.eval y = .agg cs') {w0 W : World} (l1 : List (Nat × TypeId × Array Value)) {l2 : List (Nat × TypeId × Array Value)} {cs : Array Value} (hl : Rws w0 (l1 ++ (g, ty, cs) :: l2) W) (hi : (P.info? ty).map (·.size) = some cs'.size) (hs : cs.size = cs'.size) (h1 : cs'.all (·.oneCell') = true)
    (h : ∀ w1, Rws w0 (l1 ++ (g, ty, cs') :: l2) w1 → Kept W w1 (fun k => k = g) → wpList P ops Q rest (a.put o.dst undef) w1) : wpList P ops Q (o :: rest) a W :=
  wpList_plain hgd fun _ hK => rw_store_wp ty ho hx hy l1 hl hi hs h1 (fun w1 hX hk => hK _ _ (h w1 hX hk))
end
theorem mkeyed : Go.Maps.Keyed Try.prog 3 := Go.Maps.int_keyed Try.underlying3
theorem mzero (w : World) : (zeroValue 3).run Try.prog w = .ok (.int .i64 0) w := by kernel_rfl
def I64 (x : Int) : Prop := -9223372036854775808 ≤ x ∧ x ≤ 9223372036854775807
theorem I64.wf {x : Int} (h : I64 x) : (Lit.int .i64 x).wf = true := WalkArith.wf_i64 h
def IMap (W : World) (B n : Nat) (g : Int → Option Int) : Prop := ∃ D : DataW Unit, W.ownsMap Try.prog 3 (plainElem Try.prog 3) B n D ∧ (∀ x, Maps.has D (.int .i64 x) = (g x).isSome) ∧ (∀ x c, g x = some c → ∀ z, D.atKey (.int .i64 x) z = .lit (.int .i64 c))
def upd (g : Int → Option Int) (x v : Int) : Int → Option Int := fun y => if y = x then some v else g y
theorem IMap.made (w : World) : IMap (w.alloc (.map #[] 0)) w.heap.size 0 (fun _ => none) := ⟨.map [], World.ownsMap_made _ _ _ _, fun _ => rfl, fun _ _ h => by cases h⟩
theorem IMap.block {W W1 : World} {B n : Nat} {g : Int → Option Int} (h : IMap W B n g) (hb : W1.heap[B]? = W.heap[B]?) : IMap W1 B n g := by
  obtain ⟨D, ⟨es, clock, h1, h2⟩, h3⟩ := h
  exact ⟨D, ⟨es, clock, hb.trans h1, h2⟩, h3⟩
theorem IMap.lt {W : World} {B n : Nat} {g : Int → Option Int} (h : IMap W B n g) : B < W.heap.size := by
  obtain ⟨D, h1, _⟩ := h
  exact h1.lt
theorem IMap.is {W : World} {B n : Nat} {g : Int → Option Int} (h : IMap W B n g) : ∃ es clock, W.heap[B]? = some (.map es clock) := by
  obtain ⟨D, ⟨es, clock, h1, _⟩, _⟩ := h
  exact ⟨es, clock, h1⟩
theorem IMap.below {W W1 : World} {B n : Nat} {g : Int → Option Int} (h : IMap W B n g) (hb : Below W.heap.size W W1) : IMap W1 B n g := h.block (hb.block B h.lt)
theorem IMap.grown {W W1 : World} {B n : Nat} {g : Int → Option Int} (h : IMap W B n g) {row : Option Nat} (hg : W.grownBy W1 row) (hne : some B ≠ row) : IMap W1 B n g := h.block (hg.block B h.lt hne)
theorem IMap.mono {W : World} {B n n' : Nat} {g : Int → Option Int} (h : IMap W B n g) (hn : n ≤ n') : IMap W B n' g := by
  obtain ⟨D, h1, h2⟩ := h
  exact ⟨D, h1.mono hn, h2⟩
theorem IMap.ne {W : World} {B n : Nat} {g : Int → Option Int} (h : IMap W B n g) {b : Nat} {cs : Array Value} {t : TypeId} {fr : Nat × Nat} (hb : W.heap[b]? = some (.cells cs t fr)) : B ≠ b := fun e => by
  obtain ⟨es, clock, h1⟩ := h.is
  rw [e, hb] at h1
  cases h1
theorem upd_has {D : DataW Unit} {g : Int → Option Int} {x v : Int} (hm : Maps.IsMap D) (h1 : ∀ x, Maps.has D (.int .i64 x) = (g x).isSome) (h2 : ∀ x c, g x = some c → ∀ z, D.atKey (.int .i64 x) z = .lit (.int .i64 c)) :
    (∀ y, Maps.has (D.put (.int .i64 x) (.lit (.int .i64 v))) (.int .i64 y) = (upd g x v y).isSome) ∧ (∀ y c, upd g x v y = some c → ∀ z, (D.put (.int .i64 x) (.lit (.int .i64 v))).atKey (.int .i64 y) z = .lit (.int .i64 c)) := by
  have hk : WideAt.IsKeyLit (.int .i64 x) := trivial
  refine ⟨fun y => ?_, fun y c hy z => ?_⟩
  · unfold upd
    by_cases e : y = x
    · rw [if_pos e, e, Maps.has_put_same hm hk]; rfl
    · rw [if_neg e, Maps.has_put_other (fun e' => e (by cases e'; rfl)), h1]
  · unfold upd at hy
    by_cases e : y = x
    · rw [if_pos e] at hy
      cases hy
      rw [e, Maps.atKey_put_same hm hk]
    · rw [if_neg e] at hy
      rw [Maps.atKey_put_other (fun e' => e (by cases e'; rfl)), h2 y c hy]
theorem IMap.store {W1 : World} {B n : Nat} {g : Int → Option Int} {D : DataW Unit} {x v : Int} (hm : Maps.IsMap D) (h1 : ∀ x, Maps.has D (.int .i64 x) = (g x).isSome) (h2 : ∀ x c, g x = some c → ∀ z, D.atKey (.int .i64 x) z = .lit (.int .i64 c))
    (h : W1.ownsMap Try.prog 3 (plainElem Try.prog 3) B n (D.put (.int .i64 x) (.lit (.int .i64 v)))) : IMap W1 B n (upd g x v) := ⟨_, h, (upd_has hm h1 h2).1, (upd_has hm h1 h2).2⟩
section
variable {ops : Array Oper} {rest : List Oper} {o : Oper} {a : Act} {Q : Exit → Act → World → Prop} {K : Act → World → Prop}
theorem im_make (hgd : o.guard = none) (ho : o.op = .makeMap 68 none) {W : World} (h : IMap (W.alloc (.map #[] 0)) W.heap.size 0 (fun _ => none) → wpList Try.prog ops Q rest (a.put o.dst (.map (some W.heap.size))) (W.alloc (.map #[] 0))) : wpList Try.prog ops Q (o :: rest) a W :=
  Kd.event_run hgd (by
    unfold execOp
    simp only [ho]
    simp [run_makeMap, Sem.run_bind]) (h (IMap.made W))
theorem im_store_wp {m x v : Operand} (ho : o.op = .mapUpdate 68 m x v) {W : World} {B n : Nat} {g : Int → Option Int} (hm : a.eval m = .map (some B)) (hown : IMap W B n g) (hn : n < maxLen) {k c : Int} (hx : a.eval x = .int .i64 k) (hv : a.eval v = .int .i64 c) (hk : I64 k) (hc : I64 c)
    (h : ∀ w1, IMap w1 B (n + 1) (upd g k c) → W.grownBy w1 (some B) → K (a.put o.dst undef) w1) : Oper.wp Try.prog o a W K Q := by
  obtain ⟨D, h1, h2, h3⟩ := hown
  obtain ⟨w', hrun, r1, r2⟩ := h1.update mkeyed Try.underlying68 hn (Go.Maps.keyOf_int_mk Try.underlying3 hk.wf) (plainElem_int Try.underlying3 hc.wf)
  unfold Oper.wp
  simp [execOp, ho, hm, hx, hv, hrun, Result.andThen]
  exact h _ (IMap.store (h1.tidy mkeyed).isMap h2 h3 r1) r2
theorem im_store (hgd : o.guard = none) {m x v : Operand} (ho : o.op = .mapUpdate 68 m x v) {W : World} {B n : Nat} {g : Int → Option Int} (hm : a.eval m = .map (some B)) (hown : IMap W B n g) (hn : n < maxLen) {k c : Int} (hx : a.eval x = .int .i64 k) (hv : a.eval v = .int .i64 c) (hk : I64 k) (hc : I64 c)
    (h : ∀ w1, IMap w1 B (n + 1) (upd g k c) → W.grownBy w1 (some B) → wpList Try.prog ops Q rest (a.put o.dst undef) w1) : wpList Try.prog ops Q (o :: rest) a W :=
  wpList_plain hgd fun _ hK => im_store_wp ho hm hown hn hx hv hk hc (fun w1 r1 r2 => hK _ _ (h w1 r1 r2))
theorem im_look (hgd : o.guard = none) {m x : Operand} (ho : o.op = .lookup 68 m x false) {W : World} {B n : Nat} {g : Int → Option Int} (hm : a.eval m = .map (some B)) (hown : IMap W B n g) {k : Int} (hx : a.eval x = .int .i64 k) (hk : I64 k)
    (h : wpList Try.prog ops Q rest (a.put o.dst (.int .i64 ((g k).getD 0))) W) : wpList Try.prog ops Q (o :: rest) a W := by
  obtain ⟨D, h1, h2, h3⟩ := hown
  refine wpList_lookup_own_int W hgd m x _ ho 3 3 .i64 mkeyed Try.underlying68 Try.underlying3 (mzero _) B n D hm h1 _ _ hx (Go.Maps.keyOf_int_mk Try.underlying3 hk.wf) (fun c hat _ => ?_)
  have e : c = (g k).getD 0 := by
    cases hg : g k with
    | none =>
      have h9 := h2 k
      rw [hg] at h9
      rw [Maps.atKey_of_not_has (by simpa using h9)] at hat
      injection hat with hat
      injection hat with _ hat
      exact hat.symm
    | some d =>
      rw [h3 k d hg] at hat
      injection hat with hat
      injection hat with _ hat
      exact hat.symm
  rw [e]
  exact h
theorem im_look_ok (hgd : o.guard = none) {m x : Operand} (ho : o.op = .lookup 68 m x true) {W : World} {B n : Nat} {g : Int → Option Int} (hm : a.eval m = .map (some B)) (hown : IMap W B n g) {k : Int} (hx : a.eval x = .int .i64 k) (hk : I64 k)
    (h : wpList Try.prog ops Q rest (a.put o.dst (.tuple #[.int .i64 ((g k).getD 0), .bool (g k).isSome])) W) : wpList Try.prog ops Q (o :: rest) a W := by
  obtain ⟨D, h1, h2, h3⟩ := hown
  refine wpList_lookup_own_ok_int W hgd m x _ ho 3 3 .i64 mkeyed Try.underlying68 Try.underlying3 (mzero _) B n D hm h1 _ _ hx (Go.Maps.keyOf_int_mk Try.underlying3 hk.wf) (fun c hat _ => ?_)
  have e : c = (g k).getD 0 := by
    cases hg : g k with
    | none =>
      have h9 := h2 k
      rw [hg] at h9
      rw [Maps.atKey_of_not_has (by simpa using h9)] at hat
      injection hat with hat
      injection hat with _ hat
      exact hat.symm
    | some d =>
      rw [h3 k d hg] at hat
      injection hat with hat
      injection hat with _ hat
      exact hat.symm
  rw [e, h2 k]
  exact h
end

def firstAt : List S46 → Nat → Int → Option Int
  | [], _, _ => none
  | x :: r, i, at_ => if x.f0 = at_ then some (i : Int) else firstAt r (i + 1) at_
theorem firstAt_snoc : ∀ (l : List S46) (i : Nat) (x : S46) (y : Int), firstAt (l ++ [x]) i y = match firstAt l i y with | some v => some v | none => if x.f0 = y then some ((i + l.length : Nat) : Int) else none
  | [], i, x, y => by
    simp only [List.nil_append, firstAt, List.length_nil, Nat.add_zero]
  | z :: r, i, x, y => by
    simp only [List.cons_append, firstAt]
    by_cases h : z.f0 = y
    · simp only [if_pos h]
    · simp only [if_neg h]
      rw [firstAt_snoc r (i + 1) x y, List.length_cons, show i + 1 + r.length = i + (r.length + 1) by omega]
theorem firstAt_step_none {l : List S46} {x : S46} (h : firstAt l 0 x.f0 = none) : firstAt (l ++ [x]) 0 = upd (firstAt l 0) x.f0 (l.length : Int) := by
  funext y
  rw [firstAt_snoc]
  unfold upd
  by_cases e : y = x.f0
  · subst e
    rw [h, if_pos rfl]
    simp
  · rw [if_neg e]
    cases h1 : firstAt l 0 y with
    | none => simp only [if_neg (Ne.symm e)]
    | some v => rfl
theorem firstAt_step_some {l : List S46} {x : S46} (h : (firstAt l 0 x.f0).isSome = true) : firstAt (l ++ [x]) 0 = firstAt l 0 := by
  funext y
  rw [firstAt_snoc]
  cases h1 : firstAt l 0 y with
  | some v => rfl
  | none =>
    have : x.f0 ≠ y := fun e => by rw [e, h1] at h; cases h
    simp only [if_neg this]
theorem take_snoc {α : Type} {l : List α} {i : Nat} (h : i < l.length) (d : α) : l.take (i + 1) = l.take i ++ [l.getD i d] := by
  rw [List.take_succ_eq_append_getElem h, List.getD_eq_getElem?_getD, List.getElem?_eq_getElem h]
  rfl
def atsOk (l : List S46) : Bool := l.all fun x => decide (-9223372036854775808 ≤ x.f0) && decide (x.f0 ≤ 9223372036854775807)
def asOk (l : List S46) : Bool := l.all fun x => decide (-9223372036854775808 ≤ x.f2) && decide (x.f2 ≤ 9223372036854775807)
theorem atsOk_at {l : List S46} (h : atsOk l = true) {i : Nat} (hi : i < l.length) : I64 (rd_T46 l (i : Int)).f0 := by
  have h9 := List.all_eq_true.1 h _ (List.getElem_mem hi)
  simp only [Bool.and_eq_true, decide_eq_true_eq] at h9
  unfold rd_T46
  rw [Int.toNat_natCast, List.getD_eq_getElem?_getD, List.getElem?_eq_getElem hi]
  exact h9
theorem asOk_at {l : List S46} (h : asOk l = true) {i : Nat} (hi : i < l.length) : I64 (rd_T46 l (i : Int)).f2 := by
  have h9 := List.all_eq_true.1 h _ (List.getElem_mem hi)
  simp only [Bool.and_eq_true, decide_eq_true_eq] at h9
  unfold rd_T46
  rw [Int.toNat_natCast, List.getD_eq_getElem?_getD, List.getElem?_eq_getElem hi]
  exact h9
structure Mp (w0 : World) (B n : Nat) (g : Int → Option Int) (l : List (Nat × TypeId × Array Value)) (W : World) : Prop where
  own : IMap W B n g
  rows : Rws w0 l W
  base : w0.heap.size ≤ B
theorem Mp.below {w0 W : World} {B n : Nat} {g : Int → Option Int} {l : List (Nat × TypeId × Array Value)} (h : Mp w0 B n g l W) : Below w0.heap.size w0 W := h.rows.below
theorem Mp.step {w0 W W1 : World} {B n : Nat} {g : Int → Option Int} {l : List (Nat × TypeId × Array Value)} (h : Mp w0 B n g l W) (hb : Below W.heap.size W W1) : Mp w0 B n g l W1 := ⟨h.own.below hb, h.rows.step hb, h.base⟩
theorem Mp.clear {w0 W : World} {B n : Nat} {g : Int → Option Int} {l : List (Nat × TypeId × Array Value)} (h : Mp w0 B n g l W) : Mp w0 B n g [] W := ⟨h.own, ⟨fun _ h => by simp at h, by simp, h.rows.below⟩, h.base⟩
theorem Rws.grown {w0 W W1 : World} {l : List (Nat × TypeId × Array Value)} (h : Rws w0 l W) {B : Nat} (hg : W.grownBy W1 (some B)) (hB : w0.heap.size ≤ B) (hne : ∀ p ∈ l, B ≠ p.1) : Rws w0 l W1 :=
  ⟨fun p hp => ⟨blk_grown (h.lies p hp).1 hg (fun e => hne p hp (by cases e; rfl)), (h.lies p hp).2⟩, h.ne, h.below.grown hg h.below.size (fun k hk => by cases hk; exact hB)⟩
theorem Mp.stored {w0 W W1 : World} {B n n' : Nat} {g g' : Int → Option Int} {l : List (Nat × TypeId × Array Value)} (h : Mp w0 B n g l W) (h1 : IMap W1 B n' g') (hg : W.grownBy W1 (some B)) : Mp w0 B n' g' l W1 :=
  ⟨h1, h.rows.grown hg h.base (fun p hp => h.own.ne (h.rows.lies p hp).1), h.base⟩
theorem Mp.make {w0 W : World} {l : List (Nat × TypeId × Array Value)} (h : Rws w0 l W) : Mp w0 W.heap.size 0 (fun _ => none) l (W.alloc (.map #[] 0)) := ⟨IMap.made W, h.step (below_alloc (Below.refl _ _) _), h.below.size⟩
section
variable {ops : Array Oper} {rest : List Oper} {o : Oper} {a : Act} {Q : Exit → Act → World → Prop}
theorem mp_alloc (hgd : o.guard = none) (ty : TypeId) (ho : o.op = .alloc ty) {cs : Array Value} (hz : (Try.prog.info? ty).map (·.zero) = some (some (.agg cs))) {w0 W : World} {B n : Nat} {g : Int → Option Int} {l : List (Nat × TypeId × Array Value)} (hl : Mp w0 B n g l W)
    (h : ∀ b w1, Mp w0 B n g ((b, ty, cs) :: l) w1 → wpList Try.prog ops Q rest (a.put o.dst (.pointer (some ⟨b, 0, none⟩))) w1) : wpList Try.prog ops Q (o :: rest) a W :=
  wpList_plain hgd fun _ hK => rw_alloc_wp ty ho hz hl.rows (fun b w1 _ hX hb => hK _ _ (h b w1 ⟨hl.own.below hb, hX, hl.base⟩))
theorem mp_keep {w0 W W1 : World} {B n : Nat} {g : Int → Option Int} {l l' : List (Nat × TypeId × Array Value)} (hl : Mp w0 B n g l W) {b : Nat} (hb : ∃ t cs, (b, t, cs) ∈ l) (hk : Kept W W1 (fun k => k = b)) (h : Rws w0 l' W1) : Mp w0 B n g l' W1 := by
  obtain ⟨t, cs, hm⟩ := hb
  exact ⟨hl.own.block (hk.2 B hl.own.lt (hl.own.ne (hl.rows.mem hm))), h, hl.base⟩
theorem mp_store (hgd : o.guard = none) (ty : TypeId) {x y : Operand} (ho : o.op = .store ty x y) {b : Nat} (hx : a.eval x = .pointer (some ⟨b, 0, none⟩)) {cs' : Array Value} (hy : a.eval y = .agg cs') {w0 W : World} {B n : Nat} {g : Int → Option Int} {l2 : List (Nat × TypeId × Array Value)} {cs : Array Value} (hl : Mp w0 B n g ((b, ty, cs) :: l2) W) (hi : (Try.prog.info? ty).map (·.size) = some cs'.size) (hs : cs.size = cs'.size) (h1 : cs'.all (·.oneCell') = true)
    (h : ∀ w1, Mp w0 B n g ((b, ty, cs') :: l2) w1 → wpList Try.prog ops Q rest (a.put o.dst undef) w1) : wpList Try.prog ops Q (o :: rest) a W :=
  wpList_plain hgd fun _ hK => rw_store_wp ty ho hx hy [] hl.rows hi hs h1 (fun w1 hX hk => hK _ _ (h w1 (mp_keep hl ⟨ty, cs, List.mem_cons_self⟩ hk hX)))
theorem mp_map (hgd : o.guard = none) {m x v : Operand} (ho : o.op = .mapUpdate 68 m x v) {w0 W : World} {B n : Nat} {g : Int → Option Int} {l : List (Nat × TypeId × Array Value)} (hm : a.eval m = .map (some B)) (hl : Mp w0 B n g l W) (hn : n < maxLen) {k c : Int} (hx : a.eval x = .int .i64 k) (hv : a.eval v = .int .i64 c) (hk : I64 k) (hc : I64 c)
    (h : ∀ w1, Mp w0 B (n + 1) (upd g k c) l w1 → wpList Try.prog ops Q rest (a.put o.dst undef) w1) : wpList Try.prog ops Q (o :: rest) a W :=
  im_store hgd ho hm hl.own hn hx hv hk hc (fun w1 r1 r2 => h w1 (hl.stored r1 r2))
end
theorem wrap_next {i : Nat} (h : i < 4398046511104) : wrap64 ((i : Int) + 1) = ((i + 1 : Nat) : Int) := by unfold wrap64; omega

section
variable {ops : Array Oper} {rest : List Oper} {o : Oper} {a : Act} {Q : Exit → Act → World → Prop}
theorem mp_make (hgd : o.guard = none) (ho : o.op = .makeMap 68 none) {w0 W : World} {l : List (Nat × TypeId × Array Value)} (hl : Rws w0 l W) (h : ∀ B w1, Mp w0 B 0 (fun _ => none) l w1 → wpList Try.prog ops Q rest (a.put o.dst (.map (some B))) w1) : wpList Try.prog ops Q (o :: rest) a W :=
  im_make hgd ho (fun _ => h _ _ (Mp.make hl))
end
theorem at_I {w0 : World} {A0 : Option Addr} {l0 : List S46} (h : Kd.C k46 w0 A0 l0.length l0) {W : World} (hb : Below w0.heap.size w0 W) {i : Nat} (hi : i < l0.length) {x : S46} (hx : x = rd_T46 l0 (i : Int)) : ∃ ad, A0 = some ad ∧ W.cell? (ad.add (i * 4)) = some (.int .i64 x.f0) ∧ W.cell? ⟨(ad.add (i * 4)).block, (ad.add (i * 4)).off + 1, none⟩ = some (.int .u8 x.f1) ∧ W.cell? ⟨(ad.add (i * 4)).block, (ad.add (i * 4)).off + 2, none⟩ = some (.int .i64 x.f2) ∧ W.cell? ⟨(ad.add (i * 4)).block, (ad.add (i * 4)).off + 3, none⟩ = some (.int .i64 x.f3) := by
  obtain ⟨ad, e1, h0, h1, h2, h3⟩ := at_T46 (Kd.C_below h hb) (i : Int) (by omega) (by omega)
  rw [← hx] at h0 h1 h2 h3
  simp only [Int.toNat_natCast] at h0 h1 h2 h3
  exact ⟨ad, e1, h0, h1, h2, h3⟩
def cI (x : S46) : Array Value := #[.int .i64 x.f0, .int .u8 x.f1, .int .i64 x.f2, .int .i64 x.f3]

theorem Mp.more {w0 W : World} {B n : Nat} {g : Int → Option Int} {l : List (Nat × TypeId × Array Value)} (h : Mp w0 B n g l W) : Mp w0 B (n + 1) g l W := ⟨h.own.mono (Nat.le_succ _), h.rows, h.base⟩

end Go.Proofs.Ytcffniaieegbgaa.P

end

section
namespace Go.Proofs.Ytcffniaieegbgaa.P
open Go.RowKit Go.Proofs.YtcffniaieegbgaaW.PrintWords Go.Proofs.YtcffniaieegbgaaW.PrintLast Go.Proofs.YtcffniaieegbgaaW.PrintMore
attribute [local go_sem] max2_int min2_int max_two min_two max_three min_three max_four min_four   -- for this text's walks alone
set_option linter.unusedVariables false
set_option linter.unusedSimpArgs false

def code_Size.f (k : Nat) (a0 : Int) : Option (Int) := if a0 ≥ 34 then (some 0) else ((code_widths.f k a0).bind fun bt103 => (some (wrap64 ((wrap64 (1 + bt103.1)) + bt103.2))))
theorem code_Size.mono : ∀ a0 k, LeO (code_Size.f k a0) (code_Size.f (k + 1) a0) := by
  intro a0 k
  unfold code_Size.f
  repeat' first
      | (with_reducible exact code_widths.mono _ _)
      | (with_reducible exact LeO.refl _)
      | (with_reducible exact LeO.none _)
      | (with_reducible refine LeO.ite ?_ ?_)
      | (with_reducible refine LeO.bind ?_ (fun _ => ?_))
      | exact code_widths.mono _ _
      | exact LeO.none _
      | refine LeO.ite ?_ ?_
      | refine LeO.bind ?_ (fun _ => ?_)
set_option maxHeartbeats 8000000 in
set_option maxRecDepth 100000 in
theorem code_Size.calls (k : Nat) (a0 : Int) (r : Int) (w : World) (h : code_Size.f k a0 = some r) :
    Calls Try.prog 53 #[.int .u8 a0] w fun e w' => e = .returned (.int .i64 r) ∧ Drawn0 w w' := by
  have H : (if a0 ≥ 34 then (some 0) else ((code_widths.f k a0).bind fun bt103 => (some (wrap64 ((wrap64 (1 + bt103.1)) + bt103.2))))) = some r := h
  clear h
  by_cases c2 : a0 ≥ 34
  · rw [if_pos c2] at H
    have c2b0 : decide (34 ≤ a0) = true := decide_eq_true c2
    clear c2
    obtain rfl := Option.some.inj H
    go_enter Try.func53, Try.ntmps53
    go_wp2
    go_ret
    exact ⟨by first | rfl | (simp; done) | (simp [*]; done), by repeat (first | exact Drawn0.refl _ | apply Drawn0.step)⟩
  · rw [if_neg c2] at H
    have c2b0 : decide (34 ≤ a0) = false := decide_eq_false c2
    clear c2
    replace H := Option.bind_eq_some_iff.mp H
    obtain ⟨⟨t103, t104⟩, A30, H⟩ := H
    replace H : (some (wrap64 ((wrap64 (1 + t103)) + t104))) = some r := H
    have A3 := Aside0.mk A30
    clear A30
    obtain rfl := Option.some.inj H
    go_enter Try.func53, Try.ntmps53
    go_wp2_with (first | ((with_reducible refine gate_callee (f := 68) rfl ?_); refine goesL_ (some 9) rfl rfl Try.func68 (by kernel_rfl) rfl #[.int .u8 a0] rfl (by (try simp only [List.map_toArray, List.map_cons, List.map_nil]); first | done | rfl | (simp only [List.length_drop, List.length_take]; rfl)) ?_; (with_reducible refine (code_widths.calls k a0 t103 t104 _ A3.out).mono ?_); rintro e w' ⟨rfl, ⟨nd, rfl⟩⟩; refine ⟨_, rfl, ?_⟩))
    go_ret
    exact ⟨by first | rfl | (simp; done) | (simp [*]; done), by repeat (first | exact Drawn0.refl _ | apply Drawn0.step)⟩

def code_Jumps.f (a0 : Int) : Option (Bool) := if a0 = 19 then (some true) else (some (a0 == 20))
set_option maxHeartbeats 8000000 in
set_option maxRecDepth 100000 in
theorem code_Jumps.calls (a0 : Int) (r : Bool) (w : World) (h : code_Jumps.f a0 = some r) :
    Calls Try.prog 55 #[.int .u8 a0] w fun e w' => e = .returned (.bool r) ∧ Drawn0 w w' := by
  have H : (if a0 = 19 then (some true) else (some (a0 == 20))) = some r := h
  clear h
  by_cases c2 : a0 = 19
  · rw [if_pos c2] at H
    have c2b0 : (a0 == 19) = true := beq_iff_eq.mpr c2
    have c2b1 : (a0 != 19) = false := bne_eq_false_iff_eq.mpr c2
    clear c2
    obtain rfl := Option.some.inj H
    go_enter Try.func55, Try.ntmps55
    go_wp2
    go_ret
    exact ⟨by first | rfl | (simp; done) | (simp [*]; done), by repeat (first | exact Drawn0.refl _ | apply Drawn0.step)⟩
  · rw [if_neg c2] at H
    have c2b0 : (a0 == 19) = false := beq_eq_false_iff_ne.mpr c2
    have c2b1 : (a0 != 19) = true := bne_iff_ne.mpr c2
    obtain rfl := Option.some.inj H
    go_enter Try.func55, Try.ntmps55
    go_wp2
    go_ret
    exact ⟨by first | rfl | (simp; done) | (simp [*]; done), by repeat (first | exact Drawn0.refl _ | apply Drawn0.step)⟩

def code_Ends.f (a0 : Int) : Option (Bool) := if a0 = 19 then (some true) else (if a0 = 22 then (some true) else (some (a0 == 32)))
set_option maxHeartbeats 8000000 in
set_option maxRecDepth 100000 in
theorem code_Ends.calls (a0 : Int) (r : Bool) (w : World) (h : code_Ends.f a0 = some r) :
    Calls Try.prog 56 #[.int .u8 a0] w fun e w' => e = .returned (.bool r) ∧ Drawn0 w w' := by
  have H : (if a0 = 19 then (some true) else (if a0 = 22 then (some true) else (some (a0 == 32)))) = some r := h
  clear h
  by_cases c2 : a0 = 19
  · rw [if_pos c2] at H
    have c2b0 : (a0 == 19) = true := beq_iff_eq.mpr c2
    have c2b1 : (a0 != 19) = false := bne_eq_false_iff_eq.mpr c2
    clear c2
    obtain rfl := Option.some.inj H
    go_enter Try.func56, Try.ntmps56
    go_wp2
    go_ret
    exact ⟨by first | rfl | (simp; done) | (simp [*]; done), by repeat (first | exact Drawn0.refl _ | apply Drawn0.step)⟩
  · rw [if_neg c2] at H
    have c2b0 : (a0 == 19) = false := beq_eq_false_iff_ne.mpr c2
    have c2b1 : (a0 != 19) = true := bne_iff_ne.mpr c2
    by_cases c3 : a0 = 22
    · rw [if_pos c3] at H
      have c3b0 : (a0 == 22) = true := beq_iff_eq.mpr c3
      have c3b1 : (a0 != 22) = false := bne_eq_false_iff_eq.mpr c3
      clear c3
      obtain rfl := Option.some.inj H
      go_enter Try.func56, Try.ntmps56
      go_wp2
      go_ret
      exact ⟨by first | rfl | (simp; done) | (simp [*]; done), by repeat (first | exact Drawn0.refl _ | apply Drawn0.step)⟩
    · rw [if_neg c3] at H
      have c3b0 : (a0 == 22) = false := beq_eq_false_iff_ne.mpr c3
      have c3b1 : (a0 != 22) = true := bne_iff_ne.mpr c3
      obtain rfl := Option.some.inj H
      go_enter Try.func56, Try.ntmps56
      go_wp2
      go_ret
      exact ⟨by first | rfl | (simp; done) | (simp [*]; done), by repeat (first | exact Drawn0.refl _ | apply Drawn0.step)⟩

def flow_placed.f (a0_0 : Int) (a0_1 : Int) (a0_2 : Int) (a0_3 : Int) : Option (Bool) := if a0_0 ≥ 0 then (some (decide (a0_0 < 4096))) else (some false)
set_option maxHeartbeats 8000000 in
set_option maxRecDepth 100000 in
theorem flow_placed.calls (a0_0 : Int) (a0_1 : Int) (a0_2 : Int) (a0_3 : Int) (r : Bool) (w : World) (h : flow_placed.f a0_0 a0_1 a0_2 a0_3 = some r) :
    Calls Try.prog 58 #[.agg #[.int .i64 a0_0, .int .u8 a0_1, .int .i64 a0_2, .int .i64 a0_3]] w fun e w' => e = .returned (.bool r) ∧ Below w.heap.size w w' := by
  have hu46 := Try.underlying46
  have HB := Aside0.mk (Below.refl w.heap.size w)
  have H : (if a0_0 ≥ 0 then (some (decide (a0_0 < 4096))) else (some false)) = some r := h
  clear h
  by_cases c2 : a0_0 ≥ 0
  · rw [if_pos c2] at H
    have c2b0 : decide (0 ≤ a0_0) = true := decide_eq_true c2
    clear c2
    obtain rfl := Option.some.inj H
    go_enter Try.func58, Try.ntmps58
    go_wp2_with (first | ((with_reducible refine gate_dst (N := 1) rfl ?_); refine box_event ?hg (N := 1) ?hd (cs := #[.int .i64 a0_0, .int .u8 a0_1, .int .i64 a0_2, .int .i64 a0_3]) (t := 46) ?hr ?_; (case hd => rfl); (case hg => rfl); (case hr => first | (go_simp; done) | (go_simp; rfl)); intro gb105 hg w3 hbox hb; have n0_ := Aside0.mk (below_step (by repeat (first | (with_reducible first | exact HB.out | apply below_alloc | apply pw_below_drewN | apply below_drew1) | exact HB.out)) hb); have n1_ := Aside0.mk (hbox); have n2_ := Aside0.mk ((by rw [hg]; exact (below_size (by repeat (first | (with_reducible first | exact HB.out | apply below_alloc | apply pw_below_drewN | apply below_drew1) | exact HB.out))) : w.heap.size ≤ gb105)); have n3_ := Aside0.mk ((by rw [hg]; exact (below_size (by repeat (first | (with_reducible first | exact HB.out | apply below_alloc | apply pw_below_drewN | apply below_drew1) | exact HB.out))) : w.heap.size ≤ gb105)); clear HB; have HB := n0_; have BK105 := n1_; have GW105 := n2_; have GE105 := n3_; clear n0_ n1_ n2_ n3_; clear hb hbox hg; have hcz4_0 : w3.cell? ⟨gb105, 0, none⟩ = some (.int .i64 a0_0) := (blk_cell BK105.out 0).trans rfl; have hcz4_1 : w3.cell? ⟨gb105, 1, none⟩ = some (.int .u8 a0_1) := (blk_cell BK105.out 1).trans rfl; have hcz4_2 : w3.cell? ⟨gb105, 2, none⟩ = some (.int .i64 a0_2) := (blk_cell BK105.out 2).trans rfl; have hcz4_3 : w3.cell? ⟨gb105, 3, none⟩ = some (.int .i64 a0_3) := (blk_cell BK105.out 3).trans rfl; have hfz4_0 := blk_frozen BK105.out 0; have hfz4_1 := blk_frozen BK105.out 1; have hfz4_2 := blk_frozen BK105.out 2; have hfz4_3 := blk_frozen BK105.out 3))
    go_ret
    exact ⟨by first | rfl | (simp [errW_none, errW_some] <;> rfl) | (simp [*, errW_none, errW_some] <;> rfl), by repeat (first | (with_reducible first | exact HB.out | apply below_alloc | apply pw_below_drewN | apply below_drew1 | refine below_set ?_ GE105.out) | exact HB.out)⟩
  · rw [if_neg c2] at H
    have c2b0 : decide (0 ≤ a0_0) = false := decide_eq_false c2
    clear c2
    obtain rfl := Option.some.inj H
    go_enter Try.func58, Try.ntmps58
    go_wp2_with (first | ((with_reducible refine gate_dst (N := 1) rfl ?_); refine box_event ?hg (N := 1) ?hd (cs := #[.int .i64 a0_0, .int .u8 a0_1, .int .i64 a0_2, .int .i64 a0_3]) (t := 46) ?hr ?_; (case hd => rfl); (case hg => rfl); (case hr => first | (go_simp; done) | (go_simp; rfl)); intro gb105 hg w5 hbox hb; have n0_ := Aside0.mk (below_step (by repeat (first | (with_reducible first | exact HB.out | apply below_alloc | apply pw_below_drewN | apply below_drew1) | exact HB.out)) hb); have n1_ := Aside0.mk (hbox); have n2_ := Aside0.mk ((by rw [hg]; exact (below_size (by repeat (first | (with_reducible first | exact HB.out | apply below_alloc | apply pw_below_drewN | apply below_drew1) | exact HB.out))) : w.heap.size ≤ gb105)); have n3_ := Aside0.mk ((by rw [hg]; exact (below_size (by repeat (first | (with_reducible first | exact HB.out | apply below_alloc | apply pw_below_drewN | apply below_drew1) | exact HB.out))) : w.heap.size ≤ gb105)); clear HB; have HB := n0_; have BK105 := n1_; have GW105 := n2_; have GE105 := n3_; clear n0_ n1_ n2_ n3_; clear hb hbox hg; have hcz6_0 : w5.cell? ⟨gb105, 0, none⟩ = some (.int .i64 a0_0) := (blk_cell BK105.out 0).trans rfl; have hcz6_1 : w5.cell? ⟨gb105, 1, none⟩ = some (.int .u8 a0_1) := (blk_cell BK105.out 1).trans rfl; have hcz6_2 : w5.cell? ⟨gb105, 2, none⟩ = some (.int .i64 a0_2) := (blk_cell BK105.out 2).trans rfl; have hcz6_3 : w5.cell? ⟨gb105, 3, none⟩ = some (.int .i64 a0_3) := (blk_cell BK105.out 3).trans rfl; have hfz6_0 := blk_frozen BK105.out 0; have hfz6_1 := blk_frozen BK105.out 1; have hfz6_2 := blk_frozen BK105.out 2; have hfz6_3 := blk_frozen BK105.out 3))
    go_ret
    exact ⟨by first | rfl | (simp [errW_none, errW_some] <;> rfl) | (simp [*, errW_none, errW_some] <;> rfl), by repeat (first | (with_reducible first | exact HB.out | apply below_alloc | apply pw_below_drewN | apply below_drew1 | refine below_set ?_ GE105.out) | exact HB.out)⟩






















def ColI (g : Int → Option Int) (left : Lit → Bool) (ss : List Int) : Prop := ss.Nodup ∧ ∀ x, x ∈ ss ↔ ((g x).isSome = true ∧ left (.int .i64 x) = false)
theorem ColI.step {g : Int → Option Int} {left : Lit → Bool} {ss : List Int} (h : ColI g left ss) {x : Int} (hlk : left (.int .i64 x) = true) (hx : (g x).isSome = true) : ColI g (fun z => left z && !z.sameKey (.int .i64 x)) (ss ++ [x]) := by
  have hnew : x ∉ ss := fun hm => by have := ((h.2 x).1 hm).2; rw [hlk] at this; cases this
  refine ⟨List.nodup_append.2 ⟨h.1, by simp, fun a ha b hb => by simp at hb; subst hb; exact fun e => hnew (e ▸ ha)⟩, fun y => ?_⟩
  by_cases hy : y = x
  · subst hy; simp [hx, Lit.sameKey]
  · simp [h.2 y, hy, Lit.sameKey]
theorem strict_of {l : List Int} (h : l.Nodup) : (l.mergeSort fun x y => decide (x ≤ y)).Pairwise (· < ·) := by
  have tr : ∀ a b c : Int, decide (a ≤ b) = true → decide (b ≤ c) = true → decide (a ≤ c) = true := fun a b c h1 h2 => by simp only [decide_eq_true_eq] at *; omega
  have tt9 : ∀ a b : Int, (decide (a ≤ b) || decide (b ≤ a)) = true := fun a b => by simp only [Bool.or_eq_true, decide_eq_true_eq]; omega
  have h1 := List.pairwise_mergeSort tr tt9 l
  have h2 : (l.mergeSort fun x y => decide (x ≤ y)).Nodup := (List.mergeSort_perm l _).nodup_iff.2 h
  exact (h1.and h2).imp fun h => by
    have h3 := h.1
    have h4 := h.2
    simp only [decide_eq_true_eq] at h3
    omega
open Go.Shelf in
def Try.lays189_ren : Go.Shelf.Ren := ⟨fun | 189 => 69 | 125 => 71 | 257 => 70 | 128 => 81 | 129 => 82 | 294 => 72 | 295 => 73 | 296 => 74 | 297 => 75 | 298 => 76 | 299 => 77 | 216 => 78 | 300 => 79 | 301 => 80 | 328 => 83 | 329 => 84 | 330 => 85 | 331 => 86 | 332 => 87 | 215 => 88 | 343 => 89 | n => n, fun | 28 => 27 | 3 => 3 | 46 => 84 | 0 => 0 | 51 => 96 | 53 => 98 | 4 => 4 | 183 => 89 | 182 => 88 | 131 => 69 | 5 => 5 | 9 => 9 | 218 => 99 | 222 => 103 | 228 => 106 | 229 => 81 | n => n, fun | n => n⟩
open Go.Shelf in
theorem Try.lays189 : Go.Proofs.Lays.n189 Try.prog Try.lays189_ren := {
  mixed := by kernel_rfl
  f125 := Try.func71.trans (congrArg some (by kernel_rfl))
  f128 := Try.func81.trans (congrArg some (by kernel_rfl))
  f129 := Try.func82.trans (congrArg some (by kernel_rfl))
  f189 := Try.func69.trans (congrArg some (by kernel_rfl))
  f215 := Try.func88.trans (congrArg some (by kernel_rfl))
  f216 := Try.func78.trans (congrArg some (by kernel_rfl))
  f257 := Try.func70.trans (congrArg some (by kernel_rfl))
  f294 := Try.func72.trans (congrArg some (by kernel_rfl))
  f295 := Try.func73.trans (congrArg some (by kernel_rfl))
  f296 := Try.func74.trans (congrArg some (by kernel_rfl))
  f297 := Try.func75.trans (congrArg some (by kernel_rfl))
  f298 := Try.func76.trans (congrArg some (by kernel_rfl))
  f299 := Try.func77.trans (congrArg some (by kernel_rfl))
  f300 := Try.func79.trans (congrArg some (by kernel_rfl))
  f301 := Try.func80.trans (congrArg some (by kernel_rfl))
  f328 := Try.func83.trans (congrArg some (by kernel_rfl))
  f329 := Try.func84.trans (congrArg some (by kernel_rfl))
  f330 := Try.func85.trans (congrArg some (by kernel_rfl))
  f331 := Try.func86.trans (congrArg some (by kernel_rfl))
  f332 := Try.func87.trans (congrArg some (by kernel_rfl))
  f343 := Try.func89.trans (congrArg some (by kernel_rfl))
  t0 := Try.underlying0
  a0 := Try.isAgg0
  z0 := Try.sizeOf0
  v0 := Try.zeroValue0
  t3 := Try.underlying3
  a3 := Try.isAgg3
  z3 := Try.sizeOf3
  v3 := Try.zeroValue3
  t4 := Try.underlying4
  a4 := Try.isAgg4
  z4 := Try.sizeOf4
  v4 := Try.zeroValue4
  t5 := Try.underlying5
  a5 := Try.isAgg5
  z5 := Try.sizeOf5
  v5 := Try.zeroValue5
  t9 := Try.underlying9
  a9 := Try.isAgg9
  z9 := Try.sizeOf9
  v9 := Try.zeroValue9
  t28 := Try.underlying27
  a28 := Try.isAgg27
  z28 := Try.sizeOf27
  v28 := Try.zeroValue27
  t46 := Try.underlying84
  a46 := Try.isAgg84
  z46 := Try.sizeOf84
  v46 := Try.zeroValue84
  t51 := Try.underlying96
  a51 := Try.isAgg96
  z51 := Try.sizeOf96
  v51 := Try.zeroValue96
  t53 := Try.underlying98
  a53 := Try.isAgg98
  z53 := Try.sizeOf98
  v53 := Try.zeroValue98
  t131 := Try.underlying69
  a131 := Try.isAgg69
  z131 := Try.sizeOf69
  v131 := Try.zeroValue69
  t182 := Try.underlying88
  a182 := Try.isAgg88
  z182 := Try.sizeOf88
  v182 := Try.zeroValue88
  t183 := Try.underlying89
  a183 := Try.isAgg89
  z183 := Try.sizeOf89
  v183 := Try.zeroValue89
  t218 := Try.underlying99
  a218 := Try.isAgg99
  z218 := Try.sizeOf99
  v218 := Try.zeroValue99
  t222 := Try.underlying103
  a222 := Try.isAgg103
  z222 := Try.sizeOf103
  v222 := Try.zeroValue103
  t228 := Try.underlying106
  a228 := Try.isAgg106
  z228 := Try.sizeOf106
  v228 := Try.zeroValue106
  t229 := Try.underlying81
  a229 := Try.isAgg81
  z229 := Try.sizeOf81
  v229 := Try.zeroValue81 }
theorem sort_none (p : Option Addr) (cap : Nat) (w : World) : Calls Try.prog 69 #[.slice p 0 cap] w fun e w' => e = .returned (.tuple #[]) ∧ w' = w := Any.slices_Sort_int_none Try.lays189 p cap w
theorem sort_some (blk off cap : Nat) (zs : List Int) (w : World) (hH : Go.Sort.Holds (Value.int .i64) w blk off zs.toArray) (hblk : blk < w.heap.size) (hsz : zs.length < 4611686018427387904) :
    Calls Try.prog 69 #[.slice (some ⟨blk, off, none⟩) zs.length cap] w fun e w' => e = .returned (.tuple #[]) ∧ ∃ n os, w' = Go.Sort.grow (Go.Sort.putRow (Value.int .i64) (Go.Sort.ahead w n) blk off (zs.mergeSort fun x y => decide (x ≤ y)).toArray) os := Any.slices_Sort_int Try.lays189 blk off cap zs w hH hblk hsz
theorem sort_own {w : World} {base : Nat} {v : Value} {ss : List Int} (h : w.ownsRow base 3 1 v ss.length (ss.map (Value.int .i64))) (hl : ss.length < 4611686018427387904) :
    Calls Try.prog 69 #[v] w fun e w' => e = .returned (.tuple #[]) ∧ w'.ownsRow base 3 1 v ss.length ((ss.mergeSort fun x y => decide (x ≤ y)).map (Value.int .i64)) ∧ w.grownBy w' v.ownBlock := by
  rcases h.2 with ⟨rfl, h0⟩ | ⟨g, cap, cur, rfl, hbase, hb, h1, h2, h3, h4⟩
  · have : ss = [] := List.length_eq_zero_iff.1 h0
    subst this
    refine (sort_none none 0 w).mono ?_
    rintro e w' ⟨rfl, rfl⟩
    exact ⟨rfl, by rw [List.mergeSort_nil]; exact h, ⟨rfl, rfl, rfl, Nat.le_refl _, fun _ _ _ => rfl⟩⟩
  · have hH : Go.Sort.Holds (Value.int .i64) w g 0 ss.toArray := holds_of_blockI hb (by simpa using h4)
    refine (sort_some g 0 cap ss w hH (Array.getElem?_eq_some_iff.1 hb).1 hl).mono ?_
    rintro e w' ⟨rfl, n, os, rfl⟩
    exact ⟨rfl, ownsRow_sortedI (by simp) hbase hb h1 h2 h3, grownBy_sortedI _⟩
set_option maxHeartbeats 1600000 in
set_option maxRecDepth 100000 in
theorem rising_calls (B n : Nat) (g : Int → Option Int) (W : World) (hm : IMap W B n g) (hn : n < 4398046511104) :
    Calls Try.prog 59 #[.map (some B)] W fun e w' => ∃ (v : Value) (r : List Int), e = .returned v ∧ Kd.R (Kd.int .i64) 3 w' W.heap.size (fun _ => True) v r ∧ (r.Pairwise (· < ·) ∧ ∀ x, x ∈ r ↔ (g x).isSome = true) ∧ Below W.heap.size W w' := by
  obtain ⟨i0, hi, hz0, hz1, hz2⟩ := info_parts info3
  have hlt := hm.lt
  obtain ⟨D, hown, hD1, hD2⟩ := hm
  have HD1 := Aside0.mk hD1
  have HD2 := Aside0.mk hD2
  have hsz : Maps.size D ≤ n := by
    obtain ⟨es, clock, h1, F, h2, rfl⟩ := hown
    rw [Maps.size_eq, length_sorted]
    simpa using h2
  have HS := Aside0.mk hsz
  have HN := Aside0.mk hn
  have HLT := Aside0.mk hlt
  have HOWN := Aside0.mk hown
  have hstart : ColI g (Maps.has D) [] := ⟨List.nodup_nil, fun x => ⟨fun h9 => by simp at h9, fun h9 => by have h8 := h9.2; rw [hD1, h9.1] at h8; cases h8⟩⟩
  have HST := Aside0.mk hstart
  clear hD1 hD2 hsz hn hlt hown hstart
  go_enter Try.func59, Try.ntmps59
  go_wp2_with (first
    | (at_range; refine wpList_range_own _ rfl _ 68 rfl 3 3 mkeyed Try.underlying68 _ B n D rfl HOWN.out ?_; intro w0 hrg0 hg0 hs0; have HR0 := Aside0.mk hrg0; have HG0 := Aside0.mk hg0; clear hrg0 hg0 hs0))
  go_frame
  go_loopw [3] (fun v3 wr => ∃ (left : Lit → Bool) (cnt : Nat) (ss : List Int), Aside0 (wr.ranges Try.prog 3 (plainElem Try.prog 3) B W.heap.size n D left cnt) ∧ Aside0 (ss.length + cnt ≤ Maps.size D) ∧ Aside0 (wr.ownsRow W.heap.size 3 1 v3 ss.length (ss.map (Value.int .i64))) ∧ Aside0 (ColI g left ss) ∧ Aside0 (Below W.heap.size W wr)) (fun _ wr => wr.rangeLeft B W.heap.size)
  case atStart =>
    exact ⟨_, _, [], HR0, ⟨by simp⟩, ⟨⟨rfl, .inl ⟨rfl, rfl⟩⟩⟩, HST, ⟨(Below.refl _ _).grown HG0.out (Nat.le_refl _) (fun j hj => by cases hj)⟩⟩
  case round =>
    rename_i wr
    clear HR0 HG0
    obtain ⟨left, cnt, ss, HRG, HCS, HROW, HC, HB⟩ := hrel
    go_wp2_with (first
      | (at_next; refine wpList_next_ranges_ii _ rfl _ rfl 3 3 .i64 .i64 mkeyed Try.underlying3 Try.underlying3 B W.heap.size n _ _ _ rfl HRG.out ?_ ?_))
    · intro hc0 hl0
      have HL0 := Aside0.mk hl0
      clear hc0 hl0
      go_wp2_with fail
      have hcl : ss.length < 4611686018427387904 := by have := HCS.out; have := HS.out; have := HN.out; omega
      refine (sort_own HROW.out hcl).mono ?_
      rintro e w' ⟨rfl, ho, hg⟩
      have HO := Aside0.mk ho
      have hb9 : Below W.heap.size W w' := HB.out.grown hg HB.out.size (fun k hk => own_base HROW.out k hk)
      have HB9 := Aside0.mk hb9
      clear ho hg hcl hb9
      go_wp2
      go_ret
      refine ⟨_, ss.mergeSort (fun x y => decide (x ≤ y)), rfl, Kd.R_of_own (by rw [List.length_mergeSort]; exact HO.out) (fun _ _ => trivial), ⟨strict_of HC.out.1, fun x => ?_⟩, HB9.out⟩
      rw [List.mem_mergeSort, HC.out.2 x, HL0.out]
      simp
    · intro x c w1 cnt1 hwx hwc hlx hat hrg1 hlt hg1 hs1 hen
      have hxs : (g x).isSome = true := by
        rw [← HD1.out]
        exact Maps.has_true_of_atKey hat
      have hcol := HC.out.step hlx hxs
      have HCOL := Aside0.mk hcol
      have hrow1 := HROW.out.kept hg1 (Or.inr (row_ne_iter HROW.out HRG.out).symm)
      have HROW1 := Aside0.mk hrow1
      have hb1 : Below W.heap.size W w1 := HB.out.grown hg1 HB.out.size (fun k hk => by cases hk; exact Nat.le_refl _)
      have HB1 := Aside0.mk hb1
      have HRG1 := Aside0.mk hrg1
      have HCNT := Aside0.mk hlt
      have hbl : B < W.heap.size := HLT.out
      have HBL := Aside0.mk hbl
      clear hwx hwc hlx hat hrg1 hlt hg1 hs1 hxs hcol hrow1 hb1 hbl
      go_wp2_with (first
        | (at_builtin; refine wpList_append_own _ rfl _ _ 27 rfl W.heap.size 3 i0 (.int .i64 0) 1 8 Try.underlying27 hi hz0 hz1 hz2 rfl (by decide) _ _ _ rfl (HROW1.out.alloc _) ⟨w1.heap.size, 0, none⟩ 1 1 [.int .i64 x] rfl rfl (cell_one_new _ _ _) (by simp [Value.oneCell']) (by have := HCS.out; have := HS.out; have := HN.out; unfold maxLen; omega) (by have := HCS.out; have := HS.out; have := HN.out; omega) (by have := HB1.out.size; simp; omega) ?_; intro v' w3 hown' hg3 hnil3; have HOW := Aside0.mk hown'; have HG3 := Aside0.mk hg3; clear hown' hg3 hnil3; go_frame))
      have hg3 : (w1.alloc (.cells #[.int .i64 x] 3)).grownBy w3 u3.ownBlock := HG3.out
      have hrg3 := (HRG1.out.alloc (.cells #[.int .i64 x] 3)).kept hg3 (row_ne_low HROW1.out HBL.out) (row_ne_iter HROW1.out HRG1.out)
      have HRG3 := Aside0.mk hrg3
      have hb3 : Below W.heap.size W w3 := (below_alloc HB1.out (.cells #[.int .i64 x] 3)).grown hg3 (below_alloc HB1.out (.cells #[.int .i64 x] 3)).size (fun j hj => (HROW1.out.lt j hj).1)
      have HB3 := Aside0.mk hb3
      clear hg3 hrg3 hb3 hen
      go_roundw
      case rel => exact ⟨_, cnt1, ss ++ [x], HRG3, ⟨by have := HCS.out; have := HCNT.out; simp; omega⟩, ⟨by have := HOW.out; simpa using this⟩, HCOL, HB3⟩
      case measure => rw [HRG3.out.left_eq, HRG.out.left_eq]; exact HCNT.out

def ins (n : Int) : List Int → List Int
  | [] => [n]
  | x :: r => if n < x then n :: x :: r else if n = x then x :: r else x :: ins n r
def srt (l : List Int) : List Int := l.foldl (fun acc n => ins n acc) []
theorem ins_mem (n y : Int) : ∀ l : List Int, y ∈ ins n l ↔ y = n ∨ y ∈ l
  | [] => by simp [ins]
  | x :: r => by
    unfold ins
    split
    · simp
    · split
      · rename_i h
        subst h
        simp
      · rw [List.mem_cons, ins_mem n y r, List.mem_cons]
        constructor
        · rintro (h | h | h)
          · exact .inr (.inl h)
          · exact .inl h
          · exact .inr (.inr h)
        · rintro (h | h | h)
          · exact .inr (.inl h)
          · exact .inl h
          · exact .inr (.inr h)
theorem ins_strict (n : Int) : ∀ l : List Int, l.Pairwise (· < ·) → (ins n l).Pairwise (· < ·)
  | [], _ => by simp [ins]
  | x :: r, h => by
    have h1 := List.pairwise_cons.1 h
    unfold ins
    split
    · rename_i hn
      refine List.pairwise_cons.2 ⟨fun y hy => ?_, h⟩
      rcases List.mem_cons.1 hy with rfl | hy
      · exact hn
      · have := h1.1 y hy; omega
    · split
      · exact h
      · refine List.pairwise_cons.2 ⟨fun y hy => ?_, ins_strict n r h1.2⟩
        rcases (ins_mem n y r).1 hy with rfl | hy
        · omega
        · exact h1.1 y hy
theorem srt_gen : ∀ (l acc : List Int), acc.Pairwise (· < ·) → (l.foldl (fun acc n => ins n acc) acc).Pairwise (· < ·) ∧ ∀ y, y ∈ l.foldl (fun acc n => ins n acc) acc ↔ y ∈ acc ∨ y ∈ l
  | [], acc, h => ⟨h, fun y => by simp⟩
  | x :: r, acc, h => by
    have ih := srt_gen r (ins x acc) (ins_strict x acc h)
    refine ⟨ih.1, fun y => ?_⟩
    rw [List.foldl_cons, ih.2 y, ins_mem, List.mem_cons]
    constructor
    · rintro ((h | h) | h)
      · exact .inr (.inl h)
      · exact .inl h
      · exact .inr (.inr h)
    · rintro (h | h | h)
      · exact .inl (.inr h)
      · exact .inl (.inl h)
      · exact .inr h
theorem srt_strict (l : List Int) : (srt l).Pairwise (· < ·) := (srt_gen l [] List.Pairwise.nil).1
theorem srt_mem (l : List Int) (y : Int) : y ∈ srt l ↔ y ∈ l := by
  have h := (srt_gen l [] List.Pairwise.nil).2 y
  unfold srt
  rw [h]
  simp
theorem strict_eq : ∀ {a b : List Int}, a.Pairwise (· < ·) → b.Pairwise (· < ·) → (∀ y, y ∈ a ↔ y ∈ b) → a = b
  | [], [], _, _, _ => rfl
  | [], y :: r, _, _, h => absurd ((h y).2 List.mem_cons_self) (by simp)
  | x :: r, [], _, _, h => absurd ((h x).1 List.mem_cons_self) (by simp)
  | x :: r, y :: s, h1, h2, h => by
    have p1 := List.pairwise_cons.1 h1
    have p2 := List.pairwise_cons.1 h2
    have e : x = y := by
      rcases List.mem_cons.1 ((h x).1 List.mem_cons_self) with e | hx
      · exact e
      · rcases List.mem_cons.1 ((h y).2 List.mem_cons_self) with e | hy
        · exact e.symm
        · have := p2.1 x hx
          have := p1.1 y hy
          omega
    subst e
    rw [strict_eq p1.2 p2.2 (fun z => ?_)]
    constructor
    · intro hz
      rcases List.mem_cons.1 ((h z).1 (List.mem_cons_of_mem _ hz)) with e | hz'
      · have := p1.1 z hz; omega
      · exact hz'
    · intro hz
      rcases List.mem_cons.1 ((h z).2 (List.mem_cons_of_mem _ hz)) with e | hz'
      · have := p2.1 z hz; omega
      · exact hz'
theorem srt_is {r l : List Int} (h1 : r.Pairwise (· < ·)) (h2 : ∀ y, y ∈ r ↔ y ∈ l) : r = srt l := strict_eq h1 (srt_strict l) (fun y => by rw [h2, srt_mem])
def mark (ks : List Int) : Int → Option Int := fun x => if x ∈ ks then some 1 else none
theorem mark_nil : mark [] = fun _ => none := by funext x; simp [mark]
theorem mark_upd (ks : List Int) (x : Int) : upd (mark ks) x 1 = mark (ks ++ [x]) := by
  funext y
  unfold upd mark
  by_cases e : y = x
  · subst e; simp
  · simp [e]
theorem mark_some (ks : List Int) (x : Int) : (mark ks x).isSome = true ↔ x ∈ ks := by
  unfold mark
  by_cases h : x ∈ ks <;> simp [h]
def szOf (op : Int) : Int := (code_Size.f 3 op).getD 0
theorem w2_is (k : Nat) (x : Int) (c : Bool) : ∃ a b, code_widths.j2 (k + 1) x c = some (a, b) ∧ (0 ≤ a ∧ a ≤ 4 ∧ 0 ≤ b ∧ b ≤ 1) := by
  simp only [code_widths.j2]
  repeat' split
  all_goals (refine ⟨_, _, rfl, ?_⟩; decide)
theorem w1_is (k : Nat) (x : Int) (c : Bool) : ∃ a b, code_widths.j1 (k + 2) x c = some (a, b) ∧ (0 ≤ a ∧ a ≤ 4 ∧ 0 ≤ b ∧ b ≤ 1) := by
  simp only [code_widths.j1]
  repeat' split
  all_goals first
    | exact w2_is k _ _
    | (refine ⟨_, _, rfl, ?_⟩; decide)
theorem w0_is (k : Nat) (x : Int) (c : Bool) : ∃ a b, code_widths.j0 (k + 3) x c = some (a, b) ∧ (0 ≤ a ∧ a ≤ 4 ∧ 0 ≤ b ∧ b ≤ 1) := by
  simp only [code_widths.j0]
  repeat' split
  all_goals first
    | exact w1_is k _ _
    | (refine ⟨_, _, rfl, ?_⟩; decide)
theorem widths_is (k : Nat) (op : Int) : ∃ a b, code_widths.f (k + 3) op = some (a, b) ∧ (0 ≤ a ∧ a ≤ 4 ∧ 0 ≤ b ∧ b ≤ 1) := by
  unfold code_widths.f
  repeat' split
  all_goals first
    | exact w0_is k _ _
    | (refine ⟨_, _, rfl, ?_⟩; decide)
theorem size_at (k : Nat) (op : Int) : ∃ s, code_Size.f (k + 3) op = some s ∧ 0 ≤ s ∧ s ≤ 6 := by
  obtain ⟨a, b, h, h1, h2, h3, h4⟩ := widths_is k op
  unfold code_Size.f
  split
  · exact ⟨0, rfl, by decide, by decide⟩
  · rw [h]
    refine ⟨_, rfl, ?_, ?_⟩
    · show 0 ≤ wrap64 (wrap64 (1 + a) + b)
      unfold wrap64; omega
    · show wrap64 (wrap64 (1 + a) + b) ≤ 6
      unfold wrap64; omega
theorem size_mono (k : Nat) (op : Int) : code_Size.f (k + 3) op = code_Size.f 3 op := by
  induction k with
  | zero => rw [Nat.zero_add]
  | succ k ih =>
    rw [← ih]
    obtain ⟨s, h, _⟩ := size_at k op
    rw [h]
    have := code_Size.mono op (k + 3) s h
    rwa [show k + 1 + 3 = k + 3 + 1 by omega]
theorem size_is (k : Nat) (op : Int) : code_Size.f (k + 3) op = some (szOf op) := by
  rw [size_mono]
  obtain ⟨s, h, _⟩ := size_at 0 op
  unfold szOf
  rw [Nat.zero_add] at h
  rw [h]
  rfl
theorem szOf_range (op : Int) : 0 ≤ szOf op ∧ szOf op ≤ 6 := by
  obtain ⟨s, h, h1⟩ := size_at 0 op
  unfold szOf
  rw [Nat.zero_add] at h
  rw [h]
  exact h1
def jumpsB (op : Int) : Bool := (code_Jumps.f op).getD false
def endsB (op : Int) : Bool := (code_Ends.f op).getD false
theorem jumps_is (op : Int) : code_Jumps.f op = some (jumpsB op) := by unfold jumpsB code_Jumps.f; split <;> rfl
theorem ends_is (op : Int) : code_Ends.f op = some (endsB op) := by unfold endsB code_Ends.f; split <;> (try split) <;> rfl
def placedB (a : Int) : Bool := decide (0 ≤ a) && decide (a < 4096)
theorem placed_is (a b c d : Int) : flow_placed.f a b c d = some (placedB a) := by
  unfold placedB flow_placed.f
  split
  · rename_i h
    have : decide (0 ≤ a) = true := decide_eq_true (by omega)
    rw [this]; rfl
  · rename_i h
    have : decide (0 ≤ a) = false := decide_eq_false (by omega)
    rw [this]; rfl
def nextKeys (x : S46) : List Int := (if endsB x.f1 = true then [] else [x.f0 + szOf x.f1]) ++ (if jumpsB x.f1 = true then [x.f2] else [])
def nextL (x : S46) : List Int := if szOf x.f1 = 0 then [] else if placedB x.f0 = true then srt (nextKeys x) else []
def okB (x : Int) : Bool := decide (-9223372036854775808 ≤ x) && decide (x ≤ 9223372036854775807)
theorem okB_is {x : Int} (h : okB x = true) : I64 x := by
  unfold okB at h
  unfold I64
  simpa using h
def flow_Next.f (a0_0 : Int) (a0_1 : Int) (a0_2 : Int) (a0_3 : Int) : Option (List Int) := if okB a0_2 = true then some (nextL ⟨a0_0, a0_1, a0_2, a0_3⟩) else none
set_option maxHeartbeats 1600000 in
set_option maxRecDepth 100000 in
theorem flow_Next.calls (a0_0 : Int) (a0_1 : Int) (a0_2 : Int) (a0_3 : Int) (r : List Int) (w : World) (h : flow_Next.f a0_0 a0_1 a0_2 a0_3 = some r) :
    Calls Try.prog 31 #[.agg #[.int .i64 a0_0, .int .u8 a0_1, .int .i64 a0_2, .int .i64 a0_3]] w fun e w' => ∃ v0_ : Value, e = .returned (v0_) ∧ Kd.R (Kd.int .i64) 3 w' w.heap.size (fun _ => True) v0_ r ∧ Below w.heap.size w w' := by
  unfold flow_Next.f at h
  by_cases q0 : okB a0_2 = true
  case neg => rw [if_neg q0] at h; cases h
  rw [if_pos q0] at h
  have H := Aside0.mk (Option.some.inj h).symm
  have HA := Aside0.mk (okB_is q0)
  have HM := Aside0.mk (Rws.nil w)
  clear h q0
  go_enter Try.func31, Try.ntmps31
  go_wp2_with (first | ((with_reducible refine gate_dst (N := 1) rfl ?_); refine rw_box rfl 46 rfl rfl HM.out ?_; intro b w_ hM; have f0 := blk_cell (hM.mem List.mem_cons_self) 0; have f1 := blk_cell (hM.mem List.mem_cons_self) 1; have f2 := blk_cell (hM.mem List.mem_cons_self) 2; have f3 := blk_cell (hM.mem List.mem_cons_self) 3; replace HM := Aside0.mk hM; clear hM))
  refine (code_Size.calls 3 a0_1 (szOf a0_1) _ (size_is 0 a0_1)).mono ?_
  rintro e w_ ⟨rfl, hd⟩
  clear f0 f1 f2 f3
  replace HM := Aside0.mk (HM.out.step (by first | exact hd | exact hd.below))
  clear hd
  by_cases q1 : szOf a0_1 = 0
  · have q1b : (szOf a0_1 == 0) = true := by rw [q1]; rfl
    have HV : Aside0 (r = []) := ⟨by rw [H.out]; unfold nextL; rw [if_pos q1]⟩
    clear q1
    go_wp2
    go_ret
    exact ⟨_, rfl, by rw [HV.out]; exact Kd.R_nil _ _ _ _ _, HM.out.below⟩
  · have q1b : (szOf a0_1 == 0) = false := by rw [beq_eq_false_iff_ne]; exact q1
    have H : Aside0 (r = if placedB a0_0 = true then srt (nextKeys ⟨a0_0, a0_1, a0_2, a0_3⟩) else []) := ⟨by rw [H.out]; unfold nextL; rw [if_neg q1]⟩
    clear q1
    have f0 := blk_cell (HM.out.mem List.mem_cons_self) 0
    have f1 := blk_cell (HM.out.mem List.mem_cons_self) 1
    have f2 := blk_cell (HM.out.mem List.mem_cons_self) 2
    have f3 := blk_cell (HM.out.mem List.mem_cons_self) 3
    go_wp2_with fail
    refine (flow_placed.calls a0_0 a0_1 a0_2 a0_3 (placedB a0_0) _ (placed_is a0_0 a0_1 a0_2 a0_3)).mono ?_
    rintro e w_ ⟨rfl, hd⟩
    clear f0 f1 f2 f3
    replace HM := Aside0.mk (HM.out.step (by first | exact hd | exact hd.below))
    clear hd
    cases q2 : placedB a0_0 with
    | false =>
      have HV : Aside0 (r = []) := ⟨by rw [H.out, if_neg (by rw [q2]; decide)]⟩
      clear q2
      go_wp2
      go_ret
      exact ⟨_, rfl, by rw [HV.out]; exact Kd.R_nil _ _ _ _ _, HM.out.below⟩
    | true =>
      have H : Aside0 (r = srt (nextKeys ⟨a0_0, a0_1, a0_2, a0_3⟩)) := ⟨by rw [H.out, if_pos q2]⟩
      have HP : Aside0 (0 ≤ a0_0 ∧ a0_0 < 4096) := ⟨by unfold placedB at q2; simpa using q2⟩
      clear q2
      have tok := True.intro
      go_wp2_with (first | ((with_reducible refine gate_dst (N := 13) rfl ?_); have _t := tok; refine mp_make rfl rfl HM.out ?_; intro B w_ hM; have f0 := blk_cell (hM.rows.mem List.mem_cons_self) 0; have f1 := blk_cell (hM.rows.mem List.mem_cons_self) 1; have f2 := blk_cell (hM.rows.mem List.mem_cons_self) 2; have f3 := blk_cell (hM.rows.mem List.mem_cons_self) 3; replace HM := Aside0.mk hM; clear hM tok))
      refine (code_Ends.calls a0_1 (endsB a0_1) _ (ends_is a0_1)).mono ?_
      rintro e w_ ⟨rfl, hd⟩
      clear f0 f1 f2 f3
      replace HM := Aside0.mk (HM.out.step hd.below)
      clear hd
      replace HM := Aside0.mk (mark_nil ▸ HM.out : Mp w B 0 (mark []) _ _)
      have HSZ := szOf_range a0_1
      have hkey : I64 (a0_0 + szOf a0_1) := by have := HP.out; constructor <;> omega
      have hadd : wrap64 (a0_0 + szOf a0_1) = a0_0 + szOf a0_1 := by have := HP.out; unfold wrap64; omega
      have hkw : IntKind.i64.wrap (a0_0 + szOf a0_1) = a0_0 + szOf a0_1 := IntWalk.i64_in _ (by have := HP.out; omega)
      have HKEY := Aside0.mk hkey
      have HKW := Aside0.mk hkw
      clear hkey HSZ hadd hkw
      cases qe : endsB a0_1 with
      | true =>
        have H : Aside0 (r = srt ([] ++ (if jumpsB a0_1 = true then [a0_2] else []))) := ⟨by rw [H.out]; unfold nextKeys; rw [qe, if_pos rfl]⟩
        clear qe
        have f0 := blk_cell (HM.out.rows.mem List.mem_cons_self) 0
        have f1 := blk_cell (HM.out.rows.mem List.mem_cons_self) 1
        have f2 := blk_cell (HM.out.rows.mem List.mem_cons_self) 2
        have f3 := blk_cell (HM.out.rows.mem List.mem_cons_self) 3
        go_wp2_with fail
        refine (code_Jumps.calls a0_1 (jumpsB a0_1) _ (jumps_is a0_1)).mono ?_
        rintro e w_ ⟨rfl, hd⟩
        clear f0 f1 f2 f3
        replace HM := Aside0.mk (HM.out.step hd.below)
        clear hd
        cases qj : jumpsB a0_1 with
        | false =>
          have HV : Aside0 (r = srt ([])) := ⟨by rw [H.out, qj, if_neg (by decide), List.append_nil]⟩
          clear qj
          go_wp2_with fail
          refine (rising_calls B 0 _ _ HM.out.own (by decide)).mono ?_
          rintro e w_ ⟨v, rr, rfl, hr, hs, hb⟩
          have HW := Aside0.mk hr
          have HS := Aside0.mk hs
          have HBB := Aside0.mk (below_step HM.out.below hb)
          have HSZ := Aside0.mk HM.out.below.size
          clear hr hs hb
          go_wp2
          go_ret
          refine ⟨v, rfl, ?_, HBB.out⟩
          rw [HV.out, ← srt_is HS.out.1 (fun y => by (rw [HS.out.2, mark_some]) <;> simp)]
          exact Kd.R_lower HW.out HSZ.out
        | true =>
          have HV : Aside0 (r = srt ([] ++ [a0_2])) := ⟨by rw [H.out, qj, if_pos rfl]⟩
          clear qj
          have f0 := blk_cell (HM.out.rows.mem List.mem_cons_self) 0
          have f1 := blk_cell (HM.out.rows.mem List.mem_cons_self) 1
          have f2 := blk_cell (HM.out.rows.mem List.mem_cons_self) 2
          have f3 := blk_cell (HM.out.rows.mem List.mem_cons_self) 3
          go_wp2_with (first | (at_mapUpdate; refine mp_map rfl rfl rfl HM.out (by unfold maxLen; omega) rfl rfl HA.out (by constructor <;> omega) ?_; intro w_ hM; replace HM := Aside0.mk hM; clear hM f0 f1 f2 f3))
          replace HM := Aside0.mk (mark_upd ([]) a0_2 ▸ HM.out)
          refine (rising_calls B 1 _ _ HM.out.own (by decide)).mono ?_
          rintro e w_ ⟨v, rr, rfl, hr, hs, hb⟩
          have HW := Aside0.mk hr
          have HS := Aside0.mk hs
          have HBB := Aside0.mk (below_step HM.out.below hb)
          have HSZ := Aside0.mk HM.out.below.size
          clear hr hs hb
          go_wp2
          go_ret
          refine ⟨v, rfl, ?_, HBB.out⟩
          rw [HV.out, ← srt_is HS.out.1 (fun y => by (rw [HS.out.2, mark_some]) <;> simp)]
          exact Kd.R_lower HW.out HSZ.out
      | false =>
        have H : Aside0 (r = srt ([a0_0 + szOf a0_1] ++ (if jumpsB a0_1 = true then [a0_2] else []))) := ⟨by rw [H.out]; unfold nextKeys; rw [qe, if_neg (by decide)]⟩
        clear qe
        go_wp2_with fail
        have hM := HM.out
        (try simp only [Act.put, List.setIfInBounds_toArray, List.set_cons_zero, List.set_cons_succ])
        refine wp_region_held_drew (S := fun w' => Rws w [(b, 46, #[.int .i64 a0_0, .int .u8 a0_1, .int .i64 a0_2, .int .i64 a0_3])] w') (by kernel_rfl) ?_ (fun hHeld => ?_)
        · exact (hM.step (pw_below_drewN (Below.refl _ _) 1)).rows
        replace HM := Aside0.mk (hM.step (pw_below_drewN (Below.refl _ _) 1))
        clear hM
        refine take_dst (i := 0) (v := ?_) 18 rfl rfl (by kernel_rfl) (by kernel_rfl) (by kernel_rfl) (fun _ _ _ h => h) (Or.inl ⟨by rfl, ?_⟩) (by assumption) ?_
        rotate_left
        · intro w hSw
          have f0 := blk_cell (hSw.mem List.mem_cons_self) 0
          have f1 := blk_cell (hSw.mem List.mem_cons_self) 1
          have f2 := blk_cell (hSw.mem List.mem_cons_self) 2
          have f3 := blk_cell (hSw.mem List.mem_cons_self) 3
          go_simp
          try with_reducible rfl
        (try simp only [Act.put, List.setIfInBounds_toArray, List.set_cons_zero, List.set_cons_succ])
        refine take_dst (i := 1) (v := ?_) 19 rfl rfl (by kernel_rfl) (by kernel_rfl) (by kernel_rfl) (fun _ _ _ h => h) (Or.inl ⟨by rfl, ?_⟩) (by assumption) ?_
        rotate_left
        · intro w hSw
          have f0 := blk_cell (hSw.mem List.mem_cons_self) 0
          have f1 := blk_cell (hSw.mem List.mem_cons_self) 1
          have f2 := blk_cell (hSw.mem List.mem_cons_self) 2
          have f3 := blk_cell (hSw.mem List.mem_cons_self) 3
          go_simp
          try with_reducible rfl
        (try simp only [Act.put, List.setIfInBounds_toArray, List.set_cons_zero, List.set_cons_succ])
        refine take_dst (i := 2) (v := ?_) 20 rfl rfl (by kernel_rfl) (by kernel_rfl) (by kernel_rfl) (fun _ _ _ h => h) (Or.inl ⟨by rfl, ?_⟩) (by assumption) ?_
        rotate_left
        · intro w hSw
          have f0 := blk_cell (hSw.mem List.mem_cons_self) 0
          have f1 := blk_cell (hSw.mem List.mem_cons_self) 1
          have f2 := blk_cell (hSw.mem List.mem_cons_self) 2
          have f3 := blk_cell (hSw.mem List.mem_cons_self) 3
          go_simp
          try with_reducible rfl
        (try simp only [Act.put, List.setIfInBounds_toArray, List.set_cons_zero, List.set_cons_succ])
        refine take_dst (i := 3) (v := ?_) 21 rfl rfl (by kernel_rfl) (by kernel_rfl) (by kernel_rfl) (fun _ _ _ h => h) (Or.inl ⟨by rfl, ?_⟩) (by assumption) ?_
        rotate_left
        · intro w hSw
          have f0 := blk_cell (hSw.mem List.mem_cons_self) 0
          have f1 := blk_cell (hSw.mem List.mem_cons_self) 1
          have f2 := blk_cell (hSw.mem List.mem_cons_self) 2
          have f3 := blk_cell (hSw.mem List.mem_cons_self) 3
          go_simp
          try with_reducible rfl
        (try simp only [Act.put, List.setIfInBounds_toArray, List.set_cons_zero, List.set_cons_succ])
        refine take_dst (i := 4) (v := ?_) 22 rfl rfl (by kernel_rfl) (by kernel_rfl) (by kernel_rfl) (fun _ _ _ h => h) (Or.inl ⟨by rfl, ?_⟩) (by assumption) ?_
        rotate_left
        · intro w hSw
          have f0 := blk_cell (hSw.mem List.mem_cons_self) 0
          have f1 := blk_cell (hSw.mem List.mem_cons_self) 1
          have f2 := blk_cell (hSw.mem List.mem_cons_self) 2
          have f3 := blk_cell (hSw.mem List.mem_cons_self) 3
          go_simp
          try with_reducible rfl
        (try simp only [Act.put, List.setIfInBounds_toArray, List.set_cons_zero, List.set_cons_succ])
        refine wpAnyH_ready (rs := [5]) (by kernel_rfl) (by simp) ?_
        refine AllReadyH.cons rfl (fun K hK => ?_) AllReadyH.nil
        go_simp
        refine (code_Size.calls 3 a0_1 (szOf a0_1) _ (size_is 0 a0_1)).mono ?_
        rintro e w9 ⟨rfl, hd⟩
        have hb : Below _ _ w9 := hd.below
        have h9 : Rws w [(b, 46, #[.int .i64 a0_0, .int .u8 a0_1, .int .i64 a0_2, .int .i64 a0_3])] w9 := hHeld.step hb
        replace HM := Aside0.mk (HM.out.step hb)
        go_simp
        refine hK.out _ _ h9 (fun hHeld => ?_)
        (try simp only [Act.put, List.setIfInBounds_toArray, List.set_cons_zero, List.set_cons_succ])
        clear hK K h9 hb hd
        refine take_dst (i := 6) (v := ?_) 24 rfl rfl (by kernel_rfl) (by kernel_rfl) (by kernel_rfl) (fun _ _ _ h => h) (Or.inl ⟨by rfl, ?_⟩) (by assumption) ?_
        rotate_left
        · intro w hSw
          have f0 := blk_cell (hSw.mem List.mem_cons_self) 0
          have f1 := blk_cell (hSw.mem List.mem_cons_self) 1
          have f2 := blk_cell (hSw.mem List.mem_cons_self) 2
          have f3 := blk_cell (hSw.mem List.mem_cons_self) 3
          go_simp
          try with_reducible rfl
        (try simp only [Act.put, List.setIfInBounds_toArray, List.set_cons_zero, List.set_cons_succ])
        refine wpAnyH_ready (rs := [7]) (by kernel_rfl) (by simp) ?_
        refine AllReadyH.cons rfl (fun K hK => ?_) AllReadyH.nil
        refine Eq.mpr (if_pos (by rfl)) ?_
        refine im_store_wp rfl rfl HM.out.own (by unfold maxLen; omega) (k := a0_0 + szOf a0_1) (c := 1) (by show Value.int .i64 (IntKind.i64.wrap (a0_0 + szOf a0_1)) = _; rw [HKW.out]) rfl HKEY.out (by constructor <;> omega) ?_
        intro w10 r1 r2
        have hM9 := HM.out.stored r1 r2
        replace HM := Aside0.mk hM9
        refine hK.out _ _ hM9.rows (fun hHeld => ?_)
        (try simp only [Act.put, List.setIfInBounds_toArray, List.set_cons_zero, List.set_cons_succ])
        clear hK K hM9 r1 r2
        refine wpAnyH_done (by kernel_rfl) ?_ _
        replace HM := Aside0.mk (mark_upd [] (a0_0 + szOf a0_1) ▸ HM.out)
        have f0 := blk_cell (HM.out.rows.mem List.mem_cons_self) 0
        have f1 := blk_cell (HM.out.rows.mem List.mem_cons_self) 1
        have f2 := blk_cell (HM.out.rows.mem List.mem_cons_self) 2
        have f3 := blk_cell (HM.out.rows.mem List.mem_cons_self) 3
        go_wp2_with fail
        refine (code_Jumps.calls a0_1 (jumpsB a0_1) _ (jumps_is a0_1)).mono ?_
        rintro e w_ ⟨rfl, hd⟩
        clear f0 f1 f2 f3
        replace HM := Aside0.mk (HM.out.step hd.below)
        clear hd
        cases qj : jumpsB a0_1 with
        | false =>
          have HV : Aside0 (r = srt [a0_0 + szOf a0_1]) := ⟨by rw [H.out, qj, if_neg (by decide), List.append_nil]⟩
          clear qj
          go_wp2_with fail
          refine (rising_calls B 1 _ _ HM.out.own (by decide)).mono ?_
          rintro e w_ ⟨v, rr, rfl, hr, hs, hb⟩
          have HW := Aside0.mk hr
          have HS := Aside0.mk hs
          have HBB := Aside0.mk (below_step HM.out.below hb)
          have HSZ := Aside0.mk HM.out.below.size
          clear hr hs hb
          go_wp2
          go_ret
          refine ⟨v, rfl, ?_, HBB.out⟩
          rw [HV.out, ← srt_is HS.out.1 (fun y => by (rw [HS.out.2, mark_some]) <;> simp)]
          exact Kd.R_lower HW.out HSZ.out
        | true =>
          have HV : Aside0 (r = srt ([a0_0 + szOf a0_1] ++ [a0_2])) := ⟨by rw [H.out, qj, if_pos rfl]⟩
          clear qj
          have f0 := blk_cell (HM.out.rows.mem List.mem_cons_self) 0
          have f1 := blk_cell (HM.out.rows.mem List.mem_cons_self) 1
          have f2 := blk_cell (HM.out.rows.mem List.mem_cons_self) 2
          have f3 := blk_cell (HM.out.rows.mem List.mem_cons_self) 3
          go_wp2_with (first | (at_mapUpdate; refine mp_map rfl rfl rfl HM.out (by unfold maxLen; omega) rfl rfl HA.out (by constructor <;> omega) ?_; intro w_ hM; replace HM := Aside0.mk hM; clear hM f0 f1 f2 f3))
          replace HM := Aside0.mk (mark_upd ([a0_0 + szOf a0_1]) a0_2 ▸ HM.out)
          refine (rising_calls B 2 _ _ HM.out.own (by decide)).mono ?_
          rintro e w_ ⟨v, rr, rfl, hr, hs, hb⟩
          have HW := Aside0.mk hr
          have HS := Aside0.mk hs
          have HBB := Aside0.mk (below_step HM.out.below hb)
          have HSZ := Aside0.mk HM.out.below.size
          clear hr hs hb
          go_wp2
          go_ret
          refine ⟨v, rfl, ?_, HBB.out⟩
          rw [HV.out, ← srt_is HS.out.1 (fun y => by (rw [HS.out.2, mark_some]) <;> simp)]
          exact Kd.R_lower HW.out HSZ.out

end Go.Proofs.Ytcffniaieegbgaa.P

end

section
namespace Go.Proofs.Ytcffniaieegbgaa.P
open Go.RowKit Go.Proofs.YtcffniaieegbgaaW.PrintWords Go.Proofs.YtcffniaieegbgaaW.PrintLast Go.Proofs.YtcffniaieegbgaaW.PrintMore
attribute [local go_sem] max2_int min2_int max_two min_two max_three min_three max_four min_four   -- for this text's walks alone
set_option linter.unusedVariables false
set_option linter.unusedSimpArgs false

mutual
def provisoref04_wide.j0 : Nat → Int → Bool → Option (Int × Int)
  | 0, _, _ => none
  | k + 1, x4, x7 => if x7 = true then (some (2, 0)) else (if x4 = 24 then (provisoref04_wide.j1 k x4 (x4 == 24)) else (provisoref04_wide.j1 k x4 (x4 == 25)))
def provisoref04_wide.j1 : Nat → Int → Bool → Option (Int × Int)
  | 0, _, _ => none
  | k + 1, x4, x10 => if x10 = true then (some (1, 1)) else (if x4 = 2 then (some (1, 0)) else (if x4 = 4 then (some (1, 0)) else (if x4 = 5 then (some (1, 0)) else (if x4 = 21 then (some (1, 0)) else (if x4 = 23 then (some (1, 0)) else (if x4 = 30 then (some (1, 0)) else (if x4 = 31 then (some (1, 0)) else (if x4 = 32 then (some (1, 0)) else (some (0, 0))))))))))
end
def provisoref04_wide.f (k : Nat) (a0 : Int) : Option (Int × Int) := if a0 = 1 then (some (4, 0)) else (if a0 = 19 then (provisoref04_wide.j0 k a0 (a0 == 19)) else (provisoref04_wide.j0 k a0 (a0 == 20)))
set_option maxHeartbeats 8000000 in
set_option maxRecDepth 100000 in
theorem provisoref04_wide.calls (k : Nat) (a0 : Int) (r1 : Int) (r2 : Int) (w : World) (h : provisoref04_wide.f k a0 = some (r1, r2)) :
    Calls Try.prog 64 #[.int .u8 a0] w fun e w' => e = .returned (.tuple #[.int .i64 r1, .int .i64 r2]) ∧ Drawn0 w w' := by
  have H : (if a0 = 1 then (some (4, 0)) else (if a0 = 19 then (provisoref04_wide.j0 k a0 (a0 == 19)) else (provisoref04_wide.j0 k a0 (a0 == 20)))) = some (r1, r2) := h
  clear h
  by_cases c2 : a0 = 1
  · rw [if_pos c2] at H
    have c2b0 : (a0 == 1) = true := beq_iff_eq.mpr c2
    have c2b1 : (a0 != 1) = false := bne_eq_false_iff_eq.mpr c2
    clear c2
    simp only [Option.some.injEq, Prod.mk.injEq] at H
    obtain ⟨rfl, rfl⟩ := H
    go_enter Try.func64, Try.ntmps64
    go_wp2
    go_ret2
    exact ⟨by first | rfl | (simp; done) | (simp [*]; done), by repeat (first | exact Drawn0.refl _ | apply Drawn0.step)⟩
  · rw [if_neg c2] at H
    have c2b0 : (a0 == 1) = false := beq_eq_false_iff_ne.mpr c2
    have c2b1 : (a0 != 1) = true := bne_iff_ne.mpr c2
    have HC3 := Aside0.mk H
    clear H
    go_enter Try.func64, Try.ntmps64
    go_upto_if 7 with (fail)
    go_cut [7] (fun v7 wc => ∃ (kq : Nat) (x7_2 : Bool), v7 = .bool x7_2 ∧ Aside0 (provisoref04_wide.j0 kq a0 x7_2 = some (r1, r2)) ∧ Aside0 (kq ≤ k) ∧ Drawn0 w wc)
    case first =>
      have H := HC3.out
      clear HC3
      by_cases c4 : a0 = 19
      · rw [if_pos c4] at H
        have c4b0 : (a0 == 19) = true := beq_iff_eq.mpr c4
        have c4b1 : (a0 != 19) = false := bne_eq_false_iff_eq.mpr c4
        clear c4
        (first | rw [c4b0] | (simp only [i64_w, i32_w]; rw [c4b0]) | skip)
        have H' := Aside0.mk H
        clear H
        go_wp2
        go_meet
        case rel => exact ⟨_, ((a0 == 19)), (by first | rfl | (simp; done) | (simp [*]; done)), H', ⟨by first | omega | exact Nat.le_refl _⟩, by repeat (first | exact Drawn0.refl _ | apply Drawn0.step)⟩
      · rw [if_neg c4] at H
        have c4b0 : (a0 == 19) = false := beq_eq_false_iff_ne.mpr c4
        have c4b1 : (a0 != 19) = true := bne_iff_ne.mpr c4
        (first | rw [c4b0] | (simp only [i64_w, i32_w]; rw [c4b0]) | skip)
        have H' := Aside0.mk H
        clear H
        go_wp2
        go_meet
        case rel => exact ⟨_, ((a0 == 20)), (by first | rfl | (simp; done) | (simp [*]; done)), H', ⟨by first | omega | exact Nat.le_refl _⟩, by repeat (first | exact Drawn0.refl _ | apply Drawn0.step)⟩
    case rest =>
      clear HC3
      try clear c2
      try clear c2b0
      try clear c2b1
      try clear p2
      try clear c4
      try clear c4b0
      try clear c4b1
      obtain ⟨kq, x7_2, rfl, HA, HJ2, ⟨mc2, rfl⟩⟩ := hcut
      cases kq with
      | zero => exact absurd HA.out (by simp [provisoref04_wide.j0])
      | succ kj2 =>
        have H := HA.out
        clear HA
        simp only [provisoref04_wide.j0] at H
        by_cases c5 : x7_2 = true
        · subst c5
          have H1 : (some (2, 0)) = some (r1, r2) := by rw [if_pos rfl] at H; exact H
          clear H
          have H := H1
          clear H1
          simp only [Option.some.injEq, Prod.mk.injEq] at H
          obtain ⟨rfl, rfl⟩ := H
          go_wp2
          go_ret2
          exact ⟨by first | rfl | (simp; done) | (simp [*]; done), by repeat (first | exact Drawn0.refl _ | apply Drawn0.step)⟩
        · replace c5 := Bool.eq_false_iff.mpr c5
          subst c5
          have H1 : (if a0 = 24 then (provisoref04_wide.j1 kj2 a0 (a0 == 24)) else (provisoref04_wide.j1 kj2 a0 (a0 == 25))) = some (r1, r2) := by rw [if_neg (show ¬ (false = true) by decide)] at H; exact H
          clear H
          have H := H1
          clear H1
          have HC6 := Aside0.mk H
          clear H
          go_upto_if 10 with (fail)
          go_cut [10] (fun v10 wc => ∃ (kq : Nat) (x10_5 : Bool), v10 = .bool x10_5 ∧ Aside0 (provisoref04_wide.j1 kq a0 x10_5 = some (r1, r2)) ∧ Aside0 (kq ≤ kj2) ∧ Drawn0 w wc)
          case first =>
            have H := HC6.out
            clear HC6
            by_cases c7 : a0 = 24
            · rw [if_pos c7] at H
              have c7b0 : (a0 == 24) = true := beq_iff_eq.mpr c7
              have c7b1 : (a0 != 24) = false := bne_eq_false_iff_eq.mpr c7
              clear c7
              (first | rw [c7b0] | (simp only [i64_w, i32_w]; rw [c7b0]) | skip)
              have H' := Aside0.mk H
              clear H
              go_wp2
              go_meet
              case rel => exact ⟨_, ((a0 == 24)), (by first | rfl | (simp; done) | (simp [*]; done)), H', ⟨by have := HJ2.out; first | omega | exact Nat.le_refl _⟩, by repeat (first | exact Drawn0.refl _ | apply Drawn0.step)⟩
            · rw [if_neg c7] at H
              have c7b0 : (a0 == 24) = false := beq_eq_false_iff_ne.mpr c7
              have c7b1 : (a0 != 24) = true := bne_iff_ne.mpr c7
              (first | rw [c7b0] | (simp only [i64_w, i32_w]; rw [c7b0]) | skip)
              have H' := Aside0.mk H
              clear H
              go_wp2
              go_meet
              case rel => exact ⟨_, ((a0 == 25)), (by first | rfl | (simp; done) | (simp [*]; done)), H', ⟨by have := HJ2.out; first | omega | exact Nat.le_refl _⟩, by repeat (first | exact Drawn0.refl _ | apply Drawn0.step)⟩
          case rest =>
            clear HC6
            try clear c2
            try clear c2b0
            try clear c2b1
            try clear p2
            try clear c4
            try clear c4b0
            try clear c4b1
            try clear c5
            try clear c6
            try clear c7
            try clear c7b0
            try clear c7b1
            try clear p2
            obtain ⟨kq, x10_5, rfl, HA, HJ5, ⟨mc5, rfl⟩⟩ := hcut
            cases kq with
            | zero => exact absurd HA.out (by simp [provisoref04_wide.j1])
            | succ kj5 =>
              have H := HA.out
              clear HA
              simp only [provisoref04_wide.j1] at H
              by_cases c8 : x10_5 = true
              · subst c8
                have H1 : (some (1, 1)) = some (r1, r2) := by rw [if_pos rfl] at H; exact H
                clear H
                have H := H1
                clear H1
                simp only [Option.some.injEq, Prod.mk.injEq] at H
                obtain ⟨rfl, rfl⟩ := H
                go_wp2
                go_ret2
                exact ⟨by first | rfl | (simp; done) | (simp [*]; done), by repeat (first | exact Drawn0.refl _ | apply Drawn0.step)⟩
              · replace c8 := Bool.eq_false_iff.mpr c8
                subst c8
                have H1 : (if a0 = 2 then (some (1, 0)) else (if a0 = 4 then (some (1, 0)) else (if a0 = 5 then (some (1, 0)) else (if a0 = 21 then (some (1, 0)) else (if a0 = 23 then (some (1, 0)) else (if a0 = 30 then (some (1, 0)) else (if a0 = 31 then (some (1, 0)) else (if a0 = 32 then (some (1, 0)) else (some (0, 0)))))))))) = some (r1, r2) := by rw [if_neg (show ¬ (false = true) by decide)] at H; exact H
                clear H
                have H := H1
                clear H1
                by_cases c9 : a0 = 2
                · rw [if_pos c9] at H
                  have c9b0 : (a0 == 2) = true := beq_iff_eq.mpr c9
                  have c9b1 : (a0 != 2) = false := bne_eq_false_iff_eq.mpr c9
                  clear c9
                  simp only [Option.some.injEq, Prod.mk.injEq] at H
                  obtain ⟨rfl, rfl⟩ := H
                  go_wp2
                  go_ret2
                  exact ⟨by first | rfl | (simp; done) | (simp [*]; done), by repeat (first | exact Drawn0.refl _ | apply Drawn0.step)⟩
                · rw [if_neg c9] at H
                  have c9b0 : (a0 == 2) = false := beq_eq_false_iff_ne.mpr c9
                  have c9b1 : (a0 != 2) = true := bne_iff_ne.mpr c9
                  by_cases c10 : a0 = 4
                  · rw [if_pos c10] at H
                    have c10b0 : (a0 == 4) = true := beq_iff_eq.mpr c10
                    have c10b1 : (a0 != 4) = false := bne_eq_false_iff_eq.mpr c10
                    clear c10
                    simp only [Option.some.injEq, Prod.mk.injEq] at H
                    obtain ⟨rfl, rfl⟩ := H
                    go_wp2
                    go_ret2
                    exact ⟨by first | rfl | (simp; done) | (simp [*]; done), by repeat (first | exact Drawn0.refl _ | apply Drawn0.step)⟩
                  · rw [if_neg c10] at H
                    have c10b0 : (a0 == 4) = false := beq_eq_false_iff_ne.mpr c10
                    have c10b1 : (a0 != 4) = true := bne_iff_ne.mpr c10
                    by_cases c11 : a0 = 5
                    · rw [if_pos c11] at H
                      have c11b0 : (a0 == 5) = true := beq_iff_eq.mpr c11
                      have c11b1 : (a0 != 5) = false := bne_eq_false_iff_eq.mpr c11
                      clear c11
                      simp only [Option.some.injEq, Prod.mk.injEq] at H
                      obtain ⟨rfl, rfl⟩ := H
                      go_wp2
                      go_ret2
                      exact ⟨by first | rfl | (simp; done) | (simp [*]; done), by repeat (first | exact Drawn0.refl _ | apply Drawn0.step)⟩
                    · rw [if_neg c11] at H
                      have c11b0 : (a0 == 5) = false := beq_eq_false_iff_ne.mpr c11
                      have c11b1 : (a0 != 5) = true := bne_iff_ne.mpr c11
                      by_cases c12 : a0 = 21
                      · rw [if_pos c12] at H
                        have c12b0 : (a0 == 21) = true := beq_iff_eq.mpr c12
                        have c12b1 : (a0 != 21) = false := bne_eq_false_iff_eq.mpr c12
                        clear c12
                        simp only [Option.some.injEq, Prod.mk.injEq] at H
                        obtain ⟨rfl, rfl⟩ := H
                        go_wp2
                        go_ret2
                        exact ⟨by first | rfl | (simp; done) | (simp [*]; done), by repeat (first | exact Drawn0.refl _ | apply Drawn0.step)⟩
                      · rw [if_neg c12] at H
                        have c12b0 : (a0 == 21) = false := beq_eq_false_iff_ne.mpr c12
                        have c12b1 : (a0 != 21) = true := bne_iff_ne.mpr c12
                        by_cases c13 : a0 = 23
                        · rw [if_pos c13] at H
                          have c13b0 : (a0 == 23) = true := beq_iff_eq.mpr c13
                          have c13b1 : (a0 != 23) = false := bne_eq_false_iff_eq.mpr c13
                          clear c13
                          simp only [Option.some.injEq, Prod.mk.injEq] at H
                          obtain ⟨rfl, rfl⟩ := H
                          go_wp2
                          go_ret2
                          exact ⟨by first | rfl | (simp; done) | (simp [*]; done), by repeat (first | exact Drawn0.refl _ | apply Drawn0.step)⟩
                        · rw [if_neg c13] at H
                          have c13b0 : (a0 == 23) = false := beq_eq_false_iff_ne.mpr c13
                          have c13b1 : (a0 != 23) = true := bne_iff_ne.mpr c13
                          by_cases c14 : a0 = 30
                          · rw [if_pos c14] at H
                            have c14b0 : (a0 == 30) = true := beq_iff_eq.mpr c14
                            have c14b1 : (a0 != 30) = false := bne_eq_false_iff_eq.mpr c14
                            clear c14
                            simp only [Option.some.injEq, Prod.mk.injEq] at H
                            obtain ⟨rfl, rfl⟩ := H
                            go_wp2
                            go_ret2
                            exact ⟨by first | rfl | (simp; done) | (simp [*]; done), by repeat (first | exact Drawn0.refl _ | apply Drawn0.step)⟩
                          · rw [if_neg c14] at H
                            have c14b0 : (a0 == 30) = false := beq_eq_false_iff_ne.mpr c14
                            have c14b1 : (a0 != 30) = true := bne_iff_ne.mpr c14
                            by_cases c15 : a0 = 31
                            · rw [if_pos c15] at H
                              have c15b0 : (a0 == 31) = true := beq_iff_eq.mpr c15
                              have c15b1 : (a0 != 31) = false := bne_eq_false_iff_eq.mpr c15
                              clear c15
                              simp only [Option.some.injEq, Prod.mk.injEq] at H
                              obtain ⟨rfl, rfl⟩ := H
                              go_wp2
                              go_ret2
                              exact ⟨by first | rfl | (simp; done) | (simp [*]; done), by repeat (first | exact Drawn0.refl _ | apply Drawn0.step)⟩
                            · rw [if_neg c15] at H
                              have c15b0 : (a0 == 31) = false := beq_eq_false_iff_ne.mpr c15
                              have c15b1 : (a0 != 31) = true := bne_iff_ne.mpr c15
                              by_cases c16 : a0 = 32
                              · rw [if_pos c16] at H
                                have c16b0 : (a0 == 32) = true := beq_iff_eq.mpr c16
                                have c16b1 : (a0 != 32) = false := bne_eq_false_iff_eq.mpr c16
                                clear c16
                                simp only [Option.some.injEq, Prod.mk.injEq] at H
                                obtain ⟨rfl, rfl⟩ := H
                                go_wp2
                                go_ret2
                                exact ⟨by first | rfl | (simp; done) | (simp [*]; done), by repeat (first | exact Drawn0.refl _ | apply Drawn0.step)⟩
                              · rw [if_neg c16] at H
                                have c16b0 : (a0 == 32) = false := beq_eq_false_iff_ne.mpr c16
                                have c16b1 : (a0 != 32) = true := bne_iff_ne.mpr c16
                                simp only [Option.some.injEq, Prod.mk.injEq] at H
                                obtain ⟨rfl, rfl⟩ := H
                                go_wp2
                                go_ret2
                                exact ⟨by first | rfl | (simp; done) | (simp [*]; done), by repeat (first | exact Drawn0.refl _ | apply Drawn0.step)⟩

def provisoref04_Size.f (k : Nat) (a0 : Int) : Option (Int) := if a0 ≥ 34 then (some 0) else ((provisoref04_wide.f k a0).bind fun bt106 => (some (wrap64 ((wrap64 (1 + bt106.1)) + bt106.2))))
set_option maxHeartbeats 8000000 in
set_option maxRecDepth 100000 in
theorem provisoref04_Size.calls (k : Nat) (a0 : Int) (r : Int) (w : World) (h : provisoref04_Size.f k a0 = some r) :
    Calls Try.prog 44 #[.int .u8 a0] w fun e w' => e = .returned (.int .i64 r) ∧ Drawn0 w w' := by
  have H : (if a0 ≥ 34 then (some 0) else ((provisoref04_wide.f k a0).bind fun bt106 => (some (wrap64 ((wrap64 (1 + bt106.1)) + bt106.2))))) = some r := h
  clear h
  by_cases c2 : a0 ≥ 34
  · rw [if_pos c2] at H
    have c2b0 : decide (34 ≤ a0) = true := decide_eq_true c2
    clear c2
    obtain rfl := Option.some.inj H
    go_enter Try.func44, Try.ntmps44
    go_wp2
    go_ret
    exact ⟨by first | rfl | (simp; done) | (simp [*]; done), by repeat (first | exact Drawn0.refl _ | apply Drawn0.step)⟩
  · rw [if_neg c2] at H
    have c2b0 : decide (34 ≤ a0) = false := decide_eq_false c2
    clear c2
    replace H := Option.bind_eq_some_iff.mp H
    obtain ⟨⟨t106, t107⟩, A30, H⟩ := H
    replace H : (some (wrap64 ((wrap64 (1 + t106)) + t107))) = some r := H
    have A3 := Aside0.mk A30
    clear A30
    obtain rfl := Option.some.inj H
    go_enter Try.func44, Try.ntmps44
    go_wp2_with (first | ((with_reducible refine gate_callee (f := 64) rfl ?_); refine goesL_ (some 9) rfl rfl Try.func64 (by kernel_rfl) rfl #[.int .u8 a0] rfl (by (try simp only [List.map_toArray, List.map_cons, List.map_nil]); first | done | rfl | (simp only [List.length_drop, List.length_take]; rfl)) ?_; (with_reducible refine (provisoref04_wide.calls k a0 t106 t107 _ A3.out).mono ?_); rintro e w' ⟨rfl, ⟨nd, rfl⟩⟩; refine ⟨_, rfl, ?_⟩))
    go_ret
    exact ⟨by first | rfl | (simp; done) | (simp [*]; done), by repeat (first | exact Drawn0.refl _ | apply Drawn0.step)⟩

def provisoref04_Jumps.f (a0 : Int) : Option (Bool) := if a0 = 19 then (some true) else (some (a0 == 20))
set_option maxHeartbeats 8000000 in
set_option maxRecDepth 100000 in
theorem provisoref04_Jumps.calls (a0 : Int) (r : Bool) (w : World) (h : provisoref04_Jumps.f a0 = some r) :
    Calls Try.prog 47 #[.int .u8 a0] w fun e w' => e = .returned (.bool r) ∧ Drawn0 w w' := by
  have H : (if a0 = 19 then (some true) else (some (a0 == 20))) = some r := h
  clear h
  by_cases c2 : a0 = 19
  · rw [if_pos c2] at H
    have c2b0 : (a0 == 19) = true := beq_iff_eq.mpr c2
    have c2b1 : (a0 != 19) = false := bne_eq_false_iff_eq.mpr c2
    clear c2
    obtain rfl := Option.some.inj H
    go_enter Try.func47, Try.ntmps47
    go_wp2
    go_ret
    exact ⟨by first | rfl | (simp; done) | (simp [*]; done), by repeat (first | exact Drawn0.refl _ | apply Drawn0.step)⟩
  · rw [if_neg c2] at H
    have c2b0 : (a0 == 19) = false := beq_eq_false_iff_ne.mpr c2
    have c2b1 : (a0 != 19) = true := bne_iff_ne.mpr c2
    obtain rfl := Option.some.inj H
    go_enter Try.func47, Try.ntmps47
    go_wp2
    go_ret
    exact ⟨by first | rfl | (simp; done) | (simp [*]; done), by repeat (first | exact Drawn0.refl _ | apply Drawn0.step)⟩

def provisoref04_Ends.f (a0 : Int) : Option (Bool) := if a0 = 19 then (some true) else (if a0 = 22 then (some true) else (some (a0 == 32)))
set_option maxHeartbeats 8000000 in
set_option maxRecDepth 100000 in
theorem provisoref04_Ends.calls (a0 : Int) (r : Bool) (w : World) (h : provisoref04_Ends.f a0 = some r) :
    Calls Try.prog 48 #[.int .u8 a0] w fun e w' => e = .returned (.bool r) ∧ Drawn0 w w' := by
  have H : (if a0 = 19 then (some true) else (if a0 = 22 then (some true) else (some (a0 == 32)))) = some r := h
  clear h
  by_cases c2 : a0 = 19
  · rw [if_pos c2] at H
    have c2b0 : (a0 == 19) = true := beq_iff_eq.mpr c2
    have c2b1 : (a0 != 19) = false := bne_eq_false_iff_eq.mpr c2
    clear c2
    obtain rfl := Option.some.inj H
    go_enter Try.func48, Try.ntmps48
    go_wp2
    go_ret
    exact ⟨by first | rfl | (simp; done) | (simp [*]; done), by repeat (first | exact Drawn0.refl _ | apply Drawn0.step)⟩
  · rw [if_neg c2] at H
    have c2b0 : (a0 == 19) = false := beq_eq_false_iff_ne.mpr c2
    have c2b1 : (a0 != 19) = true := bne_iff_ne.mpr c2
    by_cases c3 : a0 = 22
    · rw [if_pos c3] at H
      have c3b0 : (a0 == 22) = true := beq_iff_eq.mpr c3
      have c3b1 : (a0 != 22) = false := bne_eq_false_iff_eq.mpr c3
      clear c3
      obtain rfl := Option.some.inj H
      go_enter Try.func48, Try.ntmps48
      go_wp2
      go_ret
      exact ⟨by first | rfl | (simp; done) | (simp [*]; done), by repeat (first | exact Drawn0.refl _ | apply Drawn0.step)⟩
    · rw [if_neg c3] at H
      have c3b0 : (a0 == 22) = false := beq_eq_false_iff_ne.mpr c3
      have c3b1 : (a0 != 22) = true := bne_iff_ne.mpr c3
      obtain rfl := Option.some.inj H
      go_enter Try.func48, Try.ntmps48
      go_wp2
      go_ret
      exact ⟨by first | rfl | (simp; done) | (simp [*]; done), by repeat (first | exact Drawn0.refl _ | apply Drawn0.step)⟩

mutual
def provisoref05_put.l0 : Nat → Int → List Int → Bool → List Int → Int → Int → Option (List Int)
  | 0, _, _, _, _, _, _ => none
  | k + 1, x1, x5, x6, x9, x10, x11 => if x11 < x10 then (if 0 ≤ x11 then (if x11 < (x9.length : Int) then (if x6 = true then (provisoref05_put.j1 k x1 x5 x6 (rd x9 x11) x9 x10 x11 false) else (provisoref05_put.j1 k x1 x5 x6 (rd x9 x11) x9 x10 x11 (decide (x1 ≤ (rd x9 x11))))) else (none)) else (none)) else (if x6 = true then (some x5) else (if x5.length < 17592186044416 then (some (x5 ++ [x1])) else (none)))
def provisoref05_put.j1 : Nat → Int → List Int → Bool → Int → List Int → Int → Int → Bool → Option (List Int)
  | 0, _, _, _, _, _, _, _, _ => none
  | k + 1, x1, x5, x6, x8, x9, x10, x11, x21 => if x21 = true then (if x1 < x8 then (if x5.length < 17592186044416 then ((some (x5 ++ [x1] : List Int)).bind fun y112 => (if y112.length < 17592186044416 then (provisoref05_put.l0 k x1 (y112 ++ [x8]) true x9 x10 (wrap64 (x11 + 1))) else (none))) else (none)) else (if x5.length < 17592186044416 then (provisoref05_put.l0 k x1 (x5 ++ [x8]) true x9 x10 (wrap64 (x11 + 1))) else (none))) else (if x5.length < 17592186044416 then (provisoref05_put.l0 k x1 (x5 ++ [x8]) x6 x9 x10 (wrap64 (x11 + 1))) else (none))
end
def provisoref05_put.f (k : Nat) (l0 : List Int) (a1 : Int) : Option (List Int) := provisoref05_put.l0 k a1 ([] : List Int) false l0 (l0.length : Int) 0
set_option maxHeartbeats 8000000 in
set_option maxRecDepth 100000 in
theorem provisoref05_put.calls (k : Nat) (A0 : Option Addr) (c0 : Nat) (l0 : List Int) (a1 : Int) (r : List Int) (w : World) (hr0 : Kd.C (Kd.int .i64) w A0 l0.length l0) (hc0 : l0.length ≤ c0) (h : provisoref05_put.f k l0 a1 = some r) :
    Calls Try.prog 50 #[.slice A0 l0.length c0, .int .i64 a1] w fun e w' => ∃ v0_ : Value, e = .returned (v0_) ∧ Kd.R (Kd.int .i64) 3 w' w.heap.size (fun _ => True) v0_ r ∧ Below w.heap.size w w' := by
  have HR0 := Aside0.mk hr0
  have HC0 := Aside0.mk hc0
  clear hr0 hc0
  have HB := Aside0.mk (Below.refl w.heap.size w)
  have H : (provisoref05_put.l0 k a1 ([] : List Int) false l0 (l0.length : Int) 0) = some r := h
  clear h
  have H' := Aside0.mk H
  clear H
  go_enter Try.func50, Try.ntmps50
  go_wp2
  go_loopg [5, 6, 11] k (fun kq v5 v6 v11 w' => ∃ (x5_1 : List Int) (x6_1 : Bool) (x11_1 : Int), v6 = .bool x6_1 ∧ v11 = .int .i64 x11_1 ∧ Aside0 (provisoref05_put.l0 kq a1 x5_1 x6_1 l0 (l0.length : Int) x11_1 = some r) ∧ Aside0 (kq ≤ k) ∧ Aside0 (Kd.R (Kd.int .i64) 3 w' w.heap.size (fun _ => True) v5 x5_1) ∧ Aside0 (Below w.heap.size w w'))
  case atStart => exact ⟨(([] : List Int)), (false), (0), (by first | rfl | (simp; done) | (simp [*]; done)), (by first | rfl | (simp; done) | (simp [*]; done)), H', ⟨Nat.le_refl _⟩, ⟨by first | exact Kd.R_nil _ _ _ _ _ | exact Kd.N_nil _ _ _ _ _ | exact Kd.V_nil _ _ _ _ _ | exact Kd.Q_nil _ _ _ _ _ | exact Kd.S_nil _ _ _ _ _⟩, ⟨by repeat (first | (with_reducible first | exact HB.out | apply below_alloc | apply pw_below_drewN | apply below_drew1) | exact HB.out)⟩⟩
  case round =>
    clear H'
    try clear p2
    obtain ⟨x5_1, x6_1, x11_1, rfl, rfl, HA, HK1, HO_5, HB⟩ := hrel
    cases gk with
    | zero => exact absurd HA.out (by simp [provisoref05_put.l0])
    | succ k1 =>
      have H := HA.out
      clear HA
      simp only [provisoref05_put.l0] at H
      by_cases c3 : x11_1 < (l0.length : Int)
      · rw [if_pos c3] at H
        have c3b0 : decide (x11_1 < (l0.length : Int)) = true := decide_eq_true c3
        clear c3
        by_cases c4 : 0 ≤ x11_1
        · rw [if_pos c4] at H
          have c4b0 : decide (0 ≤ x11_1) = true := decide_eq_true c4
          clear c4
          by_cases c5 : x11_1 < (l0.length : Int)
          · rw [if_pos c5] at H
            have c5b0 : decide (x11_1 < (l0.length : Int)) = true := decide_eq_true c5
            clear c5
            have HC6 := Aside0.mk H
            clear H
            have p111 : 0 ≤ (x11_1 : Int) := of_decide_eq_true (by first | (with_reducible assumption) | assumption)
            have q111 : x11_1 < (l0.length : Int) := of_decide_eq_true (by first | (with_reducible assumption) | assumption)
            obtain ⟨ad111, e111, hx111_0⟩ := Kd.at_int HR0.out x11_1 p111 q111
            cases e111
            replace hx111_0 := (HB.out.cell (World.block_lt_of_cell? w _ hx111_0)).trans hx111_0
            replace p111 := eq_true p111
            replace q111 := eq_true q111
            go_upto_region 6 with (fail)
            go_cut [21] (fun v21 wc => ∃ (kq : Nat) (x21_5 : Bool), v21 = .bool x21_5 ∧ Aside0 (provisoref05_put.j1 kq a1 x5_1 x6_1 (rd l0 x11_1) l0 (l0.length : Int) x11_1 x21_5 = some r) ∧ Aside0 (kq ≤ k1) ∧ Aside0 (Kd.R (Kd.int .i64) 3 wc w.heap.size (fun _ => True) u5 x5_1) ∧ Aside0 (Below w.heap.size w wc))
            case first =>
              have H := HC6.out
              clear HC6
              by_cases c7 : x6_1 = true
              · subst c7
                have H1 : (provisoref05_put.j1 k1 a1 x5_1 true (rd l0 x11_1) l0 (l0.length : Int) x11_1 false) = some r := by rw [if_pos rfl] at H; exact H
                clear H
                have H := H1
                clear H1
                have H' := Aside0.mk H
                clear H
                go_wp2
                go_meet
                case rel => exact ⟨_, (false), (by first | rfl | (simp; done) | (simp [*]; done)), H', ⟨by have := HK1.out; first | omega | exact Nat.le_refl _⟩, ⟨by (with_reducible repeat (first | apply Kd.R_alloc | apply Kd.R_drewN | apply Kd.R_drew)); exact HO_5.out⟩, ⟨by repeat (first | (with_reducible first | exact HB.out | apply below_alloc | apply pw_below_drewN | apply below_drew1) | exact HB.out)⟩⟩
              · replace c7 := Bool.eq_false_iff.mpr c7
                subst c7
                have H1 : (provisoref05_put.j1 k1 a1 x5_1 false (rd l0 x11_1) l0 (l0.length : Int) x11_1 (decide (a1 ≤ (rd l0 x11_1)))) = some r := by rw [if_neg (show ¬ (false = true) by decide)] at H; exact H
                clear H
                have H := H1
                clear H1
                have H' := Aside0.mk H
                clear H
                go_wp2
                go_meet
                case rel => exact ⟨_, (decide (a1 ≤ (rd l0 x11_1))), (by first | rfl | (simp; done) | (simp [*]; done)), H', ⟨by have := HK1.out; first | omega | exact Nat.le_refl _⟩, ⟨by (with_reducible repeat (first | apply Kd.R_alloc | apply Kd.R_drewN | apply Kd.R_drew)); exact HO_5.out⟩, ⟨by repeat (first | (with_reducible first | exact HB.out | apply below_alloc | apply pw_below_drewN | apply below_drew1) | exact HB.out)⟩⟩
            case rest =>
              clear HC6
              try clear p1
              try clear q1
              try clear hx1
              try clear p2
              try clear c3
              try clear c3b0
              try clear c4
              try clear c4b0
              try clear c5
              try clear c5b0
              try clear c7
              try clear hx111_0
              try clear p111
              try clear p2
              try clear q111
              obtain ⟨kq, x21_5, rfl, HA, HJ5, HO_5, HB⟩ := hcut
              cases kq with
              | zero => exact absurd HA.out (by simp [provisoref05_put.j1])
              | succ kj5 =>
                have H := HA.out
                clear HA
                simp only [provisoref05_put.j1] at H
                by_cases c8 : x21_5 = true
                · subst c8
                  have H1 : (if a1 < (rd l0 x11_1) then (if x5_1.length < 17592186044416 then ((some (x5_1 ++ [a1] : List Int)).bind fun y112 => (if y112.length < 17592186044416 then (provisoref05_put.l0 kj5 a1 (y112 ++ [(rd l0 x11_1)]) true l0 (l0.length : Int) (wrap64 (x11_1 + 1))) else (none))) else (none)) else (if x5_1.length < 17592186044416 then (provisoref05_put.l0 kj5 a1 (x5_1 ++ [(rd l0 x11_1)]) true l0 (l0.length : Int) (wrap64 (x11_1 + 1))) else (none))) = some r := by rw [if_pos rfl] at H; exact H
                  clear H
                  have H := H1
                  clear H1
                  by_cases c9 : a1 < (rd l0 x11_1)
                  · rw [if_pos c9] at H
                    have c9b0 : decide (a1 < (rd l0 x11_1)) = true := decide_eq_true c9
                    clear c9
                    by_cases c10 : x5_1.length < 17592186044416
                    · rw [if_pos c10] at H
                      have LMc10 := Aside0.mk c10
                      clear c10
                      obtain ⟨y112, hy112⟩ : ∃ y_ : List Int, y_ = (x5_1 ++ [a1]) := ⟨_, rfl⟩
                      replace H : (if y112.length < 17592186044416 then (provisoref05_put.l0 kj5 a1 (y112 ++ [(rd l0 x11_1)]) true l0 (l0.length : Int) (wrap64 (x11_1 + 1))) else (none)) = some r := by first | (rw [hy112]; with_reducible exact H) | (have H2_ := (Option.bind_some _ _).symm.trans H; rw [hy112]; with_reducible exact H2_) | (have H2_ := (Option.bind_some _ _).symm.trans H; with_reducible exact H2_) | with_reducible exact H | (rw [hy112]; exact H) | exact H
                      have Ny112 := Aside0.mk hy112
                      clear hy112
                      by_cases c11 : y112.length < 17592186044416
                      · rw [if_pos c11] at H
                        have LMc11 := Aside0.mk c11
                        clear c11
                        obtain ⟨y115, hy115⟩ : ∃ y_ : List Int, y_ = (y112 ++ [(rd l0 x11_1)]) := ⟨_, rfl⟩
                        replace H : (provisoref05_put.l0 kj5 a1 y115 true l0 (l0.length : Int) (wrap64 (x11_1 + 1))) = some r := by first | (rw [hy115]; with_reducible exact H) | (have H2_ := (Option.bind_some _ _).symm.trans H; rw [hy115]; with_reducible exact H2_) | (have H2_ := (Option.bind_some _ _).symm.trans H; with_reducible exact H2_) | with_reducible exact H | (rw [hy115]; exact H) | exact H
                        have Ny115 := Aside0.mk hy115
                        clear hy115
                        have H' := Aside0.mk H
                        clear H
                        go_wp2_with (first | ((with_reducible refine gate_builtin (b := .append) (xs := #[.tmp 25, .tmp 27]) rfl ?_); at_builtin; refine Kd.R_append (Kd.int .i64) (w0 := w) w.heap.size rfl (.tmp 25) (.tmp 27) 27 3 (.int .i64 0) 8 rfl Try.underlying27 info3 rfl (by decide) (by omega) u5 x5_1 a1 [.int .i64 a1] (fun _ => True) (fun _ => False) rfl rfl ?aP (fun _ hk => hk.elim) ?aF ?aO ?aB ?aS ?aL ?_; (case aP => exact rfl); (case aB => exact (by repeat (first | (with_reducible first | exact HB.out | apply below_alloc | apply pw_below_drewN | apply below_drew1) | exact HB.out))); (case aF => exact (fun _ _ => trivial)); (case aO => exact (by (with_reducible repeat (first | apply Kd.R_alloc | apply Kd.R_drewN | apply Kd.R_drew)); exact HO_5.out)); (case aS => exact (below_size (by repeat (first | (with_reducible first | exact HB.out | apply below_alloc | apply pw_below_drewN | apply below_drew1) | exact HB.out)))); (case aL => have := LMc10.out; omega); intro v113 w12 ho hb hg hat; rw [← Ny112.out] at ho; have n0_ := Aside0.mk (hb); have n1_ := Aside0.mk (ho); clear HB; clear HO_5; have HB := n0_; have HO114 := n1_; clear n0_ n1_; clear ho hb hg hat) | ((with_reducible refine gate_builtin (b := .append) (xs := #[.tmp 29, .tmp 31]) rfl ?_); at_builtin; refine Kd.R_append (Kd.int .i64) (w0 := w) w.heap.size rfl (.tmp 29) (.tmp 31) 27 3 (.int .i64 0) 8 rfl Try.underlying27 info3 rfl (by decide) (by omega) v113 y112 (rd l0 x11_1) [.int .i64 (rd l0 x11_1)] (fun _ => True) (fun _ => False) rfl rfl ?aP (fun _ hk => hk.elim) ?aF ?aO ?aB ?aS ?aL ?_; (case aP => exact rfl); (case aB => exact (by repeat (first | (with_reducible first | exact HB.out | apply below_alloc | apply pw_below_drewN | apply below_drew1) | exact HB.out))); (case aF => exact (fun _ _ => trivial)); (case aO => exact (by (with_reducible repeat (first | apply Kd.R_alloc | apply Kd.R_drewN | apply Kd.R_drew)); exact HO114.out)); (case aS => exact (below_size (by repeat (first | (with_reducible first | exact HB.out | apply below_alloc | apply pw_below_drewN | apply below_drew1) | exact HB.out)))); (case aL => have := LMc11.out; omega); intro v116 w13 ho hb hg hat; rw [← Ny115.out] at ho; have n0_ := Aside0.mk (hb); have n1_ := Aside0.mk (ho); clear HB; clear HO114; have HB := n0_; have HO117 := n1_; clear n0_ n1_; clear ho hb hg hat))
                        go_roundg kj5
                        case measure => have := HK1.out; have := HJ5.out; omega
                        case rel => exact ⟨(y115), (true), (wrap64 (x11_1 + 1)), (by first | rfl | (simp; done) | (simp [*]; done)), (by first | rfl | (simp; done) | (simp [*]; done)), H', ⟨by have := HK1.out; have := HJ5.out; omega⟩, ⟨by (with_reducible repeat (first | apply Kd.R_alloc | apply Kd.R_drewN | apply Kd.R_drew)); exact HO117.out⟩, ⟨by repeat (first | (with_reducible first | exact HB.out | apply below_alloc | apply pw_below_drewN | apply below_drew1) | exact HB.out)⟩⟩
                      · rw [if_neg c11] at H
                        exact absurd H (by simp)
                    · rw [if_neg c10] at H
                      exact absurd H (by simp)
                  · rw [if_neg c9] at H
                    have c9b0 : decide (a1 < (rd l0 x11_1)) = false := decide_eq_false c9
                    clear c9
                    by_cases c14 : x5_1.length < 17592186044416
                    · rw [if_pos c14] at H
                      have LMc14 := Aside0.mk c14
                      clear c14
                      obtain ⟨y118, hy118⟩ : ∃ y_ : List Int, y_ = (x5_1 ++ [(rd l0 x11_1)]) := ⟨_, rfl⟩
                      replace H : (provisoref05_put.l0 kj5 a1 y118 true l0 (l0.length : Int) (wrap64 (x11_1 + 1))) = some r := by first | (rw [hy118]; with_reducible exact H) | (have H2_ := (Option.bind_some _ _).symm.trans H; rw [hy118]; with_reducible exact H2_) | (have H2_ := (Option.bind_some _ _).symm.trans H; with_reducible exact H2_) | with_reducible exact H | (rw [hy118]; exact H) | exact H
                      have Ny118 := Aside0.mk hy118
                      clear hy118
                      have H' := Aside0.mk H
                      clear H
                      go_wp2_with (first | ((with_reducible refine gate_builtin (b := .append) (xs := #[.tmp 29, .tmp 31]) rfl ?_); at_builtin; refine Kd.R_append (Kd.int .i64) (w0 := w) w.heap.size rfl (.tmp 29) (.tmp 31) 27 3 (.int .i64 0) 8 rfl Try.underlying27 info3 rfl (by decide) (by omega) u5 x5_1 (rd l0 x11_1) [.int .i64 (rd l0 x11_1)] (fun _ => True) (fun _ => False) rfl rfl ?aP (fun _ hk => hk.elim) ?aF ?aO ?aB ?aS ?aL ?_; (case aP => exact rfl); (case aB => exact (by repeat (first | (with_reducible first | exact HB.out | apply below_alloc | apply pw_below_drewN | apply below_drew1) | exact HB.out))); (case aF => exact (fun _ _ => trivial)); (case aO => exact (by (with_reducible repeat (first | apply Kd.R_alloc | apply Kd.R_drewN | apply Kd.R_drew)); exact HO_5.out)); (case aS => exact (below_size (by repeat (first | (with_reducible first | exact HB.out | apply below_alloc | apply pw_below_drewN | apply below_drew1) | exact HB.out)))); (case aL => have := LMc14.out; omega); intro v119 w15 ho hb hg hat; rw [← Ny118.out] at ho; have n0_ := Aside0.mk (hb); have n1_ := Aside0.mk (ho); clear HB; clear HO_5; have HB := n0_; have HO120 := n1_; clear n0_ n1_; clear ho hb hg hat))
                      go_roundg kj5
                      case measure => have := HK1.out; have := HJ5.out; omega
                      case rel => exact ⟨(y118), (true), (wrap64 (x11_1 + 1)), (by first | rfl | (simp; done) | (simp [*]; done)), (by first | rfl | (simp; done) | (simp [*]; done)), H', ⟨by have := HK1.out; have := HJ5.out; omega⟩, ⟨by (with_reducible repeat (first | apply Kd.R_alloc | apply Kd.R_drewN | apply Kd.R_drew)); exact HO120.out⟩, ⟨by repeat (first | (with_reducible first | exact HB.out | apply below_alloc | apply pw_below_drewN | apply below_drew1) | exact HB.out)⟩⟩
                    · rw [if_neg c14] at H
                      exact absurd H (by simp)
                · replace c8 := Bool.eq_false_iff.mpr c8
                  subst c8
                  have H1 : (if x5_1.length < 17592186044416 then (provisoref05_put.l0 kj5 a1 (x5_1 ++ [(rd l0 x11_1)]) x6_1 l0 (l0.length : Int) (wrap64 (x11_1 + 1))) else (none)) = some r := by rw [if_neg (show ¬ (false = true) by decide)] at H; exact H
                  clear H
                  have H := H1
                  clear H1
                  by_cases c16 : x5_1.length < 17592186044416
                  · rw [if_pos c16] at H
                    have LMc16 := Aside0.mk c16
                    clear c16
                    obtain ⟨y121, hy121⟩ : ∃ y_ : List Int, y_ = (x5_1 ++ [(rd l0 x11_1)]) := ⟨_, rfl⟩
                    replace H : (provisoref05_put.l0 kj5 a1 y121 x6_1 l0 (l0.length : Int) (wrap64 (x11_1 + 1))) = some r := by first | (rw [hy121]; with_reducible exact H) | (have H2_ := (Option.bind_some _ _).symm.trans H; rw [hy121]; with_reducible exact H2_) | (have H2_ := (Option.bind_some _ _).symm.trans H; with_reducible exact H2_) | with_reducible exact H | (rw [hy121]; exact H) | exact H
                    have Ny121 := Aside0.mk hy121
                    clear hy121
                    have H' := Aside0.mk H
                    clear H
                    go_wp2_with (first | ((with_reducible refine gate_builtin (b := .append) (xs := #[.tmp 29, .tmp 31]) rfl ?_); at_builtin; refine Kd.R_append (Kd.int .i64) (w0 := w) w.heap.size rfl (.tmp 29) (.tmp 31) 27 3 (.int .i64 0) 8 rfl Try.underlying27 info3 rfl (by decide) (by omega) u5 x5_1 (rd l0 x11_1) [.int .i64 (rd l0 x11_1)] (fun _ => True) (fun _ => False) rfl rfl ?aP (fun _ hk => hk.elim) ?aF ?aO ?aB ?aS ?aL ?_; (case aP => exact rfl); (case aB => exact (by repeat (first | (with_reducible first | exact HB.out | apply below_alloc | apply pw_below_drewN | apply below_drew1) | exact HB.out))); (case aF => exact (fun _ _ => trivial)); (case aO => exact (by (with_reducible repeat (first | apply Kd.R_alloc | apply Kd.R_drewN | apply Kd.R_drew)); exact HO_5.out)); (case aS => exact (below_size (by repeat (first | (with_reducible first | exact HB.out | apply below_alloc | apply pw_below_drewN | apply below_drew1) | exact HB.out)))); (case aL => have := LMc16.out; omega); intro v122 w17 ho hb hg hat; rw [← Ny121.out] at ho; have n0_ := Aside0.mk (hb); have n1_ := Aside0.mk (ho); clear HB; clear HO_5; have HB := n0_; have HO123 := n1_; clear n0_ n1_; clear ho hb hg hat))
                    go_roundg kj5
                    case measure => have := HK1.out; have := HJ5.out; omega
                    case rel => exact ⟨(y121), (x6_1), (wrap64 (x11_1 + 1)), (by first | rfl | (simp; done) | (simp [*]; done)), (by first | rfl | (simp; done) | (simp [*]; done)), H', ⟨by have := HK1.out; have := HJ5.out; omega⟩, ⟨by (with_reducible repeat (first | apply Kd.R_alloc | apply Kd.R_drewN | apply Kd.R_drew)); exact HO123.out⟩, ⟨by repeat (first | (with_reducible first | exact HB.out | apply below_alloc | apply pw_below_drewN | apply below_drew1) | exact HB.out)⟩⟩
                  · rw [if_neg c16] at H
                    exact absurd H (by simp)
          · rw [if_neg c5] at H
            exact absurd H (by simp)
        · rw [if_neg c4] at H
          exact absurd H (by simp)
      · rw [if_neg c3] at H
        have c3b0 : decide (x11_1 < (l0.length : Int)) = false := decide_eq_false c3
        clear c3
        by_cases c18 : x6_1 = true
        · subst c18
          have H1 : (some x5_1) = some r := by rw [if_pos rfl] at H; exact H
          clear H
          have H := H1
          clear H1
          obtain rfl := Option.some.inj H
          go_wp2
          go_ret
          exact ⟨_, by first | rfl | (simp [errW_none, errW_some] <;> rfl) | (simp [*, errW_none, errW_some] <;> rfl), by (with_reducible repeat (first | apply Kd.R_alloc | apply Kd.R_drewN | apply Kd.R_drew)); exact HO_5.out, by repeat (first | (with_reducible first | exact HB.out | apply below_alloc | apply pw_below_drewN | apply below_drew1) | exact HB.out)⟩
        · replace c18 := Bool.eq_false_iff.mpr c18
          subst c18
          have H1 : (if x5_1.length < 17592186044416 then (some (x5_1 ++ [a1])) else (none)) = some r := by rw [if_neg (show ¬ (false = true) by decide)] at H; exact H
          clear H
          have H := H1
          clear H1
          by_cases c19 : x5_1.length < 17592186044416
          · rw [if_pos c19] at H
            have LMc19 := Aside0.mk c19
            clear c19
            obtain ⟨y108, hy108⟩ : ∃ y_ : List Int, y_ = (x5_1 ++ [a1]) := ⟨_, rfl⟩
            replace H : (some y108) = some r := by first | (rw [hy108]; with_reducible exact H) | (have H2_ := (Option.bind_some _ _).symm.trans H; rw [hy108]; with_reducible exact H2_) | (have H2_ := (Option.bind_some _ _).symm.trans H; with_reducible exact H2_) | with_reducible exact H | (rw [hy108]; exact H) | exact H
            have Ny108 := Aside0.mk hy108
            clear hy108
            obtain rfl := Option.some.inj H
            go_wp2_with (first | ((with_reducible refine gate_builtin (b := .append) (xs := #[.tmp 36, .tmp 38]) rfl ?_); at_builtin; refine Kd.R_append (Kd.int .i64) (w0 := w) w.heap.size rfl (.tmp 36) (.tmp 38) 27 3 (.int .i64 0) 8 rfl Try.underlying27 info3 rfl (by decide) (by omega) u5 x5_1 a1 [.int .i64 a1] (fun _ => True) (fun _ => False) rfl rfl ?aP (fun _ hk => hk.elim) ?aF ?aO ?aB ?aS ?aL ?_; (case aP => exact rfl); (case aB => exact (by repeat (first | (with_reducible first | exact HB.out | apply below_alloc | apply pw_below_drewN | apply below_drew1) | exact HB.out))); (case aF => exact (fun _ _ => trivial)); (case aO => exact (by (with_reducible repeat (first | apply Kd.R_alloc | apply Kd.R_drewN | apply Kd.R_drew)); exact HO_5.out)); (case aS => exact (below_size (by repeat (first | (with_reducible first | exact HB.out | apply below_alloc | apply pw_below_drewN | apply below_drew1) | exact HB.out)))); (case aL => have := LMc19.out; omega); intro v109 w20 ho hb hg hat; rw [← Ny108.out] at ho; have n0_ := Aside0.mk (hb); have n1_ := Aside0.mk (ho); clear HB; clear HO_5; have HB := n0_; have HO110 := n1_; clear n0_ n1_; clear ho hb hg hat))
            go_ret
            exact ⟨_, by first | rfl | (simp [errW_none, errW_some] <;> rfl) | (simp [*, errW_none, errW_some] <;> rfl), by (with_reducible repeat (first | apply Kd.R_alloc | apply Kd.R_drewN | apply Kd.R_drew)); exact HO110.out, by repeat (first | (with_reducible first | exact HB.out | apply below_alloc | apply pw_below_drewN | apply below_drew1) | exact HB.out)⟩
          · rw [if_neg c19] at H
            exact absurd H (by simp)

def provisoref05_placed.f (a0_0 : Int) (a0_1 : Int) (a0_2 : Int) (a0_3 : Int) : Option (Bool) := if a0_0 ≥ 0 then (some (decide (a0_0 < 4096))) else (some false)
set_option maxHeartbeats 8000000 in
set_option maxRecDepth 100000 in
theorem provisoref05_placed.calls (a0_0 : Int) (a0_1 : Int) (a0_2 : Int) (a0_3 : Int) (r : Bool) (w : World) (h : provisoref05_placed.f a0_0 a0_1 a0_2 a0_3 = some r) :
    Calls Try.prog 60 #[.agg #[.int .i64 a0_0, .int .u8 a0_1, .int .i64 a0_2, .int .i64 a0_3]] w fun e w' => e = .returned (.bool r) ∧ Below w.heap.size w w' := by
  have hu46 := Try.underlying46
  have HB := Aside0.mk (Below.refl w.heap.size w)
  have H : (if a0_0 ≥ 0 then (some (decide (a0_0 < 4096))) else (some false)) = some r := h
  clear h
  by_cases c2 : a0_0 ≥ 0
  · rw [if_pos c2] at H
    have c2b0 : decide (0 ≤ a0_0) = true := decide_eq_true c2
    clear c2
    obtain rfl := Option.some.inj H
    go_enter Try.func60, Try.ntmps60
    go_wp2_with (first | ((with_reducible refine gate_dst (N := 1) rfl ?_); refine box_event ?hg (N := 1) ?hd (cs := #[.int .i64 a0_0, .int .u8 a0_1, .int .i64 a0_2, .int .i64 a0_3]) (t := 46) ?hr ?_; (case hd => rfl); (case hg => rfl); (case hr => first | (go_simp; done) | (go_simp; rfl)); intro gb124 hg w3 hbox hb; have n0_ := Aside0.mk (below_step (by repeat (first | (with_reducible first | exact HB.out | apply below_alloc | apply pw_below_drewN | apply below_drew1) | exact HB.out)) hb); have n1_ := Aside0.mk (hbox); have n2_ := Aside0.mk ((by rw [hg]; exact (below_size (by repeat (first | (with_reducible first | exact HB.out | apply below_alloc | apply pw_below_drewN | apply below_drew1) | exact HB.out))) : w.heap.size ≤ gb124)); have n3_ := Aside0.mk ((by rw [hg]; exact (below_size (by repeat (first | (with_reducible first | exact HB.out | apply below_alloc | apply pw_below_drewN | apply below_drew1) | exact HB.out))) : w.heap.size ≤ gb124)); clear HB; have HB := n0_; have BK124 := n1_; have GW124 := n2_; have GE124 := n3_; clear n0_ n1_ n2_ n3_; clear hb hbox hg; have hcz4_0 : w3.cell? ⟨gb124, 0, none⟩ = some (.int .i64 a0_0) := (blk_cell BK124.out 0).trans rfl; have hcz4_1 : w3.cell? ⟨gb124, 1, none⟩ = some (.int .u8 a0_1) := (blk_cell BK124.out 1).trans rfl; have hcz4_2 : w3.cell? ⟨gb124, 2, none⟩ = some (.int .i64 a0_2) := (blk_cell BK124.out 2).trans rfl; have hcz4_3 : w3.cell? ⟨gb124, 3, none⟩ = some (.int .i64 a0_3) := (blk_cell BK124.out 3).trans rfl; have hfz4_0 := blk_frozen BK124.out 0; have hfz4_1 := blk_frozen BK124.out 1; have hfz4_2 := blk_frozen BK124.out 2; have hfz4_3 := blk_frozen BK124.out 3))
    go_ret
    exact ⟨by first | rfl | (simp [errW_none, errW_some] <;> rfl) | (simp [*, errW_none, errW_some] <;> rfl), by repeat (first | (with_reducible first | exact HB.out | apply below_alloc | apply pw_below_drewN | apply below_drew1 | refine below_set ?_ GE124.out) | exact HB.out)⟩
  · rw [if_neg c2] at H
    have c2b0 : decide (0 ≤ a0_0) = false := decide_eq_false c2
    clear c2
    obtain rfl := Option.some.inj H
    go_enter Try.func60, Try.ntmps60
    go_wp2_with (first | ((with_reducible refine gate_dst (N := 1) rfl ?_); refine box_event ?hg (N := 1) ?hd (cs := #[.int .i64 a0_0, .int .u8 a0_1, .int .i64 a0_2, .int .i64 a0_3]) (t := 46) ?hr ?_; (case hd => rfl); (case hg => rfl); (case hr => first | (go_simp; done) | (go_simp; rfl)); intro gb124 hg w5 hbox hb; have n0_ := Aside0.mk (below_step (by repeat (first | (with_reducible first | exact HB.out | apply below_alloc | apply pw_below_drewN | apply below_drew1) | exact HB.out)) hb); have n1_ := Aside0.mk (hbox); have n2_ := Aside0.mk ((by rw [hg]; exact (below_size (by repeat (first | (with_reducible first | exact HB.out | apply below_alloc | apply pw_below_drewN | apply below_drew1) | exact HB.out))) : w.heap.size ≤ gb124)); have n3_ := Aside0.mk ((by rw [hg]; exact (below_size (by repeat (first | (with_reducible first | exact HB.out | apply below_alloc | apply pw_below_drewN | apply below_drew1) | exact HB.out))) : w.heap.size ≤ gb124)); clear HB; have HB := n0_; have BK124 := n1_; have GW124 := n2_; have GE124 := n3_; clear n0_ n1_ n2_ n3_; clear hb hbox hg; have hcz6_0 : w5.cell? ⟨gb124, 0, none⟩ = some (.int .i64 a0_0) := (blk_cell BK124.out 0).trans rfl; have hcz6_1 : w5.cell? ⟨gb124, 1, none⟩ = some (.int .u8 a0_1) := (blk_cell BK124.out 1).trans rfl; have hcz6_2 : w5.cell? ⟨gb124, 2, none⟩ = some (.int .i64 a0_2) := (blk_cell BK124.out 2).trans rfl; have hcz6_3 : w5.cell? ⟨gb124, 3, none⟩ = some (.int .i64 a0_3) := (blk_cell BK124.out 3).trans rfl; have hfz6_0 := blk_frozen BK124.out 0; have hfz6_1 := blk_frozen BK124.out 1; have hfz6_2 := blk_frozen BK124.out 2; have hfz6_3 := blk_frozen BK124.out 3))
    go_ret
    exact ⟨by first | rfl | (simp [errW_none, errW_some] <;> rfl) | (simp [*, errW_none, errW_some] <;> rfl), by repeat (first | (with_reducible first | exact HB.out | apply below_alloc | apply pw_below_drewN | apply below_drew1 | refine below_set ?_ GE124.out) | exact HB.out)⟩

end Go.Proofs.Ytcffniaieegbgaa.P

end

section
namespace Go.Proofs.Ytcffniaieegbgaa.P
open Go.RowKit Go.Proofs.YtcffniaieegbgaaW.PrintWords Go.Proofs.YtcffniaieegbgaaW.PrintLast Go.Proofs.YtcffniaieegbgaaW.PrintMore
attribute [local go_sem] max2_int min2_int max_two min_two max_three min_three max_four min_four   -- for this text's walks alone
set_option linter.unusedVariables false
set_option linter.unusedSimpArgs false

mutual
def provisoref05_Next.j0 : Nat → List Int → Int → Bool → Int → Int → Int → Int → Option (List Int)
  | 0, _, _, _, _, _, _, _ => none
  | k + 1, x3, x4, x14, x126000, x126001, x126002, x126003 => if x14 = true then (some ([] : List Int)) else ((provisoref04_Ends.f x126001).bind fun t128 => (if t128 = true then (provisoref05_Next.j1 k x3 x126000 x126001 x126002 x126003) else ((provisoref05_put.f k x3 (wrap64 (x126000 + x4))).bind fun t129 => (provisoref05_Next.j1 k t129 x126000 x126001 x126002 x126003))))
def provisoref05_Next.j1 : Nat → List Int → Int → Int → Int → Int → Option (List Int)
  | 0, _, _, _, _, _ => none
  | k + 1, x3, x126000, x126001, x126002, x126003 => (provisoref04_Jumps.f x126001).bind fun t132 => (if t132 = true then ((provisoref05_put.f k x3 x126002).bind fun t133 => (some t133)) else (some x3))
end
def provisoref05_Next.f (k : Nat) (a0_0 : Int) (a0_1 : Int) (a0_2 : Int) (a0_3 : Int) : Option (List Int) := (provisoref04_Size.f k a0_1).bind fun t126 => (if t126 = 0 then (provisoref05_Next.j0 k ([] : List Int) t126 true a0_0 a0_1 a0_2 a0_3) else ((provisoref05_placed.f a0_0 a0_1 a0_2 a0_3).bind fun t127 => (provisoref05_Next.j0 k ([] : List Int) t126 (!t127) a0_0 a0_1 a0_2 a0_3)))
set_option maxHeartbeats 8000000 in
set_option maxRecDepth 100000 in
theorem provisoref05_Next.calls (k : Nat) (a0_0 : Int) (a0_1 : Int) (a0_2 : Int) (a0_3 : Int) (r : List Int) (w : World) (h : provisoref05_Next.f k a0_0 a0_1 a0_2 a0_3 = some r) :
    Calls Try.prog 32 #[.agg #[.int .i64 a0_0, .int .u8 a0_1, .int .i64 a0_2, .int .i64 a0_3]] w fun e w' => ∃ v0_ : Value, e = .returned (v0_) ∧ Kd.R (Kd.int .i64) 3 w' w.heap.size (fun _ => True) v0_ r ∧ Below w.heap.size w w' := by
  have hu46 := Try.underlying46
  have HB := Aside0.mk (Below.refl w.heap.size w)
  have H : ((provisoref04_Size.f k a0_1).bind fun t126 => (if t126 = 0 then (provisoref05_Next.j0 k ([] : List Int) t126 true a0_0 a0_1 a0_2 a0_3) else ((provisoref05_placed.f a0_0 a0_1 a0_2 a0_3).bind fun t127 => (provisoref05_Next.j0 k ([] : List Int) t126 (!t127) a0_0 a0_1 a0_2 a0_3)))) = some r := h
  clear h
  replace H := Option.bind_eq_some_iff.mp H
  obtain ⟨t126, A20, H⟩ := H
  replace H : (if t126 = 0 then (provisoref05_Next.j0 k ([] : List Int) t126 true a0_0 a0_1 a0_2 a0_3) else ((provisoref05_placed.f a0_0 a0_1 a0_2 a0_3).bind fun t127 => (provisoref05_Next.j0 k ([] : List Int) t126 (!t127) a0_0 a0_1 a0_2 a0_3))) = some r := H
  have A2 := Aside0.mk A20
  clear A20
  have HC3 := Aside0.mk H
  clear H
  go_enter Try.func32, Try.ntmps32
  go_upto_region 3 with (first | ((with_reducible refine gate_dst (N := 1) rfl ?_); refine box_event ?hg (N := 1) ?hd (cs := #[.int .i64 a0_0, .int .u8 a0_1, .int .i64 a0_2, .int .i64 a0_3]) (t := 46) ?hr ?_; (case hd => rfl); (case hg => rfl); (case hr => first | (go_simp; done) | (go_simp; rfl)); intro gb125 hg w4 hbox hb; have n0_ := Aside0.mk (below_step (by repeat (first | (with_reducible first | exact HB.out | apply below_alloc | apply pw_below_drewN | apply below_drew1) | exact HB.out)) hb); have n1_ := Aside0.mk (hbox); have n2_ := Aside0.mk ((by rw [hg]; exact (below_size (by repeat (first | (with_reducible first | exact HB.out | apply below_alloc | apply pw_below_drewN | apply below_drew1) | exact HB.out))) : w.heap.size ≤ gb125)); have n3_ := Aside0.mk ((by rw [hg]; exact (below_size (by repeat (first | (with_reducible first | exact HB.out | apply below_alloc | apply pw_below_drewN | apply below_drew1) | exact HB.out))) : w.heap.size ≤ gb125)); clear HB; have HB := n0_; have BK125 := n1_; have GW125 := n2_; have GE125 := n3_; clear n0_ n1_ n2_ n3_; clear hb hbox hg; have hcz5_0 : w4.cell? ⟨gb125, 0, none⟩ = some (.int .i64 a0_0) := (blk_cell BK125.out 0).trans rfl; have hcz5_1 : w4.cell? ⟨gb125, 1, none⟩ = some (.int .u8 a0_1) := (blk_cell BK125.out 1).trans rfl; have hcz5_2 : w4.cell? ⟨gb125, 2, none⟩ = some (.int .i64 a0_2) := (blk_cell BK125.out 2).trans rfl; have hcz5_3 : w4.cell? ⟨gb125, 3, none⟩ = some (.int .i64 a0_3) := (blk_cell BK125.out 3).trans rfl; have hfz5_0 := blk_frozen BK125.out 0; have hfz5_1 := blk_frozen BK125.out 1; have hfz5_2 := blk_frozen BK125.out 2; have hfz5_3 := blk_frozen BK125.out 3) | ((with_reducible refine gate_callee (f := 44) rfl ?_); refine goesL_ (some 7) rfl rfl Try.func44 (by kernel_rfl) rfl #[.int .u8 a0_1] rfl (by (try simp only [List.map_toArray, List.map_cons, List.map_nil]); first | done | rfl | (simp only [List.length_drop, List.length_take]; rfl)) ?_; (with_reducible refine (provisoref04_Size.calls k a0_1 t126 _ A2.out).mono ?_); rintro e w' ⟨rfl, ⟨nd, rfl⟩⟩; refine ⟨_, rfl, ?_⟩))
  (try simp only [Act.put, List.setIfInBounds_toArray, List.set_cons_zero, List.set_cons_succ])
  go_cut [14] (fun v14 wc => ∃ (kq : Nat) (x14_2 : Bool), v14 = .bool x14_2 ∧ Aside0 (provisoref05_Next.j0 kq ([] : List Int) t126 x14_2 a0_0 a0_1 a0_2 a0_3 = some r) ∧ Aside0 (kq ≤ k) ∧ Aside0 (Kd.R (Kd.int .i64) 3 wc w.heap.size (fun _ => True) (.slice none 0 0) ([] : List Int)) ∧ Aside0 (wc.heap[gb125]? = some (.cells #[.int .i64 a0_0, .int .u8 a0_1, .int .i64 a0_2, .int .i64 a0_3] 46 (0, 0))) ∧ Aside0 (Below w.heap.size w wc))
  case first =>
    have H := HC3.out
    clear HC3
    by_cases c6 : t126 = 0
    · rw [if_pos c6] at H
      have c6b0 : (t126 == 0) = true := beq_iff_eq.mpr c6
      have c6b1 : (t126 != 0) = false := bne_eq_false_iff_eq.mpr c6
      clear c6
      (first | rw [c6b0] | (simp only [i64_w, i32_w]; rw [c6b0]) | skip)
      have H' := Aside0.mk H
      clear H
      go_wp2
      go_meet
      case rel => exact ⟨_, (true), (by first | rfl | (simp; done) | (simp [*]; done)), H', ⟨by first | omega | exact Nat.le_refl _⟩, ⟨by first | exact Kd.R_nil _ _ _ _ _ | exact Kd.N_nil _ _ _ _ _ | exact Kd.V_nil _ _ _ _ _ | exact Kd.Q_nil _ _ _ _ _ | exact Kd.S_nil _ _ _ _ _⟩, ⟨by (with_reducible repeat (first | refine blk_drewN ?_ _ | refine blk_drew ?_ | refine blk_alloc ?_ _)); exact BK125.out⟩, ⟨by repeat (first | (with_reducible first | exact HB.out | apply below_alloc | apply pw_below_drewN | apply below_drew1 | refine below_set ?_ GE125.out) | exact HB.out)⟩⟩
    · rw [if_neg c6] at H
      have c6b0 : (t126 == 0) = false := beq_eq_false_iff_ne.mpr c6
      have c6b1 : (t126 != 0) = true := bne_iff_ne.mpr c6
      (first | rw [c6b0] | (simp only [i64_w, i32_w]; rw [c6b0]) | skip)
      replace H := Option.bind_eq_some_iff.mp H
      obtain ⟨t127, A70, H⟩ := H
      replace H : (provisoref05_Next.j0 k ([] : List Int) t126 (!t127) a0_0 a0_1 a0_2 a0_3) = some r := H
      have A7 := Aside0.mk A70
      clear A70
      have H' := Aside0.mk H
      clear H
      have hcz8_0 : w4.cell? ⟨gb125, 0, none⟩ = some (.int .i64 a0_0) := (blk_cell BK125.out 0).trans rfl
      have hcz8_1 : w4.cell? ⟨gb125, 1, none⟩ = some (.int .u8 a0_1) := (blk_cell BK125.out 1).trans rfl
      have hcz8_2 : w4.cell? ⟨gb125, 2, none⟩ = some (.int .i64 a0_2) := (blk_cell BK125.out 2).trans rfl
      have hcz8_3 : w4.cell? ⟨gb125, 3, none⟩ = some (.int .i64 a0_3) := (blk_cell BK125.out 3).trans rfl
      have hfz8_0 := blk_frozen BK125.out 0
      have hfz8_1 := blk_frozen BK125.out 1
      have hfz8_2 := blk_frozen BK125.out 2
      have hfz8_3 := blk_frozen BK125.out 3
      go_wp2_with (first | (go_at_call 60; (with_reducible refine (provisoref05_placed.calls a0_0 a0_1 a0_2 a0_3 t127 _ A7.out).mono ?_); rintro e w9 ⟨rfl, hb⟩; have n0_ := Aside0.mk (blk_below (g := gb125) (o := .cells #[.int .i64 a0_0, .int .u8 a0_1, .int .i64 a0_2, .int .i64 a0_3] 46 (0, 0)) (by (with_reducible repeat (first | refine blk_drewN ?_ _ | refine blk_drew ?_ | refine blk_alloc ?_ _)); exact BK125.out) hb); have n1_ := Aside0.mk (below_step (by repeat (first | (with_reducible first | exact HB.out | apply below_alloc | apply pw_below_drewN | apply below_drew1 | refine below_set ?_ GE125.out) | exact HB.out)) hb); clear BK125; clear HB; have BK125 := n0_; have HB := n1_; clear n0_ n1_; (try clear hb); (try clear hb2); (try clear hk); (try clear hi)))
      go_meet
      case rel => exact ⟨_, (!t127), (by first | rfl | (simp; done) | (simp [*]; done)), H', ⟨by first | omega | exact Nat.le_refl _⟩, ⟨by first | exact Kd.R_nil _ _ _ _ _ | exact Kd.N_nil _ _ _ _ _ | exact Kd.V_nil _ _ _ _ _ | exact Kd.Q_nil _ _ _ _ _ | exact Kd.S_nil _ _ _ _ _⟩, ⟨by (with_reducible repeat (first | refine blk_drewN ?_ _ | refine blk_drew ?_ | refine blk_alloc ?_ _)); exact BK125.out⟩, ⟨by repeat (first | (with_reducible first | exact HB.out | apply below_alloc | apply pw_below_drewN | apply below_drew1 | refine below_set ?_ GE125.out) | exact HB.out)⟩⟩
  case rest =>
    clear HC3
    try clear p2
    try clear c3
    try clear c4
    try clear c6
    try clear c6b0
    try clear c6b1
    try clear hcz5_0
    try clear hcz5_1
    try clear hcz5_2
    try clear hcz5_3
    try clear hcz8_0
    try clear hcz8_1
    try clear hcz8_2
    try clear hcz8_3
    try clear hfz5_0
    try clear hfz5_1
    try clear hfz5_2
    try clear hfz5_3
    try clear hfz8_0
    try clear hfz8_1
    try clear hfz8_2
    try clear hfz8_3
    obtain ⟨kq, x14_2, rfl, HA, HJ2, HO_3, BK125, HB⟩ := hcut
    cases kq with
    | zero => exact absurd HA.out (by simp [provisoref05_Next.j0])
    | succ kj2 =>
      have H := HA.out
      clear HA
      simp only [provisoref05_Next.j0] at H
      by_cases c10 : x14_2 = true
      · subst c10
        have H1 : (some ([] : List Int)) = some r := by rw [if_pos rfl] at H; exact H
        clear H
        have H := H1
        clear H1
        obtain rfl := Option.some.inj H
        go_wp2
        go_ret
        exact ⟨_, by first | rfl | (simp [errW_none, errW_some] <;> rfl) | (simp [*, errW_none, errW_some] <;> rfl), by first | exact Kd.R_nil _ _ _ _ _ | exact Kd.N_nil _ _ _ _ _ | exact Kd.V_nil _ _ _ _ _ | exact Kd.Q_nil _ _ _ _ _ | exact Kd.S_nil _ _ _ _ _, by repeat (first | (with_reducible first | exact HB.out | apply below_alloc | apply pw_below_drewN | apply below_drew1 | refine below_set ?_ GE125.out) | exact HB.out)⟩
      · replace c10 := Bool.eq_false_iff.mpr c10
        subst c10
        have H1 : ((provisoref04_Ends.f a0_1).bind fun t128 => (if t128 = true then (provisoref05_Next.j1 kj2 ([] : List Int) a0_0 a0_1 a0_2 a0_3) else ((provisoref05_put.f kj2 ([] : List Int) (wrap64 (a0_0 + t126))).bind fun t129 => (provisoref05_Next.j1 kj2 t129 a0_0 a0_1 a0_2 a0_3)))) = some r := by rw [if_neg (show ¬ (false = true) by decide)] at H; exact H
        clear H
        have H := H1
        clear H1
        replace H := Option.bind_eq_some_iff.mp H
        obtain ⟨t128, A110, H⟩ := H
        replace H : (if t128 = true then (provisoref05_Next.j1 kj2 ([] : List Int) a0_0 a0_1 a0_2 a0_3) else ((provisoref05_put.f kj2 ([] : List Int) (wrap64 (a0_0 + t126))).bind fun t129 => (provisoref05_Next.j1 kj2 t129 a0_0 a0_1 a0_2 a0_3))) = some r := H
        have A11 := Aside0.mk A110
        clear A110
        have HC12 := Aside0.mk H
        clear H
        have hcz13_0 : wc.cell? ⟨gb125, 0, none⟩ = some (.int .i64 a0_0) := (blk_cell BK125.out 0).trans rfl
        have hcz13_1 : wc.cell? ⟨gb125, 1, none⟩ = some (.int .u8 a0_1) := (blk_cell BK125.out 1).trans rfl
        have hcz13_2 : wc.cell? ⟨gb125, 2, none⟩ = some (.int .i64 a0_2) := (blk_cell BK125.out 2).trans rfl
        have hcz13_3 : wc.cell? ⟨gb125, 3, none⟩ = some (.int .i64 a0_3) := (blk_cell BK125.out 3).trans rfl
        have hfz13_0 := blk_frozen BK125.out 0
        have hfz13_1 := blk_frozen BK125.out 1
        have hfz13_2 := blk_frozen BK125.out 2
        have hfz13_3 := blk_frozen BK125.out 3
        go_upto_if 18 with (first | ((with_reducible refine gate_callee (f := 48) rfl ?_); refine goesL_ (some 17) rfl rfl Try.func48 (by kernel_rfl) rfl #[.int .u8 a0_1] rfl (by (try simp only [List.map_toArray, List.map_cons, List.map_nil]); first | done | rfl | (simp only [List.length_drop, List.length_take]; rfl)) ?_; (with_reducible refine (provisoref04_Ends.calls a0_1 t128 _ A11.out).mono ?_); rintro e w' ⟨rfl, ⟨nd, rfl⟩⟩; refine ⟨_, rfl, ?_⟩))
        (try simp only [Act.put, List.setIfInBounds_toArray, List.set_cons_zero, List.set_cons_succ])
        go_cut [3] (fun v3 wc => ∃ (kq : Nat) (x3_11 : List Int), Aside0 (provisoref05_Next.j1 kq x3_11 a0_0 a0_1 a0_2 a0_3 = some r) ∧ Aside0 (kq ≤ kj2) ∧ Aside0 (Kd.R (Kd.int .i64) 3 wc w.heap.size (fun _ => True) v3 x3_11) ∧ Aside0 (wc.heap[gb125]? = some (.cells #[.int .i64 a0_0, .int .u8 a0_1, .int .i64 a0_2, .int .i64 a0_3] 46 (0, 0))) ∧ Aside0 (Below w.heap.size w wc))
        case first =>
          have H := HC12.out
          clear HC12
          by_cases c14 : t128 = true
          · subst c14
            have H1 : (provisoref05_Next.j1 kj2 ([] : List Int) a0_0 a0_1 a0_2 a0_3) = some r := by rw [if_pos rfl] at H; exact H
            clear H
            have H := H1
            clear H1
            have H' := Aside0.mk H
            clear H
            go_wp2
            go_meet
            case rel => exact ⟨_, (([] : List Int)), H', ⟨by have := HJ2.out; first | omega | exact Nat.le_refl _⟩, ⟨by (with_reducible repeat (first | apply Kd.R_alloc | apply Kd.R_drewN | apply Kd.R_drew)); exact HO_3.out⟩, ⟨by (with_reducible repeat (first | refine blk_drewN ?_ _ | refine blk_drew ?_ | refine blk_alloc ?_ _)); exact BK125.out⟩, ⟨by repeat (first | (with_reducible first | exact HB.out | apply below_alloc | apply pw_below_drewN | apply below_drew1 | refine below_set ?_ GE125.out) | exact HB.out)⟩⟩
          · replace c14 := Bool.eq_false_iff.mpr c14
            subst c14
            have H1 : ((provisoref05_put.f kj2 ([] : List Int) (wrap64 (a0_0 + t126))).bind fun t129 => (provisoref05_Next.j1 kj2 t129 a0_0 a0_1 a0_2 a0_3)) = some r := by rw [if_neg (show ¬ (false = true) by decide)] at H; exact H
            clear H
            have H := H1
            clear H1
            replace H := Option.bind_eq_some_iff.mp H
            obtain ⟨t129, A150, H⟩ := H
            replace H : (provisoref05_Next.j1 kj2 t129 a0_0 a0_1 a0_2 a0_3) = some r := H
            have A15 := Aside0.mk A150
            clear A150
            have H' := Aside0.mk H
            clear H
            have hcz16_0 : wc.cell? ⟨gb125, 0, none⟩ = some (.int .i64 a0_0) := (blk_cell BK125.out 0).trans rfl
            have hcz16_1 : wc.cell? ⟨gb125, 1, none⟩ = some (.int .u8 a0_1) := (blk_cell BK125.out 1).trans rfl
            have hcz16_2 : wc.cell? ⟨gb125, 2, none⟩ = some (.int .i64 a0_2) := (blk_cell BK125.out 2).trans rfl
            have hcz16_3 : wc.cell? ⟨gb125, 3, none⟩ = some (.int .i64 a0_3) := (blk_cell BK125.out 3).trans rfl
            have hfz16_0 := blk_frozen BK125.out 0
            have hfz16_1 := blk_frozen BK125.out 1
            have hfz16_2 := blk_frozen BK125.out 2
            have hfz16_3 := blk_frozen BK125.out 3
            go_wp2_with (first | ((with_reducible refine gate_callee (f := 50) rfl ?_); refine goesL_ (some 24) rfl rfl Try.func50 (by kernel_rfl) rfl #[.slice none ([] : List Int).length 0, .int .i64 (wrap64 (a0_0 + t126))] rfl (by (try simp only [List.map_toArray, List.map_cons, List.map_nil]); first | done | (rw [show ([] : List Int).length = 0 from (Kd.R_reads' HO_3.out).1.symm] <;> rfl) | rfl | (simp only [List.length_drop, List.length_take]; rfl)) ?_; (with_reducible refine (provisoref05_put.calls kj2 _ _ ([] : List Int) (wrap64 (a0_0 + t126)) t129 _ ?side1 ?side2 A15.out).mono ?_); (case side1 => repeat (first | exact (Kd.R_reads' HO_3.out).2.2 | (with_reducible refine Kd.C_alloc ?_ _) | (with_reducible refine Kd.C_drewN ?_ _) | (with_reducible refine Kd.C_drew ?_))); (case side2 => rw [show ([] : List Int).length = 0 from (Kd.R_reads' HO_3.out).1.symm]; exact (Kd.R_reads' HO_3.out).2.1); rintro e w17 ⟨v130, rfl, ho0, hb⟩; refine ⟨_, rfl, ?_⟩; have n0_ := Aside0.mk (Kd.R_elder' (by (with_reducible repeat (first | apply Kd.R_alloc | apply Kd.R_drewN | apply Kd.R_drew)); exact HO_3.out) (Kd.R_base ho0) hb); have n1_ := Aside0.mk (Kd.R_lower (Kd.R_new' ho0 (Kd.R_lt (by (with_reducible repeat (first | apply Kd.R_alloc | apply Kd.R_drewN | apply Kd.R_drew)); exact HO_3.out))) (below_size (by repeat (first | (with_reducible first | exact HB.out | apply below_alloc | apply pw_below_drewN | apply below_drew1 | refine below_set ?_ GE125.out) | exact HB.out)))); have n2_ := Aside0.mk (blk_below (g := gb125) (o := .cells #[.int .i64 a0_0, .int .u8 a0_1, .int .i64 a0_2, .int .i64 a0_3] 46 (0, 0)) (by (with_reducible repeat (first | refine blk_drewN ?_ _ | refine blk_drew ?_ | refine blk_alloc ?_ _)); exact BK125.out) hb); have n3_ := Aside0.mk (below_step (by repeat (first | (with_reducible first | exact HB.out | apply below_alloc | apply pw_below_drewN | apply below_drew1 | refine below_set ?_ GE125.out) | exact HB.out)) hb); clear HO_3; clear BK125; clear HB; have HO_3 := n0_; have HO131 := n1_; have BK125 := n2_; have HB := n3_; clear n0_ n1_ n2_ n3_; (try clear hb); (try clear hb2); (try clear hk); (try clear hi); (try clear ho0)))
            go_meet
            case rel => exact ⟨_, (t129), H', ⟨by have := HJ2.out; first | omega | exact Nat.le_refl _⟩, ⟨by (with_reducible repeat (first | apply Kd.R_alloc | apply Kd.R_drewN | apply Kd.R_drew)); exact Kd.R_mono HO131.out (fun _ hk => trivial)⟩, ⟨by (with_reducible repeat (first | refine blk_drewN ?_ _ | refine blk_drew ?_ | refine blk_alloc ?_ _)); exact BK125.out⟩, ⟨by repeat (first | (with_reducible first | exact HB.out | apply below_alloc | apply pw_below_drewN | apply below_drew1 | refine below_set ?_ GE125.out) | exact HB.out)⟩⟩
        case rest =>
          clear HC12
          try clear c1
          try clear p2
          try clear c3
          try clear c4
          try clear c5
          try clear c6
          try clear c6b0
          try clear c6b1
          try clear p6
          try clear c10
          try clear c14
          try clear hcz13_0
          try clear hcz13_1
          try clear hcz13_2
          try clear hcz13_3
          try clear hcz16_0
          try clear hcz16_1
          try clear hcz16_2
          try clear hcz16_3
          try clear hcz5_0
          try clear hcz5_1
          try clear hcz5_2
          try clear hcz5_3
          try clear hcz8_0
          try clear hcz8_1
          try clear hcz8_2
          try clear hcz8_3
          try clear hfz13_0
          try clear hfz13_1
          try clear hfz13_2
          try clear hfz13_3
          try clear hfz16_0
          try clear hfz16_1
          try clear hfz16_2
          try clear hfz16_3
          try clear hfz5_0
          try clear hfz5_1
          try clear hfz5_2
          try clear hfz5_3
          try clear hfz8_0
          try clear hfz8_1
          try clear hfz8_2
          try clear hfz8_3
          try clear p2
          obtain ⟨kq, x3_11, HA, HJ11, HO_3, BK125, HB⟩ := hcut
          cases kq with
          | zero => exact absurd HA.out (by simp [provisoref05_Next.j1])
          | succ kj11 =>
            have H := HA.out
            clear HA
            simp only [provisoref05_Next.j1] at H
            replace H := Option.bind_eq_some_iff.mp H
            obtain ⟨t132, A180, H⟩ := H
            replace H : (if t132 = true then ((provisoref05_put.f kj11 x3_11 a0_2).bind fun t133 => (some t133)) else (some x3_11)) = some r := H
            have A18 := Aside0.mk A180
            clear A180
            by_cases c19 : t132 = true
            · subst c19
              have H1 : ((provisoref05_put.f kj11 x3_11 a0_2).bind fun t133 => (some t133)) = some r := by rw [if_pos rfl] at H; exact H
              clear H
              have H := H1
              clear H1
              replace H := Option.bind_eq_some_iff.mp H
              obtain ⟨t133, A200, H⟩ := H
              replace H : (some t133) = some r := H
              have A20 := Aside0.mk A200
              clear A200
              obtain rfl := Option.some.inj H
              have hcz21_0 : wc.cell? ⟨gb125, 0, none⟩ = some (.int .i64 a0_0) := (blk_cell BK125.out 0).trans rfl
              have hcz21_1 : wc.cell? ⟨gb125, 1, none⟩ = some (.int .u8 a0_1) := (blk_cell BK125.out 1).trans rfl
              have hcz21_2 : wc.cell? ⟨gb125, 2, none⟩ = some (.int .i64 a0_2) := (blk_cell BK125.out 2).trans rfl
              have hcz21_3 : wc.cell? ⟨gb125, 3, none⟩ = some (.int .i64 a0_3) := (blk_cell BK125.out 3).trans rfl
              have hfz21_0 := blk_frozen BK125.out 0
              have hfz21_1 := blk_frozen BK125.out 1
              have hfz21_2 := blk_frozen BK125.out 2
              have hfz21_3 := blk_frozen BK125.out 3
              go_wp2_with (first | ((with_reducible refine gate_callee (f := 47) rfl ?_); refine goesL_ (some 27) rfl rfl Try.func47 (by kernel_rfl) rfl #[.int .u8 a0_1] rfl (by (try simp only [List.map_toArray, List.map_cons, List.map_nil]); first | done | rfl | (simp only [List.length_drop, List.length_take]; rfl)) ?_; (with_reducible refine (provisoref04_Jumps.calls a0_1 true _ A18.out).mono ?_); rintro e w' ⟨rfl, ⟨nd, rfl⟩⟩; refine ⟨_, rfl, ?_⟩; obtain ⟨Ao22, co22, eo22⟩ := Kd.R_slice HO_3.out; subst eo22) | ((with_reducible refine gate_callee (f := 50) rfl ?_); refine goesL_ (some 31) rfl rfl Try.func50 (by kernel_rfl) rfl #[.slice Ao22 x3_11.length co22, .int .i64 a0_2] rfl (by (try simp only [List.map_toArray, List.map_cons, List.map_nil]); first | done | rfl | (simp only [List.length_drop, List.length_take]; rfl)) ?_; (with_reducible refine (provisoref05_put.calls kj11 _ _ x3_11 a0_2 t133 _ ?side1 ?side2 A20.out).mono ?_); (case side1 => repeat (first | exact (Kd.R_reads' HO_3.out).2.2 | (with_reducible refine Kd.C_alloc ?_ _) | (with_reducible refine Kd.C_drewN ?_ _) | (with_reducible refine Kd.C_drew ?_))); (case side2 => exact (Kd.R_reads' HO_3.out).2.1); rintro e w23 ⟨v134, rfl, ho0, hb⟩; refine ⟨_, rfl, ?_⟩; have n0_ := Aside0.mk (Kd.R_elder' (by (with_reducible repeat (first | apply Kd.R_alloc | apply Kd.R_drewN | apply Kd.R_drew)); exact HO_3.out) (Kd.R_base ho0) hb); have n1_ := Aside0.mk (Kd.R_lower (Kd.R_new' ho0 (Kd.R_lt (by (with_reducible repeat (first | apply Kd.R_alloc | apply Kd.R_drewN | apply Kd.R_drew)); exact HO_3.out))) (below_size (by repeat (first | (with_reducible first | exact HB.out | apply below_alloc | apply pw_below_drewN | apply below_drew1 | refine below_set ?_ GE125.out) | exact HB.out)))); have n2_ := Aside0.mk (blk_below (g := gb125) (o := .cells #[.int .i64 a0_0, .int .u8 a0_1, .int .i64 a0_2, .int .i64 a0_3] 46 (0, 0)) (by (with_reducible repeat (first | refine blk_drewN ?_ _ | refine blk_drew ?_ | refine blk_alloc ?_ _)); exact BK125.out) hb); have n3_ := Aside0.mk (below_step (by repeat (first | (with_reducible first | exact HB.out | apply below_alloc | apply pw_below_drewN | apply below_drew1 | refine below_set ?_ GE125.out) | exact HB.out)) hb); clear HO_3; clear BK125; clear HB; have HO_3 := n0_; have HO135 := n1_; have BK125 := n2_; have HB := n3_; clear n0_ n1_ n2_ n3_; (try clear hb); (try clear hb2); (try clear hk); (try clear hi); (try clear ho0)))
              go_ret
              exact ⟨_, by first | rfl | (simp [errW_none, errW_some] <;> rfl) | (simp [*, errW_none, errW_some] <;> rfl), by (with_reducible repeat (first | apply Kd.R_alloc | apply Kd.R_drewN | apply Kd.R_drew)); exact Kd.R_mono HO135.out (fun _ hk => trivial), by repeat (first | (with_reducible first | exact HB.out | apply below_alloc | apply pw_below_drewN | apply below_drew1 | refine below_set ?_ GE125.out) | exact HB.out)⟩
            · replace c19 := Bool.eq_false_iff.mpr c19
              subst c19
              have H1 : (some x3_11) = some r := by rw [if_neg (show ¬ (false = true) by decide)] at H; exact H
              clear H
              have H := H1
              clear H1
              obtain rfl := Option.some.inj H
              have hcz24_0 : wc.cell? ⟨gb125, 0, none⟩ = some (.int .i64 a0_0) := (blk_cell BK125.out 0).trans rfl
              have hcz24_1 : wc.cell? ⟨gb125, 1, none⟩ = some (.int .u8 a0_1) := (blk_cell BK125.out 1).trans rfl
              have hcz24_2 : wc.cell? ⟨gb125, 2, none⟩ = some (.int .i64 a0_2) := (blk_cell BK125.out 2).trans rfl
              have hcz24_3 : wc.cell? ⟨gb125, 3, none⟩ = some (.int .i64 a0_3) := (blk_cell BK125.out 3).trans rfl
              have hfz24_0 := blk_frozen BK125.out 0
              have hfz24_1 := blk_frozen BK125.out 1
              have hfz24_2 := blk_frozen BK125.out 2
              have hfz24_3 := blk_frozen BK125.out 3
              go_wp2_with (first | ((with_reducible refine gate_callee (f := 47) rfl ?_); refine goesL_ (some 27) rfl rfl Try.func47 (by kernel_rfl) rfl #[.int .u8 a0_1] rfl (by (try simp only [List.map_toArray, List.map_cons, List.map_nil]); first | done | rfl | (simp only [List.length_drop, List.length_take]; rfl)) ?_; (with_reducible refine (provisoref04_Jumps.calls a0_1 false _ A18.out).mono ?_); rintro e w' ⟨rfl, ⟨nd, rfl⟩⟩; refine ⟨_, rfl, ?_⟩))
              go_ret
              exact ⟨_, by first | rfl | (simp [errW_none, errW_some] <;> rfl) | (simp [*, errW_none, errW_some] <;> rfl), by (with_reducible repeat (first | apply Kd.R_alloc | apply Kd.R_drewN | apply Kd.R_drew)); exact HO_3.out, by repeat (first | (with_reducible first | exact HB.out | apply below_alloc | apply pw_below_drewN | apply below_drew1 | refine below_set ?_ GE125.out) | exact HB.out)⟩

def provisoref04_take.l0 : Nat → List Int → Int → Int → Int → Option (Int)
  | 0, _, _, _, _ => none
  | k + 1, x0, x1, x5, x6 => if x6 < x1 then (if 0 ≤ x6 then (if x6 < (x0.length : Int) then (provisoref04_take.l0 k x0 x1 (wrap64 ((wrap64 (256 * x5)) + (wrap64 (rd x0 x6)))) (wrap64 (x6 + 1))) else (none)) else (none)) else (if x1 = 4 then (if x5 > 2147483647 then (some (wrap64 (x5 - 4294967296))) else (some x5)) else (some x5))
def provisoref04_take.f (k : Nat) (l0 : List Int) (a1 : Int) : Option (Int) := provisoref04_take.l0 k l0 a1 0 0
set_option maxHeartbeats 8000000 in
set_option maxRecDepth 100000 in
theorem provisoref04_take.calls (k : Nat) (A0 : Option Addr) (c0 : Nat) (l0 : List Int) (a1 : Int) (r : Int) (w : World) (hr0 : Kd.C (Kd.int .u8) w A0 l0.length l0) (hc0 : l0.length ≤ c0) (h : provisoref04_take.f k l0 a1 = some r) :
    Calls Try.prog 65 #[.slice A0 l0.length c0, .int .i64 a1] w fun e w' => e = .returned (.int .i64 r) ∧ Drawn0 w w' := by
  have HR0 := Aside0.mk hr0
  have HC0 := Aside0.mk hc0
  clear hr0 hc0
  have H : (provisoref04_take.l0 k l0 a1 0 0) = some r := h
  clear h
  have H' := Aside0.mk H
  clear H
  go_enter Try.func65, Try.ntmps65
  go_wp2
  go_loopg [5, 6] k (fun kq v5 v6 w' => ∃ (x5_1 : Int) (x6_1 : Int), v5 = .int .i64 x5_1 ∧ v6 = .int .i64 x6_1 ∧ Aside0 (provisoref04_take.l0 kq l0 a1 x5_1 x6_1 = some r) ∧ Aside0 (kq ≤ k) ∧ Drawn0 w w')
  case atStart => exact ⟨(0), (0), (by first | rfl | (simp; done) | (simp [*]; done)), (by first | rfl | (simp; done) | (simp [*]; done)), H', ⟨Nat.le_refl _⟩, by repeat (first | exact Drawn0.refl _ | apply Drawn0.step)⟩
  case round =>
    clear H'
    try clear p2
    obtain ⟨x5_1, x6_1, rfl, rfl, HA, HK1, ⟨m1, rfl⟩⟩ := hrel
    cases gk with
    | zero => exact absurd HA.out (by simp [provisoref04_take.l0])
    | succ k1 =>
      have H := HA.out
      clear HA
      simp only [provisoref04_take.l0] at H
      by_cases c3 : x6_1 < a1
      · rw [if_pos c3] at H
        have c3b0 : decide (x6_1 < a1) = true := decide_eq_true c3
        clear c3
        by_cases c4 : 0 ≤ x6_1
        · rw [if_pos c4] at H
          have c4b0 : decide (0 ≤ x6_1) = true := decide_eq_true c4
          clear c4
          by_cases c5 : x6_1 < (l0.length : Int)
          · rw [if_pos c5] at H
            have c5b0 : decide (x6_1 < (l0.length : Int)) = true := decide_eq_true c5
            clear c5
            have H' := Aside0.mk H
            clear H
            have p144 : 0 ≤ (x6_1 : Int) := of_decide_eq_true (by first | (with_reducible assumption) | assumption)
            have q144 : x6_1 < (l0.length : Int) := of_decide_eq_true (by first | (with_reducible assumption) | assumption)
            obtain ⟨ad144, e144, hx144_0⟩ := Kd.at_int HR0.out x6_1 p144 q144
            cases e144
            replace p144 := eq_true p144
            replace q144 := eq_true q144
            go_wp2
            go_roundg k1
            case measure => have := HK1.out; omega
            case rel => exact ⟨(wrap64 ((wrap64 (256 * x5_1)) + (wrap64 (rd l0 x6_1)))), (wrap64 (x6_1 + 1)), (by first | rfl | (simp; done) | (simp [*]; done)), (by first | rfl | (simp; done) | (simp [*]; done)), H', ⟨by have := HK1.out; omega⟩, by repeat (first | exact Drawn0.refl _ | apply Drawn0.step)⟩
          · rw [if_neg c5] at H
            exact absurd H (by simp)
        · rw [if_neg c4] at H
          exact absurd H (by simp)
      · rw [if_neg c3] at H
        have c3b0 : decide (x6_1 < a1) = false := decide_eq_false c3
        clear c3
        by_cases c6 : a1 = 4
        · rw [if_pos c6] at H
          have c6b0 : (a1 == 4) = true := beq_iff_eq.mpr c6
          have c6b1 : (a1 != 4) = false := bne_eq_false_iff_eq.mpr c6
          clear c6
          by_cases c7 : x5_1 > 2147483647
          · rw [if_pos c7] at H
            have c7b0 : decide (2147483647 < x5_1) = true := decide_eq_true c7
            clear c7
            obtain rfl := Option.some.inj H
            go_wp2
            go_ret
            exact ⟨by first | rfl | (simp; done) | (simp [*]; done), by repeat (first | exact Drawn0.refl _ | apply Drawn0.step)⟩
          · rw [if_neg c7] at H
            have c7b0 : decide (2147483647 < x5_1) = false := decide_eq_false c7
            clear c7
            obtain rfl := Option.some.inj H
            go_wp2
            go_ret
            exact ⟨by first | rfl | (simp; done) | (simp [*]; done), by repeat (first | exact Drawn0.refl _ | apply Drawn0.step)⟩
        · rw [if_neg c6] at H
          have c6b0 : (a1 == 4) = false := beq_eq_false_iff_ne.mpr c6
          have c6b1 : (a1 != 4) = true := bne_iff_ne.mpr c6
          obtain rfl := Option.some.inj H
          go_wp2
          go_ret
          exact ⟨by first | rfl | (simp; done) | (simp [*]; done), by repeat (first | exact Drawn0.refl _ | apply Drawn0.step)⟩

end Go.Proofs.Ytcffniaieegbgaa.P

end

section
namespace Go.Proofs.Ytcffniaieegbgaa.P
open Go.RowKit Go.Proofs.YtcffniaieegbgaaW.PrintWords Go.Proofs.YtcffniaieegbgaaW.PrintLast Go.Proofs.YtcffniaieegbgaaW.PrintMore
attribute [local go_sem] max2_int min2_int max_two min_two max_three min_three max_four min_four   -- for this text's walks alone
set_option linter.unusedVariables false
set_option linter.unusedSimpArgs false

def provisoref04_Decode.j0 : Nat → List Int → Int → Bool → Int → Int → Int → Int → Option (Int × Int × Int × Int × Int)
  | 0, _, _, _, _, _, _, _ => none
  | k + 1, x0, x1, x19, x147000, x147001, x147002, x147003 => if x19 = true then (some (x147000, x147001, x147002, x147003, 1)) else (if x1 = (x0.length : Int) then (some (x147000, x147001, x147002, x147003, 2)) else (if 0 ≤ x1 then (if x1 < (x0.length : Int) then ((provisoref04_Size.f k (rd x0 x1)).bind fun t148 => (if t148 = 0 then (some (x147000, x147001, x147002, x147003, 40)) else (if (wrap64 ((x0.length : Int) - x1)) < t148 then (some (x147000, x147001, x147002, x147003, 2)) else ((provisoref04_wide.f k (rd x0 x1)).bind fun bt149 => (if 0 ≤ (wrap64 (x1 + 1)) then (if (wrap64 (x1 + 1)) ≤ (x0.length : Int) then ((provisoref04_take.f k (x0.drop ((wrap64 (x1 + 1)) : Int).toNat) bt149.1).bind fun t152 => (if 0 ≤ (wrap64 ((wrap64 (x1 + 1)) + bt149.1)) then (if (wrap64 ((wrap64 (x1 + 1)) + bt149.1)) ≤ (x0.length : Int) then ((provisoref04_take.f k (x0.drop ((wrap64 ((wrap64 (x1 + 1)) + bt149.1)) : Int).toNat) bt149.2).bind fun t154 => (if (rd x0 x1) = 2 then (if t152 > 1 then (some (x147000, x147001, x147002, x147003, 5)) else (some (x1, rd x0 x1, t152, t154, 0))) else (some (x1, rd x0 x1, t152, t154, 0)))) else (none)) else (none))) else (none)) else (none)))))) else (none)) else (none)))
def provisoref04_Decode.f (k : Nat) (l0 : List Int) (a1 : Int) : Option (Int × Int × Int × Int × Int) := if a1 < 0 then (provisoref04_Decode.j0 k l0 a1 true 0 0 0 0) else (provisoref04_Decode.j0 k l0 a1 (decide (a1 > (l0.length : Int))) 0 0 0 0)
def provisoref04_Decode.T13 : Bool × List (List Nat × List Nat) := (true, [([], []), ([], []), ([], []), ([], []), ([3], [3]), ([2, 4], [2, 4]), ([], []), ([5, 6], [5, 6]), ([], []), ([], []), ([9], [9]), ([], []), ([10, 11], [10, 11]), ([8, 12], [8, 12]), ([], []), ([13, 14, 7], [13, 14]), ([0, 1, 7, 15], [0, 1, 7, 15]), ([], []), ([17, 16, 15, 0, 1, 2, 3, 4, 5, 6, 7, 8, 9, 10, 11, 12, 13, 14, 15, 16, 17], [16, 17])])
def provisoref04_Decode.B13 : List Nat := [0, 0, 0, 0, 8, 28, 0, 124, 0, 0, 512, 0, 3584, 7936, 0, 32764, 65535, 0, 262143]
theorem provisoref04_Decode.tab13 : rtab .any (opsOf Try.f43 13) = provisoref04_Decode.T13 := by kernel_rfl
theorem provisoref04_Decode.bits13 : waitsOk provisoref04_Decode.T13.2 provisoref04_Decode.B13 = true := by kernel_rfl
end Go.Proofs.Ytcffniaieegbgaa.P
end

