/- Proved: the law StoreOwn holds for every input that the row lets in. No condition of ours. -/
import Derived.Test.YtfakdphkklclgaaBStoreOwnb
import Derived.Test.YtfakdphkklclgaaProg
import Derived.WalkSpells
import Derived.ChangeKeysEq
import Derived.Deep.MidRow
import Derived.Maps.RangeWalk
import Derived.Maps.OwnSet
import Derived.Maps.OwnOps
import Derived.Shelf.SlIter.Nil
import Derived.Shelf.SortM.Plain
import Derived.Shelf.SortM.SortNone
import Derived.Ground.GgzProg
import Derived.Ground.SlgmProg
section
namespace Go.Proofs.Ytfakdphkklclgaa.P
open Go.RowKit Go.Proofs.YtfakdphkklclgaaW.PrintWords Go.Proofs.YtfakdphkklclgaaW.PrintLast Go.Proofs.YtfakdphkklclgaaW.PrintMore
attribute [local go_sem] max2_int min2_int max_two min_two max_three min_three max_four min_four   -- for this text's walks alone
set_option linter.unusedVariables false
set_option linter.unusedSimpArgs false



def errW : Option Int → Value
  | none => .nilIface
  | some c => .iface 0 (.int .i64 c)
theorem errW_none : errW none = .nilIface := rfl
theorem errW_some (c : Int) : errW (some c) = .iface 0 (.int .i64 c) := rfl

theorem info5 : (Try.prog.info? 5).map (fun i => (i.zero, i.size, i.bytes)) = some (some (.int .u8 0), 1, 1) := by kernel_rfl
theorem info101 : (Try.prog.info? 101).map (fun i => (i.zero, i.size, i.bytes)) = some (some (.agg #[(.string ⟨#[]⟩), (.slice none 0 0)]), 2, 40) := by kernel_rfl
structure S101 where
  f0 : ByteArray
  f1 : (List Int)
def z101 : S101 := ⟨(⟨#[]⟩ : ByteArray), ([] : List Int)⟩
def k101 : Kd S101 := Kd.iso (Kd.pair Kd.string (Kd.slice 5 (Kd.int .u8))) (fun x : S101 => (x.f0, x.f1))
theorem k101_open {w : World} {x : S101} {cs : List Value} (h : k101.K w x cs) : ∃ A1 c1, cs = [.string x.f0, .slice A1 x.f1.length c1] ∧ x.f1.length ≤ c1 ∧ (Kd.int .u8).C w A1 x.f1.length x.f1 := by
  obtain ⟨_, _, rfl, rfl, ⟨A1, c1, rfl, l1, g1⟩⟩ := h
  exact ⟨A1, c1, rfl, l1, g1⟩
theorem k101_mk (w : World) (x : S101) {A1 : Option Addr} {c1 : Nat} (l1 : x.f1.length ≤ c1) (g1 : (Kd.int .u8).C w A1 x.f1.length x.f1) : k101.K w x [.string x.f0, .slice A1 x.f1.length c1] := ⟨[.string x.f0], [.slice A1 x.f1.length c1], rfl, rfl, ⟨A1, c1, rfl, l1, g1⟩⟩
theorem k101_openF {W : World} {ok : Nat → Prop} {x : S101} {cs : List Value} (h : Kd.FK k101 W ok x cs) : ∃ A1 c1, cs = [.string x.f0, .slice A1 x.f1.length c1] ∧ x.f1.length ≤ c1 ∧ Kd.F (Kd.int .u8) W ok A1 x.f1.length x.f1 := by
  obtain ⟨A1, c1, rfl, l1, _⟩ := k101_open (Kd.FK_now h)
  exact ⟨A1, c1, rfl, l1, (fun W' hW => by obtain ⟨A1_, c1_, he, l1_, g1_⟩ := k101_open (h W' hW); injection (Option.some.inj (show some (Value.slice A1 x.f1.length c1) = some (Value.slice A1_ x.f1.length c1_) from congrArg (fun l => l[1]?) he)) with ha_ _ _; rw [ha_]; exact g1_)⟩
theorem k101_mkF (W : World) (ok : Nat → Prop) (x : S101) {A1 : Option Addr} {c1 : Nat} (l1 : x.f1.length ≤ c1) (g1 : Kd.F (Kd.int .u8) W ok A1 x.f1.length x.f1) : Kd.FK k101 W ok x [.string x.f0, .slice A1 x.f1.length c1] := fun W2 hW => k101_mk W2 x l1 (g1 W2 hW)
def rd_T101 (xs : List S101) (i : Int) : S101 := xs.getD i.toNat z101
theorem at_T101 {w : World} {A : Option Addr} {n : Nat} {xs : List S101} (h : Kd.C k101 w A n xs) (i : Int) (h0 : 0 ≤ i) (h1 : i < n) : ∃ ad A1 c1, A = some ad ∧ w.cell? (ad.add (i.toNat * 2)) = some (.string (rd_T101 xs i).f0) ∧ w.cell? ⟨(ad.add (i.toNat * 2)).block, (ad.add (i.toNat * 2)).off + 1, none⟩ = some (.slice A1 (rd_T101 xs i).f1.length c1) ∧ (rd_T101 xs i).f1.length ≤ c1 ∧ (Kd.int .u8).C w A1 (rd_T101 xs i).f1.length (rd_T101 xs i).f1 := by
  obtain ⟨ad, c, e, _, hK, hc0⟩ := Kd.C_get h z101 i h0 h1
  have hc : ∀ j u, c[j]? = some u → w.cell? (ad.add (i.toNat * 2 + j)) = some u := hc0
  obtain ⟨A1, c1, rfl, l1, g1⟩ := k101_open hK
  exact ⟨ad, A1, c1, e, hc 0 _ rfl, by rw [← add_field _ _ 1 (by omega)]; exact hc 1 _ rfl, l1, g1⟩

structure S52 where
  f0 : Int
  f1 : (List Int)
def z52 : S52 := ⟨(0 : Int), ([] : List Int)⟩
def k52 : Kd S52 := Kd.iso (Kd.pair (Kd.int .i64) (Kd.slice 5 (Kd.int .u8))) (fun x : S52 => (x.f0, x.f1))
theorem k52_open {w : World} {x : S52} {cs : List Value} (h : k52.K w x cs) : ∃ A1 c1, cs = [.int .i64 x.f0, .slice A1 x.f1.length c1] ∧ x.f1.length ≤ c1 ∧ (Kd.int .u8).C w A1 x.f1.length x.f1 := by
  obtain ⟨_, _, rfl, rfl, ⟨A1, c1, rfl, l1, g1⟩⟩ := h
  exact ⟨A1, c1, rfl, l1, g1⟩
theorem k52_mk (w : World) (x : S52) {A1 : Option Addr} {c1 : Nat} (l1 : x.f1.length ≤ c1) (g1 : (Kd.int .u8).C w A1 x.f1.length x.f1) : k52.K w x [.int .i64 x.f0, .slice A1 x.f1.length c1] := ⟨[.int .i64 x.f0], [.slice A1 x.f1.length c1], rfl, rfl, ⟨A1, c1, rfl, l1, g1⟩⟩
def rd_T52 (xs : List S52) (i : Int) : S52 := xs.getD i.toNat z52
theorem at_T52 {w : World} {A : Option Addr} {n : Nat} {xs : List S52} (h : Kd.C k52 w A n xs) (i : Int) (h0 : 0 ≤ i) (h1 : i < n) : ∃ ad A1 c1, A = some ad ∧ w.cell? (ad.add (i.toNat * 2)) = some (.int .i64 (rd_T52 xs i).f0) ∧ w.cell? ⟨(ad.add (i.toNat * 2)).block, (ad.add (i.toNat * 2)).off + 1, none⟩ = some (.slice A1 (rd_T52 xs i).f1.length c1) ∧ (rd_T52 xs i).f1.length ≤ c1 ∧ (Kd.int .u8).C w A1 (rd_T52 xs i).f1.length (rd_T52 xs i).f1 := by
  obtain ⟨ad, c, e, _, hK, hc0⟩ := Kd.C_get h z52 i h0 h1
  have hc : ∀ j u, c[j]? = some u → w.cell? (ad.add (i.toNat * 2 + j)) = some u := hc0
  obtain ⟨A1, c1, rfl, l1, g1⟩ := k52_open hK
  exact ⟨ad, A1, c1, e, hc 0 _ rfl, by rw [← add_field _ _ 1 (by omega)]; exact hc 1 _ rfl, l1, g1⟩

structure S37 where
  f0 : Int
  f1 : ByteArray
  f2 : (List Int)
def z37 : S37 := ⟨(0 : Int), (⟨#[]⟩ : ByteArray), ([] : List Int)⟩
def k37 : Kd S37 := Kd.iso (Kd.pair (Kd.int .i64) (Kd.pair Kd.string (Kd.slice 5 (Kd.int .u8)))) (fun x : S37 => (x.f0, x.f1, x.f2))
theorem k37_open {w : World} {x : S37} {cs : List Value} (h : k37.K w x cs) : ∃ A2 c2, cs = [.int .i64 x.f0, .string x.f1, .slice A2 x.f2.length c2] ∧ x.f2.length ≤ c2 ∧ (Kd.int .u8).C w A2 x.f2.length x.f2 := by
  obtain ⟨_, _, rfl, rfl, ⟨_, _, rfl, rfl, ⟨A2, c2, rfl, l2, g2⟩⟩⟩ := h
  exact ⟨A2, c2, rfl, l2, g2⟩
def rd_T37 (xs : List S37) (i : Int) : S37 := xs.getD i.toNat z37
theorem at_T37 {w : World} {A : Option Addr} {n : Nat} {xs : List S37} (h : Kd.C k37 w A n xs) (i : Int) (h0 : 0 ≤ i) (h1 : i < n) : ∃ ad A2 c2, A = some ad ∧ w.cell? (ad.add (i.toNat * 3)) = some (.int .i64 (rd_T37 xs i).f0) ∧ w.cell? ⟨(ad.add (i.toNat * 3)).block, (ad.add (i.toNat * 3)).off + 1, none⟩ = some (.string (rd_T37 xs i).f1) ∧ w.cell? ⟨(ad.add (i.toNat * 3)).block, (ad.add (i.toNat * 3)).off + 2, none⟩ = some (.slice A2 (rd_T37 xs i).f2.length c2) ∧ (rd_T37 xs i).f2.length ≤ c2 ∧ (Kd.int .u8).C w A2 (rd_T37 xs i).f2.length (rd_T37 xs i).f2 := by
  obtain ⟨ad, c, e, _, hK, hc0⟩ := Kd.C_get h z37 i h0 h1
  have hc : ∀ j u, c[j]? = some u → w.cell? (ad.add (i.toNat * 3 + j)) = some u := hc0
  obtain ⟨A2, c2, rfl, l2, g2⟩ := k37_open hK
  exact ⟨ad, A2, c2, e, hc 0 _ rfl, by rw [← add_field _ _ 1 (by omega)]; exact hc 1 _ rfl, by rw [← add_field _ _ 2 (by omega)]; exact hc 2 _ rfl, l2, g2⟩

end Go.Proofs.Ytfakdphkklclgaa.P

end

section
namespace Go.Proofs.Ytfakdphkklclgaa.P
open Go.RowKit Go.Proofs.YtfakdphkklclgaaW.PrintWords Go.Proofs.Ytfakdphkklclgaa.Sees

def Ok37 (x : S37) : Prop := (fun n : Int => (Lit.int .i64 n).wf = true) x.f0 ∧ (fun s : ByteArray => s.size ≤ 140737488351232) x.f1 ∧ (fun l : List (Int) => l.length ≤ 9223372036854775807 ∧ l.length * 1 ≤ 140737488351232 ∧ ∀ x ∈ l, (fun n : Int => (Lit.int .u8 n).wf = true) x) x.f2
theorem sees37 : Sees Try.prog 37 k37 Ok37 := sees_struct (fun x : S37 => (x.f0, x.f1, x.f2)) (fun y => ⟨y.1, y.2.1, y.2.2⟩) (fun _ => rfl) Try.underlying37 (by kernel_rfl) (sees_more rfl (by kernel_rfl) (sees_int Try.underlying3) (sees_more rfl (by kernel_rfl) (sees_string Try.underlying9) (sees_last rfl (by kernel_rfl) (sees_slice (B := 1) Try.underlying23 (by kernel_rfl) (by kernel_rfl) (sees_int Try.underlying5)))))
end Go.Proofs.Ytfakdphkklclgaa.P

end

section
namespace Go.Proofs.Ytfakdphkklclgaa.P
open Go.RowKit Go.Proofs.YtfakdphkklclgaaW.PrintWords Go.Proofs.YtfakdphkklclgaaW.PrintLast Go.Proofs.YtfakdphkklclgaaW.PrintMore
attribute [local go_sem] max2_int min2_int max_two min_two max_three min_three max_four min_four   -- for this text's walks alone
set_option linter.unusedVariables false
set_option linter.unusedSimpArgs false



mutual
def wire_IsName.j0 : Nat → ByteArray → Bool → Option (Bool)
  | 0, _, _ => none
  | k + 1, x0, x12 => if x12 = true then (some false) else (wire_IsName.l0 k x0 (x0.size : Int) 0)
def wire_IsName.l0 : Nat → ByteArray → Int → Int → Option (Bool)
  | 0, _, _, _ => none
  | k + 1, x0, x14, x15 => if x15 < x14 then (if 0 ≤ x15 then (if x15 < (x0.size : Int) then (if (bt x0 x15) ≥ 97 then (wire_IsName.j2 k x0 x15 (bt x0 x15) x14 x15 (decide ((bt x0 x15) ≤ 122))) else (wire_IsName.j2 k x0 x15 (bt x0 x15) x14 x15 false)) else (none)) else (none)) else (some true)
def wire_IsName.j2 : Nat → ByteArray → Int → Int → Int → Int → Bool → Option (Bool)
  | 0, _, _, _, _, _, _ => none
  | k + 1, x0, x3, x4, x14, x15, x21 => if x21 = true then (wire_IsName.j3 k x0 x3 x4 x14 x15 x21) else (if x4 ≥ 65 then (wire_IsName.j3 k x0 x3 x4 x14 x15 (decide (x4 ≤ 90))) else (wire_IsName.j3 k x0 x3 x4 x14 x15 false))
def wire_IsName.j3 : Nat → ByteArray → Int → Int → Int → Int → Bool → Option (Bool)
  | 0, _, _, _, _, _, _ => none
  | k + 1, x0, x3, x4, x14, x15, x21 => if x21 = true then (wire_IsName.l0 k x0 x14 (wrap64 (x15 + 1))) else (if x3 > 0 then (if x4 ≥ 48 then (if x4 ≤ 57 then (wire_IsName.l0 k x0 x14 (wrap64 (x15 + 1))) else (if x4 = 95 then (wire_IsName.l0 k x0 x14 (wrap64 (x15 + 1))) else (some false))) else (if x4 = 95 then (wire_IsName.l0 k x0 x14 (wrap64 (x15 + 1))) else (some false))) else (some false))
end
def wire_IsName.f (k : Nat) (a0 : ByteArray) : Option (Bool) := if (a0.size : Int) = 0 then (wire_IsName.j0 k a0 true) else (wire_IsName.j0 k a0 (decide ((a0.size : Int) > 24)))
theorem wire_IsName.mono_l : ∀ k, (∀ y0 y1, LeO (wire_IsName.j0 k y0 y1) (wire_IsName.j0 (k + 1) y0 y1)) ∧ (∀ y0 y1 y2, LeO (wire_IsName.l0 k y0 y1 y2) (wire_IsName.l0 (k + 1) y0 y1 y2)) ∧ (∀ y0 y1 y2 y3 y4 y5, LeO (wire_IsName.j2 k y0 y1 y2 y3 y4 y5) (wire_IsName.j2 (k + 1) y0 y1 y2 y3 y4 y5)) ∧ (∀ y0 y1 y2 y3 y4 y5, LeO (wire_IsName.j3 k y0 y1 y2 y3 y4 y5) (wire_IsName.j3 (k + 1) y0 y1 y2 y3 y4 y5))
  | 0 => ⟨fun _ _ r h => by simp [wire_IsName.j0] at h, fun _ _ _ r h => by simp [wire_IsName.l0] at h, fun _ _ _ _ _ _ r h => by simp [wire_IsName.j2] at h, fun _ _ _ _ _ _ r h => by simp [wire_IsName.j3] at h⟩
  | k + 1 => by
    obtain ⟨ih0, ih1, ih2, ih3⟩ := wire_IsName.mono_l k
    refine ⟨?_, ?_, ?_, ?_⟩
    · intro y0 y1
      unfold wire_IsName.j0
      repeat' first
      | (with_reducible exact ih0 _ _)
      | (with_reducible exact ih1 _ _ _)
      | (with_reducible exact ih2 _ _ _ _ _ _)
      | (with_reducible exact ih3 _ _ _ _ _ _)
      | (with_reducible exact LeO.refl _)
      | (with_reducible exact LeO.none _)
      | (with_reducible refine LeO.ite ?_ ?_)
      | (with_reducible refine LeO.bind ?_ (fun _ => ?_))
      | exact ih0 _ _
      | exact ih1 _ _ _
      | exact ih2 _ _ _ _ _ _
      | exact ih3 _ _ _ _ _ _
      | exact LeO.none _
      | refine LeO.ite ?_ ?_
      | refine LeO.bind ?_ (fun _ => ?_)
    · intro y0 y1 y2
      unfold wire_IsName.l0
      repeat' first
      | (with_reducible exact ih0 _ _)
      | (with_reducible exact ih1 _ _ _)
      | (with_reducible exact ih2 _ _ _ _ _ _)
      | (with_reducible exact ih3 _ _ _ _ _ _)
      | (with_reducible exact LeO.refl _)
      | (with_reducible exact LeO.none _)
      | (with_reducible refine LeO.ite ?_ ?_)
      | (with_reducible refine LeO.bind ?_ (fun _ => ?_))
      | exact ih0 _ _
      | exact ih1 _ _ _
      | exact ih2 _ _ _ _ _ _
      | exact ih3 _ _ _ _ _ _
      | exact LeO.none _
      | refine LeO.ite ?_ ?_
      | refine LeO.bind ?_ (fun _ => ?_)
    · intro y0 y1 y2 y3 y4 y5
      unfold wire_IsName.j2
      repeat' first
      | (with_reducible exact ih0 _ _)
      | (with_reducible exact ih1 _ _ _)
      | (with_reducible exact ih2 _ _ _ _ _ _)
      | (with_reducible exact ih3 _ _ _ _ _ _)
      | (with_reducible exact LeO.refl _)
      | (with_reducible exact LeO.none _)
      | (with_reducible refine LeO.ite ?_ ?_)
      | (with_reducible refine LeO.bind ?_ (fun _ => ?_))
      | exact ih0 _ _
      | exact ih1 _ _ _
      | exact ih2 _ _ _ _ _ _
      | exact ih3 _ _ _ _ _ _
      | exact LeO.none _
      | refine LeO.ite ?_ ?_
      | refine LeO.bind ?_ (fun _ => ?_)
    · intro y0 y1 y2 y3 y4 y5
      unfold wire_IsName.j3
      repeat' first
      | (with_reducible exact ih0 _ _)
      | (with_reducible exact ih1 _ _ _)
      | (with_reducible exact ih2 _ _ _ _ _ _)
      | (with_reducible exact ih3 _ _ _ _ _ _)
      | (with_reducible exact LeO.refl _)
      | (with_reducible exact LeO.none _)
      | (with_reducible refine LeO.ite ?_ ?_)
      | (with_reducible refine LeO.bind ?_ (fun _ => ?_))
      | exact ih0 _ _
      | exact ih1 _ _ _
      | exact ih2 _ _ _ _ _ _
      | exact ih3 _ _ _ _ _ _
      | exact LeO.none _
      | refine LeO.ite ?_ ?_
      | refine LeO.bind ?_ (fun _ => ?_)
theorem wire_IsName.mono : ∀ a0 k, LeO (wire_IsName.f k a0) (wire_IsName.f (k + 1) a0) := by
  intro a0 k
  obtain ⟨ih0, ih1, ih2, ih3⟩ := wire_IsName.mono_l k
  unfold wire_IsName.f
  repeat' first
      | (with_reducible exact ih0 _ _)
      | (with_reducible exact ih1 _ _ _)
      | (with_reducible exact ih2 _ _ _ _ _ _)
      | (with_reducible exact ih3 _ _ _ _ _ _)
      | (with_reducible exact LeO.refl _)
      | (with_reducible exact LeO.none _)
      | (with_reducible refine LeO.ite ?_ ?_)
      | (with_reducible refine LeO.bind ?_ (fun _ => ?_))
      | exact ih0 _ _
      | exact ih1 _ _ _
      | exact ih2 _ _ _ _ _ _
      | exact ih3 _ _ _ _ _ _
      | exact LeO.none _
      | refine LeO.ite ?_ ?_
      | refine LeO.bind ?_ (fun _ => ?_)
set_option maxHeartbeats 8000000 in
set_option maxRecDepth 100000 in
theorem wire_IsName.calls (k : Nat) (a0 : ByteArray) (r : Bool) (w : World) (h : wire_IsName.f k a0 = some r) :
    Calls Try.prog 35 #[.string a0] w fun e w' => e = .returned (.bool r) ∧ Drawn0 w w' := by
  have H : (if (a0.size : Int) = 0 then (wire_IsName.j0 k a0 true) else (wire_IsName.j0 k a0 (decide ((a0.size : Int) > 24)))) = some r := h
  clear h
  have HC2 := Aside0.mk H
  clear H
  go_enter Try.func35, Try.ntmps35
  go_upto_region 1 with (fail)
  go_cut [12] (fun v12 wc => ∃ (kq : Nat) (x12_1 : Bool), v12 = .bool x12_1 ∧ Aside0 (wire_IsName.j0 kq a0 x12_1 = some r) ∧ Aside0 (kq ≤ k) ∧ Drawn0 w wc)
  case first =>
    have H := HC2.out
    clear HC2
    by_cases c3 : (a0.size : Int) = 0
    · rw [if_pos c3] at H
      have c3b0 : ((a0.size : Int) == 0) = true := beq_iff_eq.mpr c3
      have c3b1 : ((a0.size : Int) != 0) = false := bne_eq_false_iff_eq.mpr c3
      clear c3
      (first | rw [c3b0] | (simp only [i64_w, i32_w]; rw [c3b0]) | skip)
      have H' := Aside0.mk H
      clear H
      go_wp2
      go_meet
      case rel => exact ⟨_, (true), (by first | rfl | (simp; done) | (simp [*]; done)), H', ⟨by first | omega | exact Nat.le_refl _⟩, by repeat (first | exact Drawn0.refl _ | apply Drawn0.step)⟩
    · rw [if_neg c3] at H
      have c3b0 : ((a0.size : Int) == 0) = false := beq_eq_false_iff_ne.mpr c3
      have c3b1 : ((a0.size : Int) != 0) = true := bne_iff_ne.mpr c3
      (first | rw [c3b0] | (simp only [i64_w, i32_w]; rw [c3b0]) | skip)
      have H' := Aside0.mk H
      clear H
      go_wp2
      go_meet
      case rel => exact ⟨_, (decide ((a0.size : Int) > 24)), (by first | rfl | (simp; done) | (simp [*]; done)), H', ⟨by first | omega | exact Nat.le_refl _⟩, by repeat (first | exact Drawn0.refl _ | apply Drawn0.step)⟩
  case rest =>
    clear HC2
    try clear p2
    try clear c3
    try clear c3b0
    try clear c3b1
    obtain ⟨kq, x12_1, rfl, HA, HJ1, ⟨mc1, rfl⟩⟩ := hcut
    cases kq with
    | zero => exact absurd HA.out (by simp [wire_IsName.j0])
    | succ kj1 =>
      have H := HA.out
      clear HA
      simp only [wire_IsName.j0] at H
      by_cases c4 : x12_1 = true
      · subst c4
        have H1 : (some false) = some r := by rw [if_pos rfl] at H; exact H
        clear H
        have H := H1
        clear H1
        obtain rfl := Option.some.inj H
        go_wp2
        go_ret
        exact ⟨by first | rfl | (simp; done) | (simp [*]; done), by repeat (first | exact Drawn0.refl _ | apply Drawn0.step)⟩
      · replace c4 := Bool.eq_false_iff.mpr c4
        subst c4
        have H1 : (wire_IsName.l0 kj1 a0 (a0.size : Int) 0) = some r := by rw [if_neg (show ¬ (false = true) by decide)] at H; exact H
        clear H
        have H := H1
        clear H1
        have H' := Aside0.mk H
        clear H
        go_wp2
        go_loopg [15] kj1 (fun kq v15 w' => ∃ (x15_2 : Int), v15 = .int .i64 x15_2 ∧ Aside0 (wire_IsName.l0 kq a0 (a0.size : Int) x15_2 = some r) ∧ Aside0 (kq ≤ kj1) ∧ Drawn0 w w')
        case atStart => exact ⟨(0), (by first | rfl | (simp; done) | (simp [*]; done)), H', ⟨Nat.le_refl _⟩, by repeat (first | exact Drawn0.refl _ | apply Drawn0.step)⟩
        case round =>
          clear H'
          try clear c1
          try clear p2
          try clear c3
          try clear c3b0
          try clear c3b1
          try clear c4
          try clear p2
          obtain ⟨x15_2, rfl, HA, HK2, ⟨m2, rfl⟩⟩ := hrel
          cases gk with
          | zero => exact absurd HA.out (by simp [wire_IsName.l0])
          | succ k2 =>
            have H := HA.out
            clear HA
            simp only [wire_IsName.l0] at H
            by_cases c5 : x15_2 < (a0.size : Int)
            · rw [if_pos c5] at H
              have c5b0 : decide (x15_2 < (a0.size : Int)) = true := decide_eq_true c5
              clear c5
              by_cases c6 : 0 ≤ x15_2
              · rw [if_pos c6] at H
                have c6b0 : decide (0 ≤ x15_2) = true := decide_eq_true c6
                clear c6
                by_cases c7 : x15_2 < (a0.size : Int)
                · rw [if_pos c7] at H
                  have c7b0 : decide (x15_2 < (a0.size : Int)) = true := decide_eq_true c7
                  clear c7
                  have HC9 := Aside0.mk H
                  clear H
                  have p8 : 0 ≤ (x15_2 : Int) := of_decide_eq_true (by first | (with_reducible assumption) | assumption)
                  have q8 : x15_2 < (a0.size : Int) := of_decide_eq_true (by first | (with_reducible assumption) | assumption)
                  have hx8 := bt_at a0 x15_2
                  replace p8 := eq_true p8
                  replace q8 := eq_true q8
                  go_upto_region 8 with (fail)
                  go_cut [21] (fun v21 wc => ∃ (kq : Nat) (x21_8 : Bool), v21 = .bool x21_8 ∧ Aside0 (wire_IsName.j2 kq a0 x15_2 (bt a0 x15_2) (a0.size : Int) x15_2 x21_8 = some r) ∧ Aside0 (kq ≤ k2) ∧ Drawn0 w wc)
                  case first =>
                    have H := HC9.out
                    clear HC9
                    by_cases c10 : (bt a0 x15_2) ≥ 97
                    · rw [if_pos c10] at H
                      have c10b0 : decide (97 ≤ (bt a0 x15_2)) = true := decide_eq_true c10
                      clear c10
                      (first | rw [c10b0] | (simp only [i64_w, i32_w]; rw [c10b0]) | skip)
                      have H' := Aside0.mk H
                      clear H
                      go_wp2
                      go_meet
                      case rel => exact ⟨_, (decide ((bt a0 x15_2) ≤ 122)), (by first | rfl | (simp; done) | (simp [*]; done)), H', ⟨by have := HJ1.out; have := HK2.out; first | omega | exact Nat.le_refl _⟩, by repeat (first | exact Drawn0.refl _ | apply Drawn0.step)⟩
                    · rw [if_neg c10] at H
                      have c10b0 : decide (97 ≤ (bt a0 x15_2)) = false := decide_eq_false c10
                      clear c10
                      (first | rw [c10b0] | (simp only [i64_w, i32_w]; rw [c10b0]) | skip)
                      have H' := Aside0.mk H
                      clear H
                      go_wp2
                      go_meet
                      case rel => exact ⟨_, (false), (by first | rfl | (simp; done) | (simp [*]; done)), H', ⟨by have := HJ1.out; have := HK2.out; first | omega | exact Nat.le_refl _⟩, by repeat (first | exact Drawn0.refl _ | apply Drawn0.step)⟩
                  case rest =>
                    clear HC9
                    try clear c1
                    try clear p2
                    try clear c3
                    try clear c3b0
                    try clear c3b1
                    try clear c4
                    try clear c5
                    try clear c5b0
                    try clear c6
                    try clear c6b0
                    try clear c7
                    try clear c7b0
                    try clear p8
                    try clear q8
                    try clear hx8
                    try clear c10
                    try clear c10b0
                    try clear p2
                    try clear p8
                    try clear q8
                    obtain ⟨kq, x21_8, rfl, HA, HJ8, ⟨mc8, rfl⟩⟩ := hcut
                    cases kq with
                    | zero => exact absurd HA.out (by simp [wire_IsName.j2])
                    | succ kj8 =>
                      have H := HA.out
                      clear HA
                      simp only [wire_IsName.j2] at H
                      have HC11 := Aside0.mk H
                      clear H
                      go_upto_if 21 with (fail)
                      go_cut [21] (fun v21 wc => ∃ (kq : Nat) (x21_10 : Bool), v21 = .bool x21_10 ∧ Aside0 (wire_IsName.j3 kq a0 x15_2 (bt a0 x15_2) (a0.size : Int) x15_2 x21_10 = some r) ∧ Aside0 (kq ≤ kj8) ∧ Drawn0 w wc)
                      case first =>
                        have H := HC11.out
                        clear HC11
                        by_cases c12 : x21_8 = true
                        · subst c12
                          have H1 : (wire_IsName.j3 kj8 a0 x15_2 (bt a0 x15_2) (a0.size : Int) x15_2 true) = some r := by rw [if_pos rfl] at H; exact H
                          clear H
                          have H := H1
                          clear H1
                          have H' := Aside0.mk H
                          clear H
                          go_wp2
                          go_meet
                          case rel => exact ⟨_, (true), (by first | rfl | (simp; done) | (simp [*]; done)), H', ⟨by have := HJ1.out; have := HK2.out; have := HJ8.out; first | omega | exact Nat.le_refl _⟩, by repeat (first | exact Drawn0.refl _ | apply Drawn0.step)⟩
                        · replace c12 := Bool.eq_false_iff.mpr c12
                          subst c12
                          have H1 : (if (bt a0 x15_2) ≥ 65 then (wire_IsName.j3 kj8 a0 x15_2 (bt a0 x15_2) (a0.size : Int) x15_2 (decide ((bt a0 x15_2) ≤ 90))) else (wire_IsName.j3 kj8 a0 x15_2 (bt a0 x15_2) (a0.size : Int) x15_2 false)) = some r := by rw [if_neg (show ¬ (false = true) by decide)] at H; exact H
                          clear H
                          have H := H1
                          clear H1
                          by_cases c13 : (bt a0 x15_2) ≥ 65
                          · rw [if_pos c13] at H
                            have c13b0 : decide (65 ≤ (bt a0 x15_2)) = true := decide_eq_true c13
                            clear c13
                            (first | rw [c13b0] | (simp only [i64_w, i32_w]; rw [c13b0]) | skip)
                            have H' := Aside0.mk H
                            clear H
                            go_wp2
                            go_meet
                            case rel => exact ⟨_, (decide ((bt a0 x15_2) ≤ 90)), (by first | rfl | (simp; done) | (simp [*]; done)), H', ⟨by have := HJ1.out; have := HK2.out; have := HJ8.out; first | omega | exact Nat.le_refl _⟩, by repeat (first | exact Drawn0.refl _ | apply Drawn0.step)⟩
                          · rw [if_neg c13] at H
                            have c13b0 : decide (65 ≤ (bt a0 x15_2)) = false := decide_eq_false c13
                            clear c13
                            (first | rw [c13b0] | (simp only [i64_w, i32_w]; rw [c13b0]) | skip)
                            have H' := Aside0.mk H
                            clear H
                            go_wp2
                            go_meet
                            case rel => exact ⟨_, (false), (by first | rfl | (simp; done) | (simp [*]; done)), H', ⟨by have := HJ1.out; have := HK2.out; have := HJ8.out; first | omega | exact Nat.le_refl _⟩, by repeat (first | exact Drawn0.refl _ | apply Drawn0.step)⟩
                      case rest =>
                        clear HC11
                        try clear c1
                        try clear p2
                        try clear c3
                        try clear c3b0
                        try clear c3b1
                        try clear c4
                        try clear c5
                        try clear c5b0
                        try clear c6
                        try clear c6b0
                        try clear c7
                        try clear c7b0
                        try clear c8
                        try clear p8
                        try clear q8
                        try clear hx8
                        try clear c10
                        try clear c10b0
                        try clear c12
                        try clear c13
                        try clear c13b0
                        try clear p2
                        try clear p8
                        try clear q8
                        obtain ⟨kq, x21_10, rfl, HA, HJ10, ⟨mc10, rfl⟩⟩ := hcut
                        cases kq with
                        | zero => exact absurd HA.out (by simp [wire_IsName.j3])
                        | succ kj10 =>
                          have H := HA.out
                          clear HA
                          simp only [wire_IsName.j3] at H
                          by_cases c14 : x21_10 = true
                          · subst c14
                            have H1 : (wire_IsName.l0 kj10 a0 (a0.size : Int) (wrap64 (x15_2 + 1))) = some r := by rw [if_pos rfl] at H; exact H
                            clear H
                            have H := H1
                            clear H1
                            have H' := Aside0.mk H
                            clear H
                            go_wp2
                            go_roundg kj10
                            case measure => have := HJ1.out; have := HK2.out; have := HJ8.out; have := HJ10.out; omega
                            case rel => exact ⟨(wrap64 (x15_2 + 1)), (by first | rfl | (simp; done) | (simp [*]; done)), H', ⟨by have := HJ1.out; have := HK2.out; have := HJ8.out; have := HJ10.out; omega⟩, by repeat (first | exact Drawn0.refl _ | apply Drawn0.step)⟩
                          · replace c14 := Bool.eq_false_iff.mpr c14
                            subst c14
                            have H1 : (if x15_2 > 0 then (if (bt a0 x15_2) ≥ 48 then (if (bt a0 x15_2) ≤ 57 then (wire_IsName.l0 kj10 a0 (a0.size : Int) (wrap64 (x15_2 + 1))) else (if (bt a0 x15_2) = 95 then (wire_IsName.l0 kj10 a0 (a0.size : Int) (wrap64 (x15_2 + 1))) else (some false))) else (if (bt a0 x15_2) = 95 then (wire_IsName.l0 kj10 a0 (a0.size : Int) (wrap64 (x15_2 + 1))) else (some false))) else (some false)) = some r := by rw [if_neg (show ¬ (false = true) by decide)] at H; exact H
                            clear H
                            have H := H1
                            clear H1
                            by_cases c15 : x15_2 > 0
                            · rw [if_pos c15] at H
                              have c15b0 : decide (0 < x15_2) = true := decide_eq_true c15
                              clear c15
                              by_cases c16 : (bt a0 x15_2) ≥ 48
                              · rw [if_pos c16] at H
                                have c16b0 : decide (48 ≤ (bt a0 x15_2)) = true := decide_eq_true c16
                                clear c16
                                by_cases c17 : (bt a0 x15_2) ≤ 57
                                · rw [if_pos c17] at H
                                  have c17b0 : decide ((bt a0 x15_2) ≤ 57) = true := decide_eq_true c17
                                  clear c17
                                  have H' := Aside0.mk H
                                  clear H
                                  go_wp2
                                  go_roundg kj10
                                  case measure => have := HJ1.out; have := HK2.out; have := HJ8.out; have := HJ10.out; omega
                                  case rel => exact ⟨(wrap64 (x15_2 + 1)), (by first | rfl | (simp; done) | (simp [*]; done)), H', ⟨by have := HJ1.out; have := HK2.out; have := HJ8.out; have := HJ10.out; omega⟩, by repeat (first | exact Drawn0.refl _ | apply Drawn0.step)⟩
                                · rw [if_neg c17] at H
                                  have c17b0 : decide ((bt a0 x15_2) ≤ 57) = false := decide_eq_false c17
                                  clear c17
                                  by_cases c18 : (bt a0 x15_2) = 95
                                  · rw [if_pos c18] at H
                                    have c18b0 : ((bt a0 x15_2) == 95) = true := beq_iff_eq.mpr c18
                                    have c18b1 : ((bt a0 x15_2) != 95) = false := bne_eq_false_iff_eq.mpr c18
                                    clear c18
                                    have H' := Aside0.mk H
                                    clear H
                                    go_wp2
                                    go_roundg kj10
                                    case measure => have := HJ1.out; have := HK2.out; have := HJ8.out; have := HJ10.out; omega
                                    case rel => exact ⟨(wrap64 (x15_2 + 1)), (by first | rfl | (simp; done) | (simp [*]; done)), H', ⟨by have := HJ1.out; have := HK2.out; have := HJ8.out; have := HJ10.out; omega⟩, by repeat (first | exact Drawn0.refl _ | apply Drawn0.step)⟩
                                  · rw [if_neg c18] at H
                                    have c18b0 : ((bt a0 x15_2) == 95) = false := beq_eq_false_iff_ne.mpr c18
                                    have c18b1 : ((bt a0 x15_2) != 95) = true := bne_iff_ne.mpr c18
                                    obtain rfl := Option.some.inj H
                                    go_wp2
                                    go_ret
                                    exact ⟨by first | rfl | (simp; done) | (simp [*]; done), by repeat (first | exact Drawn0.refl _ | apply Drawn0.step)⟩
                              · rw [if_neg c16] at H
                                have c16b0 : decide (48 ≤ (bt a0 x15_2)) = false := decide_eq_false c16
                                clear c16
                                by_cases c19 : (bt a0 x15_2) = 95
                                · rw [if_pos c19] at H
                                  have c19b0 : ((bt a0 x15_2) == 95) = true := beq_iff_eq.mpr c19
                                  have c19b1 : ((bt a0 x15_2) != 95) = false := bne_eq_false_iff_eq.mpr c19
                                  clear c19
                                  have H' := Aside0.mk H
                                  clear H
                                  go_wp2
                                  go_roundg kj10
                                  case measure => have := HJ1.out; have := HK2.out; have := HJ8.out; have := HJ10.out; omega
                                  case rel => exact ⟨(wrap64 (x15_2 + 1)), (by first | rfl | (simp; done) | (simp [*]; done)), H', ⟨by have := HJ1.out; have := HK2.out; have := HJ8.out; have := HJ10.out; omega⟩, by repeat (first | exact Drawn0.refl _ | apply Drawn0.step)⟩
                                · rw [if_neg c19] at H
                                  have c19b0 : ((bt a0 x15_2) == 95) = false := beq_eq_false_iff_ne.mpr c19
                                  have c19b1 : ((bt a0 x15_2) != 95) = true := bne_iff_ne.mpr c19
                                  obtain rfl := Option.some.inj H
                                  go_wp2
                                  go_ret
                                  exact ⟨by first | rfl | (simp; done) | (simp [*]; done), by repeat (first | exact Drawn0.refl _ | apply Drawn0.step)⟩
                            · rw [if_neg c15] at H
                              have c15b0 : decide (0 < x15_2) = false := decide_eq_false c15
                              clear c15
                              obtain rfl := Option.some.inj H
                              go_wp2
                              go_ret
                              exact ⟨by first | rfl | (simp; done) | (simp [*]; done), by repeat (first | exact Drawn0.refl _ | apply Drawn0.step)⟩
                · rw [if_neg c7] at H
                  exact absurd H (by simp)
              · rw [if_neg c6] at H
                exact absurd H (by simp)
            · rw [if_neg c5] at H
              have c5b0 : decide (x15_2 < (a0.size : Int)) = false := decide_eq_false c5
              clear c5
              obtain rfl := Option.some.inj H
              go_wp2
              go_ret
              exact ⟨by first | rfl | (simp; done) | (simp [*]; done), by repeat (first | exact Drawn0.refl _ | apply Drawn0.step)⟩


def IsS125 (w0 W : World) (g : Nat) (f0 : List Int) (f1 : Bool) : Prop := ∃ A0 c0, W.heap[g]? = some (.cells #[.slice A0 f0.length c0, .bool f1] 125 (0, 0)) ∧ w0.heap.size ≤ g ∧ Kd.C (Kd.int .u8) w0 A0 f0.length f0
theorem IsS125.grown {w0 W : World} {g : Nat} {f0 : List Int} {f1 : Bool} {W1 : World} {row : Option Nat} (h : IsS125 w0 W g f0 f1) (hw : W.grownBy W1 row) (hne : some g ≠ row) : IsS125 w0 W1 g f0 f1 := by
  obtain ⟨A0, c0, hb, hg, hr0⟩ := h
  exact ⟨A0, c0, blk_grown hb hw hne, hg, hr0⟩
theorem IsS125.kept {w0 W : World} {g : Nat} {f0 : List Int} {f1 : Bool} {W1 : World} {S : Nat → Prop} (h : IsS125 w0 W g f0 f1) (hk : Kept W W1 S) (hne : ¬ S g) : IsS125 w0 W1 g f0 f1 := by
  obtain ⟨A0, c0, hb, hg, hr0⟩ := h
  exact ⟨A0, c0, blk_kept hb hk hne, hg, hr0⟩
theorem IsS125.below {w0 W : World} {g : Nat} {f0 : List Int} {f1 : Bool} {W1 : World} (h : IsS125 w0 W g f0 f1) (hw : Below W.heap.size W W1) : IsS125 w0 W1 g f0 f1 := h.grown (grown_of_below hw none) (by simp)
theorem IsS125.alloc {w0 W : World} {g : Nat} {f0 : List Int} {f1 : Bool} (h : IsS125 w0 W g f0 f1) (o : Obj) : IsS125 w0 (W.alloc o) g f0 f1 := h.below (below_alloc (Below.refl _ _) o)
theorem IsS125.drewN {w0 W : World} {g : Nat} {f0 : List Int} {f1 : Bool} (h : IsS125 w0 W g f0 f1) (m : Nat) : IsS125 w0 (W.drewN m) g f0 f1 := h
theorem IsS125.drew {w0 W : World} {g : Nat} {f0 : List Int} {f1 : Bool} (h : IsS125 w0 W g f0 f1) : IsS125 w0 W.drew g f0 f1 := h
theorem IsS125.at_ {w0 W : World} {g : Nat} {f0 : List Int} {f1 : Bool} {w' : World} {m : Nat} (hq : W.drewN m = w') (h : IsS125 w0 W g f0 f1) : IsS125 w0 w' g f0 f1 := by subst hq; exact IsS125.drewN h m
theorem IsS125.own_ne {w0 W : World} {g : Nat} {f0 : List Int} {f1 : Bool} {α : Type} {d : Kd α} {e : Nat} {base : Nat} {ok : Nat → Prop} {v : Value} {xs : List α} (h : IsS125 w0 W g f0 f1) (ho : d.R e W base ok v xs) (ht : e ≠ 125) : some g ≠ v.ownBlock := by
  obtain ⟨A0, c0, hb, hg, hr0⟩ := h
  exact Kd.R_ne ho hb ht
theorem IsS125.lt {w0 W : World} {g : Nat} {f0 : List Int} {f1 : Bool} (h : IsS125 w0 W g f0 f1) : g < W.heap.size := by
  obtain ⟨A0, c0, hb, hg, hr0⟩ := h
  exact blk_lt hb
theorem IsS125.ge {w0 W : World} {g : Nat} {f0 : List Int} {f1 : Bool} (h : IsS125 w0 W g f0 f1) : w0.heap.size ≤ g := by
  obtain ⟨A0, c0, hb, hg, hr0⟩ := h
  exact hg
theorem IsS125.far {w0 W : World} {g : Nat} {f0 : List Int} {f1 : Bool} {p : Addr} (h : IsS125 w0 W g f0 f1) (hne : g ≠ p.block) (u : Value) : IsS125 w0 (W.setCell p u) g f0 f1 := by
  obtain ⟨A0, c0, hb, hg, hr0⟩ := h
  exact ⟨A0, c0, blk_far hb hne u, hg, hr0⟩
end Go.Proofs.Ytfakdphkklclgaa.P

end

section
namespace Go.Proofs.Ytfakdphkklclgaa.P
open Go.RowKit Go.Proofs.YtfakdphkklclgaaW.PrintWords Go.Proofs.YtfakdphkklclgaaW.PrintLast Go.Proofs.YtfakdphkklclgaaW.PrintMore
attribute [local go_sem] max2_int min2_int max_two min_two max_three min_three max_four min_four   -- for this text's walks alone
set_option linter.unusedVariables false
set_option linter.unusedSimpArgs false

mutual
def provisoref01_IsName.j0 : Nat → ByteArray → Bool → Option (Bool)
  | 0, _, _ => none
  | k + 1, x0, x13 => if x13 = true then (some false) else (provisoref01_IsName.l0 k x0 0)
def provisoref01_IsName.l0 : Nat → ByteArray → Int → Option (Bool)
  | 0, _, _ => none
  | k + 1, x0, x3 => if x3 < (x0.size : Int) then (if 0 ≤ x3 then (if (bt x0 x3) ≥ 97 then (if (bt x0 x3) ≤ 122 then (provisoref01_IsName.l0 k x0 (wrap64 (x3 + 1))) else (if (bt x0 x3) ≥ 65 then (if ((bt x0 x3) ≤ 90) then (provisoref01_IsName.l0 k x0 (wrap64 (x3 + 1))) else (if x3 = 0 then (some false) else (if (bt x0 x3) = 95 then (provisoref01_IsName.l0 k x0 (wrap64 (x3 + 1))) else (if (bt x0 x3) < 48 then (some false) else (if (bt x0 x3) > 57 then (some false) else (provisoref01_IsName.l0 k x0 (wrap64 (x3 + 1)))))))) else (if x3 = 0 then (some false) else (if (bt x0 x3) = 95 then (provisoref01_IsName.l0 k x0 (wrap64 (x3 + 1))) else (if (bt x0 x3) < 48 then (some false) else (if (bt x0 x3) > 57 then (some false) else (provisoref01_IsName.l0 k x0 (wrap64 (x3 + 1))))))))) else (if (bt x0 x3) ≥ 65 then (if ((bt x0 x3) ≤ 90) then (provisoref01_IsName.l0 k x0 (wrap64 (x3 + 1))) else (if x3 = 0 then (some false) else (if (bt x0 x3) = 95 then (provisoref01_IsName.l0 k x0 (wrap64 (x3 + 1))) else (if (bt x0 x3) < 48 then (some false) else (if (bt x0 x3) > 57 then (some false) else (provisoref01_IsName.l0 k x0 (wrap64 (x3 + 1)))))))) else (if x3 = 0 then (some false) else (if (bt x0 x3) = 95 then (provisoref01_IsName.l0 k x0 (wrap64 (x3 + 1))) else (if (bt x0 x3) < 48 then (some false) else (if (bt x0 x3) > 57 then (some false) else (provisoref01_IsName.l0 k x0 (wrap64 (x3 + 1))))))))) else (none)) else (some true)
end
def provisoref01_IsName.f (k : Nat) (a0 : ByteArray) : Option (Bool) := if (a0.size : Int) < 1 then (provisoref01_IsName.j0 k a0 true) else (provisoref01_IsName.j0 k a0 (decide ((a0.size : Int) > 24)))
theorem provisoref01_IsName.mono_l : ∀ k, (∀ y0 y1, LeO (provisoref01_IsName.j0 k y0 y1) (provisoref01_IsName.j0 (k + 1) y0 y1)) ∧ (∀ y0 y1, LeO (provisoref01_IsName.l0 k y0 y1) (provisoref01_IsName.l0 (k + 1) y0 y1))
  | 0 => ⟨fun _ _ r h => by simp [provisoref01_IsName.j0] at h, fun _ _ r h => by simp [provisoref01_IsName.l0] at h⟩
  | k + 1 => by
    obtain ⟨ih0, ih1⟩ := provisoref01_IsName.mono_l k
    refine ⟨?_, ?_⟩
    · intro y0 y1
      unfold provisoref01_IsName.j0
      repeat' first
      | (with_reducible exact ih0 _ _)
      | (with_reducible exact ih1 _ _)
      | (with_reducible exact LeO.refl _)
      | (with_reducible exact LeO.none _)
      | (with_reducible refine LeO.ite ?_ ?_)
      | (with_reducible refine LeO.bind ?_ (fun _ => ?_))
      | exact ih0 _ _
      | exact ih1 _ _
      | exact LeO.none _
      | refine LeO.ite ?_ ?_
      | refine LeO.bind ?_ (fun _ => ?_)
    · intro y0 y1
      unfold provisoref01_IsName.l0
      repeat' first
      | (with_reducible exact ih0 _ _)
      | (with_reducible exact ih1 _ _)
      | (with_reducible exact LeO.refl _)
      | (with_reducible exact LeO.none _)
      | (with_reducible refine LeO.ite ?_ ?_)
      | (with_reducible refine LeO.bind ?_ (fun _ => ?_))
      | exact ih0 _ _
      | exact ih1 _ _
      | exact LeO.none _
      | refine LeO.ite ?_ ?_
      | refine LeO.bind ?_ (fun _ => ?_)
theorem provisoref01_IsName.mono : ∀ a0 k, LeO (provisoref01_IsName.f k a0) (provisoref01_IsName.f (k + 1) a0) := by
  intro a0 k
  obtain ⟨ih0, ih1⟩ := provisoref01_IsName.mono_l k
  unfold provisoref01_IsName.f
  repeat' first
      | (with_reducible exact ih0 _ _)
      | (with_reducible exact ih1 _ _)
      | (with_reducible exact LeO.refl _)
      | (with_reducible exact LeO.none _)
      | (with_reducible refine LeO.ite ?_ ?_)
      | (with_reducible refine LeO.bind ?_ (fun _ => ?_))
      | exact ih0 _ _
      | exact ih1 _ _
      | exact LeO.none _
      | refine LeO.ite ?_ ?_
      | refine LeO.bind ?_ (fun _ => ?_)
set_option maxHeartbeats 8000000 in
set_option maxRecDepth 100000 in
theorem provisoref01_IsName.calls (k : Nat) (a0 : ByteArray) (r : Bool) (w : World) (h : provisoref01_IsName.f k a0 = some r) :
    Calls Try.prog 41 #[.string a0] w fun e w' => e = .returned (.bool r) ∧ Drawn0 w w' := by
  have H : (if (a0.size : Int) < 1 then (provisoref01_IsName.j0 k a0 true) else (provisoref01_IsName.j0 k a0 (decide ((a0.size : Int) > 24)))) = some r := h
  clear h
  have HC2 := Aside0.mk H
  clear H
  go_enter Try.func41, Try.ntmps41
  go_upto_region 1 with (fail)
  go_cut [13] (fun v13 wc => ∃ (kq : Nat) (x13_1 : Bool), v13 = .bool x13_1 ∧ Aside0 (provisoref01_IsName.j0 kq a0 x13_1 = some r) ∧ Aside0 (kq ≤ k) ∧ Drawn0 w wc)
  case first =>
    have H := HC2.out
    clear HC2
    by_cases c3 : (a0.size : Int) < 1
    · rw [if_pos c3] at H
      have c3b0 : decide ((a0.size : Int) < 1) = true := decide_eq_true c3
      have c3b1 : decide (a0.size < 1) = true := decide_eq_true (by omega)
      clear c3
      (first | rw [c3b0] | (simp only [i64_w, i32_w]; rw [c3b0]) | skip)
      have H' := Aside0.mk H
      clear H
      go_wp2
      go_meet
      case rel => exact ⟨_, (true), (by first | rfl | (simp; done) | (simp [*]; done)), H', ⟨by first | omega | exact Nat.le_refl _⟩, by repeat (first | exact Drawn0.refl _ | apply Drawn0.step)⟩
    · rw [if_neg c3] at H
      have c3b0 : decide ((a0.size : Int) < 1) = false := decide_eq_false c3
      have c3b1 : decide (a0.size < 1) = false := decide_eq_false (by omega)
      clear c3
      (first | rw [c3b0] | (simp only [i64_w, i32_w]; rw [c3b0]) | skip)
      have H' := Aside0.mk H
      clear H
      go_wp2
      go_meet
      case rel => exact ⟨_, (decide ((a0.size : Int) > 24)), (by first | rfl | (simp; done) | (simp [*]; done)), H', ⟨by first | omega | exact Nat.le_refl _⟩, by repeat (first | exact Drawn0.refl _ | apply Drawn0.step)⟩
  case rest =>
    clear HC2
    try clear p2
    try clear c3
    try clear c3b0
    try clear c3b1
    obtain ⟨kq, x13_1, rfl, HA, HJ1, ⟨mc1, rfl⟩⟩ := hcut
    cases kq with
    | zero => exact absurd HA.out (by simp [provisoref01_IsName.j0])
    | succ kj1 =>
      have H := HA.out
      clear HA
      simp only [provisoref01_IsName.j0] at H
      by_cases c4 : x13_1 = true
      · subst c4
        have H1 : (some false) = some r := by rw [if_pos rfl] at H; exact H
        clear H
        have H := H1
        clear H1
        obtain rfl := Option.some.inj H
        go_wp2
        go_ret
        exact ⟨by first | rfl | (simp; done) | (simp [*]; done), by repeat (first | exact Drawn0.refl _ | apply Drawn0.step)⟩
      · replace c4 := Bool.eq_false_iff.mpr c4
        subst c4
        have H1 : (provisoref01_IsName.l0 kj1 a0 0) = some r := by rw [if_neg (show ¬ (false = true) by decide)] at H; exact H
        clear H
        have H := H1
        clear H1
        have H' := Aside0.mk H
        clear H
        go_wp2
        go_loopg [3] kj1 (fun kq v3 w' => ∃ (x3_2 : Int), v3 = .int .i64 x3_2 ∧ Aside0 (provisoref01_IsName.l0 kq a0 x3_2 = some r) ∧ Aside0 (kq ≤ kj1) ∧ Drawn0 w w')
        case atStart => exact ⟨(0), (by first | rfl | (simp; done) | (simp [*]; done)), H', ⟨Nat.le_refl _⟩, by repeat (first | exact Drawn0.refl _ | apply Drawn0.step)⟩
        case round =>
          clear H'
          try clear c1
          try clear p2
          try clear c3
          try clear c3b0
          try clear c3b1
          try clear c4
          try clear p2
          obtain ⟨x3_2, rfl, HA, HK2, ⟨m2, rfl⟩⟩ := hrel
          cases gk with
          | zero => exact absurd HA.out (by simp [provisoref01_IsName.l0])
          | succ k2 =>
            have H := HA.out
            clear HA
            simp only [provisoref01_IsName.l0] at H
            by_cases c5 : x3_2 < (a0.size : Int)
            · rw [if_pos c5] at H
              have c5b0 : decide (x3_2 < (a0.size : Int)) = true := decide_eq_true c5
              clear c5
              by_cases c6 : 0 ≤ x3_2
              · rw [if_pos c6] at H
                have c6b0 : decide (0 ≤ x3_2) = true := decide_eq_true c6
                clear c6
                by_cases c8 : (bt a0 x3_2) ≥ 97
                · rw [if_pos c8] at H
                  have c8b0 : decide (97 ≤ (bt a0 x3_2)) = true := decide_eq_true c8
                  clear c8
                  by_cases c9 : (bt a0 x3_2) ≤ 122
                  · rw [if_pos c9] at H
                    have c9b0 : decide ((bt a0 x3_2) ≤ 122) = true := decide_eq_true c9
                    clear c9
                    have H' := Aside0.mk H
                    clear H
                    have p7 : 0 ≤ (x3_2 : Int) := of_decide_eq_true (by first | (with_reducible assumption) | assumption)
                    have q7 : x3_2 < (a0.size : Int) := of_decide_eq_true (by first | (with_reducible assumption) | assumption)
                    have hx7 := bt_at a0 x3_2
                    replace p7 := eq_true p7
                    replace q7 := eq_true q7
                    go_wp2
                    go_roundg k2
                    case measure => have := HJ1.out; have := HK2.out; omega
                    case rel => exact ⟨(wrap64 (x3_2 + 1)), (by first | rfl | (simp; done) | (simp [*]; done)), H', ⟨by have := HJ1.out; have := HK2.out; omega⟩, by repeat (first | exact Drawn0.refl _ | apply Drawn0.step)⟩
                  · rw [if_neg c9] at H
                    have c9b0 : decide ((bt a0 x3_2) ≤ 122) = false := decide_eq_false c9
                    clear c9
                    by_cases c10 : (bt a0 x3_2) ≥ 65
                    · rw [if_pos c10] at H
                      have c10b0 : decide (65 ≤ (bt a0 x3_2)) = true := decide_eq_true c10
                      clear c10
                      by_cases c11 : ((bt a0 x3_2) ≤ 90)
                      · rw [if_pos c11] at H
                        have c11b0 : decide ((bt a0 x3_2) ≤ 90) = true := decide_eq_true c11
                        clear c11
                        have H' := Aside0.mk H
                        clear H
                        have p7 : 0 ≤ (x3_2 : Int) := of_decide_eq_true (by first | (with_reducible assumption) | assumption)
                        have q7 : x3_2 < (a0.size : Int) := of_decide_eq_true (by first | (with_reducible assumption) | assumption)
                        have hx7 := bt_at a0 x3_2
                        replace p7 := eq_true p7
                        replace q7 := eq_true q7
                        go_wp2
                        go_roundg k2
                        case measure => have := HJ1.out; have := HK2.out; omega
                        case rel => exact ⟨(wrap64 (x3_2 + 1)), (by first | rfl | (simp; done) | (simp [*]; done)), H', ⟨by have := HJ1.out; have := HK2.out; omega⟩, by repeat (first | exact Drawn0.refl _ | apply Drawn0.step)⟩
                      · rw [if_neg c11] at H
                        have c11b0 : decide ((bt a0 x3_2) ≤ 90) = false := decide_eq_false c11
                        clear c11
                        by_cases c12 : x3_2 = 0
                        · rw [if_pos c12] at H
                          have c12b0 : (x3_2 == 0) = true := beq_iff_eq.mpr c12
                          have c12b1 : (x3_2 != 0) = false := bne_eq_false_iff_eq.mpr c12
                          clear c12
                          obtain rfl := Option.some.inj H
                          have p7 : 0 ≤ (x3_2 : Int) := of_decide_eq_true (by first | (with_reducible assumption) | assumption)
                          have q7 : x3_2 < (a0.size : Int) := of_decide_eq_true (by first | (with_reducible assumption) | assumption)
                          have hx7 := bt_at a0 x3_2
                          replace p7 := eq_true p7
                          replace q7 := eq_true q7
                          go_wp2
                          go_ret
                          exact ⟨by first | rfl | (simp; done) | (simp [*]; done), by repeat (first | exact Drawn0.refl _ | apply Drawn0.step)⟩
                        · rw [if_neg c12] at H
                          have c12b0 : (x3_2 == 0) = false := beq_eq_false_iff_ne.mpr c12
                          have c12b1 : (x3_2 != 0) = true := bne_iff_ne.mpr c12
                          by_cases c13 : (bt a0 x3_2) = 95
                          · rw [if_pos c13] at H
                            have c13b0 : ((bt a0 x3_2) == 95) = true := beq_iff_eq.mpr c13
                            have c13b1 : ((bt a0 x3_2) != 95) = false := bne_eq_false_iff_eq.mpr c13
                            clear c13
                            have H' := Aside0.mk H
                            clear H
                            have p7 : 0 ≤ (x3_2 : Int) := of_decide_eq_true (by first | (with_reducible assumption) | assumption)
                            have q7 : x3_2 < (a0.size : Int) := of_decide_eq_true (by first | (with_reducible assumption) | assumption)
                            have hx7 := bt_at a0 x3_2
                            replace p7 := eq_true p7
                            replace q7 := eq_true q7
                            go_wp2
                            go_roundg k2
                            case measure => have := HJ1.out; have := HK2.out; omega
                            case rel => exact ⟨(wrap64 (x3_2 + 1)), (by first | rfl | (simp; done) | (simp [*]; done)), H', ⟨by have := HJ1.out; have := HK2.out; omega⟩, by repeat (first | exact Drawn0.refl _ | apply Drawn0.step)⟩
                          · rw [if_neg c13] at H
                            have c13b0 : ((bt a0 x3_2) == 95) = false := beq_eq_false_iff_ne.mpr c13
                            have c13b1 : ((bt a0 x3_2) != 95) = true := bne_iff_ne.mpr c13
                            by_cases c14 : (bt a0 x3_2) < 48
                            · rw [if_pos c14] at H
                              have c14b0 : decide ((bt a0 x3_2) < 48) = true := decide_eq_true c14
                              clear c14
                              obtain rfl := Option.some.inj H
                              have p7 : 0 ≤ (x3_2 : Int) := of_decide_eq_true (by first | (with_reducible assumption) | assumption)
                              have q7 : x3_2 < (a0.size : Int) := of_decide_eq_true (by first | (with_reducible assumption) | assumption)
                              have hx7 := bt_at a0 x3_2
                              replace p7 := eq_true p7
                              replace q7 := eq_true q7
                              go_wp2
                              go_ret
                              exact ⟨by first | rfl | (simp; done) | (simp [*]; done), by repeat (first | exact Drawn0.refl _ | apply Drawn0.step)⟩
                            · rw [if_neg c14] at H
                              have c14b0 : decide ((bt a0 x3_2) < 48) = false := decide_eq_false c14
                              clear c14
                              by_cases c15 : (bt a0 x3_2) > 57
                              · rw [if_pos c15] at H
                                have c15b0 : decide (57 < (bt a0 x3_2)) = true := decide_eq_true c15
                                clear c15
                                obtain rfl := Option.some.inj H
                                have p7 : 0 ≤ (x3_2 : Int) := of_decide_eq_true (by first | (with_reducible assumption) | assumption)
                                have q7 : x3_2 < (a0.size : Int) := of_decide_eq_true (by first | (with_reducible assumption) | assumption)
                                have hx7 := bt_at a0 x3_2
                                replace p7 := eq_true p7
                                replace q7 := eq_true q7
                                go_wp2
                                go_ret
                                exact ⟨by first | rfl | (simp; done) | (simp [*]; done), by repeat (first | exact Drawn0.refl _ | apply Drawn0.step)⟩
                              · rw [if_neg c15] at H
                                have c15b0 : decide (57 < (bt a0 x3_2)) = false := decide_eq_false c15
                                clear c15
                                have H' := Aside0.mk H
                                clear H
                                have p7 : 0 ≤ (x3_2 : Int) := of_decide_eq_true (by first | (with_reducible assumption) | assumption)
                                have q7 : x3_2 < (a0.size : Int) := of_decide_eq_true (by first | (with_reducible assumption) | assumption)
                                have hx7 := bt_at a0 x3_2
                                replace p7 := eq_true p7
                                replace q7 := eq_true q7
                                go_wp2
                                go_roundg k2
                                case measure => have := HJ1.out; have := HK2.out; omega
                                case rel => exact ⟨(wrap64 (x3_2 + 1)), (by first | rfl | (simp; done) | (simp [*]; done)), H', ⟨by have := HJ1.out; have := HK2.out; omega⟩, by repeat (first | exact Drawn0.refl _ | apply Drawn0.step)⟩
                    · rw [if_neg c10] at H
                      have c10b0 : decide (65 ≤ (bt a0 x3_2)) = false := decide_eq_false c10
                      clear c10
                      by_cases c16 : x3_2 = 0
                      · rw [if_pos c16] at H
                        have c16b0 : (x3_2 == 0) = true := beq_iff_eq.mpr c16
                        have c16b1 : (x3_2 != 0) = false := bne_eq_false_iff_eq.mpr c16
                        clear c16
                        obtain rfl := Option.some.inj H
                        have p7 : 0 ≤ (x3_2 : Int) := of_decide_eq_true (by first | (with_reducible assumption) | assumption)
                        have q7 : x3_2 < (a0.size : Int) := of_decide_eq_true (by first | (with_reducible assumption) | assumption)
                        have hx7 := bt_at a0 x3_2
                        replace p7 := eq_true p7
                        replace q7 := eq_true q7
                        go_wp2
                        go_ret
                        exact ⟨by first | rfl | (simp; done) | (simp [*]; done), by repeat (first | exact Drawn0.refl _ | apply Drawn0.step)⟩
                      · rw [if_neg c16] at H
                        have c16b0 : (x3_2 == 0) = false := beq_eq_false_iff_ne.mpr c16
                        have c16b1 : (x3_2 != 0) = true := bne_iff_ne.mpr c16
                        by_cases c17 : (bt a0 x3_2) = 95
                        · rw [if_pos c17] at H
                          have c17b0 : ((bt a0 x3_2) == 95) = true := beq_iff_eq.mpr c17
                          have c17b1 : ((bt a0 x3_2) != 95) = false := bne_eq_false_iff_eq.mpr c17
                          clear c17
                          have H' := Aside0.mk H
                          clear H
                          have p7 : 0 ≤ (x3_2 : Int) := of_decide_eq_true (by first | (with_reducible assumption) | assumption)
                          have q7 : x3_2 < (a0.size : Int) := of_decide_eq_true (by first | (with_reducible assumption) | assumption)
                          have hx7 := bt_at a0 x3_2
                          replace p7 := eq_true p7
                          replace q7 := eq_true q7
                          go_wp2
                          go_roundg k2
                          case measure => have := HJ1.out; have := HK2.out; omega
                          case rel => exact ⟨(wrap64 (x3_2 + 1)), (by first | rfl | (simp; done) | (simp [*]; done)), H', ⟨by have := HJ1.out; have := HK2.out; omega⟩, by repeat (first | exact Drawn0.refl _ | apply Drawn0.step)⟩
                        · rw [if_neg c17] at H
                          have c17b0 : ((bt a0 x3_2) == 95) = false := beq_eq_false_iff_ne.mpr c17
                          have c17b1 : ((bt a0 x3_2) != 95) = true := bne_iff_ne.mpr c17
                          by_cases c18 : (bt a0 x3_2) < 48
                          · rw [if_pos c18] at H
                            have c18b0 : decide ((bt a0 x3_2) < 48) = true := decide_eq_true c18
                            clear c18
                            obtain rfl := Option.some.inj H
                            have p7 : 0 ≤ (x3_2 : Int) := of_decide_eq_true (by first | (with_reducible assumption) | assumption)
                            have q7 : x3_2 < (a0.size : Int) := of_decide_eq_true (by first | (with_reducible assumption) | assumption)
                            have hx7 := bt_at a0 x3_2
                            replace p7 := eq_true p7
                            replace q7 := eq_true q7
                            go_wp2
                            go_ret
                            exact ⟨by first | rfl | (simp; done) | (simp [*]; done), by repeat (first | exact Drawn0.refl _ | apply Drawn0.step)⟩
                          · rw [if_neg c18] at H
                            have c18b0 : decide ((bt a0 x3_2) < 48) = false := decide_eq_false c18
                            clear c18
                            by_cases c19 : (bt a0 x3_2) > 57
                            · rw [if_pos c19] at H
                              have c19b0 : decide (57 < (bt a0 x3_2)) = true := decide_eq_true c19
                              clear c19
                              obtain rfl := Option.some.inj H
                              have p7 : 0 ≤ (x3_2 : Int) := of_decide_eq_true (by first | (with_reducible assumption) | assumption)
                              have q7 : x3_2 < (a0.size : Int) := of_decide_eq_true (by first | (with_reducible assumption) | assumption)
                              have hx7 := bt_at a0 x3_2
                              replace p7 := eq_true p7
                              replace q7 := eq_true q7
                              go_wp2
                              go_ret
                              exact ⟨by first | rfl | (simp; done) | (simp [*]; done), by repeat (first | exact Drawn0.refl _ | apply Drawn0.step)⟩
                            · rw [if_neg c19] at H
                              have c19b0 : decide (57 < (bt a0 x3_2)) = false := decide_eq_false c19
                              clear c19
                              have H' := Aside0.mk H
                              clear H
                              have p7 : 0 ≤ (x3_2 : Int) := of_decide_eq_true (by first | (with_reducible assumption) | assumption)
                              have q7 : x3_2 < (a0.size : Int) := of_decide_eq_true (by first | (with_reducible assumption) | assumption)
                              have hx7 := bt_at a0 x3_2
                              replace p7 := eq_true p7
                              replace q7 := eq_true q7
                              go_wp2
                              go_roundg k2
                              case measure => have := HJ1.out; have := HK2.out; omega
                              case rel => exact ⟨(wrap64 (x3_2 + 1)), (by first | rfl | (simp; done) | (simp [*]; done)), H', ⟨by have := HJ1.out; have := HK2.out; omega⟩, by repeat (first | exact Drawn0.refl _ | apply Drawn0.step)⟩
                · rw [if_neg c8] at H
                  have c8b0 : decide (97 ≤ (bt a0 x3_2)) = false := decide_eq_false c8
                  clear c8
                  by_cases c20 : (bt a0 x3_2) ≥ 65
                  · rw [if_pos c20] at H
                    have c20b0 : decide (65 ≤ (bt a0 x3_2)) = true := decide_eq_true c20
                    clear c20
                    by_cases c21 : ((bt a0 x3_2) ≤ 90)
                    · rw [if_pos c21] at H
                      have c21b0 : decide ((bt a0 x3_2) ≤ 90) = true := decide_eq_true c21
                      clear c21
                      have H' := Aside0.mk H
                      clear H
                      have p7 : 0 ≤ (x3_2 : Int) := of_decide_eq_true (by first | (with_reducible assumption) | assumption)
                      have q7 : x3_2 < (a0.size : Int) := of_decide_eq_true (by first | (with_reducible assumption) | assumption)
                      have hx7 := bt_at a0 x3_2
                      replace p7 := eq_true p7
                      replace q7 := eq_true q7
                      go_wp2
                      go_roundg k2
                      case measure => have := HJ1.out; have := HK2.out; omega
                      case rel => exact ⟨(wrap64 (x3_2 + 1)), (by first | rfl | (simp; done) | (simp [*]; done)), H', ⟨by have := HJ1.out; have := HK2.out; omega⟩, by repeat (first | exact Drawn0.refl _ | apply Drawn0.step)⟩
                    · rw [if_neg c21] at H
                      have c21b0 : decide ((bt a0 x3_2) ≤ 90) = false := decide_eq_false c21
                      clear c21
                      by_cases c22 : x3_2 = 0
                      · rw [if_pos c22] at H
                        have c22b0 : (x3_2 == 0) = true := beq_iff_eq.mpr c22
                        have c22b1 : (x3_2 != 0) = false := bne_eq_false_iff_eq.mpr c22
                        clear c22
                        obtain rfl := Option.some.inj H
                        have p7 : 0 ≤ (x3_2 : Int) := of_decide_eq_true (by first | (with_reducible assumption) | assumption)
                        have q7 : x3_2 < (a0.size : Int) := of_decide_eq_true (by first | (with_reducible assumption) | assumption)
                        have hx7 := bt_at a0 x3_2
                        replace p7 := eq_true p7
                        replace q7 := eq_true q7
                        go_wp2
                        go_ret
                        exact ⟨by first | rfl | (simp; done) | (simp [*]; done), by repeat (first | exact Drawn0.refl _ | apply Drawn0.step)⟩
                      · rw [if_neg c22] at H
                        have c22b0 : (x3_2 == 0) = false := beq_eq_false_iff_ne.mpr c22
                        have c22b1 : (x3_2 != 0) = true := bne_iff_ne.mpr c22
                        by_cases c23 : (bt a0 x3_2) = 95
                        · rw [if_pos c23] at H
                          have c23b0 : ((bt a0 x3_2) == 95) = true := beq_iff_eq.mpr c23
                          have c23b1 : ((bt a0 x3_2) != 95) = false := bne_eq_false_iff_eq.mpr c23
                          clear c23
                          have H' := Aside0.mk H
                          clear H
                          have p7 : 0 ≤ (x3_2 : Int) := of_decide_eq_true (by first | (with_reducible assumption) | assumption)
                          have q7 : x3_2 < (a0.size : Int) := of_decide_eq_true (by first | (with_reducible assumption) | assumption)
                          have hx7 := bt_at a0 x3_2
                          replace p7 := eq_true p7
                          replace q7 := eq_true q7
                          go_wp2
                          go_roundg k2
                          case measure => have := HJ1.out; have := HK2.out; omega
                          case rel => exact ⟨(wrap64 (x3_2 + 1)), (by first | rfl | (simp; done) | (simp [*]; done)), H', ⟨by have := HJ1.out; have := HK2.out; omega⟩, by repeat (first | exact Drawn0.refl _ | apply Drawn0.step)⟩
                        · rw [if_neg c23] at H
                          have c23b0 : ((bt a0 x3_2) == 95) = false := beq_eq_false_iff_ne.mpr c23
                          have c23b1 : ((bt a0 x3_2) != 95) = true := bne_iff_ne.mpr c23
                          by_cases c24 : (bt a0 x3_2) < 48
                          · rw [if_pos c24] at H
                            have c24b0 : decide ((bt a0 x3_2) < 48) = true := decide_eq_true c24
                            clear c24
                            obtain rfl := Option.some.inj H
                            have p7 : 0 ≤ (x3_2 : Int) := of_decide_eq_true (by first | (with_reducible assumption) | assumption)
                            have q7 : x3_2 < (a0.size : Int) := of_decide_eq_true (by first | (with_reducible assumption) | assumption)
                            have hx7 := bt_at a0 x3_2
                            replace p7 := eq_true p7
                            replace q7 := eq_true q7
                            go_wp2
                            go_ret
                            exact ⟨by first | rfl | (simp; done) | (simp [*]; done), by repeat (first | exact Drawn0.refl _ | apply Drawn0.step)⟩
                          · rw [if_neg c24] at H
                            have c24b0 : decide ((bt a0 x3_2) < 48) = false := decide_eq_false c24
                            clear c24
                            by_cases c25 : (bt a0 x3_2) > 57
                            · rw [if_pos c25] at H
                              have c25b0 : decide (57 < (bt a0 x3_2)) = true := decide_eq_true c25
                              clear c25
                              obtain rfl := Option.some.inj H
                              have p7 : 0 ≤ (x3_2 : Int) := of_decide_eq_true (by first | (with_reducible assumption) | assumption)
                              have q7 : x3_2 < (a0.size : Int) := of_decide_eq_true (by first | (with_reducible assumption) | assumption)
                              have hx7 := bt_at a0 x3_2
                              replace p7 := eq_true p7
                              replace q7 := eq_true q7
                              go_wp2
                              go_ret
                              exact ⟨by first | rfl | (simp; done) | (simp [*]; done), by repeat (first | exact Drawn0.refl _ | apply Drawn0.step)⟩
                            · rw [if_neg c25] at H
                              have c25b0 : decide (57 < (bt a0 x3_2)) = false := decide_eq_false c25
                              clear c25
                              have H' := Aside0.mk H
                              clear H
                              have p7 : 0 ≤ (x3_2 : Int) := of_decide_eq_true (by first | (with_reducible assumption) | assumption)
                              have q7 : x3_2 < (a0.size : Int) := of_decide_eq_true (by first | (with_reducible assumption) | assumption)
                              have hx7 := bt_at a0 x3_2
                              replace p7 := eq_true p7
                              replace q7 := eq_true q7
                              go_wp2
                              go_roundg k2
                              case measure => have := HJ1.out; have := HK2.out; omega
                              case rel => exact ⟨(wrap64 (x3_2 + 1)), (by first | rfl | (simp; done) | (simp [*]; done)), H', ⟨by have := HJ1.out; have := HK2.out; omega⟩, by repeat (first | exact Drawn0.refl _ | apply Drawn0.step)⟩
                  · rw [if_neg c20] at H
                    have c20b0 : decide (65 ≤ (bt a0 x3_2)) = false := decide_eq_false c20
                    clear c20
                    by_cases c26 : x3_2 = 0
                    · rw [if_pos c26] at H
                      have c26b0 : (x3_2 == 0) = true := beq_iff_eq.mpr c26
                      have c26b1 : (x3_2 != 0) = false := bne_eq_false_iff_eq.mpr c26
                      clear c26
                      obtain rfl := Option.some.inj H
                      have p7 : 0 ≤ (x3_2 : Int) := of_decide_eq_true (by first | (with_reducible assumption) | assumption)
                      have q7 : x3_2 < (a0.size : Int) := of_decide_eq_true (by first | (with_reducible assumption) | assumption)
                      have hx7 := bt_at a0 x3_2
                      replace p7 := eq_true p7
                      replace q7 := eq_true q7
                      go_wp2
                      go_ret
                      exact ⟨by first | rfl | (simp; done) | (simp [*]; done), by repeat (first | exact Drawn0.refl _ | apply Drawn0.step)⟩
                    · rw [if_neg c26] at H
                      have c26b0 : (x3_2 == 0) = false := beq_eq_false_iff_ne.mpr c26
                      have c26b1 : (x3_2 != 0) = true := bne_iff_ne.mpr c26
                      by_cases c27 : (bt a0 x3_2) = 95
                      · rw [if_pos c27] at H
                        have c27b0 : ((bt a0 x3_2) == 95) = true := beq_iff_eq.mpr c27
                        have c27b1 : ((bt a0 x3_2) != 95) = false := bne_eq_false_iff_eq.mpr c27
                        clear c27
                        have H' := Aside0.mk H
                        clear H
                        have p7 : 0 ≤ (x3_2 : Int) := of_decide_eq_true (by first | (with_reducible assumption) | assumption)
                        have q7 : x3_2 < (a0.size : Int) := of_decide_eq_true (by first | (with_reducible assumption) | assumption)
                        have hx7 := bt_at a0 x3_2
                        replace p7 := eq_true p7
                        replace q7 := eq_true q7
                        go_wp2
                        go_roundg k2
                        case measure => have := HJ1.out; have := HK2.out; omega
                        case rel => exact ⟨(wrap64 (x3_2 + 1)), (by first | rfl | (simp; done) | (simp [*]; done)), H', ⟨by have := HJ1.out; have := HK2.out; omega⟩, by repeat (first | exact Drawn0.refl _ | apply Drawn0.step)⟩
                      · rw [if_neg c27] at H
                        have c27b0 : ((bt a0 x3_2) == 95) = false := beq_eq_false_iff_ne.mpr c27
                        have c27b1 : ((bt a0 x3_2) != 95) = true := bne_iff_ne.mpr c27
                        by_cases c28 : (bt a0 x3_2) < 48
                        · rw [if_pos c28] at H
                          have c28b0 : decide ((bt a0 x3_2) < 48) = true := decide_eq_true c28
                          clear c28
                          obtain rfl := Option.some.inj H
                          have p7 : 0 ≤ (x3_2 : Int) := of_decide_eq_true (by first | (with_reducible assumption) | assumption)
                          have q7 : x3_2 < (a0.size : Int) := of_decide_eq_true (by first | (with_reducible assumption) | assumption)
                          have hx7 := bt_at a0 x3_2
                          replace p7 := eq_true p7
                          replace q7 := eq_true q7
                          go_wp2
                          go_ret
                          exact ⟨by first | rfl | (simp; done) | (simp [*]; done), by repeat (first | exact Drawn0.refl _ | apply Drawn0.step)⟩
                        · rw [if_neg c28] at H
                          have c28b0 : decide ((bt a0 x3_2) < 48) = false := decide_eq_false c28
                          clear c28
                          by_cases c29 : (bt a0 x3_2) > 57
                          · rw [if_pos c29] at H
                            have c29b0 : decide (57 < (bt a0 x3_2)) = true := decide_eq_true c29
                            clear c29
                            obtain rfl := Option.some.inj H
                            have p7 : 0 ≤ (x3_2 : Int) := of_decide_eq_true (by first | (with_reducible assumption) | assumption)
                            have q7 : x3_2 < (a0.size : Int) := of_decide_eq_true (by first | (with_reducible assumption) | assumption)
                            have hx7 := bt_at a0 x3_2
                            replace p7 := eq_true p7
                            replace q7 := eq_true q7
                            go_wp2
                            go_ret
                            exact ⟨by first | rfl | (simp; done) | (simp [*]; done), by repeat (first | exact Drawn0.refl _ | apply Drawn0.step)⟩
                          · rw [if_neg c29] at H
                            have c29b0 : decide (57 < (bt a0 x3_2)) = false := decide_eq_false c29
                            clear c29
                            have H' := Aside0.mk H
                            clear H
                            have p7 : 0 ≤ (x3_2 : Int) := of_decide_eq_true (by first | (with_reducible assumption) | assumption)
                            have q7 : x3_2 < (a0.size : Int) := of_decide_eq_true (by first | (with_reducible assumption) | assumption)
                            have hx7 := bt_at a0 x3_2
                            replace p7 := eq_true p7
                            replace q7 := eq_true q7
                            go_wp2
                            go_roundg k2
                            case measure => have := HJ1.out; have := HK2.out; omega
                            case rel => exact ⟨(wrap64 (x3_2 + 1)), (by first | rfl | (simp; done) | (simp [*]; done)), H', ⟨by have := HJ1.out; have := HK2.out; omega⟩, by repeat (first | exact Drawn0.refl _ | apply Drawn0.step)⟩
              · rw [if_neg c6] at H
                exact absurd H (by simp)
            · rw [if_neg c5] at H
              have c5b0 : decide (x3_2 < (a0.size : Int)) = false := decide_eq_false c5
              clear c5
              obtain rfl := Option.some.inj H
              go_wp2
              go_ret
              exact ⟨by first | rfl | (simp; done) | (simp [*]; done), by repeat (first | exact Drawn0.refl _ | apply Drawn0.step)⟩

def provisoref21_place.l0 : Nat → List (S101) → ByteArray → Int → Option (Int × Bool)
  | 0, _, _, _ => none
  | k + 1, x0, x1, x6 => if x6 < (x0.length : Int) then (if 0 ≤ x6 then (if (Op.bytesLess (((rd_T101 x0 x6).f0).toList) x1.toList) = true then (provisoref21_place.l0 k x0 x1 (wrap64 (x6 + 1))) else (some (x6, (((rd_T101 x0 x6).f0).toList == x1.toList)))) else (none)) else (some (x6, false))
def provisoref21_place.f (k : Nat) (l0 : List (S101)) (a1 : ByteArray) : Option (Int × Bool) := provisoref21_place.l0 k l0 a1 0
set_option maxHeartbeats 8000000 in
set_option maxRecDepth 100000 in
theorem provisoref21_place.calls (k : Nat) (A0 : Option Addr) (c0 : Nat) (l0 : List (S101)) (a1 : ByteArray) (r1 : Int) (r2 : Bool) (w : World) (hr0 : Kd.C k101 w A0 l0.length l0) (hc0 : l0.length ≤ c0) (h : provisoref21_place.f k l0 a1 = some (r1, r2)) :
    Calls Try.prog 42 #[.slice A0 l0.length c0, .string a1] w fun e w' => e = .returned (.tuple #[.int .i64 r1, .bool r2]) ∧ Drawn0 w w' := by
  have HR0 := Aside0.mk hr0
  have HC0 := Aside0.mk hc0
  clear hr0 hc0
  have H : (provisoref21_place.l0 k l0 a1 0) = some (r1, r2) := h
  clear h
  have H' := Aside0.mk H
  clear H
  go_enter Try.func42, Try.ntmps42
  go_wp2
  repeat (go_quiet (fail); try go_wp2)
  go_loopg [6] k (fun kq v6 w' => ∃ (x6_1 : Int), v6 = .int .i64 x6_1 ∧ Aside0 (provisoref21_place.l0 kq l0 a1 x6_1 = some (r1, r2)) ∧ Aside0 (kq ≤ k) ∧ Drawn0 w w')
  case atStart => exact ⟨(0), (by first | rfl | (simp; done) | (simp [*]; done)), H', ⟨Nat.le_refl _⟩, by repeat (first | exact Drawn0.refl _ | apply Drawn0.step)⟩
  case round =>
    clear H'
    try clear p2
    obtain ⟨x6_1, rfl, HA, HK1, ⟨m1, rfl⟩⟩ := hrel
    cases gk with
    | zero => exact absurd HA.out (by simp [provisoref21_place.l0])
    | succ k1 =>
      have H := HA.out
      clear HA
      simp only [provisoref21_place.l0] at H
      by_cases c3 : x6_1 < (l0.length : Int)
      · rw [if_pos c3] at H
        have c3b0 : decide (x6_1 < (l0.length : Int)) = true := decide_eq_true c3
        clear c3
        by_cases c4 : 0 ≤ x6_1
        · rw [if_pos c4] at H
          have c4b0 : decide (0 ≤ x6_1) = true := decide_eq_true c4
          clear c4
          by_cases c5 : (Op.bytesLess (((rd_T101 l0 x6_1).f0).toList) a1.toList) = true
          · rw [if_pos c5] at H
            have c5b0 : (Op.bytesLess (((rd_T101 l0 x6_1).f0).toList) a1.toList) = true := c5
            clear c5
            have H' := Aside0.mk H
            clear H
            have p105 : 0 ≤ (x6_1 : Int) := of_decide_eq_true (by first | (with_reducible assumption) | assumption)
            have q105 : x6_1 < (l0.length : Int) := of_decide_eq_true (by first | (with_reducible assumption) | assumption)
            obtain ⟨ad105, A105_1, c105_1, e105, hx105_0, hx105_1, hl105_1, hi105_1⟩ := at_T101 HR0.out x6_1 p105 q105
            cases e105
            have HR105_1 := Aside0.mk hi105_1
            have HC105_1 := Aside0.mk hl105_1
            clear hi105_1 hl105_1
            replace p105 := eq_true p105
            replace q105 := eq_true q105
            go_wp2
            repeat (go_quiet (fail); try go_wp2)
            go_roundg k1
            case measure => have := HK1.out; omega
            case rel => exact ⟨(wrap64 (x6_1 + 1)), (by first | rfl | (simp; done) | (simp [*]; done)), H', ⟨by have := HK1.out; omega⟩, by repeat (first | exact Drawn0.refl _ | apply Drawn0.step)⟩
          · rw [if_neg c5] at H
            have c5b0 : (Op.bytesLess (((rd_T101 l0 x6_1).f0).toList) a1.toList) = false := by simpa using c5
            clear c5
            simp only [Option.some.injEq, Prod.mk.injEq] at H
            obtain ⟨rfl, rfl⟩ := H
            have p105 : 0 ≤ (x6_1 : Int) := of_decide_eq_true (by first | (with_reducible assumption) | assumption)
            have q105 : x6_1 < (l0.length : Int) := of_decide_eq_true (by first | (with_reducible assumption) | assumption)
            obtain ⟨ad105, A105_1, c105_1, e105, hx105_0, hx105_1, hl105_1, hi105_1⟩ := at_T101 HR0.out x6_1 p105 q105
            cases e105
            have HR105_1 := Aside0.mk hi105_1
            have HC105_1 := Aside0.mk hl105_1
            clear hi105_1 hl105_1
            replace p105 := eq_true p105
            replace q105 := eq_true q105
            have p106 : 0 ≤ (x6_1 : Int) := of_decide_eq_true (by first | (with_reducible assumption) | assumption)
            have q106 : x6_1 < (l0.length : Int) := of_decide_eq_true (by first | (with_reducible assumption) | assumption)
            obtain ⟨ad106, A106_1, c106_1, e106, hx106_0, hx106_1, hl106_1, hi106_1⟩ := at_T101 HR0.out x6_1 p106 q106
            obtain rfl : ad105 = ad106 := (by injection e106)
            have HR106_1 := Aside0.mk hi106_1
            have HC106_1 := Aside0.mk hl106_1
            clear hi106_1 hl106_1
            replace p106 := eq_true p106
            replace q106 := eq_true q106
            have ea_ := Option.some.inj (hx105_1.symm.trans hx106_1)
            injection ea_ with ea_ en_ ec_
            subst ea_
            subst ec_
            clear en_
            go_wp2
            repeat (go_quiet (fail); try go_wp2)
            go_ret2
            exact ⟨by first | rfl | (simp; done) | (simp [*]; done), by repeat (first | exact Drawn0.refl _ | apply Drawn0.step)⟩
        · rw [if_neg c4] at H
          exact absurd H (by simp)
      · rw [if_neg c3] at H
        have c3b0 : decide (x6_1 < (l0.length : Int)) = false := decide_eq_false c3
        clear c3
        simp only [Option.some.injEq, Prod.mk.injEq] at H
        obtain ⟨rfl, rfl⟩ := H
        go_wp2
        repeat (go_quiet (fail); try go_wp2)
        go_ret2
        exact ⟨by first | rfl | (simp; done) | (simp [*]; done), by repeat (first | exact Drawn0.refl _ | apply Drawn0.step)⟩


def provisoref21_with.f (k : Nat) (l0 : List (S101)) (a1 : ByteArray) (l2 : List Int) : Option ((List (S101))) := (provisoref21_place.f k l0 a1).bind fun bt138 => ((some (([] : List (S101)) : List (S101))).bind fun y140 => (if 0 ≤ bt138.1 then (if bt138.1 ≤ (l0.length : Int) then ((some (l0.take (bt138.1 : Int).toNat : List (S101))).bind fun y143 => (if y140.length + y143.length < 3518437208883 then ((some (y140 ++ y143 : List (S101))).bind fun y148 => (if y148.length < 3518437208883 then ((some (y148 ++ [(⟨a1, l2⟩ : S101)] : List (S101))).bind fun y151 => (if bt138.2 = true then (if 0 ≤ (wrap64 (bt138.1 + 1)) then (if (wrap64 (bt138.1 + 1)) ≤ (l0.length : Int) then ((some (l0.drop ((wrap64 (bt138.1 + 1)) : Int).toNat : List (S101))).bind fun y154 => (if y151.length + y154.length < 3518437208883 then (some (y151 ++ y154)) else (none))) else (none)) else (none)) else ((some (l0.drop (bt138.1 : Int).toNat : List (S101))).bind fun y162 => (if y151.length + y162.length < 3518437208883 then (some (y151 ++ y162)) else (none))))) else (none))) else (none))) else (none)) else (none)))
set_option maxHeartbeats 8000000 in
set_option maxRecDepth 100000 in
theorem provisoref21_with.calls (k : Nat) (P0_ : Nat → Prop) (A0 : Option Addr) (c0 : Nat) (l0 : List (S101)) (a1 : ByteArray) (P2_ : Nat → Prop) (A2 : Option Addr) (c2 : Nat) (l2 : List Int) (r : List (S101)) (w : World) (hs0 : Kd.V k101 101 w w.heap.size (fun k_ => P0_ k_) (.slice A0 l0.length c0) l0) (hs2 : Kd.V (Kd.int .u8) 5 w w.heap.size (fun k_ => P2_ k_) (.slice A2 l2.length c2) l2) (h : provisoref21_with.f k l0 a1 l2 = some r) :
    Calls Try.prog 44 #[.slice A0 l0.length c0, .string a1, .slice A2 l2.length c2] w fun e w' => ∃ v0_ : Value, e = .returned (v0_) ∧ Kd.N k101 101 w' w.heap.size (fun k_ => ((P0_ k_ ∨ P2_ k_) ∨ w.heap.size ≤ k_)) v0_ r ∧ Below w.heap.size w w' := by
  have hu101 := Try.underlying101
  have HO0 := Aside0.mk (show Kd.V k101 101 w w.heap.size (fun k_ => ((P0_ k_ ∨ P2_ k_) ∨ w.heap.size ≤ k_)) (.slice A0 l0.length c0) l0 from Kd.V_mono hs0 (fun k_ hk => .inl (.inl hk)))
  have HO2 := Aside0.mk (show Kd.V (Kd.int .u8) 5 w w.heap.size (fun k_ => ((P0_ k_ ∨ P2_ k_) ∨ w.heap.size ≤ k_)) (.slice A2 l2.length c2) l2 from Kd.V_mono hs2 (fun k_ hk => .inl (.inr hk)))
  have HB := Aside0.mk (Below.refl w.heap.size w)
  have H : ((provisoref21_place.f k l0 a1).bind fun bt138 => ((some (([] : List (S101)) : List (S101))).bind fun y140 => (if 0 ≤ bt138.1 then (if bt138.1 ≤ (l0.length : Int) then ((some (l0.take (bt138.1 : Int).toNat : List (S101))).bind fun y143 => (if y140.length + y143.length < 3518437208883 then ((some (y140 ++ y143 : List (S101))).bind fun y148 => (if y148.length < 3518437208883 then ((some (y148 ++ [(⟨a1, l2⟩ : S101)] : List (S101))).bind fun y151 => (if bt138.2 = true then (if 0 ≤ (wrap64 (bt138.1 + 1)) then (if (wrap64 (bt138.1 + 1)) ≤ (l0.length : Int) then ((some (l0.drop ((wrap64 (bt138.1 + 1)) : Int).toNat : List (S101))).bind fun y154 => (if y151.length + y154.length < 3518437208883 then (some (y151 ++ y154)) else (none))) else (none)) else (none)) else ((some (l0.drop (bt138.1 : Int).toNat : List (S101))).bind fun y162 => (if y151.length + y162.length < 3518437208883 then (some (y151 ++ y162)) else (none))))) else (none))) else (none))) else (none)) else (none)))) = some r := h
  clear h
  replace H := Option.bind_eq_some_iff.mp H
  obtain ⟨⟨t138, t139⟩, A40, H⟩ := H
  replace H : ((some (([] : List (S101)) : List (S101))).bind fun y140 => (if 0 ≤ t138 then (if t138 ≤ (l0.length : Int) then ((some (l0.take (t138 : Int).toNat : List (S101))).bind fun y143 => (if y140.length + y143.length < 3518437208883 then ((some (y140 ++ y143 : List (S101))).bind fun y148 => (if y148.length < 3518437208883 then ((some (y148 ++ [(⟨a1, l2⟩ : S101)] : List (S101))).bind fun y151 => (if t139 = true then (if 0 ≤ (wrap64 (t138 + 1)) then (if (wrap64 (t138 + 1)) ≤ (l0.length : Int) then ((some (l0.drop ((wrap64 (t138 + 1)) : Int).toNat : List (S101))).bind fun y154 => (if y151.length + y154.length < 3518437208883 then (some (y151 ++ y154)) else (none))) else (none)) else (none)) else ((some (l0.drop (t138 : Int).toNat : List (S101))).bind fun y162 => (if y151.length + y162.length < 3518437208883 then (some (y151 ++ y162)) else (none))))) else (none))) else (none))) else (none)) else (none))) = some r := H
  have A4 := Aside0.mk A40
  clear A40
  obtain ⟨y140, hy140⟩ : ∃ y_ : List (S101), y_ = (([] : List (S101))) := ⟨_, rfl⟩
  replace H : (if 0 ≤ t138 then (if t138 ≤ (l0.length : Int) then ((some (l0.take (t138 : Int).toNat : List (S101))).bind fun y143 => (if y140.length + y143.length < 3518437208883 then ((some (y140 ++ y143 : List (S101))).bind fun y148 => (if y148.length < 3518437208883 then ((some (y148 ++ [(⟨a1, l2⟩ : S101)] : List (S101))).bind fun y151 => (if t139 = true then (if 0 ≤ (wrap64 (t138 + 1)) then (if (wrap64 (t138 + 1)) ≤ (l0.length : Int) then ((some (l0.drop ((wrap64 (t138 + 1)) : Int).toNat : List (S101))).bind fun y154 => (if y151.length + y154.length < 3518437208883 then (some (y151 ++ y154)) else (none))) else (none)) else (none)) else ((some (l0.drop (t138 : Int).toNat : List (S101))).bind fun y162 => (if y151.length + y162.length < 3518437208883 then (some (y151 ++ y162)) else (none))))) else (none))) else (none))) else (none)) else (none)) = some r := by first | (rw [hy140]; with_reducible exact H) | (have H2_ := (Option.bind_some _ _).symm.trans H; rw [hy140]; with_reducible exact H2_) | (have H2_ := (Option.bind_some _ _).symm.trans H; with_reducible exact H2_) | with_reducible exact H | (rw [hy140]; exact H) | exact H
  have Ny140 := Aside0.mk hy140
  clear hy140
  by_cases c5 : 0 ≤ t138
  · rw [if_pos c5] at H
    have c5b0 := eq_true c5
    have c5b1 : decide (0 ≤ t138) = true := decide_eq_true c5
    clear c5
    by_cases c6 : t138 ≤ (l0.length : Int)
    · rw [if_pos c6] at H
      have c6b0 := eq_true c6
      have c6b1 : decide (t138 ≤ (l0.length : Int)) = true := decide_eq_true c6
      clear c6
      obtain ⟨y143, hy143⟩ : ∃ y_ : List (S101), y_ = (l0.take (t138 : Int).toNat) := ⟨_, rfl⟩
      replace H : (if y140.length + y143.length < 3518437208883 then ((some (y140 ++ y143 : List (S101))).bind fun y148 => (if y148.length < 3518437208883 then ((some (y148 ++ [(⟨a1, l2⟩ : S101)] : List (S101))).bind fun y151 => (if t139 = true then (if 0 ≤ (wrap64 (t138 + 1)) then (if (wrap64 (t138 + 1)) ≤ (l0.length : Int) then ((some (l0.drop ((wrap64 (t138 + 1)) : Int).toNat : List (S101))).bind fun y154 => (if y151.length + y154.length < 3518437208883 then (some (y151 ++ y154)) else (none))) else (none)) else (none)) else ((some (l0.drop (t138 : Int).toNat : List (S101))).bind fun y162 => (if y151.length + y162.length < 3518437208883 then (some (y151 ++ y162)) else (none))))) else (none))) else (none)) = some r := by first | (rw [hy143]; with_reducible exact H) | (have H2_ := (Option.bind_some _ _).symm.trans H; rw [hy143]; with_reducible exact H2_) | (have H2_ := (Option.bind_some _ _).symm.trans H; with_reducible exact H2_) | with_reducible exact H | (rw [hy143]; exact H) | exact H
      have Ny143 := Aside0.mk hy143
      clear hy143
      by_cases c7 : y140.length + y143.length < 3518437208883
      · rw [if_pos c7] at H
        have LMc7 := Aside0.mk c7
        clear c7
        obtain ⟨y148, hy148⟩ : ∃ y_ : List (S101), y_ = (y140 ++ y143) := ⟨_, rfl⟩
        replace H : (if y148.length < 3518437208883 then ((some (y148 ++ [(⟨a1, l2⟩ : S101)] : List (S101))).bind fun y151 => (if t139 = true then (if 0 ≤ (wrap64 (t138 + 1)) then (if (wrap64 (t138 + 1)) ≤ (l0.length : Int) then ((some (l0.drop ((wrap64 (t138 + 1)) : Int).toNat : List (S101))).bind fun y154 => (if y151.length + y154.length < 3518437208883 then (some (y151 ++ y154)) else (none))) else (none)) else (none)) else ((some (l0.drop (t138 : Int).toNat : List (S101))).bind fun y162 => (if y151.length + y162.length < 3518437208883 then (some (y151 ++ y162)) else (none))))) else (none)) = some r := by first | (rw [hy148]; with_reducible exact H) | (have H2_ := (Option.bind_some _ _).symm.trans H; rw [hy148]; with_reducible exact H2_) | (have H2_ := (Option.bind_some _ _).symm.trans H; with_reducible exact H2_) | with_reducible exact H | (rw [hy148]; exact H) | exact H
        have Ny148 := Aside0.mk hy148
        clear hy148
        by_cases c8 : y148.length < 3518437208883
        · rw [if_pos c8] at H
          have LMc8 := Aside0.mk c8
          clear c8
          obtain ⟨y151, hy151⟩ : ∃ y_ : List (S101), y_ = (y148 ++ [(⟨a1, l2⟩ : S101)]) := ⟨_, rfl⟩
          replace H : (if t139 = true then (if 0 ≤ (wrap64 (t138 + 1)) then (if (wrap64 (t138 + 1)) ≤ (l0.length : Int) then ((some (l0.drop ((wrap64 (t138 + 1)) : Int).toNat : List (S101))).bind fun y154 => (if y151.length + y154.length < 3518437208883 then (some (y151 ++ y154)) else (none))) else (none)) else (none)) else ((some (l0.drop (t138 : Int).toNat : List (S101))).bind fun y162 => (if y151.length + y162.length < 3518437208883 then (some (y151 ++ y162)) else (none)))) = some r := by first | (rw [hy151]; with_reducible exact H) | (have H2_ := (Option.bind_some _ _).symm.trans H; rw [hy151]; with_reducible exact H2_) | (have H2_ := (Option.bind_some _ _).symm.trans H; with_reducible exact H2_) | with_reducible exact H | (rw [hy151]; exact H) | exact H
          have Ny151 := Aside0.mk hy151
          clear hy151
          by_cases c9 : t139 = true
          · subst c9
            have H1 : (if 0 ≤ (wrap64 (t138 + 1)) then (if (wrap64 (t138 + 1)) ≤ (l0.length : Int) then ((some (l0.drop ((wrap64 (t138 + 1)) : Int).toNat : List (S101))).bind fun y154 => (if y151.length + y154.length < 3518437208883 then (some (y151 ++ y154)) else (none))) else (none)) else (none)) = some r := by rw [if_pos rfl] at H; exact H
            clear H
            have H := H1
            clear H1
            obtain ⟨ji10, hji10⟩ : ∃ j_ : Int, (wrap64 (t138 + 1)) = j_ := ⟨_, rfl⟩
            replace H : (if 0 ≤ (ji10) then (if (ji10) ≤ (l0.length : Int) then ((some (l0.drop ((ji10) : Int).toNat : List (S101))).bind fun y154 => (if y151.length + y154.length < 3518437208883 then (some (y151 ++ y154)) else (none))) else (none)) else (none)) = some r := by first | (rw [hji10] at H; exact H) | (simp only [hji10] at H ⊢; exact H)
            (try rw [hji10] at A4)
            have hji10w : (IntKind.i64.wrap (t138 + 1)) = ji10 := (i64_w _).trans hji10
            by_cases c11 : 0 ≤ (ji10)
            · rw [if_pos c11] at H
              have c11b0 := eq_true c11
              have c11b1 : decide (0 ≤ (ji10)) = true := decide_eq_true c11
              clear c11
              by_cases c12 : (ji10) ≤ (l0.length : Int)
              · rw [if_pos c12] at H
                have c12b0 := eq_true c12
                have c12b1 : decide ((ji10) ≤ (l0.length : Int)) = true := decide_eq_true c12
                clear c12
                obtain ⟨y154, hy154⟩ : ∃ y_ : List (S101), y_ = (l0.drop ((ji10) : Int).toNat) := ⟨_, rfl⟩
                replace H : (if y151.length + y154.length < 3518437208883 then (some (y151 ++ y154)) else (none)) = some r := by first | (rw [hy154]; with_reducible exact H) | (have H2_ := (Option.bind_some _ _).symm.trans H; rw [hy154]; with_reducible exact H2_) | (have H2_ := (Option.bind_some _ _).symm.trans H; with_reducible exact H2_) | with_reducible exact H | (rw [hy154]; exact H) | exact H
                have Ny154 := Aside0.mk hy154
                clear hy154
                by_cases c13 : y151.length + y154.length < 3518437208883
                · rw [if_pos c13] at H
                  have LMc13 := Aside0.mk c13
                  clear c13
                  obtain ⟨y159, hy159⟩ : ∃ y_ : List (S101), y_ = (y151 ++ y154) := ⟨_, rfl⟩
                  replace H : (some y159) = some r := by first | (rw [hy159]; with_reducible exact H) | (have H2_ := (Option.bind_some _ _).symm.trans H; rw [hy159]; with_reducible exact H2_) | (have H2_ := (Option.bind_some _ _).symm.trans H; with_reducible exact H2_) | with_reducible exact H | (rw [hy159]; exact H) | exact H
                  have Ny159 := Aside0.mk hy159
                  clear hy159
                  obtain rfl := Option.some.inj H
                  go_enter Try.func44, Try.ntmps44
                  go_wp2_with (first | ((with_reducible refine gate_callee (f := 42) rfl ?_); refine goesL_ (some 13) rfl rfl Try.func42 (by kernel_rfl) rfl #[.slice A0 l0.length c0, .string a1] rfl (by (try simp only [List.map_toArray, List.map_cons, List.map_nil]); first | done | rfl | (simp only [List.length_drop, List.length_take]; rfl)) ?_; (with_reducible refine (provisoref21_place.calls k _ _ l0 a1 t138 true _ ?side1 ?side2 A4.out).mono ?_); (case side1 => repeat (first | exact (Kd.V_reads' HO0.out).2.2 | (with_reducible refine Kd.C_alloc ?_ _) | (with_reducible refine Kd.C_drewN ?_ _) | (with_reducible refine Kd.C_drew ?_))); (case side2 => exact (Kd.V_reads' HO0.out).2.1); rintro e w' ⟨rfl, ⟨nd, rfl⟩⟩; refine ⟨_, rfl, ?_⟩) | ((with_reducible refine gate_dst (N := 16) rfl ?_); refine Kd.N_lit k101 _ 101 ?hg (N' := 16) ?hd (xs := ([] : List (S101))) (inner := []) (ok := (fun k_ => ((P0_ k_ ∨ P2_ k_) ∨ w.heap.size ≤ k_))) (okp := (fun k_ => ((P0_ k_ ∨ P2_ k_) ∨ w.heap.size ≤ k_))) ?hr ?hp (fun _ hk => hk) ((show ∀ k_, w.heap.size ≤ k_ → (fun k_ => ((P0_ k_ ∨ P2_ k_) ∨ w.heap.size ≤ k_)) k_ from fun k_ hk => (.inr (Nat.le_trans (below_size (by repeat (first | (with_reducible first | exact HB.out | apply below_alloc | apply pw_below_drewN | apply below_drew1) | exact HB.out))) hk))) _ (Nat.le_refl _)) (Below.refl _ _) (Nat.le_refl _) (by simp) ?_; (case hd => rfl); (case hg => rfl); (case hr => first | (go_simp; done) | (go_simp; rfl)); (case hp => exact (Reps.none _ _)); intro v141 w14 ho15 hb hg_ hnew_; clear hg_ hnew_; (first | rw [← Ny140.out] at ho15 | (simp only [Int.reduceToNat] at ho15; rw [← Ny140.out] at ho15)); have n0_ := Aside0.mk (Kd.V_elder' (by (with_reducible repeat (first | apply Kd.V_alloc | apply Kd.V_drewN | apply Kd.V_drew)); exact HO0.out) (Kd.N_base ho15) hb); have n1_ := Aside0.mk (Kd.V_elder' (by (with_reducible repeat (first | apply Kd.V_alloc | apply Kd.V_drewN | apply Kd.V_drew)); exact HO2.out) (Kd.N_base ho15) hb); have n2_ := Aside0.mk (Kd.N_lower ho15 (below_size (by repeat (first | (with_reducible first | exact HB.out | apply below_alloc | apply pw_below_drewN | apply below_drew1) | exact HB.out)))); have n3_ := Aside0.mk (below_step (by repeat (first | (with_reducible first | exact HB.out | apply below_alloc | apply pw_below_drewN | apply below_drew1) | exact HB.out)) hb); clear HO0; clear HO2; clear HB; have HO0 := n0_; have HO2 := n1_; have HO142 := n2_; have HB := n3_; clear n0_ n1_ n2_ n3_; clear hb ho15; have q16 : (t138 : Int) ≤ ((l0.length : Int) : Int) := of_decide_eq_true (by first | (with_reducible assumption) | assumption); obtain ⟨i016, hi016, _, hsz16, _⟩ := info_parts info101; have hroom16 : l0.length ≤ c0 := (Kd.V_reads' HO0.out).2.1; have hC16 : Kd.F k101 _ _ A0 l0.length l0 := (Kd.V_at (base := w.heap.size) HO0.out).2.2; have hcut16 := cut_to (P := Try.prog) 27 101 .i64 Try.underlying27 hi016 A0 l0.length c0 t138 (of_decide_eq_true (by first | (with_reducible assumption) | assumption)) q16 hroom16; have hr16 := Kd.F_take (m := (t138 : Int).toNat) hC16 (by omega); have hy16 : y143.length = (t138 : Int).toNat := (by rw [Ny143.out, List.length_take]; omega); rw [← Ny143.out] at hr16; rw [← hy16] at hcut16; have HO147 := Aside0.mk (show Kd.V k101 101 _ w.heap.size _ (.slice A0 y143.length c0) y143 from Kd.V_mk (by omega) hr16); have HC147 := Aside0.mk (show y143.length ≤ c0 from by omega); clear hr16 hC16 hroom16 hi016 hsz16; have KY16 := Aside0.mk hy16; clear hy16; replace q16 := eq_true q16) | ((with_reducible refine gate_builtin (b := .append) (xs := #[.tmp 16, .tmp 19]) rfl ?_); at_builtin; refine Kd.N_append_rows k101 (w0 := w) w.heap.size rfl (.tmp 16) (.tmp 19) 27 101 (.agg #[(.string ⟨#[]⟩), (.slice none 0 0)]) 40 rfl Try.underlying27 info101 rfl (by decide) (by omega) v141 y140 y143 _ _ _ (fun k_ => ((P0_ k_ ∨ P2_ k_) ∨ w.heap.size ≤ k_)) (fun k_ => ((fun k_ => ((P0_ k_ ∨ P2_ k_) ∨ w.heap.size ≤ k_))) k_ ∧ some k_ ≠ (v141 : Value).ownBlock) rfl rfl ?aO ?aR (fun _ hk => hk) ?aF ?aB ?aS ?aL ?_; (case aR => exact (by skip; exact Kd.V_F (Kd.V_mono (ok' := (fun k_ => ((fun k_ => ((P0_ k_ ∨ P2_ k_) ∨ w.heap.size ≤ k_))) k_ ∧ some k_ ≠ (v141 : Value).ownBlock)) (HO147.out) (fun k_ hk => ⟨hk.1, hk.2⟩)))); (case aB => exact (by repeat (first | (with_reducible first | exact HB.out | apply below_alloc | apply pw_below_drewN | apply below_drew1) | exact HB.out))); (case aF => exact (fun k_ hk => (.inr (Nat.le_trans (below_size (by repeat (first | (with_reducible first | exact HB.out | apply below_alloc | apply pw_below_drewN | apply below_drew1) | exact HB.out))) hk)))); (case aO => exact (by (with_reducible repeat (first | apply Kd.N_alloc | apply Kd.N_drewN | apply Kd.N_drew)); exact HO142.out)); (case aS => exact (below_size (by repeat (first | (with_reducible first | exact HB.out | apply below_alloc | apply pw_below_drewN | apply below_drew1) | exact HB.out)))); (case aL => have := LMc7.out; omega); intro v149 w17 ho hb hg hat; rw [← Ny148.out] at ho; have n0_ := Aside0.mk (Kd.V_afterv (ok := (fun k_ => ((P0_ k_ ∨ P2_ k_) ∨ w.heap.size ≤ k_))) (by (with_reducible repeat (first | apply Kd.V_alloc | apply Kd.V_drewN | apply Kd.V_drew)); exact HO0.out) hg hat); have n1_ := Aside0.mk (Kd.V_afterv (ok := (fun k_ => ((P0_ k_ ∨ P2_ k_) ∨ w.heap.size ≤ k_))) (by (with_reducible repeat (first | apply Kd.V_alloc | apply Kd.V_drewN | apply Kd.V_drew)); exact HO2.out) hg hat); have n2_ := Aside0.mk (Kd.V_afterv (ok := (fun k_ => ((P0_ k_ ∨ P2_ k_) ∨ w.heap.size ≤ k_))) (by (with_reducible repeat (first | apply Kd.V_alloc | apply Kd.V_drewN | apply Kd.V_drew)); exact HO147.out) hg hat); have n3_ := Aside0.mk (hb); have n4_ := Aside0.mk (ho); clear HO0; clear HO2; clear HO147; clear HB; clear HO142; have HO0 := n0_; have HO2 := n1_; have HO147 := n2_; have HB := n3_; have HO150 := n4_; clear n0_ n1_ n2_ n3_ n4_; clear ho hb hg hat) | ((with_reducible refine gate_builtin (b := .append) (xs := #[.tmp 21, .tmp 25]) rfl ?_); at_builtin; refine Kd.N_append k101 (w0 := w) w.heap.size rfl (.tmp 21) (.tmp 25) 27 101 (.agg #[(.string ⟨#[]⟩), (.slice none 0 0)]) 40 rfl Try.underlying27 info101 rfl (by decide) (by omega) v149 y148 (⟨a1, l2⟩ : S101) [.string a1, .slice A2 l2.length c2] (fun k_ => ((P0_ k_ ∨ P2_ k_) ∨ w.heap.size ≤ k_)) (fun k_ => ((fun k_ => ((P0_ k_ ∨ P2_ k_) ∨ w.heap.size ≤ k_))) k_ ∧ some k_ ≠ (v149 : Value).ownBlock) rfl rfl ?aP (fun _ hk => hk) ?aF ?aO ?aB ?aS ?aL ?_; (case aP => exact (k101_mkF _ _ (⟨a1, l2⟩ : S101) (Kd.V_reads' (Kd.V_mono (ok' := (fun k_ => ((fun k_ => ((P0_ k_ ∨ P2_ k_) ∨ w.heap.size ≤ k_))) k_ ∧ some k_ ≠ (v149 : Value).ownBlock)) (HO2.out) (fun k_ hk => ⟨hk.1, hk.2⟩))).2.1 (Kd.V_F (Kd.V_mono (ok' := (fun k_ => ((fun k_ => ((P0_ k_ ∨ P2_ k_) ∨ w.heap.size ≤ k_))) k_ ∧ some k_ ≠ (v149 : Value).ownBlock)) (HO2.out) (fun k_ hk => ⟨hk.1, hk.2⟩))))); (case aB => exact (by repeat (first | (with_reducible first | exact HB.out | apply below_alloc | apply pw_below_drewN | apply below_drew1) | exact HB.out))); (case aF => exact (fun k_ hk => (.inr (Nat.le_trans (below_size (by repeat (first | (with_reducible first | exact HB.out | apply below_alloc | apply pw_below_drewN | apply below_drew1) | exact HB.out))) hk)))); (case aO => exact (by (with_reducible repeat (first | apply Kd.N_alloc | apply Kd.N_drewN | apply Kd.N_drew)); exact HO150.out)); (case aS => exact (below_size (by repeat (first | (with_reducible first | exact HB.out | apply below_alloc | apply pw_below_drewN | apply below_drew1) | exact HB.out)))); (case aL => have := LMc8.out; omega); intro v152 w18 ho hb hg hat; rw [← Ny151.out] at ho; have n0_ := Aside0.mk (Kd.V_afterv (ok := (fun k_ => ((P0_ k_ ∨ P2_ k_) ∨ w.heap.size ≤ k_))) (by (with_reducible repeat (first | apply Kd.V_alloc | apply Kd.V_drewN | apply Kd.V_drew)); exact HO0.out) hg hat); have n1_ := Aside0.mk (Kd.V_afterv (ok := (fun k_ => ((P0_ k_ ∨ P2_ k_) ∨ w.heap.size ≤ k_))) (by (with_reducible repeat (first | apply Kd.V_alloc | apply Kd.V_drewN | apply Kd.V_drew)); exact HO2.out) hg hat); have n2_ := Aside0.mk (Kd.V_afterv (ok := (fun k_ => ((P0_ k_ ∨ P2_ k_) ∨ w.heap.size ≤ k_))) (by (with_reducible repeat (first | apply Kd.V_alloc | apply Kd.V_drewN | apply Kd.V_drew)); exact HO147.out) hg hat); have n3_ := Aside0.mk (hb); have n4_ := Aside0.mk (ho); clear HO0; clear HO2; clear HO147; clear HB; clear HO150; have HO0 := n0_; have HO2 := n1_; have HO147 := n2_; have HB := n3_; have HO153 := n4_; clear n0_ n1_ n2_ n3_ n4_; clear ho hb hg hat; have q19 : ((ji10) : Int) ≤ ((l0.length : Int) : Int) := of_decide_eq_true (by first | (with_reducible assumption) | assumption); obtain ⟨i019, hi019, _, hsz19, _⟩ := info_parts info101; have hroom19 : l0.length ≤ c0 := (Kd.V_reads' HO0.out).2.1; have hC19 : Kd.F k101 _ _ A0 l0.length l0 := (Kd.V_at (base := w.heap.size) HO0.out).2.2; have q019 : (0 : Int) ≤ ((ji10) : Int) := of_decide_eq_true (by first | (with_reducible assumption) | assumption); have hcut19 := cut_from (P := Try.prog) 27 101 .i64 Try.underlying27 hi019 2 hsz19 A0 l0.length c0 (ji10) q019 q19; have hr19 := Kd.F_cut (m := ((ji10) : Int).toNat) (c := c0) hC19 (by omega) hroom19; obtain ⟨A19, hA19⟩ : ∃ A1, A1 = (if c0 = ((ji10) : Int).toNat then A0 else (A0 : Option Addr).map (·.add (((ji10) : Int).toNat * 2))) := ⟨_, rfl⟩; obtain ⟨c19, hc19⟩ : ∃ c1, c1 = c0 - ((ji10) : Int).toNat := ⟨_, rfl⟩; have hy19 : y154.length = l0.length - ((ji10) : Int).toNat := (by rw [Ny154.out, List.length_drop] <;> omega); rw [show (l0).drop ((ji10) : Int).toNat = y154 from Ny154.out.symm] at hr19; replace hr19 : Kd.F k101 _ _ A19 y154.length y154 := (by rw [hA19]; exact hr19); rw [← hy19, ← hA19, ← hc19] at hcut19; have HO158 := Aside0.mk (show Kd.V k101 101 _ w.heap.size _ (.slice A19 y154.length c19) y154 from Kd.V_mk (by rw [hy19, hc19]; exact Nat.sub_le_sub_right hroom19 _) hr19); have HC158 := Aside0.mk (show y154.length ≤ c19 from by rw [hy19, hc19]; exact Nat.sub_le_sub_right hroom19 _); clear hr19 hC19 hroom19 hi019 hsz19 hc19; have KY19 := Aside0.mk hy19; have KA19 := Aside0.mk hA19; clear hy19 hA19; replace q19 := eq_true q19) | ((with_reducible refine gate_builtin (b := .append) (xs := #[.tmp 30, .tmp 33]) rfl ?_); at_builtin; refine Kd.N_append_rows k101 (w0 := w) w.heap.size rfl (.tmp 30) (.tmp 33) 27 101 (.agg #[(.string ⟨#[]⟩), (.slice none 0 0)]) 40 rfl Try.underlying27 info101 rfl (by decide) (by omega) v152 y151 y154 _ _ _ (fun k_ => ((P0_ k_ ∨ P2_ k_) ∨ w.heap.size ≤ k_)) (fun k_ => ((fun k_ => ((P0_ k_ ∨ P2_ k_) ∨ w.heap.size ≤ k_))) k_ ∧ some k_ ≠ (v152 : Value).ownBlock) rfl rfl ?aO ?aR (fun _ hk => hk) ?aF ?aB ?aS ?aL ?_; (case aR => exact (by skip; exact Kd.V_F (Kd.V_mono (ok' := (fun k_ => ((fun k_ => ((P0_ k_ ∨ P2_ k_) ∨ w.heap.size ≤ k_))) k_ ∧ some k_ ≠ (v152 : Value).ownBlock)) (HO158.out) (fun k_ hk => ⟨hk.1, hk.2⟩)))); (case aB => exact (by repeat (first | (with_reducible first | exact HB.out | apply below_alloc | apply pw_below_drewN | apply below_drew1) | exact HB.out))); (case aF => exact (fun k_ hk => (.inr (Nat.le_trans (below_size (by repeat (first | (with_reducible first | exact HB.out | apply below_alloc | apply pw_below_drewN | apply below_drew1) | exact HB.out))) hk)))); (case aO => exact (by (with_reducible repeat (first | apply Kd.N_alloc | apply Kd.N_drewN | apply Kd.N_drew)); exact HO153.out)); (case aS => exact (below_size (by repeat (first | (with_reducible first | exact HB.out | apply below_alloc | apply pw_below_drewN | apply below_drew1) | exact HB.out)))); (case aL => have := LMc13.out; omega); intro v160 w20 ho hb hg hat; rw [← Ny159.out] at ho; have n0_ := Aside0.mk (Kd.V_afterv (ok := (fun k_ => ((P0_ k_ ∨ P2_ k_) ∨ w.heap.size ≤ k_))) (by (with_reducible repeat (first | apply Kd.V_alloc | apply Kd.V_drewN | apply Kd.V_drew)); exact HO0.out) hg hat); have n1_ := Aside0.mk (Kd.V_afterv (ok := (fun k_ => ((P0_ k_ ∨ P2_ k_) ∨ w.heap.size ≤ k_))) (by (with_reducible repeat (first | apply Kd.V_alloc | apply Kd.V_drewN | apply Kd.V_drew)); exact HO2.out) hg hat); have n2_ := Aside0.mk (Kd.V_afterv (ok := (fun k_ => ((P0_ k_ ∨ P2_ k_) ∨ w.heap.size ≤ k_))) (by (with_reducible repeat (first | apply Kd.V_alloc | apply Kd.V_drewN | apply Kd.V_drew)); exact HO147.out) hg hat); have n3_ := Aside0.mk (Kd.V_afterv (ok := (fun k_ => ((P0_ k_ ∨ P2_ k_) ∨ w.heap.size ≤ k_))) (by (with_reducible repeat (first | apply Kd.V_alloc | apply Kd.V_drewN | apply Kd.V_drew)); exact HO158.out) hg hat); have n4_ := Aside0.mk (hb); have n5_ := Aside0.mk (ho); clear HO0; clear HO2; clear HO147; clear HO158; clear HB; clear HO153; have HO0 := n0_; have HO2 := n1_; have HO147 := n2_; have HO158 := n3_; have HB := n4_; have HO161 := n5_; clear n0_ n1_ n2_ n3_ n4_ n5_; clear ho hb hg hat))
                  go_ret
                  exact ⟨_, by first | rfl | (simp [errW_none, errW_some] <;> rfl) | (simp only [← hji10]; first | rfl | (simp [errW_none, errW_some] <;> rfl)) | (simp [*, errW_none, errW_some] <;> rfl), by (with_reducible repeat (first | apply Kd.N_alloc | apply Kd.N_drewN | apply Kd.N_drew)); exact HO161.out, by repeat (first | (with_reducible first | exact HB.out | apply below_alloc | apply pw_below_drewN | apply below_drew1) | exact HB.out)⟩
                · rw [if_neg c13] at H
                  exact absurd H (by simp)
              · rw [if_neg c12] at H
                exact absurd H (by simp)
            · rw [if_neg c11] at H
              exact absurd H (by simp)
          · replace c9 := Bool.eq_false_iff.mpr c9
            subst c9
            have H1 : ((some (l0.drop (t138 : Int).toNat : List (S101))).bind fun y162 => (if y151.length + y162.length < 3518437208883 then (some (y151 ++ y162)) else (none))) = some r := by rw [if_neg (show ¬ (false = true) by decide)] at H; exact H
            clear H
            have H := H1
            clear H1
            have c21b0 := eq_true (of_decide_eq_true (by first | (with_reducible assumption) | assumption) : 0 ≤ t138)
            have c22b0 := eq_true (of_decide_eq_true (by first | (with_reducible assumption) | assumption) : t138 ≤ (l0.length : Int))
            obtain ⟨y162, hy162⟩ : ∃ y_ : List (S101), y_ = (l0.drop (t138 : Int).toNat) := ⟨_, rfl⟩
            replace H : (if y151.length + y162.length < 3518437208883 then (some (y151 ++ y162)) else (none)) = some r := by first | (rw [hy162]; with_reducible exact H) | (have H2_ := (Option.bind_some _ _).symm.trans H; rw [hy162]; with_reducible exact H2_) | (have H2_ := (Option.bind_some _ _).symm.trans H; with_reducible exact H2_) | with_reducible exact H | (rw [hy162]; exact H) | exact H
            have Ny162 := Aside0.mk hy162
            clear hy162
            by_cases c23 : y151.length + y162.length < 3518437208883
            · rw [if_pos c23] at H
              have LMc23 := Aside0.mk c23
              clear c23
              obtain ⟨y167, hy167⟩ : ∃ y_ : List (S101), y_ = (y151 ++ y162) := ⟨_, rfl⟩
              replace H : (some y167) = some r := by first | (rw [hy167]; with_reducible exact H) | (have H2_ := (Option.bind_some _ _).symm.trans H; rw [hy167]; with_reducible exact H2_) | (have H2_ := (Option.bind_some _ _).symm.trans H; with_reducible exact H2_) | with_reducible exact H | (rw [hy167]; exact H) | exact H
              have Ny167 := Aside0.mk hy167
              clear hy167
              obtain rfl := Option.some.inj H
              go_enter Try.func44, Try.ntmps44
              go_wp2_with (first | ((with_reducible refine gate_callee (f := 42) rfl ?_); refine goesL_ (some 13) rfl rfl Try.func42 (by kernel_rfl) rfl #[.slice A0 l0.length c0, .string a1] rfl (by (try simp only [List.map_toArray, List.map_cons, List.map_nil]); first | done | rfl | (simp only [List.length_drop, List.length_take]; rfl)) ?_; (with_reducible refine (provisoref21_place.calls k _ _ l0 a1 t138 false _ ?side1 ?side2 A4.out).mono ?_); (case side1 => repeat (first | exact (Kd.V_reads' HO0.out).2.2 | (with_reducible refine Kd.C_alloc ?_ _) | (with_reducible refine Kd.C_drewN ?_ _) | (with_reducible refine Kd.C_drew ?_))); (case side2 => exact (Kd.V_reads' HO0.out).2.1); rintro e w' ⟨rfl, ⟨nd, rfl⟩⟩; refine ⟨_, rfl, ?_⟩) | ((with_reducible refine gate_dst (N := 16) rfl ?_); refine Kd.N_lit k101 _ 101 ?hg (N' := 16) ?hd (xs := ([] : List (S101))) (inner := []) (ok := (fun k_ => ((P0_ k_ ∨ P2_ k_) ∨ w.heap.size ≤ k_))) (okp := (fun k_ => ((P0_ k_ ∨ P2_ k_) ∨ w.heap.size ≤ k_))) ?hr ?hp (fun _ hk => hk) ((show ∀ k_, w.heap.size ≤ k_ → (fun k_ => ((P0_ k_ ∨ P2_ k_) ∨ w.heap.size ≤ k_)) k_ from fun k_ hk => (.inr (Nat.le_trans (below_size (by repeat (first | (with_reducible first | exact HB.out | apply below_alloc | apply pw_below_drewN | apply below_drew1) | exact HB.out))) hk))) _ (Nat.le_refl _)) (Below.refl _ _) (Nat.le_refl _) (by simp) ?_; (case hd => rfl); (case hg => rfl); (case hr => first | (go_simp; done) | (go_simp; rfl)); (case hp => exact (Reps.none _ _)); intro v141 w24 ho25 hb hg_ hnew_; clear hg_ hnew_; (first | rw [← Ny140.out] at ho25 | (simp only [Int.reduceToNat] at ho25; rw [← Ny140.out] at ho25)); have n0_ := Aside0.mk (Kd.V_elder' (by (with_reducible repeat (first | apply Kd.V_alloc | apply Kd.V_drewN | apply Kd.V_drew)); exact HO0.out) (Kd.N_base ho25) hb); have n1_ := Aside0.mk (Kd.V_elder' (by (with_reducible repeat (first | apply Kd.V_alloc | apply Kd.V_drewN | apply Kd.V_drew)); exact HO2.out) (Kd.N_base ho25) hb); have n2_ := Aside0.mk (Kd.N_lower ho25 (below_size (by repeat (first | (with_reducible first | exact HB.out | apply below_alloc | apply pw_below_drewN | apply below_drew1) | exact HB.out)))); have n3_ := Aside0.mk (below_step (by repeat (first | (with_reducible first | exact HB.out | apply below_alloc | apply pw_below_drewN | apply below_drew1) | exact HB.out)) hb); clear HO0; clear HO2; clear HB; have HO0 := n0_; have HO2 := n1_; have HO142 := n2_; have HB := n3_; clear n0_ n1_ n2_ n3_; clear hb ho25; have q26 : (t138 : Int) ≤ ((l0.length : Int) : Int) := of_decide_eq_true (by first | (with_reducible assumption) | assumption); obtain ⟨i026, hi026, _, hsz26, _⟩ := info_parts info101; have hroom26 : l0.length ≤ c0 := (Kd.V_reads' HO0.out).2.1; have hC26 : Kd.F k101 _ _ A0 l0.length l0 := (Kd.V_at (base := w.heap.size) HO0.out).2.2; have hcut26 := cut_to (P := Try.prog) 27 101 .i64 Try.underlying27 hi026 A0 l0.length c0 t138 (of_decide_eq_true (by first | (with_reducible assumption) | assumption)) q26 hroom26; have hr26 := Kd.F_take (m := (t138 : Int).toNat) hC26 (by omega); have hy26 : y143.length = (t138 : Int).toNat := (by rw [Ny143.out, List.length_take]; omega); rw [← Ny143.out] at hr26; rw [← hy26] at hcut26; have HO147 := Aside0.mk (show Kd.V k101 101 _ w.heap.size _ (.slice A0 y143.length c0) y143 from Kd.V_mk (by omega) hr26); have HC147 := Aside0.mk (show y143.length ≤ c0 from by omega); clear hr26 hC26 hroom26 hi026 hsz26; have KY26 := Aside0.mk hy26; clear hy26; replace q26 := eq_true q26) | ((with_reducible refine gate_builtin (b := .append) (xs := #[.tmp 16, .tmp 19]) rfl ?_); at_builtin; refine Kd.N_append_rows k101 (w0 := w) w.heap.size rfl (.tmp 16) (.tmp 19) 27 101 (.agg #[(.string ⟨#[]⟩), (.slice none 0 0)]) 40 rfl Try.underlying27 info101 rfl (by decide) (by omega) v141 y140 y143 _ _ _ (fun k_ => ((P0_ k_ ∨ P2_ k_) ∨ w.heap.size ≤ k_)) (fun k_ => ((fun k_ => ((P0_ k_ ∨ P2_ k_) ∨ w.heap.size ≤ k_))) k_ ∧ some k_ ≠ (v141 : Value).ownBlock) rfl rfl ?aO ?aR (fun _ hk => hk) ?aF ?aB ?aS ?aL ?_; (case aR => exact (by skip; exact Kd.V_F (Kd.V_mono (ok' := (fun k_ => ((fun k_ => ((P0_ k_ ∨ P2_ k_) ∨ w.heap.size ≤ k_))) k_ ∧ some k_ ≠ (v141 : Value).ownBlock)) (HO147.out) (fun k_ hk => ⟨hk.1, hk.2⟩)))); (case aB => exact (by repeat (first | (with_reducible first | exact HB.out | apply below_alloc | apply pw_below_drewN | apply below_drew1) | exact HB.out))); (case aF => exact (fun k_ hk => (.inr (Nat.le_trans (below_size (by repeat (first | (with_reducible first | exact HB.out | apply below_alloc | apply pw_below_drewN | apply below_drew1) | exact HB.out))) hk)))); (case aO => exact (by (with_reducible repeat (first | apply Kd.N_alloc | apply Kd.N_drewN | apply Kd.N_drew)); exact HO142.out)); (case aS => exact (below_size (by repeat (first | (with_reducible first | exact HB.out | apply below_alloc | apply pw_below_drewN | apply below_drew1) | exact HB.out)))); (case aL => have := LMc7.out; omega); intro v149 w27 ho hb hg hat; rw [← Ny148.out] at ho; have n0_ := Aside0.mk (Kd.V_afterv (ok := (fun k_ => ((P0_ k_ ∨ P2_ k_) ∨ w.heap.size ≤ k_))) (by (with_reducible repeat (first | apply Kd.V_alloc | apply Kd.V_drewN | apply Kd.V_drew)); exact HO0.out) hg hat); have n1_ := Aside0.mk (Kd.V_afterv (ok := (fun k_ => ((P0_ k_ ∨ P2_ k_) ∨ w.heap.size ≤ k_))) (by (with_reducible repeat (first | apply Kd.V_alloc | apply Kd.V_drewN | apply Kd.V_drew)); exact HO2.out) hg hat); have n2_ := Aside0.mk (Kd.V_afterv (ok := (fun k_ => ((P0_ k_ ∨ P2_ k_) ∨ w.heap.size ≤ k_))) (by (with_reducible repeat (first | apply Kd.V_alloc | apply Kd.V_drewN | apply Kd.V_drew)); exact HO147.out) hg hat); have n3_ := Aside0.mk (hb); have n4_ := Aside0.mk (ho); clear HO0; clear HO2; clear HO147; clear HB; clear HO142; have HO0 := n0_; have HO2 := n1_; have HO147 := n2_; have HB := n3_; have HO150 := n4_; clear n0_ n1_ n2_ n3_ n4_; clear ho hb hg hat) | ((with_reducible refine gate_builtin (b := .append) (xs := #[.tmp 21, .tmp 25]) rfl ?_); at_builtin; refine Kd.N_append k101 (w0 := w) w.heap.size rfl (.tmp 21) (.tmp 25) 27 101 (.agg #[(.string ⟨#[]⟩), (.slice none 0 0)]) 40 rfl Try.underlying27 info101 rfl (by decide) (by omega) v149 y148 (⟨a1, l2⟩ : S101) [.string a1, .slice A2 l2.length c2] (fun k_ => ((P0_ k_ ∨ P2_ k_) ∨ w.heap.size ≤ k_)) (fun k_ => ((fun k_ => ((P0_ k_ ∨ P2_ k_) ∨ w.heap.size ≤ k_))) k_ ∧ some k_ ≠ (v149 : Value).ownBlock) rfl rfl ?aP (fun _ hk => hk) ?aF ?aO ?aB ?aS ?aL ?_; (case aP => exact (k101_mkF _ _ (⟨a1, l2⟩ : S101) (Kd.V_reads' (Kd.V_mono (ok' := (fun k_ => ((fun k_ => ((P0_ k_ ∨ P2_ k_) ∨ w.heap.size ≤ k_))) k_ ∧ some k_ ≠ (v149 : Value).ownBlock)) (HO2.out) (fun k_ hk => ⟨hk.1, hk.2⟩))).2.1 (Kd.V_F (Kd.V_mono (ok' := (fun k_ => ((fun k_ => ((P0_ k_ ∨ P2_ k_) ∨ w.heap.size ≤ k_))) k_ ∧ some k_ ≠ (v149 : Value).ownBlock)) (HO2.out) (fun k_ hk => ⟨hk.1, hk.2⟩))))); (case aB => exact (by repeat (first | (with_reducible first | exact HB.out | apply below_alloc | apply pw_below_drewN | apply below_drew1) | exact HB.out))); (case aF => exact (fun k_ hk => (.inr (Nat.le_trans (below_size (by repeat (first | (with_reducible first | exact HB.out | apply below_alloc | apply pw_below_drewN | apply below_drew1) | exact HB.out))) hk)))); (case aO => exact (by (with_reducible repeat (first | apply Kd.N_alloc | apply Kd.N_drewN | apply Kd.N_drew)); exact HO150.out)); (case aS => exact (below_size (by repeat (first | (with_reducible first | exact HB.out | apply below_alloc | apply pw_below_drewN | apply below_drew1) | exact HB.out)))); (case aL => have := LMc8.out; omega); intro v152 w28 ho hb hg hat; rw [← Ny151.out] at ho; have n0_ := Aside0.mk (Kd.V_afterv (ok := (fun k_ => ((P0_ k_ ∨ P2_ k_) ∨ w.heap.size ≤ k_))) (by (with_reducible repeat (first | apply Kd.V_alloc | apply Kd.V_drewN | apply Kd.V_drew)); exact HO0.out) hg hat); have n1_ := Aside0.mk (Kd.V_afterv (ok := (fun k_ => ((P0_ k_ ∨ P2_ k_) ∨ w.heap.size ≤ k_))) (by (with_reducible repeat (first | apply Kd.V_alloc | apply Kd.V_drewN | apply Kd.V_drew)); exact HO2.out) hg hat); have n2_ := Aside0.mk (Kd.V_afterv (ok := (fun k_ => ((P0_ k_ ∨ P2_ k_) ∨ w.heap.size ≤ k_))) (by (with_reducible repeat (first | apply Kd.V_alloc | apply Kd.V_drewN | apply Kd.V_drew)); exact HO147.out) hg hat); have n3_ := Aside0.mk (hb); have n4_ := Aside0.mk (ho); clear HO0; clear HO2; clear HO147; clear HB; clear HO150; have HO0 := n0_; have HO2 := n1_; have HO147 := n2_; have HB := n3_; have HO153 := n4_; clear n0_ n1_ n2_ n3_ n4_; clear ho hb hg hat; have q29 : (t138 : Int) ≤ ((l0.length : Int) : Int) := of_decide_eq_true (by first | (with_reducible assumption) | assumption); obtain ⟨i029, hi029, _, hsz29, _⟩ := info_parts info101; have hroom29 : l0.length ≤ c0 := (Kd.V_reads' HO0.out).2.1; have hC29 : Kd.F k101 _ _ A0 l0.length l0 := (Kd.V_at (base := w.heap.size) HO0.out).2.2; have q029 : (0 : Int) ≤ (t138 : Int) := of_decide_eq_true (by first | (with_reducible assumption) | assumption); have hcut29 := cut_from (P := Try.prog) 27 101 .i64 Try.underlying27 hi029 2 hsz29 A0 l0.length c0 t138 q029 q29; have hr29 := Kd.F_cut (m := (t138 : Int).toNat) (c := c0) hC29 (by omega) hroom29; obtain ⟨A29, hA29⟩ : ∃ A1, A1 = (if c0 = (t138 : Int).toNat then A0 else (A0 : Option Addr).map (·.add ((t138 : Int).toNat * 2))) := ⟨_, rfl⟩; obtain ⟨c29, hc29⟩ : ∃ c1, c1 = c0 - (t138 : Int).toNat := ⟨_, rfl⟩; have hy29 : y162.length = l0.length - (t138 : Int).toNat := (by rw [Ny162.out, List.length_drop] <;> omega); rw [show (l0).drop (t138 : Int).toNat = y162 from Ny162.out.symm] at hr29; replace hr29 : Kd.F k101 _ _ A29 y162.length y162 := (by rw [hA29]; exact hr29); rw [← hy29, ← hA29, ← hc29] at hcut29; have HO166 := Aside0.mk (show Kd.V k101 101 _ w.heap.size _ (.slice A29 y162.length c29) y162 from Kd.V_mk (by rw [hy29, hc29]; exact Nat.sub_le_sub_right hroom29 _) hr29); have HC166 := Aside0.mk (show y162.length ≤ c29 from by rw [hy29, hc29]; exact Nat.sub_le_sub_right hroom29 _); clear hr29 hC29 hroom29 hi029 hsz29 hc29; have KY29 := Aside0.mk hy29; have KA29 := Aside0.mk hA29; clear hy29 hA29; replace q29 := eq_true q29) | ((with_reducible refine gate_builtin (b := .append) (xs := #[.tmp 30, .tmp 33]) rfl ?_); at_builtin; refine Kd.N_append_rows k101 (w0 := w) w.heap.size rfl (.tmp 30) (.tmp 33) 27 101 (.agg #[(.string ⟨#[]⟩), (.slice none 0 0)]) 40 rfl Try.underlying27 info101 rfl (by decide) (by omega) v152 y151 y162 _ _ _ (fun k_ => ((P0_ k_ ∨ P2_ k_) ∨ w.heap.size ≤ k_)) (fun k_ => ((fun k_ => ((P0_ k_ ∨ P2_ k_) ∨ w.heap.size ≤ k_))) k_ ∧ some k_ ≠ (v152 : Value).ownBlock) rfl rfl ?aO ?aR (fun _ hk => hk) ?aF ?aB ?aS ?aL ?_; (case aR => exact (by skip; exact Kd.V_F (Kd.V_mono (ok' := (fun k_ => ((fun k_ => ((P0_ k_ ∨ P2_ k_) ∨ w.heap.size ≤ k_))) k_ ∧ some k_ ≠ (v152 : Value).ownBlock)) (HO166.out) (fun k_ hk => ⟨hk.1, hk.2⟩)))); (case aB => exact (by repeat (first | (with_reducible first | exact HB.out | apply below_alloc | apply pw_below_drewN | apply below_drew1) | exact HB.out))); (case aF => exact (fun k_ hk => (.inr (Nat.le_trans (below_size (by repeat (first | (with_reducible first | exact HB.out | apply below_alloc | apply pw_below_drewN | apply below_drew1) | exact HB.out))) hk)))); (case aO => exact (by (with_reducible repeat (first | apply Kd.N_alloc | apply Kd.N_drewN | apply Kd.N_drew)); exact HO153.out)); (case aS => exact (below_size (by repeat (first | (with_reducible first | exact HB.out | apply below_alloc | apply pw_below_drewN | apply below_drew1) | exact HB.out)))); (case aL => have := LMc23.out; omega); intro v168 w30 ho hb hg hat; rw [← Ny167.out] at ho; have n0_ := Aside0.mk (Kd.V_afterv (ok := (fun k_ => ((P0_ k_ ∨ P2_ k_) ∨ w.heap.size ≤ k_))) (by (with_reducible repeat (first | apply Kd.V_alloc | apply Kd.V_drewN | apply Kd.V_drew)); exact HO0.out) hg hat); have n1_ := Aside0.mk (Kd.V_afterv (ok := (fun k_ => ((P0_ k_ ∨ P2_ k_) ∨ w.heap.size ≤ k_))) (by (with_reducible repeat (first | apply Kd.V_alloc | apply Kd.V_drewN | apply Kd.V_drew)); exact HO2.out) hg hat); have n2_ := Aside0.mk (Kd.V_afterv (ok := (fun k_ => ((P0_ k_ ∨ P2_ k_) ∨ w.heap.size ≤ k_))) (by (with_reducible repeat (first | apply Kd.V_alloc | apply Kd.V_drewN | apply Kd.V_drew)); exact HO147.out) hg hat); have n3_ := Aside0.mk (Kd.V_afterv (ok := (fun k_ => ((P0_ k_ ∨ P2_ k_) ∨ w.heap.size ≤ k_))) (by (with_reducible repeat (first | apply Kd.V_alloc | apply Kd.V_drewN | apply Kd.V_drew)); exact HO166.out) hg hat); have n4_ := Aside0.mk (hb); have n5_ := Aside0.mk (ho); clear HO0; clear HO2; clear HO147; clear HO166; clear HB; clear HO153; have HO0 := n0_; have HO2 := n1_; have HO147 := n2_; have HO166 := n3_; have HB := n4_; have HO169 := n5_; clear n0_ n1_ n2_ n3_ n4_ n5_; clear ho hb hg hat))
              go_ret
              exact ⟨_, by first | rfl | (simp [errW_none, errW_some] <;> rfl) | (simp [*, errW_none, errW_some] <;> rfl), by (with_reducible repeat (first | apply Kd.N_alloc | apply Kd.N_drewN | apply Kd.N_drew)); exact HO169.out, by repeat (first | (with_reducible first | exact HB.out | apply below_alloc | apply pw_below_drewN | apply below_drew1) | exact HB.out)⟩
            · rw [if_neg c23] at H
              exact absurd H (by simp)
        · rw [if_neg c8] at H
          exact absurd H (by simp)
      · rw [if_neg c7] at H
        exact absurd H (by simp)
    · rw [if_neg c6] at H
      exact absurd H (by simp)
  · rw [if_neg c5] at H
    exact absurd H (by simp)



end Go.Proofs.Ytfakdphkklclgaa.P

end

section
namespace Go.Proofs.Ytfakdphkklclgaa.P
open Go.RowKit Go.Proofs.YtfakdphkklclgaaW.PrintWords Go.Proofs.YtfakdphkklclgaaW.PrintLast Go.Proofs.YtfakdphkklclgaaW.PrintMore
attribute [local go_sem] max2_int min2_int max_two min_two max_three min_three max_four min_four   -- for this text's walks alone
set_option linter.unusedVariables false
set_option linter.unusedSimpArgs false

def slices_Equal_byte_byte.l0 : Nat → List Int → List Int → Int → Int → Option (Bool)
  | 0, _, _, _, _ => none
  | k + 1, x0, x1, x12, x13 => if x13 < x12 then (if 0 ≤ x13 then (if x13 < (x0.length : Int) then (if x13 < (x1.length : Int) then (if (rd x0 x13) = (rd x1 x13) then (slices_Equal_byte_byte.l0 k x0 x1 x12 (wrap64 (x13 + 1))) else (some false)) else (none)) else (none)) else (none)) else (some true)
def slices_Equal_byte_byte.f (k : Nat) (l0 : List Int) (l1 : List Int) : Option (Bool) := if (l0.length : Int) = (l1.length : Int) then (slices_Equal_byte_byte.l0 k l0 l1 (l0.length : Int) 0) else (some false)
set_option maxHeartbeats 8000000 in
set_option maxRecDepth 100000 in
theorem slices_Equal_byte_byte.calls (k : Nat) (A0 : Option Addr) (c0 : Nat) (l0 : List Int) (A1 : Option Addr) (c1 : Nat) (l1 : List Int) (r : Bool) (w : World) (hr0 : Kd.C (Kd.int .u8) w A0 l0.length l0) (hc0 : l0.length ≤ c0) (hr1 : Kd.C (Kd.int .u8) w A1 l1.length l1) (hc1 : l1.length ≤ c1) (h : slices_Equal_byte_byte.f k l0 l1 = some r) :
    Calls Try.prog 16 #[.slice A0 l0.length c0, .slice A1 l1.length c1] w fun e w' => e = .returned (.bool r) ∧ Drawn0 w w' := by
  have HR0 := Aside0.mk hr0
  have HC0 := Aside0.mk hc0
  clear hr0 hc0
  have HR1 := Aside0.mk hr1
  have HC1 := Aside0.mk hc1
  clear hr1 hc1
  have H : (if (l0.length : Int) = (l1.length : Int) then (slices_Equal_byte_byte.l0 k l0 l1 (l0.length : Int) 0) else (some false)) = some r := h
  clear h
  by_cases c3 : (l0.length : Int) = (l1.length : Int)
  · rw [if_pos c3] at H
    have c3b0 : ((l0.length : Int) == (l1.length : Int)) = true := beq_iff_eq.mpr c3
    have c3b1 : ((l0.length : Int) != (l1.length : Int)) = false := bne_eq_false_iff_eq.mpr c3
    have c3b2 : (l0.length == l1.length) = true := by first | simpa using c3 | (simp at c3 ⊢; omega)
    clear c3
    have H' := Aside0.mk H
    clear H
    go_enter Try.func16, Try.ntmps16
    go_wp2
    repeat (go_quiet (fail); try go_wp2)
    go_loopg [13] k (fun kq v13 w' => ∃ (x13_1 : Int), v13 = .int .i64 x13_1 ∧ Aside0 (slices_Equal_byte_byte.l0 kq l0 l1 (l0.length : Int) x13_1 = some r) ∧ Aside0 (kq ≤ k) ∧ Drawn0 w w')
    case atStart => exact ⟨(0), (by first | rfl | (simp; done) | (simp [*]; done)), H', ⟨Nat.le_refl _⟩, by repeat (first | exact Drawn0.refl _ | apply Drawn0.step)⟩
    case round =>
      clear H'
      try clear c1
      try clear p2
      try clear c3
      try clear c3b0
      try clear c3b1
      try clear c3b2
      obtain ⟨x13_1, rfl, HA, HK1, ⟨m1, rfl⟩⟩ := hrel
      cases gk with
      | zero => exact absurd HA.out (by simp [slices_Equal_byte_byte.l0])
      | succ k1 =>
        have H := HA.out
        clear HA
        simp only [slices_Equal_byte_byte.l0] at H
        by_cases c4 : x13_1 < (l0.length : Int)
        · rw [if_pos c4] at H
          have c4b0 : decide (x13_1 < (l0.length : Int)) = true := decide_eq_true c4
          clear c4
          by_cases c5 : 0 ≤ x13_1
          · rw [if_pos c5] at H
            have c5b0 : decide (0 ≤ x13_1) = true := decide_eq_true c5
            clear c5
            by_cases c6 : x13_1 < (l0.length : Int)
            · rw [if_pos c6] at H
              have c6b0 : decide (x13_1 < (l0.length : Int)) = true := decide_eq_true c6
              clear c6
              by_cases c7 : x13_1 < (l1.length : Int)
              · rw [if_pos c7] at H
                have c7b0 : decide (x13_1 < (l1.length : Int)) = true := decide_eq_true c7
                clear c7
                by_cases c8 : (rd l0 x13_1) = (rd l1 x13_1)
                · rw [if_pos c8] at H
                  have c8b0 : ((rd l0 x13_1) == (rd l1 x13_1)) = true := beq_iff_eq.mpr c8
                  have c8b1 : ((rd l0 x13_1) != (rd l1 x13_1)) = false := bne_eq_false_iff_eq.mpr c8
                  clear c8
                  have H' := Aside0.mk H
                  clear H
                  have p187 : 0 ≤ (x13_1 : Int) := of_decide_eq_true (by first | (with_reducible assumption) | assumption)
                  have q187 : x13_1 < (l0.length : Int) := of_decide_eq_true (by first | (with_reducible assumption) | assumption)
                  obtain ⟨ad187, e187, hx187_0⟩ := Kd.at_int HR0.out x13_1 p187 q187
                  cases e187
                  replace p187 := eq_true p187
                  replace q187 := eq_true q187
                  have p188 : 0 ≤ (x13_1 : Int) := of_decide_eq_true (by first | (with_reducible assumption) | assumption)
                  have q188 : x13_1 < (l1.length : Int) := of_decide_eq_true (by first | (with_reducible assumption) | assumption)
                  obtain ⟨ad188, e188, hx188_0⟩ := Kd.at_int HR1.out x13_1 p188 q188
                  cases e188
                  replace p188 := eq_true p188
                  replace q188 := eq_true q188
                  go_wp2
                  repeat (go_quiet (fail); try go_wp2)
                  go_roundg k1
                  case measure => have := HK1.out; omega
                  case rel => exact ⟨(wrap64 (x13_1 + 1)), (by first | rfl | (simp; done) | (simp [*]; done)), H', ⟨by have := HK1.out; omega⟩, by repeat (first | exact Drawn0.refl _ | apply Drawn0.step)⟩
                · rw [if_neg c8] at H
                  have c8b0 : ((rd l0 x13_1) == (rd l1 x13_1)) = false := beq_eq_false_iff_ne.mpr c8
                  have c8b1 : ((rd l0 x13_1) != (rd l1 x13_1)) = true := bne_iff_ne.mpr c8
                  obtain rfl := Option.some.inj H
                  have p187 : 0 ≤ (x13_1 : Int) := of_decide_eq_true (by first | (with_reducible assumption) | assumption)
                  have q187 : x13_1 < (l0.length : Int) := of_decide_eq_true (by first | (with_reducible assumption) | assumption)
                  obtain ⟨ad187, e187, hx187_0⟩ := Kd.at_int HR0.out x13_1 p187 q187
                  cases e187
                  replace p187 := eq_true p187
                  replace q187 := eq_true q187
                  have p188 : 0 ≤ (x13_1 : Int) := of_decide_eq_true (by first | (with_reducible assumption) | assumption)
                  have q188 : x13_1 < (l1.length : Int) := of_decide_eq_true (by first | (with_reducible assumption) | assumption)
                  obtain ⟨ad188, e188, hx188_0⟩ := Kd.at_int HR1.out x13_1 p188 q188
                  cases e188
                  replace p188 := eq_true p188
                  replace q188 := eq_true q188
                  go_wp2
                  repeat (go_quiet (fail); try go_wp2)
                  go_ret
                  exact ⟨by first | rfl | (simp; done) | (simp [*]; done), by repeat (first | exact Drawn0.refl _ | apply Drawn0.step)⟩
              · rw [if_neg c7] at H
                exact absurd H (by simp)
            · rw [if_neg c6] at H
              exact absurd H (by simp)
          · rw [if_neg c5] at H
            exact absurd H (by simp)
        · rw [if_neg c4] at H
          have c4b0 : decide (x13_1 < (l0.length : Int)) = false := decide_eq_false c4
          clear c4
          obtain rfl := Option.some.inj H
          go_wp2
          repeat (go_quiet (fail); try go_wp2)
          go_ret
          exact ⟨by first | rfl | (simp; done) | (simp [*]; done), by repeat (first | exact Drawn0.refl _ | apply Drawn0.step)⟩
  · rw [if_neg c3] at H
    have c3b0 : ((l0.length : Int) == (l1.length : Int)) = false := beq_eq_false_iff_ne.mpr c3
    have c3b1 : ((l0.length : Int) != (l1.length : Int)) = true := bne_iff_ne.mpr c3
    have c3b2 : (l0.length == l1.length) = false := by first | simpa using c3 | (simp at c3 ⊢; omega)
    obtain rfl := Option.some.inj H
    go_enter Try.func16, Try.ntmps16
    go_wp2
    repeat (go_quiet (fail); try go_wp2)
    go_ret
    exact ⟨by first | rfl | (simp; done) | (simp [*]; done), by repeat (first | exact Drawn0.refl _ | apply Drawn0.step)⟩

def provisoplain_SameWrites.l0 : Nat → List (S52) → List (S52) → Int → Int → Option (Bool)
  | 0, _, _, _, _ => none
  | k + 1, x0, x1, x12, x13 => if x13 < x12 then (if 0 ≤ x13 then (if x13 < (x0.length : Int) then (if x13 < (x1.length : Int) then (if ((rd_T52 x0 x13).f0) = ((rd_T52 x1 x13).f0) then ((slices_Equal_byte_byte.f k ((rd_T52 x0 x13).f1) ((rd_T52 x1 x13).f1)).bind fun t193 => (if t193 = true then (provisoplain_SameWrites.l0 k x0 x1 x12 (wrap64 (x13 + 1))) else (some false))) else (some false)) else (none)) else (none)) else (none)) else (some true)
def provisoplain_SameWrites.f (k : Nat) (l0 : List (S52)) (l1 : List (S52)) : Option (Bool) := if (l0.length : Int) = (l1.length : Int) then (provisoplain_SameWrites.l0 k l0 l1 (l0.length : Int) 0) else (some false)
set_option maxHeartbeats 8000000 in
set_option maxRecDepth 100000 in
theorem provisoplain_SameWrites.calls (k : Nat) (A0 : Option Addr) (c0 : Nat) (l0 : List (S52)) (A1 : Option Addr) (c1 : Nat) (l1 : List (S52)) (r : Bool) (w : World) (hr0 : Kd.C k52 w A0 l0.length l0) (hc0 : l0.length ≤ c0) (hr1 : Kd.C k52 w A1 l1.length l1) (hc1 : l1.length ≤ c1) (h : provisoplain_SameWrites.f k l0 l1 = some r) :
    Calls Try.prog 17 #[.slice A0 l0.length c0, .slice A1 l1.length c1] w fun e w' => e = .returned (.bool r) ∧ Drawn0 w w' := by
  have HR0 := Aside0.mk hr0
  have HC0 := Aside0.mk hc0
  clear hr0 hc0
  have HR1 := Aside0.mk hr1
  have HC1 := Aside0.mk hc1
  clear hr1 hc1
  have H : (if (l0.length : Int) = (l1.length : Int) then (provisoplain_SameWrites.l0 k l0 l1 (l0.length : Int) 0) else (some false)) = some r := h
  clear h
  by_cases c3 : (l0.length : Int) = (l1.length : Int)
  · rw [if_pos c3] at H
    have c3b0 : ((l0.length : Int) == (l1.length : Int)) = true := beq_iff_eq.mpr c3
    have c3b1 : ((l0.length : Int) != (l1.length : Int)) = false := bne_eq_false_iff_eq.mpr c3
    have c3b2 : (l0.length == l1.length) = true := by first | simpa using c3 | (simp at c3 ⊢; omega)
    clear c3
    have H' := Aside0.mk H
    clear H
    go_enter Try.func17, Try.ntmps17
    go_wp2
    repeat (go_quiet (fail); try go_wp2)
    go_loopg [13] k (fun kq v13 w' => ∃ (x13_1 : Int), v13 = .int .i64 x13_1 ∧ Aside0 (provisoplain_SameWrites.l0 kq l0 l1 (l0.length : Int) x13_1 = some r) ∧ Aside0 (kq ≤ k) ∧ Drawn0 w w')
    case atStart => exact ⟨(0), (by first | rfl | (simp; done) | (simp [*]; done)), H', ⟨Nat.le_refl _⟩, by repeat (first | exact Drawn0.refl _ | apply Drawn0.step)⟩
    case round =>
      clear H'
      try clear c1
      try clear p2
      try clear c3
      try clear c3b0
      try clear c3b1
      try clear c3b2
      obtain ⟨x13_1, rfl, HA, HK1, ⟨m1, rfl⟩⟩ := hrel
      cases gk with
      | zero => exact absurd HA.out (by simp [provisoplain_SameWrites.l0])
      | succ k1 =>
        have H := HA.out
        clear HA
        simp only [provisoplain_SameWrites.l0] at H
        by_cases c4 : x13_1 < (l0.length : Int)
        · rw [if_pos c4] at H
          have c4b0 : decide (x13_1 < (l0.length : Int)) = true := decide_eq_true c4
          clear c4
          by_cases c5 : 0 ≤ x13_1
          · rw [if_pos c5] at H
            have c5b0 : decide (0 ≤ x13_1) = true := decide_eq_true c5
            clear c5
            by_cases c6 : x13_1 < (l0.length : Int)
            · rw [if_pos c6] at H
              have c6b0 : decide (x13_1 < (l0.length : Int)) = true := decide_eq_true c6
              clear c6
              by_cases c7 : x13_1 < (l1.length : Int)
              · rw [if_pos c7] at H
                have c7b0 : decide (x13_1 < (l1.length : Int)) = true := decide_eq_true c7
                clear c7
                by_cases c8 : ((rd_T52 l0 x13_1).f0) = ((rd_T52 l1 x13_1).f0)
                · rw [if_pos c8] at H
                  have c8b0 : (((rd_T52 l0 x13_1).f0) == ((rd_T52 l1 x13_1).f0)) = true := beq_iff_eq.mpr c8
                  have c8b1 : (((rd_T52 l0 x13_1).f0) != ((rd_T52 l1 x13_1).f0)) = false := bne_eq_false_iff_eq.mpr c8
                  clear c8
                  replace H := Option.bind_eq_some_iff.mp H
                  obtain ⟨t193, A90, H⟩ := H
                  replace H : (if t193 = true then (provisoplain_SameWrites.l0 k1 l0 l1 (l0.length : Int) (wrap64 (x13_1 + 1))) else (some false)) = some r := H
                  have A9 := Aside0.mk A90
                  clear A90
                  by_cases c10 : t193 = true
                  · subst c10
                    have H1 : (provisoplain_SameWrites.l0 k1 l0 l1 (l0.length : Int) (wrap64 (x13_1 + 1))) = some r := by rw [if_pos rfl] at H; exact H
                    clear H
                    have H := H1
                    clear H1
                    have H' := Aside0.mk H
                    clear H
                    have p189 : 0 ≤ (x13_1 : Int) := of_decide_eq_true (by first | (with_reducible assumption) | assumption)
                    have q189 : x13_1 < (l0.length : Int) := of_decide_eq_true (by first | (with_reducible assumption) | assumption)
                    obtain ⟨ad189, A189_1, c189_1, e189, hx189_0, hx189_1, hl189_1, hi189_1⟩ := at_T52 HR0.out x13_1 p189 q189
                    cases e189
                    have HR189_1 := Aside0.mk hi189_1
                    have HC189_1 := Aside0.mk hl189_1
                    clear hi189_1 hl189_1
                    replace p189 := eq_true p189
                    replace q189 := eq_true q189
                    have p190 : 0 ≤ (x13_1 : Int) := of_decide_eq_true (by first | (with_reducible assumption) | assumption)
                    have q190 : x13_1 < (l1.length : Int) := of_decide_eq_true (by first | (with_reducible assumption) | assumption)
                    obtain ⟨ad190, A190_1, c190_1, e190, hx190_0, hx190_1, hl190_1, hi190_1⟩ := at_T52 HR1.out x13_1 p190 q190
                    cases e190
                    have HR190_1 := Aside0.mk hi190_1
                    have HC190_1 := Aside0.mk hl190_1
                    clear hi190_1 hl190_1
                    replace p190 := eq_true p190
                    replace q190 := eq_true q190
                    have p191 : 0 ≤ (x13_1 : Int) := of_decide_eq_true (by first | (with_reducible assumption) | assumption)
                    have q191 : x13_1 < (l0.length : Int) := of_decide_eq_true (by first | (with_reducible assumption) | assumption)
                    obtain ⟨ad191, A191_1, c191_1, e191, hx191_0, hx191_1, hl191_1, hi191_1⟩ := at_T52 HR0.out x13_1 p191 q191
                    obtain rfl : ad189 = ad191 := (by injection e191)
                    have HR191_1 := Aside0.mk hi191_1
                    have HC191_1 := Aside0.mk hl191_1
                    clear hi191_1 hl191_1
                    replace p191 := eq_true p191
                    replace q191 := eq_true q191
                    have ea_ := Option.some.inj (hx189_1.symm.trans hx191_1)
                    injection ea_ with ea_ en_ ec_
                    subst ea_
                    subst ec_
                    clear en_
                    have p192 : 0 ≤ (x13_1 : Int) := of_decide_eq_true (by first | (with_reducible assumption) | assumption)
                    have q192 : x13_1 < (l1.length : Int) := of_decide_eq_true (by first | (with_reducible assumption) | assumption)
                    obtain ⟨ad192, A192_1, c192_1, e192, hx192_0, hx192_1, hl192_1, hi192_1⟩ := at_T52 HR1.out x13_1 p192 q192
                    obtain rfl : ad190 = ad192 := (by injection e192)
                    have HR192_1 := Aside0.mk hi192_1
                    have HC192_1 := Aside0.mk hl192_1
                    clear hi192_1 hl192_1
                    replace p192 := eq_true p192
                    replace q192 := eq_true q192
                    have ea_ := Option.some.inj (hx190_1.symm.trans hx192_1)
                    injection ea_ with ea_ en_ ec_
                    subst ea_
                    subst ec_
                    clear en_
                    go_wp2_with (first | (go_at_call 16; (with_reducible refine (slices_Equal_byte_byte.calls k1 _ _ ((rd_T52 l0 x13_1).f1) _ _ ((rd_T52 l1 x13_1).f1) true _ ?side1 ?side2 ?side3 ?side4 A9.out).mono ?_); (case side1 => repeat (first | exact HR191_1.out | (with_reducible refine Kd.C_alloc ?_ _) | (with_reducible refine Kd.C_drewN ?_ _) | (with_reducible refine Kd.C_drew ?_))); (case side2 => exact HC191_1.out); (case side3 => repeat (first | exact HR192_1.out | (with_reducible refine Kd.C_alloc ?_ _) | (with_reducible refine Kd.C_drewN ?_ _) | (with_reducible refine Kd.C_drew ?_))); (case side4 => exact HC192_1.out); rintro e w' ⟨rfl, ⟨nd, rfl⟩⟩; (try first | exact ⟨rfl, _, World.drewN_drewN _ _ _⟩ | exact ⟨rfl, _, Eq.trans (World.drewN_drewN _ _ _) (congrArg (World.drewN _) (Nat.add_assoc _ _ _))⟩)))
                    repeat (go_quiet (first | (go_at_call 16; (with_reducible refine (slices_Equal_byte_byte.calls k1 _ _ ((rd_T52 l0 x13_1).f1) _ _ ((rd_T52 l1 x13_1).f1) true _ ?side1 ?side2 ?side3 ?side4 A9.out).mono ?_); (case side1 => repeat (first | exact HR191_1.out | (with_reducible refine Kd.C_alloc ?_ _) | (with_reducible refine Kd.C_drewN ?_ _) | (with_reducible refine Kd.C_drew ?_))); (case side2 => exact HC191_1.out); (case side3 => repeat (first | exact HR192_1.out | (with_reducible refine Kd.C_alloc ?_ _) | (with_reducible refine Kd.C_drewN ?_ _) | (with_reducible refine Kd.C_drew ?_))); (case side4 => exact HC192_1.out); rintro e w' ⟨rfl, ⟨nd, rfl⟩⟩; (try first | exact ⟨rfl, _, World.drewN_drewN _ _ _⟩ | exact ⟨rfl, _, Eq.trans (World.drewN_drewN _ _ _) (congrArg (World.drewN _) (Nat.add_assoc _ _ _))⟩))); try go_wp2_with (first | (go_at_call 16; (with_reducible refine (slices_Equal_byte_byte.calls k1 _ _ ((rd_T52 l0 x13_1).f1) _ _ ((rd_T52 l1 x13_1).f1) true _ ?side1 ?side2 ?side3 ?side4 A9.out).mono ?_); (case side1 => repeat (first | exact HR191_1.out | (with_reducible refine Kd.C_alloc ?_ _) | (with_reducible refine Kd.C_drewN ?_ _) | (with_reducible refine Kd.C_drew ?_))); (case side2 => exact HC191_1.out); (case side3 => repeat (first | exact HR192_1.out | (with_reducible refine Kd.C_alloc ?_ _) | (with_reducible refine Kd.C_drewN ?_ _) | (with_reducible refine Kd.C_drew ?_))); (case side4 => exact HC192_1.out); rintro e w' ⟨rfl, ⟨nd, rfl⟩⟩; (try first | exact ⟨rfl, _, World.drewN_drewN _ _ _⟩ | exact ⟨rfl, _, Eq.trans (World.drewN_drewN _ _ _) (congrArg (World.drewN _) (Nat.add_assoc _ _ _))⟩))))
                    go_roundg k1
                    case measure => have := HK1.out; omega
                    case rel => exact ⟨(wrap64 (x13_1 + 1)), (by first | rfl | (simp; done) | (simp [*]; done)), H', ⟨by have := HK1.out; omega⟩, by repeat (first | exact Drawn0.refl _ | apply Drawn0.step)⟩
                  · replace c10 := Bool.eq_false_iff.mpr c10
                    subst c10
                    have H1 : (some false) = some r := by rw [if_neg (show ¬ (false = true) by decide)] at H; exact H
                    clear H
                    have H := H1
                    clear H1
                    obtain rfl := Option.some.inj H
                    have p189 : 0 ≤ (x13_1 : Int) := of_decide_eq_true (by first | (with_reducible assumption) | assumption)
                    have q189 : x13_1 < (l0.length : Int) := of_decide_eq_true (by first | (with_reducible assumption) | assumption)
                    obtain ⟨ad189, A189_1, c189_1, e189, hx189_0, hx189_1, hl189_1, hi189_1⟩ := at_T52 HR0.out x13_1 p189 q189
                    cases e189
                    have HR189_1 := Aside0.mk hi189_1
                    have HC189_1 := Aside0.mk hl189_1
                    clear hi189_1 hl189_1
                    replace p189 := eq_true p189
                    replace q189 := eq_true q189
                    have p190 : 0 ≤ (x13_1 : Int) := of_decide_eq_true (by first | (with_reducible assumption) | assumption)
                    have q190 : x13_1 < (l1.length : Int) := of_decide_eq_true (by first | (with_reducible assumption) | assumption)
                    obtain ⟨ad190, A190_1, c190_1, e190, hx190_0, hx190_1, hl190_1, hi190_1⟩ := at_T52 HR1.out x13_1 p190 q190
                    cases e190
                    have HR190_1 := Aside0.mk hi190_1
                    have HC190_1 := Aside0.mk hl190_1
                    clear hi190_1 hl190_1
                    replace p190 := eq_true p190
                    replace q190 := eq_true q190
                    have p191 : 0 ≤ (x13_1 : Int) := of_decide_eq_true (by first | (with_reducible assumption) | assumption)
                    have q191 : x13_1 < (l0.length : Int) := of_decide_eq_true (by first | (with_reducible assumption) | assumption)
                    obtain ⟨ad191, A191_1, c191_1, e191, hx191_0, hx191_1, hl191_1, hi191_1⟩ := at_T52 HR0.out x13_1 p191 q191
                    obtain rfl : ad189 = ad191 := (by injection e191)
                    have HR191_1 := Aside0.mk hi191_1
                    have HC191_1 := Aside0.mk hl191_1
                    clear hi191_1 hl191_1
                    replace p191 := eq_true p191
                    replace q191 := eq_true q191
                    have ea_ := Option.some.inj (hx189_1.symm.trans hx191_1)
                    injection ea_ with ea_ en_ ec_
                    subst ea_
                    subst ec_
                    clear en_
                    have p192 : 0 ≤ (x13_1 : Int) := of_decide_eq_true (by first | (with_reducible assumption) | assumption)
                    have q192 : x13_1 < (l1.length : Int) := of_decide_eq_true (by first | (with_reducible assumption) | assumption)
                    obtain ⟨ad192, A192_1, c192_1, e192, hx192_0, hx192_1, hl192_1, hi192_1⟩ := at_T52 HR1.out x13_1 p192 q192
                    obtain rfl : ad190 = ad192 := (by injection e192)
                    have HR192_1 := Aside0.mk hi192_1
                    have HC192_1 := Aside0.mk hl192_1
                    clear hi192_1 hl192_1
                    replace p192 := eq_true p192
                    replace q192 := eq_true q192
                    have ea_ := Option.some.inj (hx190_1.symm.trans hx192_1)
                    injection ea_ with ea_ en_ ec_
                    subst ea_
                    subst ec_
                    clear en_
                    go_wp2_with (first | (go_at_call 16; (with_reducible refine (slices_Equal_byte_byte.calls k1 _ _ ((rd_T52 l0 x13_1).f1) _ _ ((rd_T52 l1 x13_1).f1) false _ ?side1 ?side2 ?side3 ?side4 A9.out).mono ?_); (case side1 => repeat (first | exact HR191_1.out | (with_reducible refine Kd.C_alloc ?_ _) | (with_reducible refine Kd.C_drewN ?_ _) | (with_reducible refine Kd.C_drew ?_))); (case side2 => exact HC191_1.out); (case side3 => repeat (first | exact HR192_1.out | (with_reducible refine Kd.C_alloc ?_ _) | (with_reducible refine Kd.C_drewN ?_ _) | (with_reducible refine Kd.C_drew ?_))); (case side4 => exact HC192_1.out); rintro e w' ⟨rfl, ⟨nd, rfl⟩⟩; (try first | exact ⟨rfl, _, World.drewN_drewN _ _ _⟩ | exact ⟨rfl, _, Eq.trans (World.drewN_drewN _ _ _) (congrArg (World.drewN _) (Nat.add_assoc _ _ _))⟩)))
                    repeat (go_quiet (first | (go_at_call 16; (with_reducible refine (slices_Equal_byte_byte.calls k1 _ _ ((rd_T52 l0 x13_1).f1) _ _ ((rd_T52 l1 x13_1).f1) false _ ?side1 ?side2 ?side3 ?side4 A9.out).mono ?_); (case side1 => repeat (first | exact HR191_1.out | (with_reducible refine Kd.C_alloc ?_ _) | (with_reducible refine Kd.C_drewN ?_ _) | (with_reducible refine Kd.C_drew ?_))); (case side2 => exact HC191_1.out); (case side3 => repeat (first | exact HR192_1.out | (with_reducible refine Kd.C_alloc ?_ _) | (with_reducible refine Kd.C_drewN ?_ _) | (with_reducible refine Kd.C_drew ?_))); (case side4 => exact HC192_1.out); rintro e w' ⟨rfl, ⟨nd, rfl⟩⟩; (try first | exact ⟨rfl, _, World.drewN_drewN _ _ _⟩ | exact ⟨rfl, _, Eq.trans (World.drewN_drewN _ _ _) (congrArg (World.drewN _) (Nat.add_assoc _ _ _))⟩))); try go_wp2_with (first | (go_at_call 16; (with_reducible refine (slices_Equal_byte_byte.calls k1 _ _ ((rd_T52 l0 x13_1).f1) _ _ ((rd_T52 l1 x13_1).f1) false _ ?side1 ?side2 ?side3 ?side4 A9.out).mono ?_); (case side1 => repeat (first | exact HR191_1.out | (with_reducible refine Kd.C_alloc ?_ _) | (with_reducible refine Kd.C_drewN ?_ _) | (with_reducible refine Kd.C_drew ?_))); (case side2 => exact HC191_1.out); (case side3 => repeat (first | exact HR192_1.out | (with_reducible refine Kd.C_alloc ?_ _) | (with_reducible refine Kd.C_drewN ?_ _) | (with_reducible refine Kd.C_drew ?_))); (case side4 => exact HC192_1.out); rintro e w' ⟨rfl, ⟨nd, rfl⟩⟩; (try first | exact ⟨rfl, _, World.drewN_drewN _ _ _⟩ | exact ⟨rfl, _, Eq.trans (World.drewN_drewN _ _ _) (congrArg (World.drewN _) (Nat.add_assoc _ _ _))⟩))))
                    go_ret
                    exact ⟨by first | rfl | (simp; done) | (simp [*]; done), by repeat (first | exact Drawn0.refl _ | apply Drawn0.step)⟩
                · rw [if_neg c8] at H
                  have c8b0 : (((rd_T52 l0 x13_1).f0) == ((rd_T52 l1 x13_1).f0)) = false := beq_eq_false_iff_ne.mpr c8
                  have c8b1 : (((rd_T52 l0 x13_1).f0) != ((rd_T52 l1 x13_1).f0)) = true := bne_iff_ne.mpr c8
                  obtain rfl := Option.some.inj H
                  have p189 : 0 ≤ (x13_1 : Int) := of_decide_eq_true (by first | (with_reducible assumption) | assumption)
                  have q189 : x13_1 < (l0.length : Int) := of_decide_eq_true (by first | (with_reducible assumption) | assumption)
                  obtain ⟨ad189, A189_1, c189_1, e189, hx189_0, hx189_1, hl189_1, hi189_1⟩ := at_T52 HR0.out x13_1 p189 q189
                  cases e189
                  have HR189_1 := Aside0.mk hi189_1
                  have HC189_1 := Aside0.mk hl189_1
                  clear hi189_1 hl189_1
                  replace p189 := eq_true p189
                  replace q189 := eq_true q189
                  have p190 : 0 ≤ (x13_1 : Int) := of_decide_eq_true (by first | (with_reducible assumption) | assumption)
                  have q190 : x13_1 < (l1.length : Int) := of_decide_eq_true (by first | (with_reducible assumption) | assumption)
                  obtain ⟨ad190, A190_1, c190_1, e190, hx190_0, hx190_1, hl190_1, hi190_1⟩ := at_T52 HR1.out x13_1 p190 q190
                  cases e190
                  have HR190_1 := Aside0.mk hi190_1
                  have HC190_1 := Aside0.mk hl190_1
                  clear hi190_1 hl190_1
                  replace p190 := eq_true p190
                  replace q190 := eq_true q190
                  go_wp2
                  repeat (go_quiet (fail); try go_wp2)
                  go_ret
                  exact ⟨by first | rfl | (simp; done) | (simp [*]; done), by repeat (first | exact Drawn0.refl _ | apply Drawn0.step)⟩
              · rw [if_neg c7] at H
                exact absurd H (by simp)
            · rw [if_neg c6] at H
              exact absurd H (by simp)
          · rw [if_neg c5] at H
            exact absurd H (by simp)
        · rw [if_neg c4] at H
          have c4b0 : decide (x13_1 < (l0.length : Int)) = false := decide_eq_false c4
          clear c4
          obtain rfl := Option.some.inj H
          go_wp2
          repeat (go_quiet (fail); try go_wp2)
          go_ret
          exact ⟨by first | rfl | (simp; done) | (simp [*]; done), by repeat (first | exact Drawn0.refl _ | apply Drawn0.step)⟩
  · rw [if_neg c3] at H
    have c3b0 : ((l0.length : Int) == (l1.length : Int)) = false := beq_eq_false_iff_ne.mpr c3
    have c3b1 : ((l0.length : Int) != (l1.length : Int)) = true := bne_iff_ne.mpr c3
    have c3b2 : (l0.length == l1.length) = false := by first | simpa using c3 | (simp at c3 ⊢; omega)
    obtain rfl := Option.some.inj H
    go_enter Try.func17, Try.ntmps17
    go_wp2
    repeat (go_quiet (fail); try go_wp2)
    go_ret
    exact ⟨by first | rfl | (simp; done) | (simp [*]; done), by repeat (first | exact Drawn0.refl _ | apply Drawn0.step)⟩



def slices_Clone_byte_byte.f (l0 : List Int) : Option (List Int) := if l0.length < 140737488355328 then some l0 else none
set_option maxHeartbeats 800000 in
set_option maxRecDepth 100000 in
theorem slices_Clone_byte_byte.calls (A0 : Option Addr) (c0 : Nat) (l0 : List Int) (r : List Int) (w : World) (hr0 : Kd.C (Kd.int .u8) w A0 l0.length l0) (hc0 : l0.length ≤ c0) (h : slices_Clone_byte_byte.f l0 = some r) :
    Calls Try.prog 12 #[.slice A0 l0.length c0] w fun e w' => ∃ v0_ : Value, e = .returned v0_ ∧ Kd.R (Kd.int .u8) 5 w' w.heap.size (fun _ => True) v0_ r ∧ Below w.heap.size w w' := by
  obtain ⟨hlim, rfl⟩ : l0.length < 140737488355328 ∧ r = l0 := by
    unfold slices_Clone_byte_byte.f at h
    split at h
    · rename_i h9
      exact ⟨h9, (Option.some.inj h).symm⟩
    · cases h
  have hnil := Lib.run_eql_slice_nil (P := Try.prog) (h := Try.underlying23)
  have HR := Aside0.mk hr0
  have HL := Aside0.mk hlim
  cases A0 with
  | none =>
    have e0 : r = [] := by
      rcases Nat.eq_zero_or_pos r.length with h0 | h0
      · exact List.length_eq_zero_iff.1 h0
      · obtain ⟨ad, e, _⟩ := hr0.2.2 h0
        cases e
    have E0 := Aside0.mk e0
    clear h hr0 hlim e0
    go_enter Try.func12, Try.ntmps12
    go_wp2
    go_ret
    refine ⟨_, rfl, ?_, Below.refl _ _⟩
    rw [E0.out]
    exact Kd.R_nil _ _ _ _ _
  | some ad =>
    clear h hr0 hlim
    go_enter Try.func12, Try.ntmps12
    go_wp2_with (first | ((with_reducible refine gate_dst (N := 5) rfl ?_); refine Kd.R_lit (Kd.int .u8) _ 5 ?hg (N := 5) ?hd (xs := ([] : List Int)) (inner := []) (ok := fun _ => True) (okp := fun _ => True) ?hr ?hp (fun _ hk => hk) trivial (Below.refl _ _) (Nat.le_refl _) (by simp) ?_; (case hd => rfl); (case hg => rfl); (case hr => first | (go_simp; done) | (go_simp; rfl)); (case hp => exact (Reps.none _ _)); intro v1 w1 ho1 hb1 _ _; have n1 := Aside0.mk ho1; have n2 := Aside0.mk hb1; clear ho1 hb1; obtain ⟨A1, c1, e1⟩ := Kd.R_slice n1.out; subst e1) | ((with_reducible refine gate_builtin (b := .append) (xs := #[.tmp 5, .tmp 6]) rfl ?_); at_builtin; refine Kd.R_append_rows (Kd.int .u8) (w0 := w) w.heap.size rfl (.tmp 5) (.tmp 6) 23 5 (.int .u8 0) 1 rfl Try.underlying23 info5 rfl (by decide) (by omega) (.slice A1 (([] : List Int)).length c1) ([] : List Int) r _ _ _ (fun _ => True) (fun _ => False) rfl rfl ?aO ?aR (fun _ _ h => h) (fun _ h => h.elim) ?aF ?aB ?aS ?aL ?_; (case aR => exact Kd.C_below HR.out n2.out); (case aB => exact n2.out); (case aF => exact (fun _ _ => trivial)); (case aO => exact n1.out); (case aS => exact n2.out.size); (case aL => have h9 := HL.out; simp only [List.length_nil]; omega); intro v2 w2 ho2 hb2 _ _; have n3 := Aside0.mk ho2; have n4 := Aside0.mk hb2; clear ho2 hb2))
    go_ret
    exact ⟨_, rfl, n3.out, n4.out⟩

def provisoplain_Untouched.f (k : Nat) (l0 : List Int) (l1 : List Int) : Option (Bool) := if 0 ≤ (l1.length : Int) then (if (l1.length : Int) ≤ (l0.length : Int) then ((slices_Equal_byte_byte.f k (l0.take ((l1.length : Int) : Int).toNat) l1).bind fun t195 => (if t195 = true then (if (l1.length : Int) < (l0.length : Int) then (if (rd l0 (l1.length : Int)) = 165 then (if 0 ≤ (wrap64 ((l1.length : Int) + 1)) then (if (wrap64 ((l1.length : Int) + 1)) < (l0.length : Int) then (if (rd l0 (wrap64 ((l1.length : Int) + 1))) = 90 then (if 0 ≤ (wrap64 ((l1.length : Int) + 2)) then (if (wrap64 ((l1.length : Int) + 2)) < (l0.length : Int) then (if (rd l0 (wrap64 ((l1.length : Int) + 2))) = 195 then (if 0 ≤ (wrap64 ((l1.length : Int) + 3)) then (if (wrap64 ((l1.length : Int) + 3)) < (l0.length : Int) then (some ((rd l0 (wrap64 ((l1.length : Int) + 3))) == 60)) else (none)) else (none)) else (some false)) else (none)) else (none)) else (some false)) else (none)) else (none)) else (some false)) else (none)) else (some false))) else (none)) else (none)
theorem bytes_equal_self (xs : List Int) (hl : xs.length ≤ 9223372036854775807) : ∀ (d i k : Nat), i + d = xs.length → d < k → slices_Equal_byte_byte.l0 k xs xs (xs.length : Int) (i : Int) = some true
  | 0, i, k, hd, hk => by
    obtain ⟨k, rfl⟩ : ∃ m, k = m + 1 := ⟨k - 1, by omega⟩
    simp only [slices_Equal_byte_byte.l0]
    rw [if_neg (by omega)]
  | d + 1, i, k, hd, hk => by
    obtain ⟨k, rfl⟩ : ∃ m, k = m + 1 := ⟨k - 1, by omega⟩
    have hw : wrap64 ((i : Int) + 1) = ((i + 1 : Nat) : Int) := by unfold wrap64; omega
    have ih := bytes_equal_self xs hl d (i + 1) k (by omega) (by omega)
    simp only [slices_Equal_byte_byte.l0]
    rw [if_pos (by omega), if_pos (by omega), if_pos (by omega), if_pos (by omega), if_pos trivial, hw]
    exact ih
theorem bytes_equal_is (xs : List Int) (hl : xs.length ≤ 9223372036854775807) (k : Nat) (hk : xs.length < k) : slices_Equal_byte_byte.f k xs xs = some true := by
  unfold slices_Equal_byte_byte.f
  rw [if_pos rfl]
  exact bytes_equal_self xs hl xs.length 0 k (by omega) hk
theorem untouched_is (xs : List Int) (hl : xs.length ≤ 140737488351232) (k : Nat) (hk : xs.length < k) : provisoplain_Untouched.f k (xs ++ [165, 90, 195, 60]) xs = some true := by
  have ht : (xs ++ [165, 90, 195, 60]).take ((xs.length : Int) : Int).toNat = xs := by
    rw [Int.toNat_natCast, List.take_left]
  have h0 : rd (xs ++ [165, 90, 195, 60]) (xs.length : Int) = 165 := by simp [rd, List.getD_eq_getElem?_getD]
  have h1 : rd (xs ++ [165, 90, 195, 60]) ((xs.length : Int) + 1) = 90 := by
    simp only [rd, List.getD_eq_getElem?_getD, show ((xs.length : Int) + 1).toNat = xs.length + 1 by omega]
    rw [List.getElem?_append_right (by omega), show xs.length + 1 - xs.length = 1 by omega]
    rfl
  have h2 : rd (xs ++ [165, 90, 195, 60]) ((xs.length : Int) + 2) = 195 := by
    simp only [rd, List.getD_eq_getElem?_getD, show ((xs.length : Int) + 2).toNat = xs.length + 2 by omega]
    rw [List.getElem?_append_right (by omega), show xs.length + 2 - xs.length = 2 by omega]
    rfl
  have h3 : rd (xs ++ [165, 90, 195, 60]) ((xs.length : Int) + 3) = 60 := by
    simp only [rd, List.getD_eq_getElem?_getD, show ((xs.length : Int) + 3).toNat = xs.length + 3 by omega]
    rw [List.getElem?_append_right (by omega), show xs.length + 3 - xs.length = 3 by omega]
    rfl
  have hL : (xs ++ [165, 90, 195, 60]).length = xs.length + 4 := by simp
  have w1 : wrap64 ((xs.length : Int) + 1) = (xs.length : Int) + 1 := by unfold wrap64; omega
  have w2 : wrap64 ((xs.length : Int) + 2) = (xs.length : Int) + 2 := by unfold wrap64; omega
  have w3 : wrap64 ((xs.length : Int) + 3) = (xs.length : Int) + 3 := by unfold wrap64; omega
  unfold provisoplain_Untouched.f
  rw [ht, bytes_equal_is xs (by omega) k hk, hL, w1, w2, w3, h0, h1, h2, h3]
  simp only [Option.bind_some, if_true]
  repeat rw [if_pos (by omega)]
  rfl

def provisoref21_without.f (k : Nat) (l0 : List (S101)) (a1 : ByteArray) : Option ((List (S101))) := (provisoref21_place.f k l0 a1).bind fun bt200 => ((some (([] : List (S101)) : List (S101))).bind fun y202 => (if 0 ≤ bt200.1 then (if bt200.1 ≤ (l0.length : Int) then ((some (l0.take (bt200.1 : Int).toNat : List (S101))).bind fun y205 => (if y202.length + y205.length < 3518437208883 then ((some (y202 ++ y205 : List (S101))).bind fun y210 => (if bt200.2 = true then (if 0 ≤ (wrap64 (bt200.1 + 1)) then (if (wrap64 (bt200.1 + 1)) ≤ (l0.length : Int) then ((some (l0.drop ((wrap64 (bt200.1 + 1)) : Int).toNat : List (S101))).bind fun y213 => (if y210.length + y213.length < 3518437208883 then (some (y210 ++ y213)) else (none))) else (none)) else (none)) else ((some (l0.drop (bt200.1 : Int).toNat : List (S101))).bind fun y221 => (if y210.length + y221.length < 3518437208883 then (some (y210 ++ y221)) else (none))))) else (none))) else (none)) else (none)))
end Go.Proofs.Ytfakdphkklclgaa.P

end

section
namespace Go.Proofs.Ytfakdphkklclgaa.P
open Go.RowKit Go.Proofs.YtfakdphkklclgaaW.PrintWords Go.Proofs.YtfakdphkklclgaaW.PrintLast Go.Proofs.YtfakdphkklclgaaW.PrintMore
attribute [local go_sem] max2_int min2_int max_two min_two max_three min_three max_four min_four   -- for this text's walks alone
set_option linter.unusedVariables false
set_option linter.unusedSimpArgs false

def provisoplain_mark.f (a0 : Int) : Option (Int) := some (wrap64 ((Int.tmod a0 250) + 1))
set_option maxHeartbeats 8000000 in
set_option maxRecDepth 100000 in
theorem provisoplain_mark.calls (a0 : Int) (r : Int) (w : World) (h : provisoplain_mark.f a0 = some r) :
    Calls Try.prog 50 #[.int .i64 a0] w fun e w' => e = .returned (.int .i64 r) ∧ Drawn0 w w' := by
  have H : (some (wrap64 ((Int.tmod a0 250) + 1))) = some r := h
  clear h
  obtain rfl := Option.some.inj H
  go_enter Try.func50, Try.ntmps50
  go_wp2
  go_ret
  exact ⟨by first | rfl | (simp; done) | (simp [*]; done), by repeat (first | exact Drawn0.refl _ | apply Drawn0.step)⟩





def provisoref01_Number.l0 : Nat → List Int → Int → Int → Int → Int → Option (Int × Int × Int)
  | 0, _, _, _, _, _ => none
  | k + 1, x0, x1, x2, x9, x10 => if x10 < x2 then (if 0 ≤ (wrap64 (x1 + x10)) then (if (wrap64 (x1 + x10)) < (x0.length : Int) then (provisoref01_Number.l0 k x0 x1 x2 (wrap64 ((wrap64 (x9 * 256)) + (wrap64 (rd x0 (wrap64 (x1 + x10)))))) (wrap64 (x10 + 1))) else (none)) else (none)) else (if x2 = 4 then (if x9 ≥ 2147483648 then (some (wrap64 (x9 - 4294967296), wrap64 (x1 + x2), 0)) else (some (x9, wrap64 (x1 + x2), 0))) else (some (x9, wrap64 (x1 + x2), 0)))
def provisoref01_Number.f (k : Nat) (l0 : List Int) (a1 : Int) (a2 : Int) : Option (Int × Int × Int) := if (wrap64 ((l0.length : Int) - a1)) < a2 then (some (0, a1, 2)) else (provisoref01_Number.l0 k l0 a1 a2 0 0)
def provisoref01_Take.l0 : Nat → List Int → Int → Int → List Int → Int → Option (List Int × Int × Int)
  | 0, _, _, _, _, _ => none
  | k + 1, x0, x1, x2, x9, x10 => if x10 < x2 then (if 0 ≤ (wrap64 (x1 + x10)) then (if (wrap64 (x1 + x10)) < (x0.length : Int) then (if x9.length < 140737488355328 then (provisoref01_Take.l0 k x0 x1 x2 (x9 ++ [rd x0 (wrap64 (x1 + x10))]) (wrap64 (x10 + 1))) else (none)) else (none)) else (none)) else (some (x9, wrap64 (x1 + x2), 0))
def provisoref01_Take.f (k : Nat) (l0 : List Int) (a1 : Int) (a2 : Int) : Option (List Int × Int × Int) := if a2 < 0 then (some (([] : List Int), a1, 1)) else (if (wrap64 ((l0.length : Int) - a1)) < a2 then (some (([] : List Int), a1, 2)) else (provisoref01_Take.l0 k l0 a1 a2 (([] : List Int)) 0))
end Go.Proofs.Ytfakdphkklclgaa.P

end

section
namespace Go.Proofs.Ytfakdphkklclgaa.P
open Go.RowKit Go.Proofs.YtfakdphkklclgaaW.PrintWords Go.Proofs.YtfakdphkklclgaaW.PrintLast Go.Proofs.YtfakdphkklclgaaW.PrintMore
attribute [local go_sem] max2_int min2_int max_two min_two max_three min_three max_four min_four   -- for this text's walks alone
set_option linter.unusedVariables false
set_option linter.unusedSimpArgs false

def slices_Equal_string_string.l0 : Nat → List ByteArray → List ByteArray → Int → Int → Option (Bool)
  | 0, _, _, _, _ => none
  | k + 1, x0, x1, x12, x13 => if x13 < x12 then (if 0 ≤ x13 then (if x13 < (x0.length : Int) then (if x13 < (x1.length : Int) then (if (rdOf ByteArray.empty x0 x13).toList = (rdOf ByteArray.empty x1 x13).toList then (slices_Equal_string_string.l0 k x0 x1 x12 (wrap64 (x13 + 1))) else (some false)) else (none)) else (none)) else (none)) else (some true)
def slices_Equal_string_string.f (k : Nat) (l0 : List ByteArray) (l1 : List ByteArray) : Option (Bool) := if (l0.length : Int) = (l1.length : Int) then (slices_Equal_string_string.l0 k l0 l1 (l0.length : Int) 0) else (some false)
end Go.Proofs.Ytfakdphkklclgaa.P

end

section
namespace Go.Proofs.Ytfakdphkklclgaa.P
open Go.RowKit Go.Proofs.YtfakdphkklclgaaW.PrintWords Go.Proofs.YtfakdphkklclgaaW.PrintLast Go.Proofs.YtfakdphkklclgaaW.PrintMore
attribute [local go_sem] max2_int min2_int max_two min_two max_three min_three max_four min_four
set_option linter.unusedVariables false
set_option linter.unusedSimpArgs false
section
variable {P : Program} {ops : Array Oper} {rest : List Oper} {o : Oper} {a : Act} {Q : Exit → Act → World → Prop} {K : Act → World → Prop}
structure Rws (w0 : World) (l : List (Nat × TypeId × Array Value)) (W : World) : Prop where
  lies : ∀ p ∈ l, W.heap[p.1]? = some (.cells p.2.2 p.2.1 (0, 0)) ∧ w0.heap.size ≤ p.1
  ne : (l.map Prod.fst).Nodup
  below : Below w0.heap.size w0 W
theorem Rws.nil (w : World) : Rws w [] w := ⟨fun _ h => by simp at h, by simp, Below.refl _ _⟩
theorem Rws.step {w0 W W1 : World} {l : List (Nat × TypeId × Array Value)} (h : Rws w0 l W) (hb : Below W.heap.size W W1) : Rws w0 l W1 := ⟨fun p hp => ⟨blk_below (h.lies p hp).1 hb, (h.lies p hp).2⟩, h.ne, below_step h.below hb⟩
theorem Rws.drewN {w0 W : World} {l : List (Nat × TypeId × Array Value)} (h : Rws w0 l W) (m : Nat) : Rws w0 l (W.drewN m) := h.step (pw_below_drewN (Below.refl _ _) m)
theorem Rws.mem {w0 W : World} {l : List (Nat × TypeId × Array Value)} (h : Rws w0 l W) {g : Nat} {t : TypeId} {cs : Array Value} (hm : (g, t, cs) ∈ l) : W.heap[g]? = some (.cells cs t (0, 0)) := (h.lies _ hm).1
theorem Rws.add {w0 W : World} {l : List (Nat × TypeId × Array Value)} (h : Rws w0 l W) (t : TypeId) (cs : Array Value) : Rws w0 ((W.heap.size, t, cs) :: l) (W.alloc (.cells cs t (0, 0))) := by
  have hb : Below W.heap.size W (W.alloc (.cells cs t (0, 0))) := below_alloc (Below.refl _ _) _
  refine ⟨fun p hp => ?_, ?_, below_step h.below hb⟩
  · rcases List.mem_cons.1 hp with rfl | hp
    · exact ⟨blk_new W _, h.below.size⟩
    · exact ⟨blk_below (h.lies p hp).1 hb, (h.lies p hp).2⟩
  · rw [List.map_cons, List.nodup_cons]
    refine ⟨fun hm => ?_, h.ne⟩
    obtain ⟨p, hp, e⟩ := List.mem_map.1 hm
    have := blk_lt (h.lies p hp).1
    have e : p.1 = W.heap.size := e
    omega
theorem Rws.tail {w0 W : World} {p : Nat × TypeId × Array Value} {l : List (Nat × TypeId × Array Value)} (h : Rws w0 (p :: l) W) : Rws w0 l W := ⟨fun q hq => h.lies q (List.mem_cons_of_mem _ hq), (List.nodup_cons.1 h.ne).2, h.below⟩
theorem Rws.put {w0 W W1 : World} (l1 : List (Nat × TypeId × Array Value)) {l2 : List (Nat × TypeId × Array Value)} {g : Nat} {t : TypeId} {cs cs' : Array Value} (h : Rws w0 (l1 ++ (g, t, cs) :: l2) W) (hx : W1.heap[g]? = some (.cells cs' t (0, 0))) (hk : Kept W W1 (fun k => k = g)) (hb : ∀ (B : Nat) (w0 : World), B ≤ g → Below B w0 W → Below B w0 W1) : Rws w0 (l1 ++ (g, t, cs') :: l2) W1 := by
  have hn : ((l1 ++ (g, t, cs) :: l2).map Prod.fst) = ((l1 ++ (g, t, cs') :: l2).map Prod.fst) := by simp
  have hne := h.ne
  have hge := (h.lies (g, t, cs) (by simp)).2
  refine ⟨fun p hp => ?_, hn ▸ hne, hb _ _ hge h.below⟩
  have hnd : ∀ q ∈ l1 ++ l2, q.1 ≠ g := by
    rw [List.map_append, List.map_cons, List.nodup_append] at hne
    intro q hq e
    rcases List.mem_append.1 hq with hq | hq
    · exact hne.2.2 q.1 (List.mem_map.2 ⟨q, hq, rfl⟩) g (by simp) e
    · have := (List.nodup_cons.1 hne.2.1).1
      exact this (List.mem_map.2 ⟨q, hq, e⟩)
  rcases List.mem_append.1 hp with hp | hp
  · have hq := h.lies p (List.mem_append.2 (.inl hp))
    exact ⟨blk_kept hq.1 hk (fun e => hnd p (List.mem_append.2 (.inl hp)) e), hq.2⟩
  · rcases List.mem_cons.1 hp with rfl | hp
    · exact ⟨hx, hge⟩
    · have hq := h.lies p (List.mem_append.2 (.inr (List.mem_cons_of_mem _ hp)))
      exact ⟨blk_kept hq.1 hk (fun e => hnd p (List.mem_append.2 (.inr hp)) e), hq.2⟩
theorem rw_yields {S : World → Prop} {w0 : World} {l : List (Nat × TypeId × Array Value)} (hw : Region.wanted o (yielded ops a.tmps) = true) (ty : TypeId) {x : Operand} (ho : o.op = .load ty x) {g : Nat} (hx : a.eval x = .pointer (some ⟨g, 0, none⟩)) (hS : ∀ w, S w → Rws w0 l w) {cs : Array Value} (hm : (g, ty, cs) ∈ l) (d : TypeDesc) (hu : P.underlying ty = some d) (hd : (match d with | .struct _ | .array _ _ => true | _ => false) = true) (hi : (P.info? ty).map (·.size) = some cs.size) : YieldsIf P ops S o (.agg cs) a :=
  .inl ⟨hw, fun w hw' => by
    unfold execOp
    simp only [ho, hx, Instr.loadAt, Instr.sureAddr, Sem.run_bind, Sem.run_pure, Result.andThen_ok, run_loadVar_row w g ty ty cs (0, 0) d ((hS w hw').mem hm) hu hd hi]⟩
theorem rw_load (hgd : o.guard = none) (ty : TypeId) {x : Operand} (ho : o.op = .load ty x) {g : Nat} (hx : a.eval x = .pointer (some ⟨g, 0, none⟩)) {w0 W : World} {l : List (Nat × TypeId × Array Value)} (hl : Rws w0 l W) {cs : Array Value} (hm : (g, ty, cs) ∈ l) (d : TypeDesc) (hu : P.underlying ty = some d) (hd : (match d with | .struct _ | .array _ _ => true | _ => false) = true) (hi : (P.info? ty).map (·.size) = some cs.size)
    (h : wpList P ops Q rest (a.put o.dst (.agg cs)) W) : wpList P ops Q (o :: rest) a W :=
  wpList_load_row hgd ty x ho g hx ty cs (0, 0) d (hl.mem hm) hu hd hi h
theorem rw_box (hgd : o.guard = none) (ty : TypeId) {x : Operand} (ho : o.op = .box ty x) {cs : Array Value} (hx : a.eval x = .agg cs) {w0 W : World} {l : List (Nat × TypeId × Array Value)} (hl : Rws w0 l W)
    (h : ∀ g w1, Rws w0 ((g, ty, cs) :: l) w1 → wpList P ops Q rest (a.put o.dst (.pointer (some ⟨g, 0, none⟩))) w1) : wpList P ops Q (o :: rest) a W :=
  Kd.event_run hgd (by
    unfold execOp
    simp only [ho, hx]
    simp [Instr.box, newVar, newRow, Value.cells, Sem.run_bind]) (h W.heap.size _ (hl.add ty cs))
theorem rw_alloc_wp (ty : TypeId) (ho : o.op = .alloc ty) {cs : Array Value} (hz : (P.info? ty).map (·.zero) = some (some (.agg cs))) {w0 W : World} {l : List (Nat × TypeId × Array Value)} (hl : Rws w0 l W)
    (h : ∀ g w1, g = W.heap.size → Rws w0 ((g, ty, cs) :: l) w1 → Below W.heap.size W w1 → K (a.put o.dst (.pointer (some ⟨g, 0, none⟩))) w1) : Oper.wp P o a W K Q := by
  have hrun : (execOp a.eval o).run P W = .ok (.value (.pointer (some ⟨W.heap.size, 0, none⟩))) (W.alloc (.cells cs ty (0, 0))) := by
    unfold execOp
    cases hq : P.info? ty with
    | none => simp [hq] at hz
    | some i =>
      have hs : i.zero = some (.agg cs) := by simpa [hq] using hz
      simp only [ho]
      simp [Instr.alloc, zeroValue, typeInfo, hq, hs, newVar, newRow, Value.cells, Sem.run_bind]
  have hw := h W.heap.size _ rfl (hl.add ty cs) (below_alloc (Below.refl _ _) _)
  unfold Oper.wp
  rw [hrun]
  exact hw
theorem rw_store_wp (ty : TypeId) {x y : Operand} (ho : o.op = .store ty x y) {g : Nat} (hx : a.eval x = .pointer (some ⟨g, 0, none⟩)) {cs' : Array Value} (hy : a.eval y = .agg cs') {w0 W : World} (l1 : List (Nat × TypeId × Array Value)) {l2 : List (Nat × TypeId × Array Value)} {cs : Array Value} (hl : Rws w0 (l1 ++ (g, ty, cs) :: l2) W) (hi : (P.info? ty).map (·.size) = some cs'.size) (hs : cs.size = cs'.size) (h1 : cs'.all (·.oneCell') = true)
    (h : ∀ w1, Rws w0 (l1 ++ (g, ty, cs') :: l2) w1 → Kept W w1 (fun k => k = g) → K (a.put o.dst undef) w1) : Oper.wp P o a W K Q := by
  have hg := hl.mem (g := g) (t := ty) (cs := cs) (by simp)
  have hrun := run_storeVar_row W g ty ty cs cs' hg hi hs h1
  have hk : Kept W (W.setRow g cs') (fun k => k = g) := ⟨by simp, fun i _ hn => setRow_other W g i cs' hn⟩
  unfold Oper.wp execOp
  simp only [ho, hx, hy, Instr.storeAt, Instr.sureAddr, Sem.run_bind, Sem.run_pure, Result.andThen_ok, hrun]
  exact h _ (hl.put l1 (setRow_heap W g cs cs' ty (0, 0) hg) hk (fun B w0 hB hw => ⟨hw.os, hw.tape, hw.output, by simpa using hw.size, fun k hk => (setRow_other W g k cs' (by omega)).trans (hw.block k hk)⟩)) hk
theorem take_dst {S : World → Prop} {md : Region.Mode} {i : Nat} (N : Tmp) {oi : Oper} {v : Value} {fuel : Nat} {listed : Array Bool} {a : Act} {w : World} (hi : ops[i]? = some oi) (hN : oi.dst = some N)
    (hs : Region.noSelect ops = true) (hf : Region.free md ops listed i = true) (hr : (Region.ready md ops listed).contains i = true)
    (hQ : ∀ c a w, Q (.panic c) (a.put (some N) v) w → Q (.panic c) a w) (hy : YieldsIf P ops S oi v a) (hS : S w)
    (h : wpAnyH P md ops Q S fuel (listed.setIfInBounds i true) (a.put (some N) v) w) : wpAnyH P md ops Q S (fuel + 1) listed a w :=
  wpAnyH_take hi hs hf hr (by rw [hN]; exact hQ) hy hS (by rw [hN]; exact h)
end
section
variable {P : Program} {ops : Array Oper} {rest : List Oper} {o : Oper} {a : Act} {Q : Exit → Act → World → Prop} {K : Act → World → Prop}
theorem one_cells {u : Value} (h : u.oneCell' = true) : u.cells = #[u] := by cases u <;> first | rfl | cases h
theorem Rws.set {w0 W : World} (l1 : List (Nat × TypeId × Array Value)) {l2 : List (Nat × TypeId × Array Value)} {g : Nat} {t : TypeId} {cs : Array Value} (h : Rws w0 (l1 ++ (g, t, cs) :: l2) W) (i : Nat) (u : Value) : Rws w0 (l1 ++ (g, t, cs.setIfInBounds i u) :: l2) (W.setCell ⟨g, i, none⟩ u) :=
  h.put l1 (blk_set (h.mem (g := g) (t := t) (cs := cs) (by simp)) i u) ⟨by simp [World.setCell], fun k _ hn => Below.heap_setCell W ⟨g, i, none⟩ u k hn⟩ (fun B w0 hB hb => hb.setCell hB u)
theorem set_kept (W : World) (g i : Nat) (u : Value) : Kept W (W.setCell ⟨g, i, none⟩ u) (fun k => k = g) := ⟨by simp [World.setCell], fun k _ hn => Below.heap_setCell W ⟨g, i, none⟩ u k hn⟩
theorem run_store_one_cell (ty : TypeId) {W : World} {g i : Nat} {t : TypeId} {cs : Array Value} {u : Value} (hg : W.heap[g]? = some (.cells cs t (0, 0))) (hi : i < cs.size) (hu : u.oneCell' = true) (hsz : (P.info? ty).map (·.size) = some 1) : (storeVar ty ⟨g, i, none⟩ u).run P W = .ok () (W.setCell ⟨g, i, none⟩ u) := by
  have h1 := run_store P W ⟨g, i, none⟩ u .plain hu
  rw [blk_cell hg i, blk_frozen hg i, Array.getElem?_eq_getElem hi] at h1
  cases hq : P.info? ty with
  | none => simp [hq] at hsz
  | some j =>
    have hs : j.size = 1 := by simpa [hq] using hsz
    have := run_storeCells_cells (P := P) g i [u] 0 W (fun j hj => by simp at hj; subst hj; simp only [Nat.add_zero]; rw [blk_cell hg i, Array.getElem?_eq_getElem hi]; rfl) (fun j hj => by simp at hj; subst hj; simp only [Nat.add_zero]; rw [blk_frozen hg i]) (fun v hv => by simp at hv; subst hv; exact hu)
    simp only [Nat.add_zero] at this
    simp [storeVar, sizeOf, typeInfo, hq, one_cells hu, hs, this, World.setCells]
end
section
variable {P : Program}
theorem run_append1 (w : World) (base : Nat) (t ty e : TypeId) (i : TypeInfo) (z : Value) (ht : P.underlying t = some (.slice e)) (hi : P.info? e = some i) (hz : i.zero = some z) (hzs : z.cells.size = i.size) (hsz : 0 < i.size)
    (v : Value) (n : Nat) (xs : List Value) (hown : w.ownsRow base e i.size v n xs) (a : Addr) (c : Nat) (news : List Value) (hl : news.length = 1 * i.size) (hnews : ∀ j u, news[j]? = some u → w.cell? (a.add j) = some u) (h1 : ∀ u ∈ news, u.oneCell' = true)
    (h63 : n + 1 ≤ maxLen) (hb1 : i.bytes ≤ 140737488355328) (hfit : Builtin.nextslicecap (n + 1) n * i.bytes ≤ 281474976710656) (hbase : base ≤ w.heap.size) :
    ∃ v' w', (Builtin.append_ #[t, t] ty #[v, .slice (some a) 1 c]).run P w = .ok v' w' ∧ w'.ownsRow base e i.size v' (n + 1) (xs ++ news) ∧ w.grownBy w' v.ownBlock ∧ (v'.ownBlock = v.ownBlock ∨ v'.ownBlock = some w.heap.size) := by
  rcases hown.2 with ⟨rfl, rfl⟩ | ⟨g, cap, cur, rfl, hbg, hg, hnc, hcm, hcs, htake⟩
  · obtain ⟨v', w', h2, h3, h4, _, h5⟩ := run_append_own_at (P := P) w base t ty e i z i.size i.bytes ht hi hz rfl rfl hzs hsz _ 0 xs hown a 1 c news hl hnews h1 (by omega) (by omega) hbase
    exact ⟨v', w', h2, h3, h4, h5⟩
  · have hsmall : n + 1 ≤ 9223372036854775807 := by simp only [maxLen] at h63; omega
    have hlen : (xs ++ news).length = (n + 1) * i.size := by rw [List.length_append, hown.1, hl, Nat.add_mul]
    by_cases hroom : n + 1 ≤ cap
    · have hfit2 : n * i.size + news.length ≤ cur.size := by rw [hl, hcs, ← Nat.add_mul]; exact Nat.mul_le_mul_right _ hroom
      have hr := run_append_room (P := P) w t ty e i ht hi g n cap cur hg a 1 c news hl hnews h1 hroom hfit2
      refine ⟨_, _, hr, ⟨hlen, .inr ⟨g, cap, _, rfl, hbg, setRow_heap w g cur _ e _ hg, hroom, hcm, ?_, ?_⟩⟩, ⟨rfl, rfl, rfl, by simp, fun k _ hk => setRow_other w g k _ (fun e => hk (by simp [Value.ownBlock, e]))⟩, Or.inl rfl⟩
      · simp only [List.size_toArray, List.length_append, List.length_take, List.length_drop, Array.length_toList]
        omega
      · rw [htake, ← hlen]
        exact List.take_left
    · have hcap : cap = n := by omega
      subst hcap
      have holds : ∀ j u, xs[j]? = some u → w.cell? ((⟨g, 0, none⟩ : Addr).add j) = some u := hown.cells (g := g) rfl
      have hr := run_append_grow (P := P) w t ty e i z ht hi hz ⟨g, 0, none⟩ cap cap xs hown.1 holds a 1 c news hl hnews (by omega) (by omega) hfit
      have hge := grownCap_ge w (cap + 1) cap e
      have hcm2 : grownCap w (cap + 1) cap e ≤ maxLen := grownCap_le_maxLen w (cap + 1) cap e h63
      refine ⟨_, _, hr, ⟨hlen, .inr ⟨w.heap.size, _, _, rfl, hbase, heap_alloc_new w.drew _, hge, hcm2, ?_, ?_⟩⟩, ⟨rfl, rfl, rfl, by simp, fun k hk _ => heap_alloc_old w.drew _ hk⟩, Or.inr rfl⟩
      · simp only [Array.size_append, List.size_toArray, size_zeroCells, hzs, hown.1, hl, ← Nat.add_mul]
        congr 1
        omega
      · simp only [Array.toList_append, List.append_assoc]
        rw [← List.append_assoc, ← hlen]
        exact List.take_left
section
variable {ops : Array Oper} {rest : List Oper} {o : Oper} {a : Act} {Q : Exit → Act → World → Prop}
theorem R_append1 {α : Type} (d : Kd α) {w0 W : World} (base : Nat) (hgd : o.guard = none) (s x : Operand) (t e : TypeId) (z : Value) (bytes : Nat)
    (ho : o.op = .call { callee := .builtin .append, args := #[s, x], argTypes := #[t, t] })
    (ht : P.underlying t = some (.slice e)) (hinfo : (P.info? e).map (fun i => (i.zero, i.size, i.bytes)) = some (some z, d.sz, bytes)) (hz : z.cells.size = d.sz) (hs0 : 0 < d.sz) (hb1 : bytes ≤ 140737488355328)
    (v : Value) (xs : List α) (p : α) (cs : List Value) (ok okp : Nat → Prop) (hs : a.eval s = v) (hx : a.eval x = .slice (some ⟨W.heap.size, 0, none⟩) 1 1) (hp : d.M W base okp p cs) (hokp : ∀ k, okp k → ok k ∧ some k ≠ v.ownBlock) (hfresh : ∀ k, W.heap.size ≤ k → ok k)
    (HO : d.R e W base ok v xs) (HB : Below base w0 W) (hbase : base ≤ W.heap.size) (hl : xs.length + 1 ≤ maxLen) (hfit : Builtin.nextslicecap (xs.length + 1) xs.length * bytes ≤ 281474976710656)
    (h : ∀ v1 w1, d.R e w1 base ok v1 (xs ++ [p]) → Below base w0 w1 → W.grownBy w1 v.ownBlock → (v1.ownBlock = v.ownBlock ∨ ∃ b, v1.ownBlock = some b ∧ W.heap.size ≤ b) → wpList P ops Q rest (a.put o.dst v1) w1) :
    wpList P ops Q (o :: rest) a (W.alloc (.cells cs.toArray e)) := by
  obtain ⟨h0, inner, hown, hr⟩ := HO
  obtain ⟨i0, hi, hzz⟩ := Option.map_eq_some_iff.1 hinfo
  simp only [Prod.mk.injEq] at hzz
  obtain ⟨hz0, hz1, hz2⟩ := hzz
  have hcl : cs.length = d.sz := d.K_len (d.K_of_M hp)
  rw [← hz1] at hown hz hs0 hcl
  refine wpList_plain hgd fun K hK => ?_
  obtain ⟨v1, w1, hrun, hown1, hg, hat⟩ := run_append1 (P := P) (W.alloc (.cells cs.toArray e)) base t o.type e i0 z ht hi hz0 hz hs0 v xs.length inner (hown.alloc _) ⟨W.heap.size, 0, none⟩ 1 cs (by rw [hcl]; simp)
    (by simpa using World.news_of_block (cs := cs.toArray) (t := e) (fr := (0, 0)) (heap_alloc_new W (.cells cs.toArray e))) (d.K_one (d.K_of_M hp)) hl (by rw [hz2]; exact hb1) (by rw [hz2]; exact hfit) (by simp; omega)
  unfold Oper.wp execOp
  simp only [ho, resolve, invoke, builtin, Sem.run_bind, Sem.run_pure, Result.andThen_ok, List.map_toArray, List.map_cons, List.map_nil, hs, hx, hrun]
  have hg2 : W.grownBy w1 v.ownBlock := World.grownBy.trans (World.grownBy_alloc W _ _) hg
  have hat2 : v1.ownBlock = v.ownBlock ∨ ∃ b, v1.ownBlock = some b ∧ W.heap.size ≤ b := by
    rcases hat with hat | hat
    · exact .inl hat
    · exact .inr ⟨_, hat, by simp⟩
  rw [hz1] at hown1 hown
  exact hK _ _ (h v1 w1 (Kd.R_appended h0 hr hp hokp hfresh hown1 hg2 hat2) ((HB.alloc hbase _).grown hg (by simp; omega) (own_base hown)) hg2 hat2)
end
end
end Go.Proofs.Ytfakdphkklclgaa.P

end

section
namespace Go.Proofs.Ytfakdphkklclgaa.P
open Go.RowKit Go.Proofs.YtfakdphkklclgaaW.PrintWords Go.Proofs.YtfakdphkklclgaaW.PrintLast Go.Proofs.YtfakdphkklclgaaW.PrintMore
attribute [local go_sem] max2_int min2_int max_two min_two max_three min_three max_four min_four
set_option linter.unusedVariables false
set_option linter.unusedSimpArgs false
theorem copy_own {P : Program} {W : World} {base : Nat} {ok : Nat → Prop} {v : Value} {zs bs : List Int} {A : Option Addr} {cA : Nat} {ty : TypeId} (hu : P.underlying 23 = some (.slice 5)) (hi : (P.info? 5).map (·.size) = some 1)
    (HR : Kd.R (Kd.int .u8) 5 W base ok v zs) (HS : Kd.C (Kd.int .u8) W A bs.length bs) (hl : zs.length = bs.length) :
    ∃ W', (Builtin.copy_ #[23, 23] ty #[v, .slice A bs.length cA]).run P W = .ok (goInt bs.length) W' ∧ Kd.R (Kd.int .u8) 5 W' base ok v bs ∧ W.grownBy W' v.ownBlock := by
  have hrefl : ∀ row, W.grownBy W row := fun row => ⟨rfl, rfl, rfl, Nat.le_refl _, fun _ _ _ => rfl⟩
  obtain ⟨h0, inner, ⟨h1, h2⟩, hr⟩ := HR
  rcases h2 with ⟨rfl, hn⟩ | ⟨g, cap, cur, rfl, hg, hh, r1, r2, r3, r4⟩
  · have e : bs = [] := List.length_eq_zero_iff.1 (by omega)
    subst e
    exact ⟨W, run_copy_none W _ _ ty _ none A 0 0 0 cA hu hi rfl, Kd.R_nil _ _ _ _ _, hrefl _⟩
  · by_cases hz : bs.length = 0
    · have e : bs = [] := List.length_eq_zero_iff.1 hz
      subst e
      have ez : zs = [] := List.length_eq_zero_iff.1 (by simpa using hl)
      subst ez
      exact ⟨W, run_copy_none W _ _ ty _ _ A _ cap 0 cA hu hi rfl, ⟨h0, inner, ⟨h1, .inr ⟨g, cap, cur, rfl, hg, hh, r1, r2, r3, r4⟩⟩, hr⟩, hrefl _⟩
    · obtain ⟨ad, rfl, hc⟩ := HS.2.2 (by omega)
      have hlen : (bs.map (Value.int .u8)).length = bs.length := List.length_map _
      have hrun := run_copy_row (P := P) W 23 23 ty 5 g 0 zs.length cap ad bs.length cA cur 5 (bs.map (Value.int .u8)) hu hi hh (by rw [hlen, hl]; exact (Nat.min_self _).symm)
        (fun j u hj => by
          rw [List.getElem?_map] at hj
          cases hb : bs[j]? with
          | none => rw [hb] at hj; cases hj
          | some x =>
            rw [hb] at hj
            obtain ⟨c, _, hK, hcc⟩ := hc j x hb
            have hK' : c = [Value.int .u8 x] := hK
            subst hK'
            have := hcc 0 _ rfl
            have e1 : u = Value.int .u8 x := (Option.some.inj hj).symm
            rw [e1]
            simpa [show (Kd.int .u8).sz = 1 from rfl] using this)
        (by rw [hlen, r3, show (Kd.int .u8).sz = 1 from rfl]; omega) (fun u hu => by
          obtain ⟨x, _, rfl⟩ := List.mem_map.1 hu
          rfl)
      rw [hlen] at hrun
      refine ⟨_, hrun, ⟨h0, bs.map (Value.int .u8), ⟨by rw [hlen]; exact (Nat.mul_one _).symm, .inr ⟨g, cap, _, by rw [hl], hg, setRow_heap W g cur _ _ _ hh, by omega, r2, ?_, ?_⟩⟩, ?_⟩, ⟨rfl, rfl, rfl, by simp, fun k _ hk => setRow_other W g k _ (fun e => hk (by rw [e]; rfl))⟩⟩
      · simp [r3, show (Kd.int .u8).sz = 1 from rfl]
        have : bs.length ≤ cap := by omega
        omega
      · simp [show (Kd.int .u8).sz = 1 from rfl]
      · exact Kd.reps_scalar bs
theorem Kd.R_base_ {base : Nat} {W : World} {ok : Nat → Prop} {v : Value} {xs : List Int} (h : Kd.R (Kd.int .u8) 5 W base ok v xs) (k : Nat) (hk : v.ownBlock = some k) : base ≤ k := by
  obtain ⟨_, inner, ho, _⟩ := h
  exact own_base ho k hk
structure RdAt (base g : Nat) (bs : List Int) (at_ : Nat) (W : World) : Prop where
  le : at_ ≤ bs.length
  ge : base ≤ g
  now : ∃ v : Value, W.heap[g]? = some (.cells #[v, .int .i64 (at_ : Int), .bool true] 118 (0, 0)) ∧ Kd.R (Kd.int .u8) 5 W base (fun _ => True) v bs
theorem RdAt.drewN {base g : Nat} {bs : List Int} {at_ : Nat} {W : World} (h : RdAt base g bs at_ W) (m : Nat) : RdAt base g bs at_ (W.drewN m) := by
  obtain ⟨h1, h2, v, h3, h4⟩ := h
  exact ⟨h1, h2, v, blk_drewN h3 m, Kd.R_drewN h4 m⟩
theorem RdAt.step {base g : Nat} {bs : List Int} {at_ : Nat} {W W' : World} (h : RdAt base g bs at_ W) (hb : Below W.heap.size W W') : RdAt base g bs at_ W' := by
  obtain ⟨h1, h2, v, h3, h4⟩ := h
  exact ⟨h1, h2, v, blk_below h3 hb, Kd.R_below h4 hb⟩
theorem RdAt.set {base g : Nat} {bs : List Int} {at_ : Nat} {W : World} (h : RdAt base g bs at_ W) (n : Nat) (hn : n ≤ bs.length) : RdAt base g bs n (W.setCell ⟨g, 1, none⟩ (.int .i64 (n : Int))) := by
  obtain ⟨h1, h2, v, h3, h4⟩ := h
  exact ⟨hn, h2, v, blk_set h3 1 _, Kd.R_set h4 h3 (by decide) _ _⟩
theorem RdAt.far {base g : Nat} {bs : List Int} {at_ : Nat} {W : World} (h : RdAt base g bs at_ W) {g2 : Nat} {cs : Array Value} (h2 : W.heap[g2]? = some (.cells cs 118 (0, 0))) (hne : g ≠ g2) (j : Nat) (u : Value) : RdAt base g bs at_ (W.setCell ⟨g2, j, none⟩ u) := by
  obtain ⟨h1, h2', v, h3, h4⟩ := h
  exact ⟨h1, h2', v, blk_far h3 (by simpa using hne) _, Kd.R_set h4 h2 (by decide) _ _⟩
theorem RdAt.len {base g : Nat} {bs : List Int} {at_ : Nat} {W : World} (h : RdAt base g bs at_ W) : bs.length ≤ 9223372036854775807 := by
  obtain ⟨_, _, v, _, h4⟩ := h
  obtain ⟨A, c, rfl⟩ := Kd.R_slice h4
  exact (Kd.R_reads' h4).2.2.2.1
def numOf (bs : List Int) : Int := bs.foldl (fun x c => x * 256 + c) 0
def signOf (z : Int) : Int := if z < 2147483648 then z else z - 4294967296
theorem str_of_bytes (s : ByteArray) : strOfNums (bytesOf s) = s := by
  unfold strOfNums bytesOf
  rw [List.map_map]
  have : (List.map ((fun x : Int => UInt8.ofNat x.toNat) ∘ fun b : UInt8 => (b.toNat : Int)) s.data.toList) = s.data.toList := by
    conv => rhs; rw [← List.map_id s.data.toList]
    refine List.map_congr_left fun b _ => ?_
    simp
  rw [this]
structure WtAt (base g : Nat) (ok : Nat → Prop) (bs : List Int) (W : World) : Prop where
  ge : base ≤ g
  le : bs.length ≤ 1048576
  now : ∃ v : Value, W.heap[g]? = some (.cells #[v, .bool true] 125 (0, 0)) ∧ Kd.R (Kd.int .u8) 5 W base ok v bs
theorem WtAt.drewN {base g : Nat} {ok : Nat → Prop} {bs : List Int} {W : World} (h : WtAt base g ok bs W) (m : Nat) : WtAt base g ok bs (W.drewN m) := by
  obtain ⟨h1, h2, v, h3, h4⟩ := h
  exact ⟨h1, h2, v, blk_drewN h3 m, Kd.R_drewN h4 m⟩
theorem WtAt.step {base g : Nat} {ok : Nat → Prop} {bs : List Int} {W W' : World} (h : WtAt base g ok bs W) (hb : Below W.heap.size W W') : WtAt base g ok bs W' := by
  obtain ⟨h1, h2, v, h3, h4⟩ := h
  exact ⟨h1, h2, v, blk_below h3 hb, Kd.R_below h4 hb⟩
theorem WtAt.mono {base g : Nat} {ok ok' : Nat → Prop} {bs : List Int} {W : World} (h : WtAt base g ok bs W) (hk : ∀ k, ok k → ok' k) : WtAt base g ok' bs W := by
  obtain ⟨h1, h2, v, h3, h4⟩ := h
  exact ⟨h1, h2, v, h3, Kd.R_mono h4 hk⟩
set_option maxHeartbeats 800000 in
set_option maxRecDepth 100000 in
theorem New_calls (w : World) : Calls Try.prog 61 #[] w fun e w' => ∃ g, e = .returned (.pointer (some ⟨g, 0, none⟩)) ∧ WtAt w.heap.size g (fun _ => True) [] w' ∧ Below w.heap.size w w' := by
  go_enter Try.func61, Try.ntmps61
  go_wp2
  have h1 := blk_new w (.cells #[.slice none 0 0, .bool true] 125)
  have h3 := below_alloc (Below.refl w.heap.size w) (.cells #[.slice none 0 0, .bool true] 125)
  go_ret
  exact ⟨w.heap.size, rfl, ⟨Nat.le_refl _, Nat.zero_le _, _, h1, Kd.R_nil _ _ _ _ _⟩, h3⟩
set_option maxHeartbeats 800000 in
set_option maxRecDepth 100000 in
theorem ready_wt {base g : Nat} {ok : Nat → Prop} {bs : List Int} {w : World} (h : WtAt base g ok bs w) : Calls Try.prog 66 #[.pointer (some ⟨g, 0, none⟩)] w fun e w' => e = .returned (.bool true) ∧ Drawn0 w w' := by
  obtain ⟨_, _, v, h3, _⟩ := h
  have hc := blk_cell h3 1
  clear h3
  go_enter Try.func66, Try.ntmps66
  go_wp2
  go_ret
  exact ⟨rfl, 0, rfl⟩
set_option maxHeartbeats 1600000 in
set_option maxRecDepth 100000 in
theorem Bytes_wt {base g : Nat} {ok : Nat → Prop} {bs : List Int} {w : World} (h : WtAt base g ok bs w) : Calls Try.prog 64 #[.pointer (some ⟨g, 0, none⟩)] w fun e w' => ∃ v : Value, e = .returned v ∧ Kd.R (Kd.int .u8) 5 w' w.heap.size (fun _ => True) v bs ∧ Below w.heap.size w w' := by
  have hle := h.le
  have H := Aside0.mk h
  clear h
  go_enter Try.func64, Try.ntmps64
  go_wp2_with fail
  refine (ready_wt H.out).mono ?_
  rintro e w1 ⟨rfl, m, hm⟩
  have H1 := H.out.drewN m
  have hb := pw_below_drewN (Below.refl w.heap.size w) m
  rw [← hm] at H1 hb
  clear hm
  obtain ⟨v, h3, h4⟩ := H1.now
  obtain ⟨A, c, rfl⟩ := Kd.R_slice h4
  have hc := blk_cell h3 0
  have HRW := Aside0.mk h4
  have HB := Aside0.mk hb
  have HBK := Aside0.mk h3
  clear h3 h4 H1 H hb
  go_wp2_with (first | ((with_reducible refine gate_dst (N := 12) rfl ?_); refine Kd.R_make (Kd.int .u8) (w0 := w) w.heap.size 5 rfl (N := 12) rfl 23 (.tmp 11) (.tmp 11) rfl (bs.length : Int) rfl rfl Try.underlying23 (.int .u8 0) 1 info5 rfl (by decide) (by decide) 0 (ok := fun _ => True) (okp := fun _ => True) rfl (fun _ h => h) trivial (by omega) ?hl HB.out HB.out.size ?_; (case hl => rw [Int.toNat_natCast]; omega); intro v1 w2 ho hb hg hat; rw [Int.toNat_natCast] at ho; have HB2 := Aside0.mk hb; obtain ⟨Av, cv, e1⟩ := Kd.R_slice ho; rw [List.length_replicate] at e1; subst e1; have hsrc := Kd.R_grown HRW.out hg (fun k _ h => by cases h); obtain ⟨w3, hrun, hR2, hg2⟩ := copy_own (P := Try.prog) (ty := 3) (cA := c) Try.underlying23 (by kernel_rfl) ho (Kd.R_reads' hsrc).2.2 (by simp); have HR2 := Aside0.mk hR2; have HG2 := Aside0.mk (Below.grown hb hg2 hb.size (fun k hk => (Kd.R_base_ ho k hk))); have hc2 := blk_cell (blk_grown HBK.out hg (by simp)) 0; clear ho hb hg hat hR2 hg2 hsrc))
  go_ret
  exact ⟨_, rfl, HR2.out, HG2.out⟩
theorem WtAt.kept {base g : Nat} {ok : Nat → Prop} {bs : List Int} {W W' : World} {S : Nat → Prop} (h : WtAt base g ok bs W) (hk : Kept W W' S) (h1 : ∀ k, ok k → ¬ S k) (h2 : ¬ S g) : WtAt base g ok bs W' := by
  obtain ⟨q1, q2, v, h3, h4⟩ := h
  exact ⟨q1, q2, v, blk_kept h3 hk h2, Kd.R_kept h4 hk h1⟩
theorem WtAt.bound {base g : Nat} {ok : Nat → Prop} {bs : List Int} {W : World} (h : WtAt base g ok bs W) : WtAt base g (fun k => ok k ∧ k < W.heap.size) bs W := by
  obtain ⟨h1, h2, v, h3, h4⟩ := h
  exact ⟨h1, h2, v, h3, Kd.R_mono (Kd.R_bound h4) (fun k hk => ⟨hk.1, hk.2.2.1⟩)⟩
set_option maxHeartbeats 1600000 in
set_option maxRecDepth 100000 in
theorem put_full {base g : Nat} {ok : Nat → Prop} {bs : List Int} {w : World} (h : WtAt base g ok bs w) (A : Option Addr) (m c : Nat) (hm : 1048576 < bs.length + m) : Calls Try.prog 67 #[.pointer (some ⟨g, 0, none⟩), .slice A m c] w fun e w' => e = .returned (.int .i64 7) ∧ Drawn0 w w' := by
  have hle := h.le
  obtain ⟨v, h3, h4⟩ := h.now
  obtain ⟨A1, c1, rfl⟩ := Kd.R_slice h4
  have hc := blk_cell h3 0
  clear h3 h4 h
  have hw1 : wrap64 ((1048576 : Int) - (bs.length : Int)) = (1048576 : Int) - (bs.length : Int) := by unfold wrap64; omega
  have c1b : decide ((1048576 : Int) - (bs.length : Int) < (m : Int)) = true := decide_eq_true (by omega)
  go_enter Try.func67, Try.ntmps67
  go_wp2
  go_ret
  exact ⟨rfl, 0, rfl⟩
set_option maxHeartbeats 1600000 in
set_option maxRecDepth 100000 in
theorem put_good {base g : Nat} {ok : Nat → Prop} {bs more : List Int} {w : World} (h : WtAt base g ok bs w) (A : Option Addr) (c : Nat) (hr : Kd.C (Kd.int .u8) w A more.length more) (hm : bs.length + more.length ≤ 1048576) : Calls Try.prog 67 #[.pointer (some ⟨g, 0, none⟩), .slice A more.length c] w fun e w' => e = .returned (.int .i64 0) ∧ WtAt base g (fun k => ok k ∨ w.heap.size ≤ k) (bs ++ more) w' ∧ Below base w w' ∧ Kept w w' (fun k => ok k ∨ k = g) := by
  have hle := h.le
  have hge := h.ge
  obtain ⟨v, h3, h4⟩ := h.now
  have hlt := blk_lt h3
  obtain ⟨A1, c1, rfl⟩ := Kd.R_slice h4
  have hc := blk_cell h3 0
  have hf := blk_frozen h3 0
  have HBK := Aside0.mk h3
  have HRW := Aside0.mk (Kd.R_mono h4 (fun k hk => (.inl hk : ok k ∨ w.heap.size ≤ k)))
  have HOK := Aside0.mk h4.1
  have HR := Aside0.mk hr
  clear h3 h4 h hr
  have hw1 : wrap64 ((1048576 : Int) - (bs.length : Int)) = (1048576 : Int) - (bs.length : Int) := by unfold wrap64; omega
  have c1b : decide ((1048576 : Int) - (bs.length : Int) < (more.length : Int)) = false := decide_eq_false (by omega)
  go_enter Try.func67, Try.ntmps67
  go_wp2_with (first | ((with_reducible refine gate_builtin (b := .append) (xs := #[.tmp 18, .tmp 19]) rfl ?_); at_builtin; refine Kd.R_append_rows (Kd.int .u8) (w0 := w) base rfl (.tmp 18) (.tmp 19) 23 5 (.int .u8 0) 1 rfl Try.underlying23 info5 rfl (by decide) (by omega) (.slice A1 bs.length c1) bs more A more.length c (fun k => ok k ∨ w.heap.size ≤ k) (fun _ => False) rfl rfl HRW.out HR.out (fun _ _ h => h) (fun _ h => h.elim) (fun k hk => .inr hk) (Below.refl _ _) (by omega) (by omega) ?_; intro v1 w1 ho hb hg hat; obtain ⟨Av, cv, e7⟩ := Kd.R_slice ho; subst e7; rw [List.length_append] at ho; have hI := blk_grown HBK.out hg (Kd.R_ne HRW.out HBK.out (by decide)); have hcI := blk_cell hI 0; have hfI := blk_frozen hI 0; have HI := Aside0.mk hI; have HO := Aside0.mk ho; have HB := Aside0.mk hb; have HG := Aside0.mk hg; clear hI ho hb hg hat))
  go_ret
  exact ⟨rfl, ⟨hge, by rw [List.length_append]; exact hm, _, blk_set HI.out 0 _, Kd.R_set HO.out HI.out (by decide) _ _⟩, HB.out.setCell hge _, (Kept.of_grown HG.out (Kept.refl w _) (fun k hk => .inl (.inl (HOK.out k hk)))).setCell (.inl (.inr rfl)) _⟩
set_option maxHeartbeats 1600000 in
set_option maxRecDepth 100000 in
theorem Put_good {base g : Nat} {ok : Nat → Prop} {bs more : List Int} {w : World} (h : WtAt base g ok bs w) (A : Option Addr) (c : Nat) (hr : Kd.C (Kd.int .u8) w A more.length more) (hm : bs.length + more.length ≤ 1048576) : Calls Try.prog 39 #[.pointer (some ⟨g, 0, none⟩), .slice A more.length c] w fun e w' => e = .returned (.int .i64 0) ∧ WtAt base g (fun k => ok k ∨ w.heap.size ≤ k) (bs ++ more) w' ∧ Below base w w' ∧ Kept w w' (fun k => ok k ∨ k = g) := by
  have H := Aside0.mk h
  have HR := Aside0.mk hr
  have HM := Aside0.mk hm
  clear h hr hm
  go_enter Try.func39, Try.ntmps39
  go_wp2_with fail
  refine (ready_wt H.out).mono ?_
  rintro e w1 ⟨rfl, k, rfl⟩
  go_wp2_with fail
  refine (put_good (H.out.drewN k) A c (Kd.C_drewN HR.out k) HM.out).mono ?_
  rintro e w2 ⟨rfl, h1, h2, h3⟩
  have H1 := Aside0.mk h1
  have H2 := Aside0.mk h2
  have H3 := Aside0.mk h3
  clear h1 h2 h3
  go_wp2
  go_ret
  exact ⟨rfl, H1.out, (pw_below_drewN (Below.refl _ _) k).trans H2.out, H3.out⟩
def byt (n s : Int) : Int := n % 4294967296 / s % 256
theorem C_of_block {W : World} {gb : Nat} {cs : Array Value} {t : TypeId} {xs : List Int} (h : W.heap[gb]? = some (.cells cs t (0, 0))) (hl : xs.length ≤ 9223372036854775807) (hx : ∀ (j : Nat) (p : Int), xs[j]? = some p → cs[j]? = some (.int .u8 p)) : Kd.C (Kd.int .u8) W (some ⟨gb, 0, none⟩) xs.length xs :=
  ⟨rfl, hl, fun _ => ⟨⟨gb, 0, none⟩, rfl, fun j p hj => ⟨[.int .u8 p], rfl, rfl, fun i u hu => by
    cases i with
    | zero =>
      obtain rfl := Option.some.inj hu
      have h2 := (blk_cell h j).trans (hx j p hj)
      rcases Nat.eq_zero_or_pos j with rfl | hj0
      · simpa [Addr.add, show (Kd.int .u8).sz = 1 from rfl] using h2
      · have : ¬ j = 0 := by omega
        simpa [Addr.add, show (Kd.int .u8).sz = 1 from rfl, this] using h2
    | succ i => cases hu⟩⟩⟩
set_option maxHeartbeats 1600000 in
set_option maxRecDepth 100000 in
theorem wnumber_good1 {base g : Nat} {ok : Nat → Prop} {bs : List Int} {w : World} (h : WtAt base g ok bs w) (n lo hi : Int) (h1 : lo ≤ n) (h2 : n ≤ hi) : Calls Try.prog 65 #[.pointer (some ⟨g, 0, none⟩), .int .i64 n, .int .i64 lo, .int .i64 hi, .int .i64 1] w fun e w' => (bs.length + 1 ≤ 1048576 → e = .returned (.int .i64 0) ∧ WtAt base g (fun k => ok k ∨ w.heap.size ≤ k) (bs ++ [byt n 1]) w' ∧ Below base w w' ∧ Kept w w' (fun k => ok k ∨ k = g)) ∧ (1048576 < bs.length + 1 → e = .returned (.int .i64 7) ∧ Below w.heap.size w w') := by
  have H := Aside0.mk h
  have HBS : Aside0 (base ≤ w.heap.size) := ⟨by obtain ⟨v, h8, _⟩ := h.now; have := blk_lt h8; have := h.ge; omega⟩
  clear h
  have c1b : decide (n < lo) = false := decide_eq_false (by omega)
  have c2b : decide (hi < n) = false := decide_eq_false (by omega)
  clear h1 h2
  go_enter Try.func65, Try.ntmps65
  go_wp2_with fail
  refine (ready_wt H.out).mono ?_
  rintro e w1 ⟨rfl, m, hw1⟩
  have H1 := H.out.drewN m
  have hb1 := pw_below_drewN (Below.refl w.heap.size w) m
  rw [← hw1] at H1 hb1
  have h3 := blk_new w1 (.cells #[.int .u8 0, .int .u8 0, .int .u8 0, .int .u8 0] 126)
  have h4 := H1.step (below_alloc (Below.refl w1.heap.size w1) (.cells #[.int .u8 0, .int .u8 0, .int .u8 0, .int .u8 0] 126))
  have h5 := below_alloc hb1 (.cells #[.int .u8 0, .int .u8 0, .int .u8 0, .int .u8 0] 126)
  have HGB : Aside0 (w.heap.size ≤ w1.heap.size) := ⟨hb1.size⟩
  clear hw1 H1 hb1
  go_wp2
  generalize w1.alloc (.cells #[.int .u8 0, .int .u8 0, .int .u8 0, .int .u8 0] 126) = w2 at h3 h4 h5 ⊢
  have H3 := Aside0.mk h3
  have H4 := Aside0.mk h4
  have H5 := Aside0.mk h5
  clear h3 h4 h5 H
  generalize w1.heap.size = gb at H3 HGB ⊢
  go_loopw [27] (fun v27 wr => ((v27 = .int .i64 0 ∧ Aside0 (wr.heap[gb]? = some (.cells #[.int .u8 0, .int .u8 0, .int .u8 0, .int .u8 0] 126 (0, 0)))) ∨ (v27 = .int .i64 1 ∧ Aside0 (wr.heap[gb]? = some (.cells #[.int .u8 (byt n 1), .int .u8 0, .int .u8 0, .int .u8 0] 126 (0, 0))))) ∧ Aside0 (WtAt base g ok bs wr) ∧ Aside0 (Below w.heap.size w wr)) (fun v27 _ => (4 - intOf v27).toNat)
  case atStart => exact ⟨.inl ⟨rfl, H3⟩, H4, H5⟩
  case round =>
    obtain ⟨⟨rfl, H3⟩ | ⟨rfl, H3⟩, H4, H5⟩ := hrel
    · have hc := blk_cell H3.out 0
      have hf := blk_frozen H3.out 0
      have hne : g ≠ gb := by
        obtain ⟨v, h8, _⟩ := H4.out.now
        exact blk_ne h8 H3.out (by decide)
      have HNE := Aside0.mk hne
      clear hne
      go_wp2
      refine ⟨⟨.inr (⟨rfl, ⟨blk_put H3.out 0 _ (by first | (simp [byt]; done) | (simp [byt]; omega))⟩⟩), ⟨?_⟩, ⟨H5.out.setCell HGB.out _⟩⟩, by simp [intOf]⟩
      obtain ⟨q1, q2, v, h8, h9⟩ := H4.out
      exact ⟨q1, q2, v, blk_far h8 (by simpa using HNE.out) _, Kd.R_set h9 H3.out (by decide) _ _⟩
    · have hC : Kd.C (Kd.int .u8) wr (some ⟨gb, 0, none⟩) [byt n 1].length [byt n 1] := C_of_block H3.out (by simp) (fun j p hj => by
        have : j = 0 := by
          have := (List.getElem?_eq_some_iff.1 hj).1
          simp at this
          omega
        rcases this with rfl <;> simpa using hj)
      have HCC := Aside0.mk hC
      clear hC
      go_wp2_with fail
      by_cases d1 : bs.length + 1 ≤ 1048576
      · refine (put_good H4.out (some ⟨gb, 0, none⟩) 4 HCC.out d1).mono ?_
        rintro e w3 ⟨rfl, k1, k2, k3⟩
        have K1 := Aside0.mk (k1.mono (fun k hk => hk.imp id (Nat.le_trans H5.out.size)))
        have K2 := Aside0.mk (Below.trans (H5.out.mono HBS.out) k2)
        have K3 := Aside0.mk ((Kept.of_below H5.out (fun k => ok k ∨ k = g)).then_ k3 (fun k hk => .inl hk))
        clear k1 k2 k3
        go_wp2
        go_ret
        exact ⟨fun _ => ⟨rfl, K1.out, K2.out, K3.out⟩, fun h => by omega⟩
      · refine (put_full H4.out (some ⟨gb, 0, none⟩) 1 4 (by omega)).mono ?_
        rintro e w3 ⟨rfl, m3, rfl⟩
        go_wp2
        go_ret
        exact ⟨fun h => absurd h d1, fun _ => ⟨rfl, pw_below_drewN H5.out m3⟩⟩
set_option maxHeartbeats 1600000 in
set_option maxRecDepth 100000 in
theorem wnumber_good2 {base g : Nat} {ok : Nat → Prop} {bs : List Int} {w : World} (h : WtAt base g ok bs w) (n lo hi : Int) (h1 : lo ≤ n) (h2 : n ≤ hi) : Calls Try.prog 65 #[.pointer (some ⟨g, 0, none⟩), .int .i64 n, .int .i64 lo, .int .i64 hi, .int .i64 2] w fun e w' => (bs.length + 2 ≤ 1048576 → e = .returned (.int .i64 0) ∧ WtAt base g (fun k => ok k ∨ w.heap.size ≤ k) (bs ++ [byt n 256, byt n 1]) w' ∧ Below base w w' ∧ Kept w w' (fun k => ok k ∨ k = g)) ∧ (1048576 < bs.length + 2 → e = .returned (.int .i64 7) ∧ Below w.heap.size w w') := by
  have H := Aside0.mk h
  have HBS : Aside0 (base ≤ w.heap.size) := ⟨by obtain ⟨v, h8, _⟩ := h.now; have := blk_lt h8; have := h.ge; omega⟩
  clear h
  have c1b : decide (n < lo) = false := decide_eq_false (by omega)
  have c2b : decide (hi < n) = false := decide_eq_false (by omega)
  clear h1 h2
  go_enter Try.func65, Try.ntmps65
  go_wp2_with fail
  refine (ready_wt H.out).mono ?_
  rintro e w1 ⟨rfl, m, hw1⟩
  have H1 := H.out.drewN m
  have hb1 := pw_below_drewN (Below.refl w.heap.size w) m
  rw [← hw1] at H1 hb1
  have h3 := blk_new w1 (.cells #[.int .u8 0, .int .u8 0, .int .u8 0, .int .u8 0] 126)
  have h4 := H1.step (below_alloc (Below.refl w1.heap.size w1) (.cells #[.int .u8 0, .int .u8 0, .int .u8 0, .int .u8 0] 126))
  have h5 := below_alloc hb1 (.cells #[.int .u8 0, .int .u8 0, .int .u8 0, .int .u8 0] 126)
  have HGB : Aside0 (w.heap.size ≤ w1.heap.size) := ⟨hb1.size⟩
  clear hw1 H1 hb1
  go_wp2
  generalize w1.alloc (.cells #[.int .u8 0, .int .u8 0, .int .u8 0, .int .u8 0] 126) = w2 at h3 h4 h5 ⊢
  have H3 := Aside0.mk h3
  have H4 := Aside0.mk h4
  have H5 := Aside0.mk h5
  clear h3 h4 h5 H
  generalize w1.heap.size = gb at H3 HGB ⊢
  go_loopw [27] (fun v27 wr => ((v27 = .int .i64 0 ∧ Aside0 (wr.heap[gb]? = some (.cells #[.int .u8 0, .int .u8 0, .int .u8 0, .int .u8 0] 126 (0, 0)))) ∨ (v27 = .int .i64 1 ∧ Aside0 (wr.heap[gb]? = some (.cells #[.int .u8 (byt n 256), .int .u8 0, .int .u8 0, .int .u8 0] 126 (0, 0)))) ∨ (v27 = .int .i64 2 ∧ Aside0 (wr.heap[gb]? = some (.cells #[.int .u8 (byt n 256), .int .u8 (byt n 1), .int .u8 0, .int .u8 0] 126 (0, 0))))) ∧ Aside0 (WtAt base g ok bs wr) ∧ Aside0 (Below w.heap.size w wr)) (fun v27 _ => (4 - intOf v27).toNat)
  case atStart => exact ⟨.inl ⟨rfl, H3⟩, H4, H5⟩
  case round =>
    obtain ⟨⟨rfl, H3⟩ | ⟨rfl, H3⟩ | ⟨rfl, H3⟩, H4, H5⟩ := hrel
    · have hc := blk_cell H3.out 0
      have hf := blk_frozen H3.out 0
      have hne : g ≠ gb := by
        obtain ⟨v, h8, _⟩ := H4.out.now
        exact blk_ne h8 H3.out (by decide)
      have HNE := Aside0.mk hne
      clear hne
      go_wp2
      refine ⟨⟨.inr (.inl (⟨rfl, ⟨blk_put H3.out 0 _ (by first | (simp [byt]; done) | (simp [byt]; omega))⟩⟩)), ⟨?_⟩, ⟨H5.out.setCell HGB.out _⟩⟩, by simp [intOf]⟩
      obtain ⟨q1, q2, v, h8, h9⟩ := H4.out
      exact ⟨q1, q2, v, blk_far h8 (by simpa using HNE.out) _, Kd.R_set h9 H3.out (by decide) _ _⟩
    · have hc := blk_cell H3.out 1
      have hf := blk_frozen H3.out 1
      have hne : g ≠ gb := by
        obtain ⟨v, h8, _⟩ := H4.out.now
        exact blk_ne h8 H3.out (by decide)
      have HNE := Aside0.mk hne
      clear hne
      go_wp2
      refine ⟨⟨.inr (.inr (⟨rfl, ⟨blk_put H3.out 1 _ (by first | (simp [byt]; done) | (simp [byt]; omega))⟩⟩)), ⟨?_⟩, ⟨H5.out.setCell HGB.out _⟩⟩, by simp [intOf]⟩
      obtain ⟨q1, q2, v, h8, h9⟩ := H4.out
      exact ⟨q1, q2, v, blk_far h8 (by simpa using HNE.out) _, Kd.R_set h9 H3.out (by decide) _ _⟩
    · have hC : Kd.C (Kd.int .u8) wr (some ⟨gb, 0, none⟩) [byt n 256, byt n 1].length [byt n 256, byt n 1] := C_of_block H3.out (by simp) (fun j p hj => by
        have : j = 0 ∨ j = 1 := by
          have := (List.getElem?_eq_some_iff.1 hj).1
          simp at this
          omega
        rcases this with rfl | rfl <;> simpa using hj)
      have HCC := Aside0.mk hC
      clear hC
      go_wp2_with fail
      by_cases d1 : bs.length + 2 ≤ 1048576
      · refine (put_good H4.out (some ⟨gb, 0, none⟩) 4 HCC.out d1).mono ?_
        rintro e w3 ⟨rfl, k1, k2, k3⟩
        have K1 := Aside0.mk (k1.mono (fun k hk => hk.imp id (Nat.le_trans H5.out.size)))
        have K2 := Aside0.mk (Below.trans (H5.out.mono HBS.out) k2)
        have K3 := Aside0.mk ((Kept.of_below H5.out (fun k => ok k ∨ k = g)).then_ k3 (fun k hk => .inl hk))
        clear k1 k2 k3
        go_wp2
        go_ret
        exact ⟨fun _ => ⟨rfl, K1.out, K2.out, K3.out⟩, fun h => by omega⟩
      · refine (put_full H4.out (some ⟨gb, 0, none⟩) 2 4 (by omega)).mono ?_
        rintro e w3 ⟨rfl, m3, rfl⟩
        go_wp2
        go_ret
        exact ⟨fun h => absurd h d1, fun _ => ⟨rfl, pw_below_drewN H5.out m3⟩⟩
set_option maxHeartbeats 1600000 in
set_option maxRecDepth 100000 in
theorem wByte_good {base g : Nat} {ok : Nat → Prop} {bs : List Int} {w : World} (h : WtAt base g ok bs w) (n : Int) (h1 : 0 ≤ n) (h2 : n ≤ 255) : Calls Try.prog 62 #[.pointer (some ⟨g, 0, none⟩), .int .i64 n] w fun e w' => (bs.length + 1 ≤ 1048576 → e = .returned (.int .i64 0) ∧ WtAt base g (fun k => ok k ∨ w.heap.size ≤ k) (bs ++ [byt n 1]) w' ∧ Below base w w' ∧ Kept w w' (fun k => ok k ∨ k = g)) ∧ (1048576 < bs.length + 1 → e = .returned (.int .i64 7) ∧ Below w.heap.size w w') := by
  have HN := Aside0.mk (wnumber_good1 h n 0 255 h1 h2)
  clear h h1 h2
  go_enter Try.func62, Try.ntmps62
  go_wp2_with fail
  refine HN.out.mono ?_
  rintro e w1 ⟨k1, k2⟩
  by_cases d1 : bs.length + 1 ≤ 1048576
  · obtain ⟨rfl, k3⟩ := k1 d1
    have K3 := Aside0.mk k3
    clear k1 k2 k3
    go_wp2
    go_ret
    exact ⟨fun _ => ⟨rfl, K3.out⟩, fun h => by omega⟩
  · obtain ⟨rfl, k3⟩ := k2 (by omega)
    have K3 := Aside0.mk k3
    clear k1 k2 k3
    go_wp2
    go_ret
    exact ⟨fun h => absurd h d1, fun _ => ⟨rfl, K3.out⟩⟩
set_option maxHeartbeats 1600000 in
set_option maxRecDepth 100000 in
theorem wWord_good {base g : Nat} {ok : Nat → Prop} {bs : List Int} {w : World} (h : WtAt base g ok bs w) (n : Int) (h1 : 0 ≤ n) (h2 : n ≤ 65535) : Calls Try.prog 38 #[.pointer (some ⟨g, 0, none⟩), .int .i64 n] w fun e w' => (bs.length + 2 ≤ 1048576 → e = .returned (.int .i64 0) ∧ WtAt base g (fun k => ok k ∨ w.heap.size ≤ k) (bs ++ [byt n 256, byt n 1]) w' ∧ Below base w w' ∧ Kept w w' (fun k => ok k ∨ k = g)) ∧ (1048576 < bs.length + 2 → e = .returned (.int .i64 7) ∧ Below w.heap.size w w') := by
  have HN := Aside0.mk (wnumber_good2 h n 0 65535 h1 h2)
  clear h h1 h2
  go_enter Try.func38, Try.ntmps38
  go_wp2_with fail
  refine HN.out.mono ?_
  rintro e w1 ⟨k1, k2⟩
  by_cases d1 : bs.length + 2 ≤ 1048576
  · obtain ⟨rfl, k3⟩ := k1 d1
    have K3 := Aside0.mk k3
    clear k1 k2 k3
    go_wp2
    go_ret
    exact ⟨fun _ => ⟨rfl, K3.out⟩, fun h => by omega⟩
  · obtain ⟨rfl, k3⟩ := k2 (by omega)
    have K3 := Aside0.mk k3
    clear k1 k2 k3
    go_wp2
    go_ret
    exact ⟨fun h => absurd h d1, fun _ => ⟨rfl, K3.out⟩⟩
def nameBytes (s : ByteArray) : List Int := [(s.size : Int) % 256] ++ bytesOf s
theorem R_of_nums {w : World} {base : Nat} {v : Value} {xs : List Int} (h : w.ownsRow base 5 1 v xs.length (nums .u8 xs)) : Kd.R (Kd.int .u8) 5 w base (fun _ => True) v xs := ⟨fun _ _ => trivial, nums .u8 xs, h, Kd.reps_scalar (enc := Value.int .u8) xs⟩
theorem one_own (W : World) (x : Int) : (W.alloc (.cells #[.int .u8 x] 5)).ownsRow W.heap.size 5 1 (.slice (some ⟨W.heap.size, 0, none⟩) 1 1) [x].length (nums .u8 [x]) :=
  ⟨rfl, .inr ⟨W.heap.size, 1, _, rfl, Nat.le_refl _, blk_new _ _, Nat.le_refl _, by decide, rfl, rfl⟩⟩
set_option maxHeartbeats 1600000 in
set_option maxRecDepth 100000 in
theorem wName_good {base g : Nat} {ok : Nat → Prop} {bs : List Int} {w : World} (h : WtAt base g ok bs w) (k : Nat) (s : ByteArray) (hs : wire_IsName.f k s = some true) (hl : s.size ≤ 24) : Calls Try.prog 63 #[.pointer (some ⟨g, 0, none⟩), .string s] w fun e w' => (bs.length + (s.size + 1) ≤ 1048576 → e = .returned (.int .i64 0) ∧ WtAt base g (fun k => ok k ∨ w.heap.size ≤ k) (bs ++ nameBytes s) w' ∧ Below base w w' ∧ Kept w w' (fun k => ok k ∨ k = g)) ∧ (1048576 < bs.length + (s.size + 1) → e = .returned (.int .i64 7) ∧ Below w.heap.size w w') := by
  have H := Aside0.mk h
  have HS := Aside0.mk hs
  have HL := Aside0.mk hl
  have HBS : Aside0 (base ≤ w.heap.size) := ⟨by obtain ⟨v, h8, _⟩ := h.now; have := blk_lt h8; have := h.ge; omega⟩
  clear h hs hl
  go_enter Try.func63, Try.ntmps63
  go_wp2_with fail
  refine (ready_wt H.out).mono ?_
  rintro e w1 ⟨rfl, m, rfl⟩
  go_wp2_with fail
  refine (wire_IsName.calls k s true _ HS.out).mono ?_
  rintro e w2 ⟨rfl, m2, hm⟩
  have h1 := (H.out.drewN m).drewN m2
  have hb1 := pw_below_drewN (pw_below_drewN (Below.refl w.heap.size w) m) m2
  rw [← hm] at h1 hb1
  have H1 := Aside0.mk h1
  have HB1 := Aside0.mk hb1
  clear hm h1 hb1 H
  go_wp2_with (first | ((with_reducible refine gate_builtin (b := .append) (xs := #[.tmp 17, .tmp 18]) rfl ?_); at_builtin; refine print_append_str (w0 := w2) w2.heap.size rfl (.tmp 17) (.tmp 18) 23 9 5 rfl Try.underlying23 Try.underlying9 info5 (.slice (some ⟨w2.heap.size, 0, none⟩) 1 1) [(s.size : Int) % 256] s rfl rfl ?aO ?aB ?aS ?aL ?_; (case aO => exact one_own w2 _); (case aB => exact below_alloc (Below.refl _ _) _); (case aS => simp); (case aL => have := HL.out; simp; omega); intro v1 w3 hown hb hg; have hR : Kd.R (Kd.int .u8) 5 w3 w2.heap.size (fun _ => True) v1 (nameBytes s) := R_of_nums hown; obtain ⟨Av, cv, e7⟩ := Kd.R_slice hR; subst e7; have HR3 := Aside0.mk hR; have HB3 := Aside0.mk hb; clear hown hb hg hR))
  have hnl : (nameBytes s).length = s.size + 1 := by unfold nameBytes; rw [List.length_append, bytesOf_length]; simp; omega
  have H3 := H1.out.step HB3.out
  have HB4 := Aside0.mk (below_step HB1.out HB3.out)
  by_cases d1 : bs.length + (s.size + 1) ≤ 1048576
  · refine (put_good H3 Av cv (Kd.R_reads' HR3.out).2.2 (by rw [hnl]; exact d1)).mono ?_
    rintro e w4 ⟨rfl, k1, k2, k3⟩
    have K1 := Aside0.mk (k1.mono (fun k hk => hk.imp id (Nat.le_trans HB4.out.size)))
    have K2 := Aside0.mk (Below.trans (HB4.out.mono HBS.out) k2)
    have K3 := Aside0.mk ((Kept.of_below HB4.out (fun k => ok k ∨ k = g)).then_ k3 (fun k hk => .inl hk))
    clear k1 k2 k3 hnl
    go_wp2
    go_ret
    exact ⟨fun _ => ⟨rfl, K1.out, K2.out, K3.out⟩, fun h => by omega⟩
  · refine (put_full H3 Av (nameBytes s).length cv (by omega)).mono ?_
    rintro e w4 ⟨rfl, m3, rfl⟩
    clear hnl
    go_wp2
    go_ret
    exact ⟨fun h => absurd h d1, fun _ => ⟨rfl, pw_below_drewN HB4.out m3⟩⟩

end Go.Proofs.Ytfakdphkklclgaa.P

end

section
namespace Go.Proofs.Ytfakdphkklclgaa.P
open Go.RowKit Go.Proofs.YtfakdphkklclgaaW.PrintWords Go.Proofs.YtfakdphkklclgaaW.PrintLast Go.Proofs.YtfakdphkklclgaaW.PrintMore
attribute [local go_sem] max2_int min2_int max_two min_two max_three min_three max_four min_four
set_option linter.unusedVariables false
set_option linter.unusedSimpArgs false
section
variable {P : Program}
theorem run_append2 (w : World) (base : Nat) (t ty e : TypeId) (i : TypeInfo) (z : Value) (ht : P.underlying t = some (.slice e)) (hi : P.info? e = some i) (hz : i.zero = some z) (hzs : z.cells.size = i.size) (hsz : 0 < i.size)
    (v : Value) (n : Nat) (xs : List Value) (hown : w.ownsRow base e i.size v n xs) (a : Addr) (c : Nat) (news : List Value) (hl : news.length = 1 * i.size) (hnews : ∀ j u, news[j]? = some u → w.cell? (a.add j) = some u) (h1 : ∀ u ∈ news, u.oneCell' = true)
    (h63 : n + 1 ≤ maxLen) (hb1 : i.bytes ≤ 140737488355328) (hfit : Builtin.nextslicecap (n + 1) n * i.bytes ≤ 281474976710656) (hbase : base ≤ w.heap.size) :
    ∃ v' w', (Builtin.append_ #[t, t] ty #[v, .slice (some a) 1 c]).run P w = .ok v' w' ∧ w'.ownsRow base e i.size v' (n + 1) (xs ++ news) ∧ w.grownBy w' v.ownBlock ∧ (v'.ownBlock = v.ownBlock ∨ (v'.ownBlock = some w.heap.size ∧ w.grownBy w' none)) := by
  rcases hown.2 with ⟨rfl, rfl⟩ | ⟨g, cap, cur, rfl, hbg, hg, hnc, hcm, hcs, htake⟩
  · obtain ⟨v', w', h2, h3, h4, _, h5⟩ := run_append_own_at (P := P) w base t ty e i z i.size i.bytes ht hi hz rfl rfl hzs hsz _ 0 xs hown a 1 c news hl hnews h1 (by omega) (by omega) hbase
    exact ⟨v', w', h2, h3, h4, h5.imp id (fun h => ⟨h, h4⟩)⟩
  · have hsmall : n + 1 ≤ 9223372036854775807 := by simp only [maxLen] at h63; omega
    have hlen : (xs ++ news).length = (n + 1) * i.size := by rw [List.length_append, hown.1, hl, Nat.add_mul]
    by_cases hroom : n + 1 ≤ cap
    · have hfit2 : n * i.size + news.length ≤ cur.size := by rw [hl, hcs, ← Nat.add_mul]; exact Nat.mul_le_mul_right _ hroom
      have hr := run_append_room (P := P) w t ty e i ht hi g n cap cur hg a 1 c news hl hnews h1 hroom hfit2
      refine ⟨_, _, hr, ⟨hlen, .inr ⟨g, cap, _, rfl, hbg, setRow_heap w g cur _ e _ hg, hroom, hcm, ?_, ?_⟩⟩, ⟨rfl, rfl, rfl, by simp, fun k _ hk => setRow_other w g k _ (fun e => hk (by simp [Value.ownBlock, e]))⟩, Or.inl rfl⟩
      · simp only [List.size_toArray, List.length_append, List.length_take, List.length_drop, Array.length_toList]
        omega
      · rw [htake, ← hlen]
        exact List.take_left
    · have hcap : cap = n := by omega
      subst hcap
      have holds : ∀ j u, xs[j]? = some u → w.cell? ((⟨g, 0, none⟩ : Addr).add j) = some u := hown.cells (g := g) rfl
      have hr := run_append_grow (P := P) w t ty e i z ht hi hz ⟨g, 0, none⟩ cap cap xs hown.1 holds a 1 c news hl hnews (by omega) (by omega) hfit
      have hge := grownCap_ge w (cap + 1) cap e
      have hcm2 : grownCap w (cap + 1) cap e ≤ maxLen := grownCap_le_maxLen w (cap + 1) cap e h63
      refine ⟨_, _, hr, ⟨hlen, .inr ⟨w.heap.size, _, _, rfl, hbase, heap_alloc_new w.drew _, hge, hcm2, ?_, ?_⟩⟩, ⟨rfl, rfl, rfl, by simp, fun k hk _ => heap_alloc_old w.drew _ hk⟩, Or.inr ⟨rfl, ⟨rfl, rfl, rfl, by simp, fun k hk _ => heap_alloc_old w.drew _ hk⟩⟩⟩
      · simp only [Array.size_append, List.size_toArray, size_zeroCells, hzs, hown.1, hl, ← Nat.add_mul]
        congr 1
        omega
      · simp only [Array.toList_append, List.append_assoc]
        rw [← List.append_assoc, ← hlen]
        exact List.take_left
section
variable {ops : Array Oper} {rest : List Oper} {o : Oper} {a : Act} {Q : Exit → Act → World → Prop}
theorem R_append2 {α : Type} (d : Kd α) {W : World} (base : Nat) (hgd : o.guard = none) (s x : Operand) (t e : TypeId) (z : Value) (bytes : Nat)
    (ho : o.op = .call { callee := .builtin .append, args := #[s, x], argTypes := #[t, t] })
    (ht : P.underlying t = some (.slice e)) (hinfo : (P.info? e).map (fun i => (i.zero, i.size, i.bytes)) = some (some z, d.sz, bytes)) (hz : z.cells.size = d.sz) (hs0 : 0 < d.sz) (hb1 : bytes ≤ 140737488355328)
    (v : Value) (xs : List α) (p : α) (cs : List Value) (ok okp : Nat → Prop) (hs : a.eval s = v) (hx : a.eval x = .slice (some ⟨W.heap.size, 0, none⟩) 1 1) (hp : d.M W base okp p cs) (hokp : ∀ k, okp k → ok k ∧ some k ≠ v.ownBlock) (hfresh : ∀ k, W.heap.size ≤ k → ok k)
    (HO : d.R e W base ok v xs) (hbase : base ≤ W.heap.size) (hl : xs.length + 1 ≤ maxLen) (hfit : Builtin.nextslicecap (xs.length + 1) xs.length * bytes ≤ 281474976710656)
    (h : ∀ v1 w1, d.R e w1 base ok v1 (xs ++ [p]) → Below base W w1 → W.grownBy w1 v.ownBlock → (v1.ownBlock = v.ownBlock ∨ ((∃ b, v1.ownBlock = some b ∧ W.heap.size ≤ b) ∧ W.grownBy w1 none)) → wpList P ops Q rest (a.put o.dst v1) w1) :
    wpList P ops Q (o :: rest) a (W.alloc (.cells cs.toArray e)) := by
  obtain ⟨h0, inner, hown, hr⟩ := HO
  obtain ⟨i0, hi, hzz⟩ := Option.map_eq_some_iff.1 hinfo
  simp only [Prod.mk.injEq] at hzz
  obtain ⟨hz0, hz1, hz2⟩ := hzz
  have hcl : cs.length = d.sz := d.K_len (d.K_of_M hp)
  rw [← hz1] at hown hz hs0 hcl
  refine wpList_plain hgd fun K hK => ?_
  obtain ⟨v1, w1, hrun, hown1, hg, hat⟩ := run_append2 (P := P) (W.alloc (.cells cs.toArray e)) base t o.type e i0 z ht hi hz0 hz hs0 v xs.length inner (hown.alloc _) ⟨W.heap.size, 0, none⟩ 1 cs (by rw [hcl]; simp)
    (by simpa using World.news_of_block (cs := cs.toArray) (t := e) (fr := (0, 0)) (heap_alloc_new W (.cells cs.toArray e))) (d.K_one (d.K_of_M hp)) hl (by rw [hz2]; exact hb1) (by rw [hz2]; exact hfit) (by simp; omega)
  unfold Oper.wp execOp
  simp only [ho, resolve, invoke, builtin, Sem.run_bind, Sem.run_pure, Result.andThen_ok, List.map_toArray, List.map_cons, List.map_nil, hs, hx, hrun]
  have hg2 : W.grownBy w1 v.ownBlock := World.grownBy.trans (World.grownBy_alloc W _ _) hg
  have hat2 : v1.ownBlock = v.ownBlock ∨ ((∃ b, v1.ownBlock = some b ∧ W.heap.size ≤ b) ∧ W.grownBy w1 none) := by
    rcases hat with hat | hat
    · exact .inl hat
    · exact .inr ⟨⟨_, hat.1, by simp⟩, World.grownBy.trans (World.grownBy_alloc W _ _) hat.2⟩
  rw [hz1] at hown1 hown
  exact hK _ _ (h v1 w1 (Kd.R_appended h0 hr hp hokp hfresh hown1 hg2 (hat2.imp id (fun h => h.1))) (((Below.refl base W).alloc hbase _).grown hg (by simp; omega) (own_base hown)) hg2 hat2)
end
end
end Go.Proofs.Ytfakdphkklclgaa.P

end

section
namespace Go.Proofs.Ytfakdphkklclgaa.P
open Go.RowKit Go.Proofs.YtfakdphkklclgaaW.PrintWords Go.Proofs.YtfakdphkklclgaaW.PrintLast Go.Proofs.YtfakdphkklclgaaW.PrintMore
attribute [local go_sem] max2_int min2_int max_two min_two max_three min_three max_four min_four
set_option linter.unusedVariables false
set_option linter.unusedSimpArgs false
structure Hd where
  A : Option Addr
  n : Nat
  c : Nat
def Hd.v (h : Hd) : Value := .slice h.A h.n h.c
def hz : Hd := ⟨none, 0, 0⟩
def khd : Kd Hd := Kd.scalar Hd.v (fun _ => rfl)
def mrk (i : Nat) : Int := ((i % 250 : Nat) : Int) + 1
def rowH (n : Nat) (hd : Nat → Hd) : List Hd := (List.range n).map hd
theorem rowH_len (n : Nat) (hd : Nat → Hd) : (rowH n hd).length = n := by simp [rowH]
theorem rowH_at {n : Nat} (hd : Nat → Hd) {i : Nat} (hi : i < n) : rdOf hz (rowH n hd) (i : Int) = hd i := by
  simp [rdOf, rowH, List.getD_eq_getElem?_getD, hi]
theorem rowH_succ (n : Nat) (hd : Nat → Hd) : rowH (n + 1) hd = rowH n hd ++ [hd n] := by simp [rowH, List.range_succ]
theorem rowH_same {n : Nat} {f f2 : Nat → Hd} (h : ∀ i, i < n → f2 i = f i) : rowH n f2 = rowH n f := List.map_congr_left fun i hi => h i (List.mem_range.1 hi)
structure Grp (k : IntKind) (te ts : TypeId) (W : World) (base : Nat) (G : Nat → Prop) (v : Value) (n : Nat) (hd : Nat → Hd) (i m : Nat) : Prop where
  row : khd.R ts W base G v (rowH n hd)
  own : ∀ j, j < n → ∃ xs, Kd.R (Kd.int k) te W base G (hd j).v xs ∧ ∀ t, t < xs.length → (j < i ∨ (j = i ∧ t < m)) → xs[t]? = some (mrk j)
  ne : ∀ j j', j < n → j' < n → j ≠ j' → ∀ b, (hd j).v.ownBlock = some b → (hd j').v.ownBlock ≠ some b
theorem Grp.kept {k : IntKind} {te ts : TypeId} {W W1 : World} {base : Nat} {G S : Nat → Prop} {v : Value} {n : Nat} {hd : Nat → Hd} {i m : Nat} (h : Grp k te ts W base G v n hd i m) (hk : Kept W W1 S) (hS : ∀ b, G b → ¬ S b) : Grp k te ts W1 base G v n hd i m :=
  ⟨Kd.R_kept h.row hk hS, fun j hj => by
    obtain ⟨xs, h1, h2⟩ := h.own j hj
    exact ⟨xs, Kd.R_kept h1 hk hS, h2⟩, h.ne⟩
theorem Grp.step {k : IntKind} {te ts : TypeId} {W W1 : World} {base : Nat} {G : Nat → Prop} {v : Value} {n : Nat} {hd : Nat → Hd} {i m : Nat} (h : Grp k te ts W base G v n hd i m) (hb : Below W.heap.size W W1) : Grp k te ts W1 base G v n hd i m := h.kept (S := fun _ => False) (Kept.of_below hb _) (fun _ _ q => q)
theorem Grp.mono {k : IntKind} {te ts : TypeId} {W : World} {base : Nat} {G G' : Nat → Prop} {v : Value} {n : Nat} {hd : Nat → Hd} {i m : Nat} (h : Grp k te ts W base G v n hd i m) (hG : ∀ b, G b → G' b) : Grp k te ts W base G' v n hd i m :=
  ⟨Kd.R_mono h.row hG, fun j hj => by
    obtain ⟨xs, h1, h2⟩ := h.own j hj
    exact ⟨xs, Kd.R_mono h1 hG, h2⟩, h.ne⟩
theorem Grp.next {k : IntKind} {te ts : TypeId} {W : World} {base : Nat} {G : Nat → Prop} {v : Value} {n : Nat} {hd : Nat → Hd} {i m : Nat} (h : Grp k te ts W base G v n hd i m) (hm : m = (hd i).n) : Grp k te ts W base G v n hd (i + 1) 0 :=
  ⟨h.row, fun j hj => by
    obtain ⟨xs, h1, h2⟩ := h.own j hj
    refine ⟨xs, h1, fun t ht q => h2 t ht ?_⟩
    have h3 := (Kd.R_reads' h1).1
    by_cases e : j = i
    · subst e; right; omega
    · left; omega, h.ne⟩
theorem own_form {k : IntKind} {te : TypeId} {W : World} {base : Nat} {G : Nat → Prop} {h : Hd} {xs : List Int} (hR : Kd.R (Kd.int k) te W base G h.v xs) : h.n = xs.length ∧ ∀ t : Nat, t < h.n → ∃ b, h.A = some ⟨b, 0, none⟩ ∧ G b ∧ base ≤ b ∧ b < W.heap.size ∧ (∃ cells, W.heap[b]? = some (.cells cells te (0, 0))) ∧ h.v.ownBlock = some b := by
  have h3 := (Kd.R_reads' hR).1
  refine ⟨h3, fun t ht => ?_⟩
  obtain ⟨g, cap, e, h4, h5, h6⟩ := Kd.R_form hR (by omega)
  unfold Hd.v at e
  injection e with e1 e2 e3
  have ho : h.v.ownBlock = some g := by unfold Hd.v; rw [e1]; rfl
  exact ⟨g, e1, hR.1 g ho, h4, h5, h6, ho⟩
theorem Grp.put {k : IntKind} {te ts : TypeId} {W : World} {base : Nat} {G : Nat → Prop} {v : Value} {n : Nat} {hd : Nat → Hd} {i m : Nat} (h : Grp k te ts W base G v n hd i m) (ht : te ≠ ts) (hi : i < n) (hm : m < (hd i).n) {b : Nat} (hA : (hd i).A = some ⟨b, 0, none⟩) : Grp k te ts (W.setCell ⟨b, m, none⟩ (.int k (mrk i))) base G v n hd i (m + 1) := by
  obtain ⟨xs, h1, h2⟩ := h.own i hi
  obtain ⟨f1, f2⟩ := own_form h1
  obtain ⟨b', e1, e2, e3, e4, ⟨cells, e5⟩, e6⟩ := f2 m hm
  rw [hA] at e1
  injection e1 with e1
  injection e1 with e1
  subst e1
  have hv : (hd i).v = .slice (some ⟨b, 0, none⟩) (hd i).n (hd i).c := by unfold Hd.v; rw [hA]
  refine ⟨Kd.R_set h.row e5 (fun q hq => by rw [show khd.E = [] from rfl] at hq; rw [List.mem_singleton.1 hq]; exact ht.symm) m _, fun j hj => ?_, h.ne⟩
  by_cases e : j = i
  · subst e
    rw [hv] at h1 ⊢
    have h4 := Kd.R_putn h1 (m : Int) (mrk j)
    rw [Int.toNat_natCast] at h4
    refine ⟨_, h4, fun t ht hq => ?_⟩
    rw [List.length_set] at ht
    rw [List.getElem?_set]
    by_cases e9 : m = t
    · subst e9
      rw [if_pos rfl, if_pos ht]
    · rw [if_neg e9]
      exact h2 t ht (by omega)
  · obtain ⟨ys, h4, h5⟩ := h.own j hj
    have hn := h.ne i j hi hj (fun q => e q.symm) b e6
    exact ⟨ys, Kd.R_mono (Kd.R_far (Kd.R_tight2 rfl h4) (p := ⟨b, m, none⟩) (fun k' hk' q => hn (by rw [← hk'.1, q])) _) (fun _ q => q.2), fun t ht q => h5 t ht (by omega)⟩
theorem mrk_range (i : Nat) : 1 ≤ mrk i ∧ mrk i ≤ 250 := by unfold mrk; omega
theorem mrk_is (i : Nat) (h : i < 9223372036854775807) : provisoplain_mark.f (i : Int) = some (mrk i) := by
  unfold provisoplain_mark.f mrk
  have h1 : Int.tmod (i : Int) 250 = ((i % 250 : Nat) : Int) := rfl
  rw [h1]
  congr 1
  unfold wrap64
  omega
theorem rep_of {xs : List Int} {i : Nat} (h : ∀ t, t < xs.length → xs[t]? = some (mrk i)) : xs = List.replicate xs.length (mrk i) := by
  refine List.ext_getElem? fun t => ?_
  by_cases ht : t < xs.length
  · rw [h t ht, List.getElem?_replicate, if_pos ht]
  · rw [List.getElem?_eq_none (by omega), List.getElem?_replicate, if_neg ht]
theorem Grp.marked {k : IntKind} {te ts : TypeId} {W : World} {base : Nat} {G : Nat → Prop} {v : Value} {n : Nat} {hd : Nat → Hd} {i m : Nat} (h : Grp k te ts W base G v n hd i m) {j : Nat} (hj : j < n) (hji : j < i) : Kd.R (Kd.int k) te W base G (hd j).v (List.replicate (hd j).n (mrk j)) := by
  obtain ⟨xs, h1, h2⟩ := h.own j hj
  have h3 := (Kd.R_reads' h1).1
  have h4 := rep_of (xs := xs) (i := j) (fun t ht => h2 t ht (.inl hji))
  rw [h3, ← h4]
  exact h1
structure ShAt (base : Nat) (F : Nat → Prop) (sh nB nI : Nat) (W : World) : Prop where
  now : ∃ (GB GI : Nat → Prop) (vB vI : Value) (hB hI : Nat → Hd), W.heap[sh]? = some (.cells #[vB, vI] 49 (0, 0)) ∧ Grp .u8 5 23 W base GB vB nB hB 0 0 ∧ Grp .i64 3 73 W base GI vI nI hI 0 0 ∧
    (∀ b, GB b → F b) ∧ (∀ b, GI b → F b) ∧ (∀ b, GB b → ¬ GI b) ∧ (∀ j, j < nB → (hB j).n + 80 ≤ 140737488351400) ∧ (∀ j, j < nI → ((hI j).n + 80) * 8 ≤ 140737488355328)
  fs : F sh
  lt : ∀ b, F b → base ≤ b ∧ b < W.heap.size
theorem Grp.bound {k : IntKind} {te ts : TypeId} {W : World} {base : Nat} {G : Nat → Prop} {v : Value} {n : Nat} {hd : Nat → Hd} {i m : Nat} (h : Grp k te ts W base G v n hd i m) : Grp k te ts W base (fun b => G b ∧ base ≤ b ∧ b < W.heap.size ∧ ∃ cs, W.heap[b]? = some (.cells cs te (0, 0)) ∨ W.heap[b]? = some (.cells cs ts (0, 0))) v n hd i m :=
  ⟨Kd.R_mono (Kd.R_bound h.row) (fun b q => by
    obtain ⟨q1, q2, q3, t, ht, cells, hc⟩ := q
    rw [show khd.E = [] from rfl] at ht
    obtain rfl := List.mem_singleton.1 ht
    exact ⟨q1, q2, q3, cells, .inr hc⟩), fun j hj => by
    obtain ⟨xs, h1, h2⟩ := h.own j hj
    refine ⟨xs, Kd.R_mono (Kd.R_bound h1) (fun b q => ?_), h2⟩
    obtain ⟨q1, q2, q3, t, ht, cells, hc⟩ := q
    rw [show (Kd.int k).E = [] from rfl] at ht
    obtain rfl := List.mem_singleton.1 ht
    exact ⟨q1, q2, q3, cells, .inl hc⟩, h.ne⟩
theorem ShAt.kept {base : Nat} {F S : Nat → Prop} {sh nB nI : Nat} {W W1 : World} (h : ShAt base F sh nB nI W) (hk : Kept W W1 S) (hS : ∀ b, F b → ¬ S b) : ShAt base F sh nB nI W1 := by
  obtain ⟨⟨GB, GI, vB, vI, hB, hI, h1, h2, h3, h4, h5, h6, h7, h8⟩, hf, hl⟩ := h
  exact ⟨⟨GB, GI, vB, vI, hB, hI, blk_kept h1 hk (hS _ hf), h2.kept hk (fun b q => hS b (h4 b q)), h3.kept hk (fun b q => hS b (h5 b q)), h4, h5, h6, h7, h8⟩, hf, fun b q => ⟨(hl b q).1, Nat.lt_of_lt_of_le (hl b q).2 hk.1⟩⟩
theorem ShAt.step {base : Nat} {F : Nat → Prop} {sh nB nI : Nat} {W W1 : World} (h : ShAt base F sh nB nI W) (hb : Below W.heap.size W W1) : ShAt base F sh nB nI W1 := h.kept (S := fun _ => False) (Kept.of_below hb _) (fun _ _ q => q)
end Go.Proofs.Ytfakdphkklclgaa.P

end

section
namespace Go.Proofs.Ytfakdphkklclgaa.P
open Go.RowKit Go.Proofs.YtfakdphkklclgaaW.PrintWords Go.Proofs.YtfakdphkklclgaaW.PrintLast Go.Proofs.YtfakdphkklclgaaW.PrintMore
attribute [local go_sem] max2_int min2_int max_two min_two max_three min_three max_four min_four
set_option linter.unusedVariables false
set_option linter.unusedSimpArgs false
theorem skeyed : Go.Maps.Keyed Try.prog 9 := Go.Maps.string_keyed Try.underlying9
def hdrD (h : Hd) : DataW Unit := match h.A with
  | none => .lit (.bool false)
  | some a => .agg [.lit (.int .i64 (a.block : Int)), .lit (.int .i64 (h.n : Int)), .lit (.int .i64 (h.c : Int))]
def hdrR : Value → Option (DataW Unit × List MemPlace)
  | .slice none 0 0 => some (.lit (.bool false), [])
  | .slice (some ⟨b, 0, none⟩) n c => some (.agg [.lit (.int .i64 (b : Int)), .lit (.int .i64 (n : Int)), .lit (.int .i64 (c : Int))], [])
  | _ => none
def Hd.ok (h : Hd) : Prop := (h.A = none ∧ h.n = 0 ∧ h.c = 0) ∨ ∃ b, h.A = some ⟨b, 0, none⟩
theorem hdrR_of {h : Hd} (hk : h.ok) : hdrR h.v = some (hdrD h, []) := by
  obtain ⟨A, n, c⟩ := h
  rcases hk with ⟨h1, h2, h3⟩ | ⟨b, h1⟩
  · simp only at h1 h2 h3
    subst h1 h2 h3
    rfl
  · simp only at h1
    subst h1
    rfl
theorem hdrR_inv {v : Value} {h : Hd} {ps : List MemPlace} (hk : h.ok) (hv : hdrR v = some (hdrD h, ps)) : v = h.v := by
  obtain ⟨A, n, c⟩ := h
  unfold hdrR at hv
  split at hv
  · rcases hk with ⟨h1, h2, h3⟩ | ⟨b, h1⟩
    · simp only at h1 h2 h3
      subst h1 h2 h3
      rfl
    · simp only at h1
      subst h1
      simp [hdrD] at hv
  · rcases hk with ⟨h1, h2, h3⟩ | ⟨b, h1⟩
    · simp only at h1 h2 h3
      subst h1 h2 h3
      simp [hdrD] at hv
    · simp only at h1
      subst h1
      simp [hdrD] at hv
      obtain ⟨⟨h4, h5, h6⟩, _⟩ := hv
      unfold Hd.v
      simp only
      congr 1 <;> (try congr 1) <;> (try congr 1) <;> omega
  · cases hv
theorem hdrR_inv0 {v : Value} {ps : List MemPlace} (hv : hdrR v = some (.lit (.bool false), ps)) : v = .slice none 0 0 := by
  unfold hdrR at hv
  split at hv
  · rfl
  · simp at hv
  · cases hv
theorem hzero (w : World) : (zeroValue 23).run Try.prog w = .ok (.slice none 0 0) w := by kernel_rfl
def keyS (s : ByteArray) : Lit := .string s.data.toList
theorem keyS_inj {s t : ByteArray} (h : keyS s = keyS t) : s = t := by
  unfold keyS at h
  injection h with h
  cases s; cases t
  simp only [ByteArray.mk.injEq]
  exact Array.toList_inj.1 h
theorem keyS_of {s : ByteArray} (h : s.size ≤ maxLen) : keyOf Try.prog 9 (.string s) = some (keyS s) := WideMaps.keyOf_string_mk (P := Try.prog) Try.underlying9 h
def HMap (W : World) (B n : Nat) (g : ByteArray → Option Hd) (sz : Nat) : Prop := ∃ D : DataW Unit, W.ownsMap Try.prog 9 hdrR B n D ∧ (∀ s, Maps.has D (keyS s) = (g s).isSome) ∧ (∀ s h, g s = some h → h.ok ∧ ∀ z, D.atKey (keyS s) z = hdrD h) ∧ Maps.size D = sz
theorem HMap.made (w : World) : HMap (w.alloc (.map #[] 0)) w.heap.size 0 (fun _ => none) 0 := ⟨.map [], World.ownsMap_made _ _ _ _, fun _ => rfl, fun _ _ h => (by cases h), rfl⟩
theorem HMap.block {W W1 : World} {B n sz : Nat} {g : ByteArray → Option Hd} (h : HMap W B n g sz) (hb : W1.heap[B]? = W.heap[B]?) : HMap W1 B n g sz := by
  obtain ⟨D, ⟨es, clock, h1, h2⟩, h3⟩ := h
  exact ⟨D, ⟨es, clock, hb.trans h1, h2⟩, h3⟩
theorem HMap.lt {W : World} {B n sz : Nat} {g : ByteArray → Option Hd} (h : HMap W B n g sz) : B < W.heap.size := by
  obtain ⟨D, h1, _⟩ := h
  exact h1.lt
theorem HMap.is {W : World} {B n sz : Nat} {g : ByteArray → Option Hd} (h : HMap W B n g sz) : ∃ es clock, W.heap[B]? = some (.map es clock) := by
  obtain ⟨D, ⟨es, clock, h1, _⟩, _⟩ := h
  exact ⟨es, clock, h1⟩
theorem HMap.ne {W : World} {B n sz : Nat} {g : ByteArray → Option Hd} (h : HMap W B n g sz) {b : Nat} {cs : Array Value} {t : TypeId} {fr : Nat × Nat} (hb : W.heap[b]? = some (.cells cs t fr)) : B ≠ b := fun e => by
  obtain ⟨es, clock, h1⟩ := h.is
  rw [e, hb] at h1
  cases h1
theorem HMap.mono {W : World} {B n n' sz : Nat} {g : ByteArray → Option Hd} (h : HMap W B n g sz) (hn : n ≤ n') : HMap W B n' g sz := by
  obtain ⟨D, h1, h2⟩ := h
  exact ⟨D, h1.mono hn, h2⟩
def updH (g : ByteArray → Option Hd) (x : ByteArray) (v : Hd) : ByteArray → Option Hd := fun y => if y = x then some v else g y
section
variable {ops : Array Oper} {rest : List Oper} {o : Oper} {a : Act} {Q : Exit → Act → World → Prop} {K : Act → World → Prop}
theorem hm_make (hgd : o.guard = none) (ho : o.op = .makeMap 60 none) {W : World} (h : HMap (W.alloc (.map #[] 0)) W.heap.size 0 (fun _ => none) 0 → wpList Try.prog ops Q rest (a.put o.dst (.map (some W.heap.size))) (W.alloc (.map #[] 0))) : wpList Try.prog ops Q (o :: rest) a W :=
  Kd.event_run hgd (by
    unfold execOp
    simp only [ho]
    simp [run_makeMap, Sem.run_bind]) (h (HMap.made W))
theorem hm_len (hgd : o.guard = none) {m : Operand} (ho : o.op = .call { callee := .builtin .len, args := #[m], argTypes := #[60] }) {W : World} {B n sz : Nat} {g : ByteArray → Option Hd} (hm : a.eval m = .map (some B)) (hown : HMap W B n g sz)
    (h : wpList Try.prog ops Q rest (a.put o.dst (.int .i64 (sz : Int))) W) : wpList Try.prog ops Q (o :: rest) a W := by
  obtain ⟨D, h1, h2, h3, h4⟩ := hown
  refine wpList_len_own W hgd m _ ho _ _ Try.underlying60 hdrR B n D hm h1 ?_
  rw [h4]
  exact h
theorem hm_look_ok (hgd : o.guard = none) {m x : Operand} (ho : o.op = .lookup 60 m x true) {W : World} {B n sz : Nat} {g : ByteArray → Option Hd} (hm : a.eval m = .map (some B)) (hown : HMap W B n g sz) {k : ByteArray} (hx : a.eval x = .string k) (hk : k.size ≤ maxLen)
    (h : wpList Try.prog ops Q rest (a.put o.dst (.tuple #[((g k).getD hz).v, .bool (g k).isSome])) W) : wpList Try.prog ops Q (o :: rest) a W := by
  obtain ⟨D, h1, h2, h3, h4⟩ := hown
  refine wpList_lookup_own_ok W hgd m x _ ho _ _ skeyed Try.underlying60 hdrR (hzero W) (.lit (.bool false)) [] rfl B n D hm h1 _ _ hx (keyS_of hk) (fun v ps hv => ?_)
  have e : v = ((g k).getD hz).v := by
    cases hg : g k with
    | none =>
      have h9 := h2 k
      rw [hg] at h9
      rw [Maps.atKey_of_not_has (by simpa using h9)] at hv
      exact hdrR_inv0 hv
    | some d =>
      rw [(h3 k d hg).2] at hv
      exact hdrR_inv (h3 k d hg).1 hv
  rw [e, h2 k]
  exact h
end
end Go.Proofs.Ytfakdphkklclgaa.P

end

section
namespace Go.Proofs.Ytfakdphkklclgaa.P
open Go.RowKit Go.Proofs.YtfakdphkklclgaaW.PrintWords Go.Proofs.YtfakdphkklclgaaW.PrintLast Go.Proofs.YtfakdphkklclgaaW.PrintMore
attribute [local go_sem] max2_int min2_int max_two min_two max_three min_three max_four min_four
set_option linter.unusedVariables false
set_option linter.unusedSimpArgs false
def seg (bs : List Int) (a n : Nat) : List Int := (bs.take (a + n)).drop a
def valR (k : Nat) (xs : List Int) : Int := if k = 4 then signOf (numOf xs) else numOf xs
def numR (k : Nat) (bs : List Int) (a : Nat) : Int × Nat × Int := if bs.length < a + k then (0, a, 2) else (valR k (seg bs a k), a + k, 0)
def takeR (bs : List Int) (a : Nat) (n : Int) : List Int × Nat × Int := if n < 0 then ([], a, 1) else if n > (bs.length : Int) - (a : Int) then ([], a, 2) else (seg bs a n.toNat, a + n.toNat, 0)
def nameR (nm : ByteArray → Bool) (bs : List Int) (a : Nat) : ByteArray × Nat × Int :=
  if bs.length < a + 1 then (.empty, a, 2) else
  if rd bs (a : Int) = 0 ∨ 24 < rd bs (a : Int) then (.empty, a, 6) else
  if bs.length < a + 1 + (rd bs (a : Int)).toNat then (.empty, a, 2) else
  if nm (strOfNums (seg bs (a + 1) (rd bs (a : Int)).toNat)) then (strOfNums (seg bs (a + 1) (rd bs (a : Int)).toNat), a + 1 + (rd bs (a : Int)).toNat, 0) else (.empty, a, 6)
structure RdFacts (K : Nat) (nm : ByteArray → Bool) : Prop where
  num : ∀ (k : Nat) bs (a : Nat), (k = 1 ∨ k = 2 ∨ k = 4) → (∀ x ∈ bs, 0 ≤ x ∧ x ≤ 255) → bs.length ≤ 140737488351232 → a ≤ bs.length → provisoref01_Number.f K bs (a : Int) (k : Int) = some ((numR k bs a).1, ((numR k bs a).2.1 : Int), (numR k bs a).2.2)
  take : ∀ bs (a : Nat) (n : Int), (∀ x ∈ bs, 0 ≤ x ∧ x ≤ 255) → bs.length ≤ 140737488351232 → a ≤ bs.length → provisoref01_Take.f K bs (a : Int) n = some ((takeR bs a n).1, ((takeR bs a n).2.1 : Int), (takeR bs a n).2.2)
  name : ∀ s, wire_IsName.f K s = some (nm s)
  rname : ∀ s, provisoref01_IsName.f K s = some (nm s)
  eq : ∀ xs : List Int, xs.length ≤ 140737488351232 → slices_Equal_byte_byte.f K xs xs = some true
theorem seg_len (bs : List Int) (a n : Nat) (h : a + n ≤ bs.length) : (seg bs a n).length = n := by unfold seg; rw [List.length_drop, List.length_take]; omega
structure Rd1 (base g : Nat) (bs : List Int) (at_ : Nat) (W : World) : Prop where
  rd : RdAt base g bs at_ W
  by_ : ∀ x ∈ bs, 0 ≤ x ∧ x ≤ 255
  lim : bs.length ≤ 140737488351232
def RP (base g : Nat) (bs : List Int) (k : Nat) (W w' : World) : Prop := Rd1 base g bs k w' ∧ Kept W w' (fun b => b = g) ∧ ∀ (B : Nat) (w0 : World), B ≤ g → Below B w0 W → Below B w0 w'
section
variable {base g at_ : Nat} {bs : List Int} {W w' W1 : World}
theorem Rd1.step (h : Rd1 base g bs at_ W) (hb : Below W.heap.size W W1) : Rd1 base g bs at_ W1 := ⟨h.rd.step hb, h.by_, h.lim⟩
theorem Rd1.drewN (h : Rd1 base g bs at_ W) (m : Nat) : Rd1 base g bs at_ (W.drewN m) := ⟨h.rd.drewN m, h.by_, h.lim⟩
theorem RP.step {k : Nat} (h : RP base g bs k W w') (hb : Below w'.heap.size w' W1) : RP base g bs k W W1 :=
  ⟨h.1.step hb, h.2.1.below hb, fun B w0 hB hw => (h.2.2 B w0 hB hw).trans (hb.mono (by
    obtain ⟨v, h3, _⟩ := h.1.rd.now
    have := blk_lt h3
    omega))⟩
theorem RP.drew {k : Nat} (h : RP base g bs k W W1) (m : Nat) : RP base g bs k W (W1.drewN m) := ⟨h.1.drewN m, h.2.1.drewN m, fun B w0 hB hb => pw_below_drewN (h.2.2 B w0 hB hb) m⟩
theorem RP.cells {k : Nat} (h : RP base g bs k W W1) : ∃ v, W1.heap[g]? = some (.cells #[v, .int .i64 (k : Int), .bool true] 118 (0, 0)) := by
  obtain ⟨v, h1, _⟩ := h.1.rd.now
  exact ⟨v, h1⟩
end
end Go.Proofs.Ytfakdphkklclgaa.P

end

section
namespace Go.Proofs.Ytfakdphkklclgaa.P
open Go.RowKit Go.Proofs.YtfakdphkklclgaaW.PrintWords Go.Proofs.YtfakdphkklclgaaW.PrintLast Go.Proofs.YtfakdphkklclgaaW.PrintMore
attribute [local go_sem] max2_int min2_int max_two min_two max_three min_three max_four min_four
set_option linter.unusedVariables false
set_option linter.unusedSimpArgs false
section
open Go.ChangeMaps Go.MapKept
structure Sto where
  img : List Int
  L : List S101
def lessB (a b : ByteArray) : Bool := Op.bytesLess a.toList b.toList
def lkL : List S101 → ByteArray → Option (List Int)
  | [], _ => none
  | k :: l, x => if k.f0 = x then some k.f1 else lkL l x
def putL (x : ByteArray) (b : List Int) : List S101 → List S101
  | [] => [⟨x, b⟩]
  | k :: l => if lessB k.f0 x = true then k :: putL x b l else if k.f0 = x then ⟨x, b⟩ :: l else ⟨x, b⟩ :: k :: l
def cutL (x : ByteArray) : List S101 → List S101
  | [] => []
  | k :: l => if lessB k.f0 x = true then k :: cutL x l else if k.f0 = x then l else k :: l
def posL (x : ByteArray) (L : List S101) : Nat := (L.takeWhile fun k => lessB k.f0 x).length
def Srt (L : List S101) : Prop := L.Pairwise fun a b => lessB a.f0 b.f0 = true
def recB (kind : Int) (x : ByteArray) (b : List Int) : List Int := [kind, (x.size : Int) % 256] ++ bytesOf x ++ (if kind = 1 then [(b.length : Int) / 256 % 256, (b.length : Int) % 256] ++ b else [])
def laidS (s : Sto) (l : List S101) (r : List Int) : Sto × List S52 × Int :=
  if 1048576 < s.img.length + r.length + 1 then (s, [], 7) else (⟨s.img ++ r, l⟩, [⟨(s.img.length : Int), [0] ++ r.drop 1 ++ [0]⟩, ⟨(s.img.length : Int), [rd r 0]⟩], 0)
def putS (nm : ByteArray → Bool) (s : Sto) (x : ByteArray) (b : List Int) : Sto × List S52 × Int :=
  if nm x = false then (s, [], 6) else if 4096 < b.length then (s, [], 4) else if lkL s.L x = none ∧ 16 ≤ s.L.length then (s, [], 7) else laidS s (putL x b s.L) (recB 1 x b)
def getS (nm : ByteArray → Bool) (s : Sto) (x : ByteArray) : List Int × Int :=
  if nm x = false then ([], 6) else match lkL s.L x with
    | none => ([], 211)
    | some b => (b, 0)
structure Good (nm : ByteArray → Bool) (s : Sto) : Prop where
  img : s.img.length ≤ 1048576
  by_ : ∀ x ∈ s.img, 0 ≤ x ∧ x ≤ 255
  len : s.L.length ≤ 16
  srt : Srt s.L
  nam : ∀ k ∈ s.L, nm k.f0 = true
  val : ∀ k ∈ s.L, k.f1.length ≤ 4096 ∧ ∀ x ∈ k.f1, 0 ≤ x ∧ x ≤ 255
structure StFacts (K : Nat) (nm : ByteArray → Bool) : Prop where
  rd : RdFacts K nm
  siz : ∀ x, nm x = true → 1 ≤ x.size ∧ x.size ≤ 24
  place : ∀ L x, L.length ≤ 17 → Srt L → provisoref21_place.f K L x = some ((posL x L : Int), (lkL L x).isSome)
  with_ : ∀ L x b, L.length ≤ 17 → Srt L → provisoref21_with.f K L x b = some (putL x b L)
  wout : ∀ L x, L.length ≤ 17 → Srt L → provisoref21_without.f K L x = some (cutL x L)
  eqs : ∀ xs : List ByteArray, xs.length ≤ 17 → slices_Equal_string_string.f K xs xs = some true
  wr : ∀ ws : List S52, ws.length ≤ 2 → (∀ x ∈ ws, x.f1.length ≤ 2097152) → provisoplain_SameWrites.f K ws ws = some true
theorem hm_tight {W : World} {B n : Nat} {g : ByteArray → Option Hd} {sz : Nat} (h : HMap W B n g sz) : HMap W B sz g sz := by
  obtain ⟨D, ⟨es, clock, h1, h2, h3, h4⟩, h5, h6, h7⟩ := h
  refine ⟨D, ⟨es, clock, h1, h2, ?_, h4⟩, h5, h6, h7⟩
  have h8 : Maps.size D = es.size := by rw [h4]; exact length_read es
  omega
structure SAt (base : Nat) (F : Nat → Prop) (g : Nat) (s : Sto) (W : World) : Prop where
  now : ∃ (v : Value) (B : Nat) (h : ByteArray → Option Hd), W.heap[g]? = some (.cells #[v, .map (some B), .bool true] 62 (0, 0)) ∧ Kd.R (Kd.int .u8) 5 W base F v s.img ∧ HMap W B s.L.length h s.L.length ∧ F B ∧ (∀ x, (h x).isSome = (lkL s.L x).isSome) ∧
    ∀ x d, h x = some d → ∀ xs, lkL s.L x = some xs → d.n = xs.length ∧ xs.length ≤ d.c ∧ Kd.F (Kd.int .u8) W (fun b => F b ∧ v.ownBlock ≠ some b ∧ b ≠ B ∧ b ≠ g) d.A xs.length xs
  fs : F g
  lt : ∀ b, F b → base ≤ b ∧ b < W.heap.size
section
variable {base g : Nat} {F F' S : Nat → Prop} {s : Sto} {W W1 w : World}
theorem SAt.kept (h : SAt base F g s W) (hk : Kept W W1 S) (hS : ∀ b, F b → ¬ S b) : SAt base F g s W1 := by
  obtain ⟨⟨v, B, m, h1, h2, h3, h4, h5, h6⟩, hf, hl⟩ := h
  exact ⟨⟨v, B, m, blk_kept h1 hk (hS _ hf), Kd.R_kept h2 hk hS, h3.block (hk.2 B h3.lt (hS _ h4)), h4, h5, fun x d hd xs hx => ⟨(h6 x d hd xs hx).1, (h6 x d hd xs hx).2.1, Kd.F_kept (h6 x d hd xs hx).2.2 hk (fun b q => hS b q.1)⟩⟩, hf, fun b q => ⟨(hl b q).1, Nat.lt_of_lt_of_le (hl b q).2 hk.1⟩⟩
theorem SAt.step (h : SAt base F g s W) (hb : Below W.heap.size W W1) : SAt base F g s W1 := h.kept (S := fun _ => False) (Kept.of_below hb _) (fun _ _ q => q)
theorem SAt.more (h : SAt base F g s W) (hF : ∀ b, F b → F' b) (hl : ∀ b, F' b → base ≤ b ∧ b < W.heap.size) : SAt base F' g s W := by
  obtain ⟨⟨v, B, m, h1, h2, h3, h4, h5, h6⟩, hf, _⟩ := h
  exact ⟨⟨v, B, m, h1, Kd.R_mono h2 hF, h3, hF _ h4, h5, fun x d hd xs hx => ⟨(h6 x d hd xs hx).1, (h6 x d hd xs hx).2.1, Kd.F_mono (h6 x d hd xs hx).2.2 (fun b q => ⟨hF _ q.1, q.2⟩)⟩⟩, hF _ hf, hl⟩
theorem lk_hd {h : ByteArray → Option Hd} {L : List S101} (h5 : ∀ x, (h x).isSome = (lkL L x).isSome) (x : ByteArray) : (lkL L x = none ∧ h x = none) ∨ ∃ d xs, h x = some d ∧ lkL L x = some xs := by
  have := h5 x
  cases e1 : h x <;> cases e2 : lkL L x <;> rw [e1, e2] at this <;> simp at this ⊢
set_option maxHeartbeats 3200000 in
set_option maxRecDepth 100000 in
theorem ready_st (h : SAt base F g s w) : Calls Try.prog 34 #[.pointer (some ⟨g, 0, none⟩)] w fun e w' => e = .returned (.bool true) ∧ Drawn0 w w' := by
  obtain ⟨⟨v, B, m, h1, _⟩, _, _⟩ := h
  have hc := blk_cell h1 2
  clear h1
  go_enter Try.func34, Try.ntmps34
  go_wp2
  go_ret
  exact ⟨rfl, 0, rfl⟩
set_option maxHeartbeats 3200000 in
set_option maxRecDepth 100000 in
theorem cloned_calls (A : Option Addr) (c : Nat) (xs : List Int) (w : World) (hr : Kd.C (Kd.int .u8) w A xs.length xs) (hlim : xs.length ≤ 281474976710656) : Calls Try.prog 40 #[.slice A xs.length c] w fun e w' => ∃ v, e = .returned v ∧ Kd.R (Kd.int .u8) 5 w' w.heap.size (fun _ => True) v xs ∧ Below w.heap.size w w' := by
  have HR := Aside0.mk hr
  have HL := Aside0.mk hlim
  have hlen : xs.length ≤ 9223372036854775807 := hr.2.1
  clear hr hlim
  go_enter Try.func40, Try.ntmps40
  go_wp2_with (first | ((with_reducible refine gate_dst (N := 6) rfl ?_); refine Kd.R_make (Kd.int .u8) (w0 := w) w.heap.size 5 rfl (N := 6) rfl 23 (.tmp 5) (.tmp 5) rfl (xs.length : Int) rfl rfl Try.underlying23 (.int .u8 0) 1 info5 rfl (by decide) (by decide) 0 (ok := fun _ => True) (okp := fun _ => True) rfl (fun _ h => h) trivial (by omega) ?hl (Below.refl _ _) (Nat.le_refl _) ?_; (case hl => have := HL.out; rw [Int.toNat_natCast]; omega); intro v1 w1 ho hb hg hat; rw [Int.toNat_natCast] at ho; have HB := Aside0.mk hb; obtain ⟨Av, cv, e1⟩ := Kd.R_slice ho; rw [List.length_replicate] at e1; subst e1; obtain ⟨w2, hrun, hR2, hg2⟩ := copy_own (P := Try.prog) (ty := 3) (cA := c) Try.underlying23 (by kernel_rfl) ho (Kd.C_below HR.out hb) (by simp); have HR2 := Aside0.mk hR2; have HG2 := Aside0.mk (Below.grown hb hg2 hb.size (fun k hk => (Kd.R_base_ ho k hk))); clear ho hb hg hat hR2 hg2))
  go_ret
  exact ⟨_, rfl, HR2.out, HG2.out⟩
set_option maxHeartbeats 3200000 in
set_option maxRecDepth 100000 in
theorem New_st (w : World) : Calls Try.prog 10 #[] w fun e w' => ∃ g, e = .returned (.pointer (some ⟨g, 0, none⟩)) ∧ SAt w.heap.size (fun b => w.heap.size ≤ b ∧ b < w'.heap.size) g ⟨[], []⟩ w' ∧ Below w.heap.size w w' := by
  go_enter Try.func10, Try.ntmps10
  go_wp2_with (first | ((with_reducible refine gate_dst (N := 1) rfl ?_); refine hm_make rfl rfl ?_; intro hM; have HM := Aside0.mk hM; clear hM))
  have h1 := blk_new (w.alloc (.map #[] 0)) (.cells #[.slice none 0 0, .map (some w.heap.size), .bool true] 62)
  have h2 := below_alloc (below_alloc (Below.refl w.heap.size w) (.map #[] 0)) (.cells #[.slice none 0 0, .map (some w.heap.size), .bool true] 62)
  have h3 : (w.alloc (.map #[] 0)).heap.size = w.heap.size + 1 := by simp
  go_ret
  refine ⟨w.heap.size + 1, rfl, ⟨⟨_, w.heap.size, fun _ => none, by rw [← h3]; exact h1, Kd.R_nil _ _ _ _ _, HM.out.block (heap_alloc_old _ _ (by omega)), ?_, fun _ => rfl, fun x d hd => by cases hd⟩, ?_, fun b q => q⟩, h2⟩
  · show w.heap.size ≤ w.heap.size ∧ w.heap.size < _
    simp; omega
  · show w.heap.size ≤ w.heap.size + 1 ∧ w.heap.size + 1 < _
    simp
set_option maxHeartbeats 3200000 in
set_option maxRecDepth 100000 in
theorem get_st (K : Nat) (nm : ByteArray → Bool) (hK : StFacts K nm) (x : ByteArray) (hx : x.size ≤ maxLen) (h : SAt base F g s w) : Calls Try.prog 47 #[.pointer (some ⟨g, 0, none⟩), .string x] w fun e w' => ∃ A c, e = .returned (.tuple #[.slice A (getS nm s x).1.length c, .int .i64 (getS nm s x).2]) ∧ (getS nm s x).1.length ≤ c ∧ Kd.F (Kd.int .u8) w F A (getS nm s x).1.length (getS nm s x).1 ∧ Drawn0 w w' := by
  have H := Aside0.mk h
  have HX := Aside0.mk hx
  have HN := Aside0.mk (hK.rd.name x)
  obtain ⟨⟨v, B, m, h1, h2, h3, h4, h5, h6⟩, hf, hl⟩ := h
  have hc1 := blk_cell h1 1
  have H3 := Aside0.mk h3
  have hlk := lk_hd h5 x
  have H6 := Aside0.mk (h6 x)
  clear h1 h2 h3 h4 h5 h6 hf hl hx hK
  by_cases c1 : nm x = false
  · rw [c1] at HN
    go_enter Try.func47, Try.ntmps47
    go_wp2_with fail
    refine (ready_st H.out).mono ?_
    rintro e w1 ⟨rfl, k1, rfl⟩
    replace hc1 := show (w.drewN k1).cell? ⟨g, 1, none⟩ = _ from hc1
    replace H3 := Aside0.mk (H3.out.block (W1 := w.drewN k1) rfl)
    go_wp2_with (first | ((with_reducible refine gate_dst (N := 17) rfl ?_); refine hm_look_ok rfl rfl rfl H3.out rfl HX.out ?_))
    go_wp2_with fail
    refine (wire_IsName.calls K x _ _ HN.out).mono ?_
    rintro e w2 ⟨rfl, k2, rfl⟩
    go_wp2_with fail
    go_ret2
    unfold getS
    rw [if_pos c1]
    exact ⟨none, 0, rfl, Nat.le_refl _, Kd.F_nil _ _ _, _, rfl⟩
  · rw [Bool.not_eq_false] at c1
    rw [c1] at HN
    rcases hlk with ⟨g1, g2⟩ | ⟨d, xs, g1, g2⟩
    · have g3 : (m x).isSome = false := by rw [g2]; rfl
      go_enter Try.func47, Try.ntmps47
      go_wp2_with fail
      refine (ready_st H.out).mono ?_
      rintro e w1 ⟨rfl, k1, rfl⟩
      replace hc1 := show (w.drewN k1).cell? ⟨g, 1, none⟩ = _ from hc1
      replace H3 := Aside0.mk (H3.out.block (W1 := w.drewN k1) rfl)
      go_wp2_with (first | ((with_reducible refine gate_dst (N := 17) rfl ?_); refine hm_look_ok rfl rfl rfl H3.out rfl HX.out ?_))
      go_wp2_with fail
      refine (wire_IsName.calls K x _ _ HN.out).mono ?_
      rintro e w2 ⟨rfl, k2, rfl⟩
      go_wp2_with fail
      go_ret2
      unfold getS
      rw [if_neg (by rw [c1]; decide), g1]
      exact ⟨none, 0, rfl, Nat.le_refl _, Kd.F_nil _ _ _, _, rfl⟩
    · have g3 : (m x).isSome = true := by rw [g1]; rfl
      obtain ⟨A, n, c⟩ := d
      obtain ⟨e1, e2, e3⟩ := H6.out _ g1 xs g2
      simp only at e1 e2 e3
      subst e1
      have HE3 := Aside0.mk e3
      clear e3 H6
      have g4 : ((m x).getD hz).v = .slice A xs.length c := by rw [g1]; rfl
      go_enter Try.func47, Try.ntmps47
      go_wp2_with fail
      refine (ready_st H.out).mono ?_
      rintro e w1 ⟨rfl, k1, rfl⟩
      replace hc1 := show (w.drewN k1).cell? ⟨g, 1, none⟩ = _ from hc1
      replace H3 := Aside0.mk (H3.out.block (W1 := w.drewN k1) rfl)
      go_wp2_with (first | ((with_reducible refine gate_dst (N := 17) rfl ?_); refine hm_look_ok rfl rfl rfl H3.out rfl HX.out ?_))
      go_wp2_with fail
      refine (wire_IsName.calls K x _ _ HN.out).mono ?_
      rintro e w2 ⟨rfl, k2, rfl⟩
      go_wp2_with fail
      go_ret2
      unfold getS
      rw [if_neg (by rw [c1]; decide), g2]
      exact ⟨A, c, rfl, e2, Kd.F_mono HE3.out (fun b q => q.1), _, rfl⟩
theorem getS_bad {nm : ByteArray → Bool} {s : Sto} {x : ByteArray} (h : (getS nm s x).2 ≠ 0) : (getS nm s x).1 = [] := by
  unfold getS at h ⊢
  split
  · rfl
  · rename_i h1
    rw [if_neg h1] at h
    cases hl : lkL s.L x with
    | none => rfl
    | some b => rw [hl] at h; exact absurd rfl h
theorem getS_len {nm : ByteArray → Bool} {s : Sto} (hg : Good nm s) (x : ByteArray) : (getS nm s x).1.length ≤ 4096 := by
  unfold getS
  split
  · simp
  · cases hl : lkL s.L x with
    | none => simp
    | some b =>
      have : ∀ L : List S101, lkL L x = some b → ∃ k ∈ L, k.f1 = b := by
        intro L
        induction L with
        | nil => intro h; cases h
        | cons k l ih =>
          intro h
          unfold lkL at h
          split at h
          · cases h; exact ⟨k, by simp, rfl⟩
          · obtain ⟨k', h1, h2⟩ := ih h
            exact ⟨k', by simp [h1], h2⟩
      obtain ⟨k, h1, rfl⟩ := this _ hl
      exact (hg.val k h1).1
set_option maxHeartbeats 3200000 in
set_option maxRecDepth 100000 in
theorem Get_st (K : Nat) (nm : ByteArray → Bool) (hK : StFacts K nm) (hg : Good nm s) (x : ByteArray) (hx : x.size ≤ maxLen) (h : SAt base F g s w) : Calls Try.prog 15 #[.pointer (some ⟨g, 0, none⟩), .string x] w fun e w' => ∃ v, e = .returned (.tuple #[v, .int .i64 (getS nm s x).2]) ∧ Kd.R (Kd.int .u8) 5 w' w.heap.size (fun _ => True) v (getS nm s x).1 ∧ Below w.heap.size w w' := by
  have HG := Aside0.mk (get_st K nm hK x hx h)
  have hlen := getS_len hg x
  have hbad := getS_bad (nm := nm) (s := s) (x := x)
  obtain ⟨err, herr⟩ : ∃ err, err = (getS nm s x).2 := ⟨_, rfl⟩
  obtain ⟨bs, hbs⟩ : ∃ bs, bs = (getS nm s x).1 := ⟨_, rfl⟩
  rw [← herr, ← hbs] at HG hbad ⊢
  rw [← hbs] at hlen
  have HL := Aside0.mk hlen
  clear h hK hx hg herr hbs hlen
  by_cases c1 : err = 0
  · subst c1
    clear hbad
    go_enter Try.func15, Try.ntmps15
    go_wp2_with fail
    refine HG.out.mono ?_
    rintro e w1 ⟨A, c, rfl, hc, hF, k1, rfl⟩
    have HC := Aside0.mk hc
    have HF := Aside0.mk (Kd.F_now (Kd.F_drewN hF k1))
    clear hc hF HG
    go_wp2_with fail
    refine (cloned_calls A c bs _ HF.out (by have := HL.out; omega)).mono ?_
    rintro e w2 ⟨v, rfl, hR, hb⟩
    have HR := Aside0.mk hR
    have HB := Aside0.mk hb
    clear hR hb
    go_wp2_with fail
    go_ret2
    exact ⟨v, rfl, HR.out, below_step (pw_below_drewN (Below.refl _ _) k1) HB.out⟩
  · have c2 : (err != 0) = true := by simpa using c1
    have c3 := hbad c1
    subst c3
    clear hbad c1
    go_enter Try.func15, Try.ntmps15
    go_wp2_with fail
    refine HG.out.mono ?_
    rintro e w1 ⟨A, c, rfl, hc, hF, k1, rfl⟩
    clear hc hF HG
    go_wp2_with fail
    go_ret2
    exact ⟨_, rfl, Kd.R_nil _ _ _ _ _, pw_below_drewN (Below.refl _ _) k1⟩
set_option maxHeartbeats 3200000 in
set_option maxRecDepth 100000 in
theorem Image_st (hl : s.img.length ≤ 1048576) (h : SAt base F g s w) : Calls Try.prog 19 #[.pointer (some ⟨g, 0, none⟩)] w fun e w' => ∃ v, e = .returned v ∧ Kd.R (Kd.int .u8) 5 w' w.heap.size (fun _ => True) v s.img ∧ Below w.heap.size w w' := by
  have H := Aside0.mk h
  have HL := Aside0.mk hl
  obtain ⟨⟨v, B, m, h1, h2, _⟩, _, _⟩ := h
  obtain ⟨A, c, rfl⟩ := Kd.R_slice h2
  have hc0 := blk_cell h1 0
  have HC := Aside0.mk (Kd.R_reads' h2).2.2
  clear h1 h2 hl
  go_enter Try.func19, Try.ntmps19
  go_wp2_with fail
  refine (ready_st H.out).mono ?_
  rintro e w1 ⟨rfl, k1, rfl⟩
  replace hc0 := show (w.drewN k1).cell? ⟨g, 0, none⟩ = _ from hc0
  go_wp2_with fail
  refine (cloned_calls A c s.img _ (Kd.C_drewN HC.out k1) (by have := HL.out; omega)).mono ?_
  rintro e w2 ⟨v, rfl, hR, hb⟩
  have HR := Aside0.mk hR
  have HB := Aside0.mk hb
  clear hR hb
  go_wp2_with fail
  go_ret
  exact ⟨v, rfl, HR.out, below_step (pw_below_drewN (Below.refl _ _) k1) HB.out⟩
end
end
end Go.Proofs.Ytfakdphkklclgaa.P

end

section
namespace Go.Proofs.Ytfakdphkklclgaa.P
open Go.RowKit Go.Proofs.YtfakdphkklclgaaW.PrintWords Go.Proofs.YtfakdphkklclgaaW.PrintLast Go.Proofs.YtfakdphkklclgaaW.PrintMore
attribute [local go_sem] max2_int min2_int max_two min_two max_three min_three max_four min_four
set_option linter.unusedVariables false
set_option linter.unusedSimpArgs false
section
open Go.Shelf Go.Proofs
def Try.keysS_ren : Go.Shelf.Ren := ⟨fun | 7 => 49 | 10 => 70 | n => n, fun | 23 => 60 | 26 => 9 | 3 => 23 | 28 => 96 | 0 => 0 | 27 => 95 | 33 => 82 | 4 => 4 | n => n, fun | n => n⟩
theorem Try.keysS : Go.Proofs.SlLaysZ.n7 Try.prog Try.keysS_ren := {
  mixed := by kernel_rfl
  f7 := ⟨Try.f49.name, by decide, Try.func49.trans (congrArg some (by kernel_rfl))⟩
  f10 := ⟨Try.f70.name, by decide, Try.func70.trans (congrArg some (by kernel_rfl))⟩
  t0 := Try.underlying0
  a0 := Try.isAgg0
  z0 := Try.sizeOf0
  v0 := Try.zeroValue0
  t4 := Try.underlying4
  a4 := Try.isAgg4
  z4 := Try.sizeOf4
  v4 := Try.zeroValue4
  t23 := Try.underlying60
  a23 := Try.isAgg60
  z23 := Try.sizeOf60
  v23 := Try.zeroValue60
  t26 := Try.underlying9
  a26 := Try.isAgg9
  z26 := Try.sizeOf9
  v26 := Try.zeroValue9
  t27 := Try.underlying95
  a27 := Try.isAgg95
  z27 := Try.sizeOf95
  v27 := Try.zeroValue95
  t28 := Try.underlying96
  a28 := Try.isAgg96
  z28 := Try.sizeOf96
  v28 := Try.zeroValue96
  t33 := Try.underlying82
  a33 := Try.isAgg82
  z33 := Try.sizeOf82
  v33 := Try.zeroValue82 }
def Try.sortedS_ren : Go.Shelf.Ren := ⟨fun | 6 => 48 | 8 => 68 | 9 => 69 | 11 => 76 | 13 => 78 | 12 => 77 | 23 => 90 | 24 => 91 | 14 => 81 | 15 => 82 | 16 => 83 | 17 => 84 | 18 => 85 | 19 => 86 | 20 => 87 | 21 => 88 | 22 => 89 | 25 => 92 | 26 => 93 | 27 => 94 | 28 => 95 | 29 => 96 | 30 => 97 | 31 => 98 | n => n, fun | 26 => 9 | 28 => 96 | 24 => 55 | 0 => 0 | 3 => 3 | 37 => 38 | 48 => 127 | 50 => 143 | 4 => 4 | 40 => 135 | 39 => 134 | 45 => 88 | 5 => 5 | 9 => 9 | 51 => 144 | 55 => 148 | 57 => 150 | 58 => 151 | 33 => 82 | n => n, fun | n => n⟩
theorem Try.sortedS : Go.Proofs.SlLaysZ.n6 Try.prog Try.sortedS_ren := {
  mixed := by kernel_rfl
  f6 := ⟨Try.f48.name, by decide, Try.func48.trans (congrArg some (by kernel_rfl))⟩
  f8 := ⟨Try.f68.name, by decide, Try.func68.trans (congrArg some (by kernel_rfl))⟩
  f11 := ⟨Try.f76.name, by decide, Try.func76.trans (congrArg some (by kernel_rfl))⟩
  t0 := Try.underlying0
  a0 := Try.isAgg0
  z0 := Try.sizeOf0
  v0 := Try.zeroValue0
  t24 := Try.underlying55
  a24 := Try.isAgg55
  z24 := Try.sizeOf55
  v24 := Try.zeroValue55
  t26 := Try.underlying9
  a26 := Try.isAgg9
  z26 := Try.sizeOf9
  v26 := Try.zeroValue9
  t28 := Try.underlying96
  a28 := Try.isAgg96
  z28 := Try.sizeOf96
  v28 := Try.zeroValue96
  i26 := by kernel_rfl }
def Try.sortS_ren : Go.Shelf.Ren := ⟨fun | 6 => 69 | 8 => 78 | 9 => 77 | 19 => 90 | 20 => 91 | 21 => 81 | 22 => 82 | 23 => 83 | 24 => 84 | 25 => 85 | 26 => 86 | 27 => 87 | 28 => 88 | 29 => 89 | 36 => 92 | 31 => 93 | 32 => 94 | 37 => 95 | 38 => 96 | 39 => 97 | 41 => 98 | n => n, fun | 27 => 55 | 29 => 9 | 3 => 3 | 32 => 38 | 26 => 55 | 0 => 0 | 44 => 127 | 46 => 143 | 4 => 4 | 36 => 135 | 35 => 134 | 41 => 88 | 5 => 5 | 9 => 9 | 53 => 144 | 57 => 148 | 63 => 150 | 64 => 151 | n => n, fun | n => n⟩
theorem Try.sortS : Go.Proofs.SlLaysM.n6 Try.prog Try.sortS_ren := {
  mixed := by kernel_rfl
  f6 := ⟨Try.f69.name, by decide, Try.func69.trans (congrArg some (by kernel_rfl))⟩
  f8 := Try.func78.trans (congrArg some (by kernel_rfl))
  f9 := ⟨Try.f77.name, by decide, Try.func77.trans (congrArg some (by kernel_rfl))⟩
  f19 := Try.func90.trans (congrArg some (by kernel_rfl))
  f20 := Try.func91.trans (congrArg some (by kernel_rfl))
  f21 := ⟨Try.f81.name, by decide, Try.func81.trans (congrArg some (by kernel_rfl))⟩
  f22 := ⟨Try.f82.name, by decide, Try.func82.trans (congrArg some (by kernel_rfl))⟩
  f23 := ⟨Try.f83.name, by decide, Try.func83.trans (congrArg some (by kernel_rfl))⟩
  f24 := ⟨Try.f84.name, by decide, Try.func84.trans (congrArg some (by kernel_rfl))⟩
  f25 := ⟨Try.f85.name, by decide, Try.func85.trans (congrArg some (by kernel_rfl))⟩
  f26 := ⟨Try.f86.name, by decide, Try.func86.trans (congrArg some (by kernel_rfl))⟩
  f27 := ⟨Try.f87.name, by decide, Try.func87.trans (congrArg some (by kernel_rfl))⟩
  f28 := ⟨Try.f88.name, by decide, Try.func88.trans (congrArg some (by kernel_rfl))⟩
  f29 := ⟨Try.f89.name, by decide, Try.func89.trans (congrArg some (by kernel_rfl))⟩
  f31 := Try.func93.trans (congrArg some (by kernel_rfl))
  f32 := Try.func94.trans (congrArg some (by kernel_rfl))
  f36 := ⟨Try.f92.name, by decide, Try.func92.trans (congrArg some (by kernel_rfl))⟩
  f37 := ⟨Try.f95.name, by decide, Try.func95.trans (congrArg some (by kernel_rfl))⟩
  f38 := ⟨Try.f96.name, by decide, Try.func96.trans (congrArg some (by kernel_rfl))⟩
  f39 := ⟨Try.f97.name, by decide, Try.func97.trans (congrArg some (by kernel_rfl))⟩
  f41 := ⟨Try.f98.name, by decide, Try.func98.trans (congrArg some (by kernel_rfl))⟩
  t0 := Try.underlying0
  a0 := Try.isAgg0
  z0 := Try.sizeOf0
  v0 := Try.zeroValue0
  t3 := Try.underlying3
  a3 := Try.isAgg3
  z3 := Try.sizeOf3
  v3 := Try.zeroValue3
  t4 := Try.underlying4
  a4 := Try.isAgg4
  z4 := Try.sizeOf4
  v4 := Try.zeroValue4
  t5 := Try.underlying5
  a5 := Try.isAgg5
  z5 := Try.sizeOf5
  v5 := Try.zeroValue5
  t9 := Try.underlying9
  a9 := Try.isAgg9
  z9 := Try.sizeOf9
  v9 := Try.zeroValue9
  t26 := Try.underlying55
  a26 := Try.isAgg55
  z26 := Try.sizeOf55
  v26 := Try.zeroValue55
  t27 := Try.underlying55
  a27 := Try.isAgg55
  z27 := Try.sizeOf55
  v27 := Try.zeroValue55
  t29 := Try.underlying9
  a29 := Try.isAgg9
  z29 := Try.sizeOf9
  v29 := Try.zeroValue9
  t32 := Try.underlying38
  a32 := Try.isAgg38
  z32 := Try.sizeOf38
  v32 := Try.zeroValue38
  t35 := Try.underlying134
  a35 := Try.isAgg134
  z35 := Try.sizeOf134
  v35 := Try.zeroValue134
  t36 := Try.underlying135
  a36 := Try.isAgg135
  z36 := Try.sizeOf135
  v36 := Try.zeroValue135
  t41 := Try.underlying88
  a41 := Try.isAgg88
  z41 := Try.sizeOf88
  v41 := Try.zeroValue88
  t44 := Try.underlying127
  a44 := Try.isAgg127
  z44 := Try.sizeOf127
  v44 := Try.zeroValue127
  t46 := Try.underlying143
  a46 := Try.isAgg143
  z46 := Try.sizeOf143
  v46 := Try.zeroValue143
  t53 := Try.underlying144
  a53 := Try.isAgg144
  z53 := Try.sizeOf144
  v53 := Try.zeroValue144
  t57 := Try.underlying148
  a57 := Try.isAgg148
  z57 := Try.sizeOf148
  v57 := Try.zeroValue148
  t63 := Try.underlying150
  a63 := Try.isAgg150
  z63 := Try.sizeOf150
  v63 := Try.zeroValue150
  t64 := Try.underlying151
  a64 := Try.isAgg151
  z64 := Try.sizeOf151
  v64 := Try.zeroValue151 }
end
section
open Go.Maps Go.Sort Go.Shelf Go.Proofs
theorem own_lower1 {W : World} {b b' n size : Nat} {e : TypeId} {v : Value} {cs : List Value} (h : W.ownsRow b e size v n cs) (hb : b' ≤ b) : W.ownsRow b' e size v n cs := ⟨h.1, h.2.imp id fun ⟨g, cap, cur, e1, e2, e3⟩ => ⟨g, cap, cur, e1, Nat.le_trans hb e2, e3⟩⟩
theorem sorts_st (m : Nat) : AnyZ.SortsIn Try.prog Try.sortedS_ren Fence.wide m :=
  ⟨fun blk off cap ss W hH hblk hsz => callsIn_wide.2 (AnyM.slices_Sort_string Try.sortS blk off cap ss W hH hblk hsz),
   fun p cap W => callsIn_wide.2 (AnyM.slices_Sort_string_none Try.sortS p cap W)⟩
theorem keysS_calls (B : Nat) (W : World) : Calls Try.prog 49 #[.map (some B)] W fun e w' => e = .returned (.func (.func 70) #[] #[.pointer (some ⟨W.heap.size, 0, none⟩)]) ∧ w' = W.alloc (.cells #[.map (some B)] 60) :=
  (callsIn_wide (n := 5)).1 (AnyZ.keys_in Try.keysS Fence.wide 5 trivial rfl (some B) W)
theorem sortedS_calls {R : Value → Option (DataW Unit × List MemPlace)} {W : World} {B n : Nat} {D : DataW Unit} (hown : W.ownsMap Try.prog 9 R B n D) (hmax : Maps.size D ≤ 1024) : Calls Try.prog 48 #[.func (.func 70) #[] #[.pointer (some ⟨W.heap.size, 0, none⟩)]] (W.alloc (.cells #[.map (some B)] 60)) fun e w' => ∃ (v : Value) (ss : List (List UInt8)), e = .returned v ∧ ss.Perm (strKeys D) ∧ w'.ownsRow W.heap.size 9 1 v ss.length ((ss.mergeSort (fun x y => decide (x ≤ y))).map encStr) ∧ Below W.heap.size W w' := by
  have hbl := hown.lt
  have hseq : SeqGives Fence.wide 2 Try.prog 70 #[.pointer (some ⟨W.heap.size, 0, none⟩)] encStr (fun ss => ss.Perm (strKeys D)) (Maps.size D) (W.alloc (.cells #[.map (some B)] 60)) :=
    AnyZ.keys_gives (ρ := Try.keysS_ren) { Try.keysS with } Fence.wide _ trivial rfl (by omega) W.heap.size B n D _ (by simp) (by simp) (by
      obtain ⟨es, clock, hb, Ft, hs, hD⟩ := hown
      exact ⟨es, clock, (Below.heap_alloc _ _ B hbl).trans hb, Ft, hs, hD⟩)
  have cS := AnyZ.sorted_in Try.sortedS Fence.wide 5 trivial trivial trivial trivial rfl (by omega) (sorts_st _) (enters_of Try.func69 (by kernel_rfl) rfl) 70 #[.pointer (some ⟨W.heap.size, 0, none⟩)] trivial (enters_of Try.func70 (by kernel_rfl) rfl) _ _ (by unfold maxLen; omega) (by omega) _ hseq
  refine ((callsIn_wide (n := 5)).1 cS).mono ?_
  rintro e w' ⟨v, ss, rfl, hS, hrow, _, hb⟩
  exact ⟨v, ss, rfl, hS, own_lower1 hrow (by simp), ((Below.refl _ W).alloc (Nat.le_refl _) _).trans (hb.mono (by simp))⟩
theorem lessB_iff (a b : ByteArray) : lessB a b = true ↔ a.data.toList < b.data.toList := by
  unfold lessB
  rw [bytesLess_eq, Lib.toList_data, Lib.toList_data]
  simp
theorem data_inj {a b : ByteArray} (h : a.data.toList = b.data.toList) : a = b := by
  cases a; cases b
  simp only [ByteArray.mk.injEq]
  exact Array.toList_inj.1 h
theorem lk_mem (L : List S101) (x : ByteArray) : (lkL L x).isSome = true ↔ x ∈ L.map (·.f0) := by
  induction L with
  | nil => simp [lkL]
  | cons k l ih =>
    unfold lkL
    by_cases e : k.f0 = x
    · rw [if_pos e]; simp [e]
    · rw [if_neg e, ih]
      simp only [List.map_cons, List.mem_cons]
      constructor
      · exact .inr
      · rintro (q | q)
        · exact absurd q.symm e
        · exact q
theorem names_sorted {L : List S101} (hs : Srt L) {R : Value → Option (DataW Unit × List MemPlace)} {W : World} {B n : Nat} {D : DataW Unit} (hown : W.ownsMap Try.prog 9 R B n D) (hh : ∀ x : ByteArray, Maps.has D (keyS x) = (lkL L x).isSome) {ss : List (List UInt8)} (hp : ss.Perm (strKeys D)) :
    ss.mergeSort (fun x y => decide (x ≤ y)) = L.map (fun k => k.f0.data.toList) := by
  obtain ⟨es, hD, hpw, _⟩ := hown.entries skeyed
  obtain ⟨es', hD', hko⟩ := hown.keysOf
  obtain rfl : es = es' := by rw [hD] at hD'; simpa using hD'
  subst hD
  have hk : ∀ p ∈ es, ∃ x, p.1 = .string x := fun p hp => by obtain ⟨v, hv⟩ := hko p hp; obtain ⟨x, _, hx, _⟩ := Maps.keyOf_str Try.underlying9 hv; exact ⟨x, hx⟩
  have hlt : (L.map fun k => k.f0.data.toList).Pairwise (· < ·) := List.pairwise_map.2 (hs.imp fun h => (lessB_iff _ _).1 h)
  have hnd : (L.map fun k => k.f0.data.toList).Nodup := hlt.imp fun h e => by rw [e] at h; exact List.lt_irrefl _ h
  have hm : ∀ x, x ∈ (L.map fun k => k.f0.data.toList) ↔ Maps.has (.map es) (.string x) = true := fun x => by
    have h1 := hh ⟨x.toArray⟩
    have h2 : keyS ⟨x.toArray⟩ = .string x := by simp [keyS]
    rw [h2] at h1
    rw [h1, lk_mem, List.mem_map, List.mem_map]
    constructor
    · rintro ⟨k, hk, rfl⟩
      exact ⟨k, hk, data_inj (by simp)⟩
    · rintro ⟨k, hk, e⟩
      exact ⟨k, hk, by rw [e]⟩
  have h3 := perm_strKeys hpw hk hnd hm
  rw [mergeSort_of_perm (hp.trans h3.symm)]
  exact List.mergeSort_of_pairwise (hlt.imp fun h => by simpa using List.le_of_lt h)
theorem names_row {L : List S101} {W : World} {base n : Nat} {v : Value} (h : W.ownsRow base 9 1 v n ((L.map fun k => k.f0.data.toList).map encStr)) (hn : n = L.length) : Kd.R Kd.string 9 W base (fun _ => True) v (L.map (·.f0)) := by
  subst hn
  refine ⟨fun _ _ => trivial, (L.map (fun k : S101 => k.f0)).map Value.string, ?_, (Kd.reps_scalar (enc := Value.string) (L.map (fun k : S101 => k.f0)) : Reps (fun (x : ByteArray) (cs : List Value) => cs = [.string x]) 1 _ _)⟩
  have e : (L.map fun k => k.f0.data.toList).map encStr = (L.map (·.f0)).map Value.string := by
    simp only [List.map_map]
    refine List.map_congr_left fun k _ => ?_
    simp [encStr]
  rw [← e, List.length_map]
  exact h
set_option maxHeartbeats 3200000 in
set_option maxRecDepth 100000 in
theorem Names_st {base g : Nat} {F : Nat → Prop} {s : Sto} {w : World} (hsr : Srt s.L) (hl : s.L.length ≤ 16) (h : SAt base F g s w) : Calls Try.prog 20 #[.pointer (some ⟨g, 0, none⟩)] w fun e w' => ∃ v, e = .returned v ∧ Kd.R Kd.string 9 w' w.heap.size (fun _ => True) v (s.L.map (·.f0)) ∧ Below w.heap.size w w' := by
  have H := Aside0.mk h
  have HSR := Aside0.mk hsr
  have HL := Aside0.mk hl
  obtain ⟨⟨v, B, m, h1, h2, h3, h4, h5, _⟩, _, _⟩ := h
  have hc1 := blk_cell h1 1
  obtain ⟨D, hD, hD2, hD3, hD4⟩ := h3
  have HD := Aside0.mk hD
  have HD2 := Aside0.mk (show ∀ x : ByteArray, Maps.has D (keyS x) = (lkL s.L x).isSome from fun x => (hD2 x).trans (h5 x))
  have HD4 := Aside0.mk hD4
  clear h1 h2 hl hsr hD hD2 hD3 hD4 h4 h5
  go_enter Try.func20, Try.ntmps20
  go_wp2_with fail
  refine (ready_st H.out).mono ?_
  rintro e w1 ⟨rfl, k1, rfl⟩
  replace hc1 := show (w.drewN k1).cell? ⟨g, 1, none⟩ = _ from hc1
  go_wp2_with fail
  refine (keysS_calls B _).mono ?_
  rintro e w2 ⟨rfl, rfl⟩
  go_wp2_with fail
  refine (sortedS_calls (W := w.drewN k1) (show (w.drewN k1).ownsMap _ _ _ _ _ _ from HD.out) (by have := HL.out; rw [HD4.out]; omega)).mono ?_
  rintro e w3 ⟨v2, ss, rfl, hp, hrow, hb⟩
  have hso := names_sorted HSR.out HD.out HD2.out hp
  rw [hso] at hrow
  have hln := congrArg List.length hso
  rw [List.length_mergeSort, List.length_map] at hln
  have HR := Aside0.mk (names_row hrow hln)
  have HB := Aside0.mk hb
  clear hp hrow hb hso hln
  go_wp2_with fail
  go_ret
  exact ⟨v2, rfl, HR.out, below_step (pw_below_drewN (Below.refl _ _) k1) HB.out⟩
end
end Go.Proofs.Ytfakdphkklclgaa.P

end

section
namespace Go.Proofs.Ytfakdphkklclgaa.P
open Go.RowKit Go.Proofs.YtfakdphkklclgaaW.PrintWords Go.Proofs.YtfakdphkklclgaaW.PrintLast Go.Proofs.YtfakdphkklclgaaW.PrintMore
attribute [local go_sem] max2_int min2_int max_two min_two max_three min_three max_four min_four
set_option linter.unusedVariables false
set_option linter.unusedSimpArgs false
section
open Go.ChangeMaps Go.MapKept
set_option linter.unusedVariables false
structure WrAt (S1 S2 : Nat) (v : Value) (at_ : Int) (r0 r1 : List Int) (W : World) : Prop where
  now : ∃ (b0 : Nat) (v1 v2 : Value), v = .slice (some ⟨b0, 0, none⟩) 2 2 ∧ W.heap[b0]? = some (.cells #[.int .i64 at_, v1, .int .i64 at_, v2] 52 (0, 0)) ∧ Kd.R (Kd.int .u8) 5 W S1 (fun b => S1 ≤ b ∧ b < S2) v1 r0 ∧ Kd.R (Kd.int .u8) 5 W S1 (fun b => S1 ≤ b ∧ b < S2) v2 r1 ∧ (∀ b, v1.ownBlock = some b → v2.ownBlock ≠ some b) ∧ S1 ≤ b0 ∧ b0 < S2
section
variable {S1 S2 : Nat} {v : Value} {at_ : Int} {r0 r1 : List Int} {W W1 : World} {S : Nat → Prop}
theorem WrAt.kept (h : WrAt S1 S2 v at_ r0 r1 W) (hk : Kept W W1 S) (hS : ∀ b, S1 ≤ b → b < S2 → ¬ S b) : WrAt S1 S2 v at_ r0 r1 W1 := by
  obtain ⟨b0, v1, v2, h1, h2, h3, h4, h5, h6, h7⟩ := h
  exact ⟨b0, v1, v2, h1, blk_kept h2 hk (hS _ h6 h7), Kd.R_kept h3 hk (fun b q => hS b q.1 q.2), Kd.R_kept h4 hk (fun b q => hS b q.1 q.2), h5, h6, h7⟩
theorem WrAt.step (h : WrAt S1 S2 v at_ r0 r1 W) (hb : Below W.heap.size W W1) : WrAt S1 S2 v at_ r0 r1 W1 := h.kept (S := fun _ => False) (Kept.of_below hb _) (fun _ _ _ q => q)
theorem WrAt.reads (h : WrAt S1 S2 v at_ r0 r1 W) : ∃ b0, v = .slice (some ⟨b0, 0, none⟩) 2 2 ∧ Kd.C k52 W (some ⟨b0, 0, none⟩) 2 [⟨at_, r0⟩, ⟨at_, r1⟩] := by
  obtain ⟨b0, v1, v2, h1, h2, h3, h4, h5, h6, h7⟩ := h
  obtain ⟨A1, c1, rfl⟩ := Kd.R_slice h3
  obtain ⟨A2, c2, rfl⟩ := Kd.R_slice h4
  obtain ⟨_, l1, g1⟩ := Kd.R_reads' h3
  obtain ⟨_, l2, g2⟩ := Kd.R_reads' h4
  refine ⟨b0, h1, rfl, by decide, fun _ => ⟨_, rfl, fun j p hj => ?_⟩⟩
  match j, hj with
  | 0, hj =>
    cases hj
    refine ⟨_, rfl, k52_mk W ⟨at_, r0⟩ l1 g1, fun i u hu => ?_⟩
    match i, hu with
    | 0, hu => cases hu; exact blk_cell h2 0
    | 1, hu => cases hu; exact blk_cell h2 1
    | (n + 2), hu => cases hu
  | 1, hj =>
    cases hj
    refine ⟨_, rfl, k52_mk W ⟨at_, r1⟩ l2 g2, fun i u hu => ?_⟩
    match i, hu with
    | 0, hu => cases hu; exact blk_cell h2 2
    | 1, hu => cases hu; exact blk_cell h2 3
    | (n + 2), hu => cases hu
  | (n + 2), hj => cases hj
end
def Wrs (S1 S2 : Nat) (v : Value) (ws : List S52) (W : World) : Prop := (ws = [] ∧ v = .slice none 0 0) ∨ ∃ at_ r0 r1, ws = [⟨at_, r0⟩, ⟨at_, r1⟩] ∧ WrAt S1 S2 v at_ r0 r1 W
theorem Wrs.kept {S1 S2 : Nat} {v : Value} {ws : List S52} {W W1 : World} {S : Nat → Prop} (h : Wrs S1 S2 v ws W) (hk : Kept W W1 S) (hS : ∀ b, S1 ≤ b → b < S2 → ¬ S b) : Wrs S1 S2 v ws W1 := by
  rcases h with h | ⟨a, r0, r1, h1, h2⟩
  · exact .inl h
  · exact .inr ⟨a, r0, r1, h1, h2.kept hk hS⟩
theorem Wrs.step {S1 S2 : Nat} {v : Value} {ws : List S52} {W W1 : World} (h : Wrs S1 S2 v ws W) (hb : Below W.heap.size W W1) : Wrs S1 S2 v ws W1 := h.kept (S := fun _ => False) (Kept.of_below hb _) (fun _ _ _ q => q)
theorem Wrs.reads {S1 S2 : Nat} {v : Value} {ws : List S52} {W : World} (h : Wrs S1 S2 v ws W) : ∃ A c, v = .slice A ws.length c ∧ ws.length ≤ c ∧ Kd.C k52 W A ws.length ws := by
  rcases h with ⟨rfl, rfl⟩ | ⟨a, r0, r1, rfl, h2⟩
  · exact ⟨none, 0, rfl, Nat.le_refl _, Kd.C_nil _ _⟩
  · obtain ⟨b0, h3, h4⟩ := h2.reads
    exact ⟨_, 2, h3, Nat.le_refl _, h4⟩
def StPost (base : Nat) (F : Nat → Prop) (g : Nat) (w : World) (out : Sto × List S52 × Int) (e : Ending) (w' : World) : Prop := ∃ (v : Value) (S1 S2 : Nat), e = .returned (.tuple #[v, .int .i64 out.2.2]) ∧ w.heap.size ≤ S1 ∧ S1 ≤ S2 ∧ S2 ≤ w'.heap.size ∧ Wrs S1 S2 v out.2.1 w' ∧ SAt base (fun b => F b ∨ (S2 ≤ b ∧ b < w'.heap.size)) g out.1 w' ∧ Kept w w' F ∧ ∀ (B : Nat) (w0 : World), B ≤ base → Below B w0 w → Below B w0 w'
theorem StPost.same {base : Nat} {F : Nat → Prop} {g : Nat} {s : Sto} {w w' : World} (h : SAt base F g s w) (hb : Below w.heap.size w w') (err : Int) : StPost base F g w (s, [], err) (.returned (.tuple #[.slice none 0 0, .int .i64 err])) w' := by
  have hl := h.lt g h.fs
  exact ⟨_, w'.heap.size, w'.heap.size, rfl, hb.size, Nat.le_refl _, Nat.le_refl _, .inl ⟨rfl, rfl⟩, (h.step hb).more (fun b q => .inl q) (fun b q => q.elim (fun q => ⟨(h.lt b q).1, Nat.lt_of_lt_of_le (h.lt b q).2 hb.size⟩) (fun q => by omega)), Kept.of_below hb _, fun B w0 hB hw => hw.trans (hb.mono (by omega))⟩
theorem hm_store_wp {o : Oper} {a : Act} {Q : Exit → Act → World → Prop} {K : Act → World → Prop} {m x v : Operand} (ho : o.op = .mapUpdate 60 m x v) {W : World} {B n sz : Nat} {g : ByteArray → Option Hd} (hm : a.eval m = .map (some B)) (hown : HMap W B n g sz) (hn : n < maxLen) {k : ByteArray} {c : Hd} (hx : a.eval x = .string k) (hv : a.eval v = c.v) (hk : k.size ≤ maxLen) (hc : c.ok)
    (h : ∀ w1, HMap w1 B (n + 1) (updH g k c) (if (g k).isSome then sz else sz + 1) → W.grownBy w1 (some B) → K (a.put o.dst undef) w1) : Oper.wp Try.prog o a W K Q := by
  obtain ⟨D, h1, h2, h3, h4⟩ := hown
  obtain ⟨w', hrun, r1, r2⟩ := h1.update skeyed Try.underlying60 hn (keyS_of hk) (hdrR_of hc)
  have ht := h1.tidy skeyed
  have hl : Go.WideAt.IsKeyLit (keyS k) := trivial
  unfold Oper.wp
  simp [execOp, ho, hm, hx, hv, hrun, Result.andThen]
  refine h _ ⟨_, r1, fun s => ?_, fun s e hs => ?_, ?_⟩ r2
  · unfold updH
    by_cases e : s = k
    · rw [if_pos e, e, Maps.has_put_same ht.isMap hl]; rfl
    · rw [if_neg e, Maps.has_put_other (fun e' => e (keyS_inj e')), h2]
  · unfold updH at hs
    by_cases e' : s = k
    · rw [if_pos e'] at hs
      cases hs
      exact ⟨hc, fun z => by rw [e', Maps.atKey_put_same ht.isMap hl]⟩
    · rw [if_neg e'] at hs
      exact ⟨(h3 s e hs).1, fun z => by rw [Maps.atKey_put_other (fun e'' => e' (keyS_inj e'')), (h3 s e hs).2 z]⟩
  · rw [Maps.size_put ht, h2, h4]
set_option maxHeartbeats 3200000 in
set_option maxRecDepth 100000 in
theorem laid_full {base g : Nat} {F : Nat → Prop} {s : Sto} {w : World} (K : Nat) (nm : ByteArray → Bool) (hK : StFacts K nm) (hg : Good nm s) (kind : Int) (hkind : kind = 1 ∨ kind = 2) (x : ByteArray) (hx : nm x = true) (ex : List Int) (hex : ex.length ≤ 5000) (fid : FuncId) (fr : Array Value) (hcf : ∀ (vs : Array Value) (w : World), Sem.run Try.prog (callFunc fid vs) w = .ok (.enter fid vs) w) (hput : ∀ (g2 : Nat) (W1 : World), Below w.heap.size w W1 → WtAt w.heap.size g2 (fun _ => True) ([0] ++ nameBytes x) W1 → Calls Try.prog fid (#[.pointer (some ⟨g2, 0, none⟩)] ++ fr) W1 fun e w' => e = .returned (.tuple #[]) ∧ WtAt w.heap.size g2 (fun _ => True) ([0] ++ nameBytes x ++ ex) w' ∧ Below w.heap.size W1 w') (h : SAt base F g s w) (hf : 1048576 < s.img.length + ([0] ++ nameBytes x ++ ex).length + 1) : Calls Try.prog 36 #[.pointer (some ⟨g, 0, none⟩), .int .u8 kind, .string x, .func (.func fid) #[] fr] w fun e w' => StPost base F g w (s, [], 7) e w' := by
  have hsz := (hK.siz x hx).2
  have hN : wire_IsName.f K x = some true := by rw [hK.rd.name x, hx]
  have himg := hg.img
  have H := Aside0.mk h
  have HPUT := Aside0.mk hput
  have HNM := Aside0.mk hN
  have hnl : (nameBytes x).length = x.size + 1 := by unfold nameBytes bytesOf; simp [Lib.toList_data]
  obtain ⟨R, hR⟩ : ∃ R, R = [0] ++ nameBytes x ++ ex := ⟨_, rfl⟩
  have hRl : R.length = x.size + 2 + ex.length := by rw [hR]; simp [hnl]; omega
  have HRE := Aside0.mk hR
  have HRL := Aside0.mk hRl
  have HH := Aside0.mk h
  rw [← hR] at hf
  clear hR hRl hnl
  have hsh := h.now
  clear h hput hK hg hN hx
  go_enter Try.func36, Try.ntmps36
  go_wp2_with fail
  refine (New_calls w).mono ?_
  rintro e w1 ⟨gw, rfl, hwt, hb⟩
  have HWT := Aside0.mk hwt
  have HB := Aside0.mk hb
  clear hwt hb
  go_wp2_with fail
  refine (wByte_good HWT.out 0 (by decide) (by decide)).mono ?_
  rintro e w2 ⟨q, _⟩
  obtain ⟨rfl, hwt, hb, _⟩ := q (by simp)
  replace HWT := Aside0.mk (show WtAt w.heap.size gw (fun _ => True) [0] w2 from hwt.mono (fun _ _ => trivial))
  replace HB := Aside0.mk (HB.out.trans hb)
  clear hwt hb q
  go_wp2_with fail
  refine (wName_good HWT.out K x HNM.out hsz).mono ?_
  rintro e w3 ⟨q, _⟩
  obtain ⟨rfl, hwt, hb, _⟩ := q (by simp; omega)
  replace HWT := Aside0.mk (show WtAt w.heap.size gw (fun _ => True) ([0] ++ nameBytes x) w3 from hwt.mono (fun _ _ => trivial))
  replace HB := Aside0.mk (HB.out.trans hb)
  clear hwt hb q
  go_wp2_with fail
  refine (HPUT.out gw w3 HB.out HWT.out).mono ?_
  rintro e w4 ⟨rfl, hwt, hb⟩
  rw [← HRE.out] at hwt
  replace HWT := Aside0.mk hwt
  replace HB := Aside0.mk (HB.out.trans hb)
  clear hwt hb
  go_wp2_with fail
  refine (Bytes_wt HWT.out).mono ?_
  have HW4 := Aside0.mk HB.out.size
  rintro e w5 ⟨vb, rfl, hrb, hb⟩
  replace HB := Aside0.mk (below_step HB.out hb)
  obtain ⟨gb, cb, evb, hgb0, hgb, cells, hgc⟩ := Kd.R_form hrb (by have := HRL.out; omega)
  subst evb
  replace H := Aside0.mk (H.out.step HB.out)
  obtain ⟨⟨vi, B, m, h1, h2, _⟩, _, _⟩ := H.out
  obtain ⟨Ai, ci, rfl⟩ := Kd.R_slice h2
  have hc0 := blk_cell h1 0
  have hw1 : wrap64 ((1048576 : Int) - (s.img.length : Int)) = (1048576 : Int) - (s.img.length : Int) := by unfold wrap64; omega
  have c1 : decide ((R.length : Int) ≥ (1048576 : Int) - (s.img.length : Int)) = true := decide_eq_true (by omega)
  clear h1 h2 hrb hgc hb hsh
  go_wp2_with fail
  go_ret2
  exact StPost.same HH.out HB.out 7
theorem typ_nst {W : World} {a b t u : Nat} {cs ds : Array Value} (h1 : W.heap[a]? = some (.cells cs t (0, 0))) (h2 : W.heap[b]? = some (.cells ds u (0, 0))) (hn : t ≠ u) : a ≠ b := fun e => by
  subst e
  rw [h1] at h2
  injection h2 with h2
  injection h2 with _ h2
  exact hn h2
theorem byte_fits {n : Nat} (h : n ≤ 2097152) : Builtin.nextslicecap (n + 1) n * 1 ≤ 281474976710656 := growslice_fits (need := n + 1) (old := n) (bytes := 1) (Nat.lt_succ_self n) (by omega)
def Halt_ (p : Prop) : Prop := p
theorem halt_at {p : Prop} (h : Halt_ p) : p := h
theorem halt_go {p : Prop} (h : p) : Halt_ p := h
theorem st_store1 {P : Program} {ops : Array Oper} {rest : List Oper} {o : Oper} {a : Act} {Q : Exit → Act → World → Prop} (hgd : o.guard = none) (ty : TypeId) {x y : Operand} (ho : o.op = .store ty x y) {g i : Nat} (hx : a.eval x = .pointer (some ⟨g, i, none⟩)) {u : Value} (hy : a.eval y = u) (hu : u.oneCell' = true) {W : World} {t : TypeId} {cs : Array Value} (hg : W.heap[g]? = some (.cells cs t (0, 0))) (hi : i < cs.size) (hsz : (P.info? ty).map (·.size) = some 1)
    (h : wpList P ops Q rest (a.put o.dst undef) (W.setCell ⟨g, i, none⟩ u)) : wpList P ops Q (o :: rest) a W :=
  wpList_plain hgd fun _ hK => by
    have hrun := run_store_one_cell (P := P) ty hg hi hu hsz
    unfold Oper.wp execOp
    simp only [ho, hx, hy, Instr.storeAt, Instr.sureAddr, Sem.run_bind, Sem.run_pure, Result.andThen_ok, hrun]
    exact hK _ _ h
theorem cells_pos {W : World} {gb n c base : Nat} {ok : Nat → Prop} {xs : List Int} {cells : Array Value} (h : Kd.R (Kd.int .u8) 5 W base ok (.slice (some ⟨gb, 0, none⟩) n c) xs) (hn : 0 < xs.length) (hg : W.heap[gb]? = some (.cells cells 5 (0, 0))) : 0 < cells.size := by
  have h1 := Kd.foot_int (Kd.R_reads' h).2.2 0 (by decide) (by omega)
  have h2 := blk_cell hg 0
  rw [show ((⟨gb, 0, none⟩ : Addr).add (0 : Int).toNat) = ⟨gb, 0, none⟩ from rfl, h2] at h1
  exact (Array.getElem?_eq_some_iff.1 h1).1
theorem setCell_size (W : World) (p : Addr) (u : Value) : (W.setCell p u).heap.size = W.heap.size := by simp [World.setCell]
theorem WrAt.made {S1 : Nat} {A : Option Addr} {n c : Nat} {r0 : List Int} {W : World} (h : Kd.R (Kd.int .u8) 5 W S1 (fun _ => True) (.slice A n c) r0) (hS : S1 ≤ W.heap.size) (kind at_ : Int) :
    WrAt S1 (W.heap.size + 2) (.slice (some ⟨W.heap.size + 1, 0, none⟩) 2 2) at_ r0 [kind] ((W.alloc (.cells #[.int .u8 kind] 5)).alloc (.cells #[.int .i64 at_, .slice A n c, .int .i64 at_, .slice (some ⟨W.heap.size, 0, none⟩) 1 1] 52)) := by
  have hs : (W.alloc (.cells #[.int .u8 kind] 5)).heap.size = W.heap.size + 1 := by simp
  have h1 := Kd.R_alloc (Kd.R_alloc (Kd.R_bound h) (.cells #[.int .u8 kind] 5)) (.cells #[.int .i64 at_, .slice A n c, .int .i64 at_, .slice (some ⟨W.heap.size, 0, none⟩) 1 1] 52)
  have h2 : Kd.R (Kd.int .u8) 5 (W.alloc (.cells #[.int .u8 kind] 5)) S1 (fun b => S1 ≤ b ∧ b < W.heap.size + 2) (.slice (some ⟨W.heap.size, 0, none⟩) 1 1) [kind] := Kd.R_mono (Kd.R_bound (Kd.R_lower (R_of_nums (one_own W kind)) hS)) (fun b q => ⟨q.2.1, by have := q.2.2.1; rw [hs] at this; omega⟩)
  refine ⟨W.heap.size + 1, _, _, rfl, ?_, Kd.R_mono h1 (fun b q => ⟨q.2.1, by have := q.2.2.1; omega⟩), Kd.R_alloc h2 _, fun b hb e => ?_, by omega, by omega⟩
  · rw [← hs]; exact blk_new _ _
  · have h3 := Kd.R_lt h b hb
    have h4 : b = W.heap.size := by
      have : some W.heap.size = some b := e
      injection this with this
      exact this.symm
    omega
theorem SAt.cells {base g : Nat} {F : Nat → Prop} {s : Sto} {W : World} (h : SAt base F g s W) : ∃ (A : Option Addr) (c B : Nat) (m : ByteArray → Option Hd), W.heap[g]? = some (.cells #[.slice A s.img.length c, .map (some B), .bool true] 62 (0, 0)) ∧ Kd.R (Kd.int .u8) 5 W base F (.slice A s.img.length c) s.img ∧ HMap W B s.L.length m s.L.length ∧ F B ∧ (∀ x, (m x).isSome = (lkL s.L x).isSome) ∧
    ∀ x d, m x = some d → ∀ xs, lkL s.L x = some xs → d.n = xs.length ∧ xs.length ≤ d.c ∧ Kd.F (Kd.int .u8) W (fun b => F b ∧ (Value.slice A s.img.length c).ownBlock ≠ some b ∧ b ≠ B ∧ b ≠ g) d.A xs.length xs := by
  obtain ⟨⟨v, B, m, h1, h2, h3⟩, _, _⟩ := h
  obtain ⟨A, c, rfl⟩ := Kd.R_slice h2
  exact ⟨A, c, B, m, h1, h2, h3⟩
theorem SAt.image {base g : Nat} {F F' : Nat → Prop} {s : Sto} {W W1 W2 : World} {A : Option Addr} {c B : Nat} {m : ByteArray → Option Hd} {v : Value} {img : List Int}
    (h1 : W.heap[g]? = some (.cells #[.slice A s.img.length c, .map (some B), .bool true] 62 (0, 0))) (h2 : Kd.R (Kd.int .u8) 5 W base F (.slice A s.img.length c) s.img) (h3 : HMap W B s.L.length m s.L.length) (h4 : F B) (h5 : ∀ x, (m x).isSome = (lkL s.L x).isSome)
    (h6 : ∀ x d, m x = some d → ∀ xs, lkL s.L x = some xs → d.n = xs.length ∧ xs.length ≤ d.c ∧ Kd.F (Kd.int .u8) W (fun b => F b ∧ (Value.slice A s.img.length c).ownBlock ≠ some b ∧ b ≠ B ∧ b ≠ g) d.A xs.length xs) (hf : F g) (hl : ∀ b, F b → base ≤ b ∧ b < W.heap.size)
    (hg : W.grownBy W1 (Value.slice A s.img.length c).ownBlock) (hat : v.ownBlock = (Value.slice A s.img.length c).ownBlock ∨ ∃ b, v.ownBlock = some b ∧ W.heap.size ≤ b) (hR : Kd.R (Kd.int .u8) 5 W1 base F' v img) (hF : ∀ b, F b → F' b) (hl' : ∀ b, F' b → base ≤ b ∧ b < W1.heap.size) (hW2 : W2 = W1.setCell ⟨g, 0, none⟩ v) :
    SAt base F' g ⟨img, s.L⟩ W2 := by
  subst hW2
  have n1 : ∀ b, (Value.slice A s.img.length c).ownBlock = some b → ∃ cs, W.heap[b]? = some (.cells cs 5 (0, 0)) := fun b q => Kd.R_typed h2 b q
  have n2 : some g ≠ (Value.slice A s.img.length c).ownBlock := fun q => by
    obtain ⟨cs, h7⟩ := n1 g q.symm
    exact typ_nst h1 h7 (by decide) rfl
  have n3 : some B ≠ (Value.slice A s.img.length c).ownBlock := fun q => by
    obtain ⟨cs, h7⟩ := n1 B q.symm
    exact h3.ne h7 rfl
  have n4 : B ≠ g := h3.ne h1
  have g1 := (hg.block g (blk_lt h1) n2).trans h1
  have hs : (W1.setCell ⟨g, 0, none⟩ v).heap.size = W1.heap.size := by simp [World.setCell]
  refine ⟨⟨v, B, m, blk_set g1 0 v, Kd.R_set hR g1 (by decide) 0 v, (h3.block (hg.block B h3.lt n3)).block (Below.heap_setCell _ _ _ B n4), hF _ h4, h5, fun x d hd xs hx => ?_⟩, hF _ hf, fun b q => ⟨(hl' b q).1, by rw [hs]; exact (hl' b q).2⟩⟩
  obtain ⟨q1, q2, q3⟩ := h6 x d hd xs hx
  refine ⟨q1, q2, Kd.F_mono (Kd.F_far (Kd.F_grown (Kd.F_bound q3) hg (fun k hk q => hk.1.2.1 q.symm)) (fun k hk => hk.1.2.2.2) v) (fun b q => ⟨hF _ q.1.1, fun e => ?_, q.1.2.2⟩)⟩
  rcases hat with hat | ⟨b', e2, e3⟩
  · rw [hat] at e
    exact q.1.2.1 e
  · rw [e2] at e
    injection e with e
    have := q.2
    omega
end
end Go.Proofs.Ytfakdphkklclgaa.P
end

