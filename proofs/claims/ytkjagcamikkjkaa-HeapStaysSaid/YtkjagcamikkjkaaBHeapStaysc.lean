/- Proved: the law HeapStays holds for every input that the row lets in. No condition of ours. -/
import Derived.Test.YtkjagcamikkjkaaBHeapStaysb
import Derived.Test.YtkjagcamikkjkaaProg
import Derived.WalkSpells
import Derived.ChangeKeysEq
import Derived.Deep.MidRow
import Derived.Maps.RangeWalk
import Derived.Maps.OwnSet
import Derived.Maps.OwnOps
import Derived.Lib.IfaceEq
import Derived.Laws.Externs
import Derived.Laws.Entries
import Derived.Stop.Asserts
import Derived.Shelf.SlIterI.Nil
import Derived.Shelf.SortM.Plain
import Derived.Shelf.SortM.SortNone
import Derived.Ground.GgzProg
import Derived.Ground.SlgmProg
section
namespace Go.Proofs.Ytkjagcamikkjkaa.P
open Go.RowKit Go.Proofs.YtkjagcamikkjkaaW.PrintWords Go.Proofs.YtkjagcamikkjkaaW.PrintLast Go.Proofs.YtkjagcamikkjkaaW.PrintMore
attribute [local go_sem] max2_int min2_int max_two min_two max_three min_three max_four min_four   -- for this text's walks alone
set_option linter.unusedVariables false
set_option linter.unusedSimpArgs false



def errW : Option Int → Value
  | none => .nilIface
  | some c => .iface 24 (.int .i64 c)
theorem errW_none : errW none = .nilIface := rfl
theorem errW_some (c : Int) : errW (some c) = .iface 24 (.int .i64 c) := rfl

theorem info3 : (Try.prog.info? 3).map (fun i => (i.zero, i.size, i.bytes)) = some (some (.int .i64 0), 1, 8) := by kernel_rfl
theorem info9 : (Try.prog.info? 9).map (fun i => (i.zero, i.size, i.bytes)) = some (some (.string ⟨#[]⟩), 1, 16) := by kernel_rfl
theorem info29 : (Try.prog.info? 29).map (fun i => (i.zero, i.size, i.bytes)) = some (some (.agg #[(.string ⟨#[]⟩), (.int .u8 0)]), 2, 24) := by kernel_rfl
structure S29 where
  f0 : ByteArray
  f1 : Int
def z29 : S29 := ⟨(⟨#[]⟩ : ByteArray), (0 : Int)⟩
def k29 : Kd S29 := Kd.iso (Kd.pair Kd.string (Kd.int .u8)) (fun x : S29 => (x.f0, x.f1))
theorem k29_open {w : World} {x : S29} {cs : List Value} (h : k29.K w x cs) : cs = [.string x.f0, .int .u8 x.f1] := by
  obtain ⟨_, _, rfl, rfl, rfl⟩ := h
  exact rfl
theorem k29_mk (w : World) (x : S29)  : k29.K w x [.string x.f0, .int .u8 x.f1] := ⟨[.string x.f0], [.int .u8 x.f1], rfl, rfl, rfl⟩
def rd_T29 (xs : List S29) (i : Int) : S29 := xs.getD i.toNat z29
theorem at_T29 {w : World} {A : Option Addr} {n : Nat} {xs : List S29} (h : Kd.C k29 w A n xs) (i : Int) (h0 : 0 ≤ i) (h1 : i < n) : ∃ ad , A = some ad ∧ w.cell? (ad.add (i.toNat * 2)) = some (.string (rd_T29 xs i).f0) ∧ w.cell? ⟨(ad.add (i.toNat * 2)).block, (ad.add (i.toNat * 2)).off + 1, none⟩ = some (.int .u8 (rd_T29 xs i).f1) := by
  obtain ⟨ad, c, e, _, hK, hc0⟩ := Kd.C_get h z29 i h0 h1
  have hc : ∀ j u, c[j]? = some u → w.cell? (ad.add (i.toNat * 2 + j)) = some u := hc0
  obtain rfl := k29_open hK
  exact ⟨ad, e, hc 0 _ rfl, by rw [← add_field _ _ 1 (by omega)]; exact hc 1 _ rfl⟩

structure S32 where
  f0 : ByteArray
  f1 : Int
  f2 : (List S29)
def z32 : S32 := ⟨(⟨#[]⟩ : ByteArray), (0 : Int), ([] : List S29)⟩
def k32 : Kd S32 := Kd.iso (Kd.pair Kd.string (Kd.pair (Kd.int .i64) (Kd.slice 29 k29))) (fun x : S32 => (x.f0, x.f1, x.f2))
theorem k32_open {w : World} {x : S32} {cs : List Value} (h : k32.K w x cs) : ∃ A2 c2, cs = [.string x.f0, .int .i64 x.f1, .slice A2 x.f2.length c2] ∧ x.f2.length ≤ c2 ∧ k29.C w A2 x.f2.length x.f2 := by
  obtain ⟨_, _, rfl, rfl, ⟨_, _, rfl, rfl, ⟨A2, c2, rfl, l2, g2⟩⟩⟩ := h
  exact ⟨A2, c2, rfl, l2, g2⟩
theorem k32_mk (w : World) (x : S32) {A2 : Option Addr} {c2 : Nat} (l2 : x.f2.length ≤ c2) (g2 : k29.C w A2 x.f2.length x.f2) : k32.K w x [.string x.f0, .int .i64 x.f1, .slice A2 x.f2.length c2] := ⟨[.string x.f0], [.int .i64 x.f1, .slice A2 x.f2.length c2], rfl, rfl, ⟨[.int .i64 x.f1], [.slice A2 x.f2.length c2], rfl, rfl, ⟨A2, c2, rfl, l2, g2⟩⟩⟩
def rd_T32 (xs : List S32) (i : Int) : S32 := xs.getD i.toNat z32
theorem at_T32 {w : World} {A : Option Addr} {n : Nat} {xs : List S32} (h : Kd.C k32 w A n xs) (i : Int) (h0 : 0 ≤ i) (h1 : i < n) : ∃ ad A2 c2, A = some ad ∧ w.cell? (ad.add (i.toNat * 3)) = some (.string (rd_T32 xs i).f0) ∧ w.cell? ⟨(ad.add (i.toNat * 3)).block, (ad.add (i.toNat * 3)).off + 1, none⟩ = some (.int .i64 (rd_T32 xs i).f1) ∧ w.cell? ⟨(ad.add (i.toNat * 3)).block, (ad.add (i.toNat * 3)).off + 2, none⟩ = some (.slice A2 (rd_T32 xs i).f2.length c2) ∧ (rd_T32 xs i).f2.length ≤ c2 ∧ k29.C w A2 (rd_T32 xs i).f2.length (rd_T32 xs i).f2 := by
  obtain ⟨ad, c, e, _, hK, hc0⟩ := Kd.C_get h z32 i h0 h1
  have hc : ∀ j u, c[j]? = some u → w.cell? (ad.add (i.toNat * 3 + j)) = some u := hc0
  obtain ⟨A2, c2, rfl, l2, g2⟩ := k32_open hK
  exact ⟨ad, A2, c2, e, hc 0 _ rfl, by rw [← add_field _ _ 1 (by omega)]; exact hc 1 _ rfl, by rw [← add_field _ _ 2 (by omega)]; exact hc 2 _ rfl, l2, g2⟩

structure S89 where
  f0 : Int
  f1 : Int
  f2 : Int
  f3 : Int
  f4 : (List Int)
def z89 : S89 := ⟨(0 : Int), (0 : Int), (0 : Int), (0 : Int), ([] : List Int)⟩
def k89 : Kd S89 := Kd.iso (Kd.pair (Kd.int .i64) (Kd.pair (Kd.int .i64) (Kd.pair (Kd.int .i64) (Kd.pair (Kd.int .i64) (Kd.slice 3 (Kd.int .i64)))))) (fun x : S89 => (x.f0, x.f1, x.f2, x.f3, x.f4))
theorem k89_open {w : World} {x : S89} {cs : List Value} (h : k89.K w x cs) : ∃ A4 c4, cs = [.int .i64 x.f0, .int .i64 x.f1, .int .i64 x.f2, .int .i64 x.f3, .slice A4 x.f4.length c4] ∧ x.f4.length ≤ c4 ∧ (Kd.int .i64).C w A4 x.f4.length x.f4 := by
  obtain ⟨_, _, rfl, rfl, ⟨_, _, rfl, rfl, ⟨_, _, rfl, rfl, ⟨_, _, rfl, rfl, ⟨A4, c4, rfl, l4, g4⟩⟩⟩⟩⟩ := h
  exact ⟨A4, c4, rfl, l4, g4⟩
def rd_T89 (xs : List S89) (i : Int) : S89 := xs.getD i.toNat z89
theorem at_T89 {w : World} {A : Option Addr} {n : Nat} {xs : List S89} (h : Kd.C k89 w A n xs) (i : Int) (h0 : 0 ≤ i) (h1 : i < n) : ∃ ad A4 c4, A = some ad ∧ w.cell? (ad.add (i.toNat * 5)) = some (.int .i64 (rd_T89 xs i).f0) ∧ w.cell? ⟨(ad.add (i.toNat * 5)).block, (ad.add (i.toNat * 5)).off + 1, none⟩ = some (.int .i64 (rd_T89 xs i).f1) ∧ w.cell? ⟨(ad.add (i.toNat * 5)).block, (ad.add (i.toNat * 5)).off + 2, none⟩ = some (.int .i64 (rd_T89 xs i).f2) ∧ w.cell? ⟨(ad.add (i.toNat * 5)).block, (ad.add (i.toNat * 5)).off + 3, none⟩ = some (.int .i64 (rd_T89 xs i).f3) ∧ w.cell? ⟨(ad.add (i.toNat * 5)).block, (ad.add (i.toNat * 5)).off + 4, none⟩ = some (.slice A4 (rd_T89 xs i).f4.length c4) ∧ (rd_T89 xs i).f4.length ≤ c4 ∧ (Kd.int .i64).C w A4 (rd_T89 xs i).f4.length (rd_T89 xs i).f4 := by
  obtain ⟨ad, c, e, _, hK, hc0⟩ := Kd.C_get h z89 i h0 h1
  have hc : ∀ j u, c[j]? = some u → w.cell? (ad.add (i.toNat * 5 + j)) = some u := hc0
  obtain ⟨A4, c4, rfl, l4, g4⟩ := k89_open hK
  exact ⟨ad, A4, c4, e, hc 0 _ rfl, by rw [← add_field _ _ 1 (by omega)]; exact hc 1 _ rfl, by rw [← add_field _ _ 2 (by omega)]; exact hc 2 _ rfl, by rw [← add_field _ _ 3 (by omega)]; exact hc 3 _ rfl, by rw [← add_field _ _ 4 (by omega)]; exact hc 4 _ rfl, l4, g4⟩

end Go.Proofs.Ytkjagcamikkjkaa.P

end

section
namespace Go.Proofs.Ytkjagcamikkjkaa.P
open Go.RowKit Go.Proofs.YtkjagcamikkjkaaW.PrintWords Go.Proofs.Ytkjagcamikkjkaa.Sees

def Ok29 (x : S29) : Prop := (fun s : ByteArray => s.size ≤ 140737488351232) x.f0 ∧ (fun n : Int => (Lit.int .u8 n).wf = true) x.f1
theorem sees29 : Sees Try.prog 29 k29 Ok29 := sees_struct (fun x : S29 => (x.f0, x.f1)) (fun y => ⟨y.1, y.2⟩) (fun _ => rfl) Try.underlying29 (by kernel_rfl) (sees_more rfl (by kernel_rfl) (sees_string Try.underlying9) (sees_last rfl (by kernel_rfl) (sees_int Try.underlying27)))
def Ok32 (x : S32) : Prop := (fun s : ByteArray => s.size ≤ 140737488351232) x.f0 ∧ (fun n : Int => (Lit.int .i64 n).wf = true) x.f1 ∧ (fun l : List (S29) => l.length ≤ 9223372036854775807 ∧ l.length * 24 ≤ 140737488351232 ∧ ∀ x ∈ l, Ok29 x) x.f2
theorem sees32 : Sees Try.prog 32 k32 Ok32 := sees_struct (fun x : S32 => (x.f0, x.f1, x.f2)) (fun y => ⟨y.1, y.2.1, y.2.2⟩) (fun _ => rfl) Try.underlying32 (by kernel_rfl) (sees_more rfl (by kernel_rfl) (sees_string Try.underlying9) (sees_more rfl (by kernel_rfl) (sees_int Try.underlying3) (sees_last rfl (by kernel_rfl) (sees_slice (B := 24) Try.underlying30 (by kernel_rfl) (by kernel_rfl) sees29))))
def Ok89 (x : S89) : Prop := (fun n : Int => (Lit.int .i64 n).wf = true) x.f0 ∧ (fun n : Int => (Lit.int .i64 n).wf = true) x.f1 ∧ (fun n : Int => (Lit.int .i64 n).wf = true) x.f2 ∧ (fun n : Int => (Lit.int .i64 n).wf = true) x.f3 ∧ (fun l : List (Int) => l.length ≤ 9223372036854775807 ∧ l.length * 8 ≤ 140737488351232 ∧ ∀ x ∈ l, (fun n : Int => (Lit.int .i64 n).wf = true) x) x.f4
theorem sees89 : Sees Try.prog 89 k89 Ok89 := sees_struct (fun x : S89 => (x.f0, x.f1, x.f2, x.f3, x.f4)) (fun y => ⟨y.1, y.2.1, y.2.2.1, y.2.2.2.1, y.2.2.2.2⟩) (fun _ => rfl) Try.underlying89 (by kernel_rfl) (sees_more rfl (by kernel_rfl) (sees_int Try.underlying3) (sees_more rfl (by kernel_rfl) (sees_int Try.underlying3) (sees_more rfl (by kernel_rfl) (sees_int Try.underlying3) (sees_more rfl (by kernel_rfl) (sees_int Try.underlying3) (sees_last rfl (by kernel_rfl) (sees_slice (B := 8) Try.underlying37 (by kernel_rfl) (by kernel_rfl) (sees_int Try.underlying3)))))))
end Go.Proofs.Ytkjagcamikkjkaa.P

end

section
namespace Go.Proofs.Ytkjagcamikkjkaa.P
open Go.RowKit Go.Proofs.YtkjagcamikkjkaaW.PrintWords Go.Proofs.YtkjagcamikkjkaaW.PrintLast Go.Proofs.YtkjagcamikkjkaaW.PrintMore
attribute [local go_sem] max2_int min2_int max_two min_two max_three min_three max_four min_four   -- for this text's walks alone
set_option linter.unusedVariables false
set_option linter.unusedSimpArgs false

mutual
def wire_IsName.j0 : Nat → ByteArray → Bool → Option (Bool)
  | 0, _, _ => none
  | k + 1, x0, x12 => if x12 = true then (some false) else (wire_IsName.l0 k x0 (x0.size : Int) 0)
def wire_IsName.l0 : Nat → ByteArray → Int → Int → Option (Bool)
  | 0, _, _, _ => none
  | k + 1, x0, x14, x15 => if x15 < x14 then (if 0 ≤ x15 then (if x15 < (x0.size : Int) then (if (bt x0 x15) ≥ 97 then (wire_IsName.j2 k x0 x15 (bt x0 x15) x14 x15 (decide ((bt x0 x15) ≤ 122))) else (wire_IsName.j2 k x0 x15 (bt x0 x15) x14 x15 false)) else (none)) else (none)) else (some true)
def wire_IsName.j2 : Nat → ByteArray → Int → Int → Int → Int → Bool → Option (Bool)
  | 0, _, _, _, _, _, _ => none
  | k + 1, x0, x3, x4, x14, x15, x21 => if x21 = true then (wire_IsName.j3 k x0 x3 x4 x14 x15 x21) else (if x4 ≥ 65 then (wire_IsName.j3 k x0 x3 x4 x14 x15 (decide (x4 ≤ 90))) else (wire_IsName.j3 k x0 x3 x4 x14 x15 false))
def wire_IsName.j3 : Nat → ByteArray → Int → Int → Int → Int → Bool → Option (Bool)
  | 0, _, _, _, _, _, _ => none
  | k + 1, x0, x3, x4, x14, x15, x21 => if x21 = true then (wire_IsName.l0 k x0 x14 (wrap64 (x15 + 1))) else (if x3 > 0 then (if x4 ≥ 48 then (if x4 ≤ 57 then (wire_IsName.l0 k x0 x14 (wrap64 (x15 + 1))) else (if x4 = 95 then (wire_IsName.l0 k x0 x14 (wrap64 (x15 + 1))) else (some false))) else (if x4 = 95 then (wire_IsName.l0 k x0 x14 (wrap64 (x15 + 1))) else (some false))) else (some false))
end
def wire_IsName.f (k : Nat) (a0 : ByteArray) : Option (Bool) := if (a0.size : Int) = 0 then (wire_IsName.j0 k a0 true) else (wire_IsName.j0 k a0 (decide ((a0.size : Int) > 24)))
theorem wire_IsName.mono_l : ∀ k, (∀ y0 y1, LeO (wire_IsName.j0 k y0 y1) (wire_IsName.j0 (k + 1) y0 y1)) ∧ (∀ y0 y1 y2, LeO (wire_IsName.l0 k y0 y1 y2) (wire_IsName.l0 (k + 1) y0 y1 y2)) ∧ (∀ y0 y1 y2 y3 y4 y5, LeO (wire_IsName.j2 k y0 y1 y2 y3 y4 y5) (wire_IsName.j2 (k + 1) y0 y1 y2 y3 y4 y5)) ∧ (∀ y0 y1 y2 y3 y4 y5, LeO (wire_IsName.j3 k y0 y1 y2 y3 y4 y5) (wire_IsName.j3 (k + 1) y0 y1 y2 y3 y4 y5))
  | 0 => ⟨fun _ _ r h => by simp [wire_IsName.j0] at h, fun _ _ _ r h => by simp [wire_IsName.l0] at h, fun _ _ _ _ _ _ r h => by simp [wire_IsName.j2] at h, fun _ _ _ _ _ _ r h => by simp [wire_IsName.j3] at h⟩
  | k + 1 => by
    obtain ⟨ih0, ih1, ih2, ih3⟩ := wire_IsName.mono_l k
    refine ⟨?_, ?_, ?_, ?_⟩
    · intro y0 y1
      unfold wire_IsName.j0
      repeat' first
      | (with_reducible exact ih0 _ _)
      | (with_reducible exact ih1 _ _ _)
      | (with_reducible exact ih2 _ _ _ _ _ _)
      | (with_reducible exact ih3 _ _ _ _ _ _)
      | (with_reducible exact LeO.refl _)
      | (with_reducible exact LeO.none _)
      | (with_reducible refine LeO.ite ?_ ?_)
      | (with_reducible refine LeO.bind ?_ (fun _ => ?_))
      | exact ih0 _ _
      | exact ih1 _ _ _
      | exact ih2 _ _ _ _ _ _
      | exact ih3 _ _ _ _ _ _
      | exact LeO.none _
      | refine LeO.ite ?_ ?_
      | refine LeO.bind ?_ (fun _ => ?_)
    · intro y0 y1 y2
      unfold wire_IsName.l0
      repeat' first
      | (with_reducible exact ih0 _ _)
      | (with_reducible exact ih1 _ _ _)
      | (with_reducible exact ih2 _ _ _ _ _ _)
      | (with_reducible exact ih3 _ _ _ _ _ _)
      | (with_reducible exact LeO.refl _)
      | (with_reducible exact LeO.none _)
      | (with_reducible refine LeO.ite ?_ ?_)
      | (with_reducible refine LeO.bind ?_ (fun _ => ?_))
      | exact ih0 _ _
      | exact ih1 _ _ _
      | exact ih2 _ _ _ _ _ _
      | exact ih3 _ _ _ _ _ _
      | exact LeO.none _
      | refine LeO.ite ?_ ?_
      | refine LeO.bind ?_ (fun _ => ?_)
    · intro y0 y1 y2 y3 y4 y5
      unfold wire_IsName.j2
      repeat' first
      | (with_reducible exact ih0 _ _)
      | (with_reducible exact ih1 _ _ _)
      | (with_reducible exact ih2 _ _ _ _ _ _)
      | (with_reducible exact ih3 _ _ _ _ _ _)
      | (with_reducible exact LeO.refl _)
      | (with_reducible exact LeO.none _)
      | (with_reducible refine LeO.ite ?_ ?_)
      | (with_reducible refine LeO.bind ?_ (fun _ => ?_))
      | exact ih0 _ _
      | exact ih1 _ _ _
      | exact ih2 _ _ _ _ _ _
      | exact ih3 _ _ _ _ _ _
      | exact LeO.none _
      | refine LeO.ite ?_ ?_
      | refine LeO.bind ?_ (fun _ => ?_)
    · intro y0 y1 y2 y3 y4 y5
      unfold wire_IsName.j3
      repeat' first
      | (with_reducible exact ih0 _ _)
      | (with_reducible exact ih1 _ _ _)
      | (with_reducible exact ih2 _ _ _ _ _ _)
      | (with_reducible exact ih3 _ _ _ _ _ _)
      | (with_reducible exact LeO.refl _)
      | (with_reducible exact LeO.none _)
      | (with_reducible refine LeO.ite ?_ ?_)
      | (with_reducible refine LeO.bind ?_ (fun _ => ?_))
      | exact ih0 _ _
      | exact ih1 _ _ _
      | exact ih2 _ _ _ _ _ _
      | exact ih3 _ _ _ _ _ _
      | exact LeO.none _
      | refine LeO.ite ?_ ?_
      | refine LeO.bind ?_ (fun _ => ?_)
theorem wire_IsName.mono : ∀ a0 k, LeO (wire_IsName.f k a0) (wire_IsName.f (k + 1) a0) := by
  intro a0 k
  obtain ⟨ih0, ih1, ih2, ih3⟩ := wire_IsName.mono_l k
  unfold wire_IsName.f
  repeat' first
      | (with_reducible exact ih0 _ _)
      | (with_reducible exact ih1 _ _ _)
      | (with_reducible exact ih2 _ _ _ _ _ _)
      | (with_reducible exact ih3 _ _ _ _ _ _)
      | (with_reducible exact LeO.refl _)
      | (with_reducible exact LeO.none _)
      | (with_reducible refine LeO.ite ?_ ?_)
      | (with_reducible refine LeO.bind ?_ (fun _ => ?_))
      | exact ih0 _ _
      | exact ih1 _ _ _
      | exact ih2 _ _ _ _ _ _
      | exact ih3 _ _ _ _ _ _
      | exact LeO.none _
      | refine LeO.ite ?_ ?_
      | refine LeO.bind ?_ (fun _ => ?_)
set_option maxHeartbeats 8000000 in
set_option maxRecDepth 100000 in
theorem wire_IsName.calls (k : Nat) (a0 : ByteArray) (r : Bool) (w : World) (h : wire_IsName.f k a0 = some r) :
    Calls Try.prog 49 #[.string a0] w fun e w' => e = .returned (.bool r) ∧ Drawn0 w w' := by
  have H : (if (a0.size : Int) = 0 then (wire_IsName.j0 k a0 true) else (wire_IsName.j0 k a0 (decide ((a0.size : Int) > 24)))) = some r := h
  clear h
  have HC2 := Aside0.mk H
  clear H
  go_enter Try.func49, Try.ntmps49
  go_upto_region 1 with (fail)
  go_cut [12] (fun v12 wc => ∃ (kq : Nat) (x12_1 : Bool), v12 = .bool x12_1 ∧ Aside0 (wire_IsName.j0 kq a0 x12_1 = some r) ∧ Aside0 (kq ≤ k) ∧ Drawn0 w wc)
  case first =>
    have H := HC2.out
    clear HC2
    by_cases c3 : (a0.size : Int) = 0
    · rw [if_pos c3] at H
      have c3b0 : ((a0.size : Int) == 0) = true := beq_iff_eq.mpr c3
      have c3b1 : ((a0.size : Int) != 0) = false := bne_eq_false_iff_eq.mpr c3
      clear c3
      (first | rw [c3b0] | (simp only [i64_w, i32_w]; rw [c3b0]) | skip)
      have H' := Aside0.mk H
      clear H
      go_wp2
      go_meet
      case rel => exact ⟨_, (true), (by first | rfl | (simp; done) | (simp [*]; done)), H', ⟨by first | omega | exact Nat.le_refl _⟩, by repeat (first | exact Drawn0.refl _ | apply Drawn0.step)⟩
    · rw [if_neg c3] at H
      have c3b0 : ((a0.size : Int) == 0) = false := beq_eq_false_iff_ne.mpr c3
      have c3b1 : ((a0.size : Int) != 0) = true := bne_iff_ne.mpr c3
      (first | rw [c3b0] | (simp only [i64_w, i32_w]; rw [c3b0]) | skip)
      have H' := Aside0.mk H
      clear H
      go_wp2
      go_meet
      case rel => exact ⟨_, (decide ((a0.size : Int) > 24)), (by first | rfl | (simp; done) | (simp [*]; done)), H', ⟨by first | omega | exact Nat.le_refl _⟩, by repeat (first | exact Drawn0.refl _ | apply Drawn0.step)⟩
  case rest =>
    clear HC2
    try clear p2
    try clear c3
    try clear c3b0
    try clear c3b1
    obtain ⟨kq, x12_1, rfl, HA, HJ1, ⟨mc1, rfl⟩⟩ := hcut
    cases kq with
    | zero => exact absurd HA.out (by simp [wire_IsName.j0])
    | succ kj1 =>
      have H := HA.out
      clear HA
      simp only [wire_IsName.j0] at H
      by_cases c4 : x12_1 = true
      · subst c4
        have H1 : (some false) = some r := by rw [if_pos rfl] at H; exact H
        clear H
        have H := H1
        clear H1
        obtain rfl := Option.some.inj H
        go_wp2
        go_ret
        exact ⟨by first | rfl | (simp; done) | (simp [*]; done), by repeat (first | exact Drawn0.refl _ | apply Drawn0.step)⟩
      · replace c4 := Bool.eq_false_iff.mpr c4
        subst c4
        have H1 : (wire_IsName.l0 kj1 a0 (a0.size : Int) 0) = some r := by rw [if_neg (show ¬ (false = true) by decide)] at H; exact H
        clear H
        have H := H1
        clear H1
        have H' := Aside0.mk H
        clear H
        go_wp2
        go_loopg [15] kj1 (fun kq v15 w' => ∃ (x15_2 : Int), v15 = .int .i64 x15_2 ∧ Aside0 (wire_IsName.l0 kq a0 (a0.size : Int) x15_2 = some r) ∧ Aside0 (kq ≤ kj1) ∧ Drawn0 w w')
        case atStart => exact ⟨(0), (by first | rfl | (simp; done) | (simp [*]; done)), H', ⟨Nat.le_refl _⟩, by repeat (first | exact Drawn0.refl _ | apply Drawn0.step)⟩
        case round =>
          clear H'
          try clear c1
          try clear p2
          try clear c3
          try clear c3b0
          try clear c3b1
          try clear c4
          try clear p2
          obtain ⟨x15_2, rfl, HA, HK2, ⟨m2, rfl⟩⟩ := hrel
          cases gk with
          | zero => exact absurd HA.out (by simp [wire_IsName.l0])
          | succ k2 =>
            have H := HA.out
            clear HA
            simp only [wire_IsName.l0] at H
            by_cases c5 : x15_2 < (a0.size : Int)
            · rw [if_pos c5] at H
              have c5b0 : decide (x15_2 < (a0.size : Int)) = true := decide_eq_true c5
              clear c5
              by_cases c6 : 0 ≤ x15_2
              · rw [if_pos c6] at H
                have c6b0 : decide (0 ≤ x15_2) = true := decide_eq_true c6
                clear c6
                by_cases c7 : x15_2 < (a0.size : Int)
                · rw [if_pos c7] at H
                  have c7b0 : decide (x15_2 < (a0.size : Int)) = true := decide_eq_true c7
                  clear c7
                  have HC9 := Aside0.mk H
                  clear H
                  have p8 : 0 ≤ (x15_2 : Int) := of_decide_eq_true (by first | (with_reducible assumption) | assumption)
                  have q8 : x15_2 < (a0.size : Int) := of_decide_eq_true (by first | (with_reducible assumption) | assumption)
                  have hx8 := bt_at a0 x15_2
                  replace p8 := eq_true p8
                  replace q8 := eq_true q8
                  go_upto_region 8 with (fail)
                  go_cut [21] (fun v21 wc => ∃ (kq : Nat) (x21_8 : Bool), v21 = .bool x21_8 ∧ Aside0 (wire_IsName.j2 kq a0 x15_2 (bt a0 x15_2) (a0.size : Int) x15_2 x21_8 = some r) ∧ Aside0 (kq ≤ k2) ∧ Drawn0 w wc)
                  case first =>
                    have H := HC9.out
                    clear HC9
                    by_cases c10 : (bt a0 x15_2) ≥ 97
                    · rw [if_pos c10] at H
                      have c10b0 : decide (97 ≤ (bt a0 x15_2)) = true := decide_eq_true c10
                      clear c10
                      (first | rw [c10b0] | (simp only [i64_w, i32_w]; rw [c10b0]) | skip)
                      have H' := Aside0.mk H
                      clear H
                      go_wp2
                      go_meet
                      case rel => exact ⟨_, (decide ((bt a0 x15_2) ≤ 122)), (by first | rfl | (simp; done) | (simp [*]; done)), H', ⟨by have := HJ1.out; have := HK2.out; first | omega | exact Nat.le_refl _⟩, by repeat (first | exact Drawn0.refl _ | apply Drawn0.step)⟩
                    · rw [if_neg c10] at H
                      have c10b0 : decide (97 ≤ (bt a0 x15_2)) = false := decide_eq_false c10
                      clear c10
                      (first | rw [c10b0] | (simp only [i64_w, i32_w]; rw [c10b0]) | skip)
                      have H' := Aside0.mk H
                      clear H
                      go_wp2
                      go_meet
                      case rel => exact ⟨_, (false), (by first | rfl | (simp; done) | (simp [*]; done)), H', ⟨by have := HJ1.out; have := HK2.out; first | omega | exact Nat.le_refl _⟩, by repeat (first | exact Drawn0.refl _ | apply Drawn0.step)⟩
                  case rest =>
                    clear HC9
                    try clear c1
                    try clear p2
                    try clear c3
                    try clear c3b0
                    try clear c3b1
                    try clear c4
                    try clear c5
                    try clear c5b0
                    try clear c6
                    try clear c6b0
                    try clear c7
                    try clear c7b0
                    try clear p8
                    try clear q8
                    try clear hx8
                    try clear c10
                    try clear c10b0
                    try clear p2
                    try clear p8
                    try clear q8
                    obtain ⟨kq, x21_8, rfl, HA, HJ8, ⟨mc8, rfl⟩⟩ := hcut
                    cases kq with
                    | zero => exact absurd HA.out (by simp [wire_IsName.j2])
                    | succ kj8 =>
                      have H := HA.out
                      clear HA
                      simp only [wire_IsName.j2] at H
                      have HC11 := Aside0.mk H
                      clear H
                      go_upto_if 21 with (fail)
                      go_cut [21] (fun v21 wc => ∃ (kq : Nat) (x21_10 : Bool), v21 = .bool x21_10 ∧ Aside0 (wire_IsName.j3 kq a0 x15_2 (bt a0 x15_2) (a0.size : Int) x15_2 x21_10 = some r) ∧ Aside0 (kq ≤ kj8) ∧ Drawn0 w wc)
                      case first =>
                        have H := HC11.out
                        clear HC11
                        by_cases c12 : x21_8 = true
                        · subst c12
                          have H1 : (wire_IsName.j3 kj8 a0 x15_2 (bt a0 x15_2) (a0.size : Int) x15_2 true) = some r := by rw [if_pos rfl] at H; exact H
                          clear H
                          have H := H1
                          clear H1
                          have H' := Aside0.mk H
                          clear H
                          go_wp2
                          go_meet
                          case rel => exact ⟨_, (true), (by first | rfl | (simp; done) | (simp [*]; done)), H', ⟨by have := HJ1.out; have := HK2.out; have := HJ8.out; first | omega | exact Nat.le_refl _⟩, by repeat (first | exact Drawn0.refl _ | apply Drawn0.step)⟩
                        · replace c12 := Bool.eq_false_iff.mpr c12
                          subst c12
                          have H1 : (if (bt a0 x15_2) ≥ 65 then (wire_IsName.j3 kj8 a0 x15_2 (bt a0 x15_2) (a0.size : Int) x15_2 (decide ((bt a0 x15_2) ≤ 90))) else (wire_IsName.j3 kj8 a0 x15_2 (bt a0 x15_2) (a0.size : Int) x15_2 false)) = some r := by rw [if_neg (show ¬ (false = true) by decide)] at H; exact H
                          clear H
                          have H := H1
                          clear H1
                          by_cases c13 : (bt a0 x15_2) ≥ 65
                          · rw [if_pos c13] at H
                            have c13b0 : decide (65 ≤ (bt a0 x15_2)) = true := decide_eq_true c13
                            clear c13
                            (first | rw [c13b0] | (simp only [i64_w, i32_w]; rw [c13b0]) | skip)
                            have H' := Aside0.mk H
                            clear H
                            go_wp2
                            go_meet
                            case rel => exact ⟨_, (decide ((bt a0 x15_2) ≤ 90)), (by first | rfl | (simp; done) | (simp [*]; done)), H', ⟨by have := HJ1.out; have := HK2.out; have := HJ8.out; first | omega | exact Nat.le_refl _⟩, by repeat (first | exact Drawn0.refl _ | apply Drawn0.step)⟩
                          · rw [if_neg c13] at H
                            have c13b0 : decide (65 ≤ (bt a0 x15_2)) = false := decide_eq_false c13
                            clear c13
                            (first | rw [c13b0] | (simp only [i64_w, i32_w]; rw [c13b0]) | skip)
                            have H' := Aside0.mk H
                            clear H
                            go_wp2
                            go_meet
                            case rel => exact ⟨_, (false), (by first | rfl | (simp; done) | (simp [*]; done)), H', ⟨by have := HJ1.out; have := HK2.out; have := HJ8.out; first | omega | exact Nat.le_refl _⟩, by repeat (first | exact Drawn0.refl _ | apply Drawn0.step)⟩
                      case rest =>
                        clear HC11
                        try clear c1
                        try clear p2
                        try clear c3
                        try clear c3b0
                        try clear c3b1
                        try clear c4
                        try clear c5
                        try clear c5b0
                        try clear c6
                        try clear c6b0
                        try clear c7
                        try clear c7b0
                        try clear c8
                        try clear p8
                        try clear q8
                        try clear hx8
                        try clear c10
                        try clear c10b0
                        try clear c12
                        try clear c13
                        try clear c13b0
                        try clear p2
                        try clear p8
                        try clear q8
                        obtain ⟨kq, x21_10, rfl, HA, HJ10, ⟨mc10, rfl⟩⟩ := hcut
                        cases kq with
                        | zero => exact absurd HA.out (by simp [wire_IsName.j3])
                        | succ kj10 =>
                          have H := HA.out
                          clear HA
                          simp only [wire_IsName.j3] at H
                          by_cases c14 : x21_10 = true
                          · subst c14
                            have H1 : (wire_IsName.l0 kj10 a0 (a0.size : Int) (wrap64 (x15_2 + 1))) = some r := by rw [if_pos rfl] at H; exact H
                            clear H
                            have H := H1
                            clear H1
                            have H' := Aside0.mk H
                            clear H
                            go_wp2
                            go_roundg kj10
                            case measure => have := HJ1.out; have := HK2.out; have := HJ8.out; have := HJ10.out; omega
                            case rel => exact ⟨(wrap64 (x15_2 + 1)), (by first | rfl | (simp; done) | (simp [*]; done)), H', ⟨by have := HJ1.out; have := HK2.out; have := HJ8.out; have := HJ10.out; omega⟩, by repeat (first | exact Drawn0.refl _ | apply Drawn0.step)⟩
                          · replace c14 := Bool.eq_false_iff.mpr c14
                            subst c14
                            have H1 : (if x15_2 > 0 then (if (bt a0 x15_2) ≥ 48 then (if (bt a0 x15_2) ≤ 57 then (wire_IsName.l0 kj10 a0 (a0.size : Int) (wrap64 (x15_2 + 1))) else (if (bt a0 x15_2) = 95 then (wire_IsName.l0 kj10 a0 (a0.size : Int) (wrap64 (x15_2 + 1))) else (some false))) else (if (bt a0 x15_2) = 95 then (wire_IsName.l0 kj10 a0 (a0.size : Int) (wrap64 (x15_2 + 1))) else (some false))) else (some false)) = some r := by rw [if_neg (show ¬ (false = true) by decide)] at H; exact H
                            clear H
                            have H := H1
                            clear H1
                            by_cases c15 : x15_2 > 0
                            · rw [if_pos c15] at H
                              have c15b0 : decide (0 < x15_2) = true := decide_eq_true c15
                              clear c15
                              by_cases c16 : (bt a0 x15_2) ≥ 48
                              · rw [if_pos c16] at H
                                have c16b0 : decide (48 ≤ (bt a0 x15_2)) = true := decide_eq_true c16
                                clear c16
                                by_cases c17 : (bt a0 x15_2) ≤ 57
                                · rw [if_pos c17] at H
                                  have c17b0 : decide ((bt a0 x15_2) ≤ 57) = true := decide_eq_true c17
                                  clear c17
                                  have H' := Aside0.mk H
                                  clear H
                                  go_wp2
                                  go_roundg kj10
                                  case measure => have := HJ1.out; have := HK2.out; have := HJ8.out; have := HJ10.out; omega
                                  case rel => exact ⟨(wrap64 (x15_2 + 1)), (by first | rfl | (simp; done) | (simp [*]; done)), H', ⟨by have := HJ1.out; have := HK2.out; have := HJ8.out; have := HJ10.out; omega⟩, by repeat (first | exact Drawn0.refl _ | apply Drawn0.step)⟩
                                · rw [if_neg c17] at H
                                  have c17b0 : decide ((bt a0 x15_2) ≤ 57) = false := decide_eq_false c17
                                  clear c17
                                  by_cases c18 : (bt a0 x15_2) = 95
                                  · rw [if_pos c18] at H
                                    have c18b0 : ((bt a0 x15_2) == 95) = true := beq_iff_eq.mpr c18
                                    have c18b1 : ((bt a0 x15_2) != 95) = false := bne_eq_false_iff_eq.mpr c18
                                    clear c18
                                    have H' := Aside0.mk H
                                    clear H
                                    go_wp2
                                    go_roundg kj10
                                    case measure => have := HJ1.out; have := HK2.out; have := HJ8.out; have := HJ10.out; omega
                                    case rel => exact ⟨(wrap64 (x15_2 + 1)), (by first | rfl | (simp; done) | (simp [*]; done)), H', ⟨by have := HJ1.out; have := HK2.out; have := HJ8.out; have := HJ10.out; omega⟩, by repeat (first | exact Drawn0.refl _ | apply Drawn0.step)⟩
                                  · rw [if_neg c18] at H
                                    have c18b0 : ((bt a0 x15_2) == 95) = false := beq_eq_false_iff_ne.mpr c18
                                    have c18b1 : ((bt a0 x15_2) != 95) = true := bne_iff_ne.mpr c18
                                    obtain rfl := Option.some.inj H
                                    go_wp2
                                    go_ret
                                    exact ⟨by first | rfl | (simp; done) | (simp [*]; done), by repeat (first | exact Drawn0.refl _ | apply Drawn0.step)⟩
                              · rw [if_neg c16] at H
                                have c16b0 : decide (48 ≤ (bt a0 x15_2)) = false := decide_eq_false c16
                                clear c16
                                by_cases c19 : (bt a0 x15_2) = 95
                                · rw [if_pos c19] at H
                                  have c19b0 : ((bt a0 x15_2) == 95) = true := beq_iff_eq.mpr c19
                                  have c19b1 : ((bt a0 x15_2) != 95) = false := bne_eq_false_iff_eq.mpr c19
                                  clear c19
                                  have H' := Aside0.mk H
                                  clear H
                                  go_wp2
                                  go_roundg kj10
                                  case measure => have := HJ1.out; have := HK2.out; have := HJ8.out; have := HJ10.out; omega
                                  case rel => exact ⟨(wrap64 (x15_2 + 1)), (by first | rfl | (simp; done) | (simp [*]; done)), H', ⟨by have := HJ1.out; have := HK2.out; have := HJ8.out; have := HJ10.out; omega⟩, by repeat (first | exact Drawn0.refl _ | apply Drawn0.step)⟩
                                · rw [if_neg c19] at H
                                  have c19b0 : ((bt a0 x15_2) == 95) = false := beq_eq_false_iff_ne.mpr c19
                                  have c19b1 : ((bt a0 x15_2) != 95) = true := bne_iff_ne.mpr c19
                                  obtain rfl := Option.some.inj H
                                  go_wp2
                                  go_ret
                                  exact ⟨by first | rfl | (simp; done) | (simp [*]; done), by repeat (first | exact Drawn0.refl _ | apply Drawn0.step)⟩
                            · rw [if_neg c15] at H
                              have c15b0 : decide (0 < x15_2) = false := decide_eq_false c15
                              clear c15
                              obtain rfl := Option.some.inj H
                              go_wp2
                              go_ret
                              exact ⟨by first | rfl | (simp; done) | (simp [*]; done), by repeat (first | exact Drawn0.refl _ | apply Drawn0.step)⟩
                · rw [if_neg c7] at H
                  exact absurd H (by simp)
              · rw [if_neg c6] at H
                exact absurd H (by simp)
            · rw [if_neg c5] at H
              have c5b0 : decide (x15_2 < (a0.size : Int)) = false := decide_eq_false c5
              clear c5
              obtain rfl := Option.some.inj H
              go_wp2
              go_ret
              exact ⟨by first | rfl | (simp; done) | (simp [*]; done), by repeat (first | exact Drawn0.refl _ | apply Drawn0.step)⟩

def slices_Index_string_string.l0 : Nat → List ByteArray → ByteArray → Int → Int → Option (Int)
  | 0, _, _, _, _ => none
  | k + 1, x0, x1, x7, x8 => if x8 < x7 then (if 0 ≤ x8 then (if x8 < (x0.length : Int) then (if x1.toList = (rdOf ByteArray.empty x0 x8).toList then (some x8) else (slices_Index_string_string.l0 k x0 x1 x7 (wrap64 (x8 + 1)))) else (none)) else (none)) else (some (-1))
def slices_Index_string_string.f (k : Nat) (l0 : List ByteArray) (a1 : ByteArray) : Option (Int) := slices_Index_string_string.l0 k l0 a1 (l0.length : Int) 0
set_option maxHeartbeats 8000000 in
set_option maxRecDepth 100000 in
theorem slices_Index_string_string.calls (k : Nat) (A0 : Option Addr) (c0 : Nat) (l0 : List ByteArray) (a1 : ByteArray) (r : Int) (w : World) (hr0 : Kd.C Kd.string w A0 l0.length l0) (hc0 : l0.length ≤ c0) (h : slices_Index_string_string.f k l0 a1 = some r) :
    Calls Try.prog 74 #[.slice A0 l0.length c0, .string a1] w fun e w' => e = .returned (.int .i64 r) ∧ Drawn0 w w' := by
  have HR0 := Aside0.mk hr0
  have HC0 := Aside0.mk hc0
  clear hr0 hc0
  have H : (slices_Index_string_string.l0 k l0 a1 (l0.length : Int) 0) = some r := h
  clear h
  have H' := Aside0.mk H
  clear H
  go_enter Try.func74, Try.ntmps74
  go_wp2
  go_loopg [8] k (fun kq v8 w' => ∃ (x8_1 : Int), v8 = .int .i64 x8_1 ∧ Aside0 (slices_Index_string_string.l0 kq l0 a1 (l0.length : Int) x8_1 = some r) ∧ Aside0 (kq ≤ k) ∧ Drawn0 w w')
  case atStart => exact ⟨(0), (by first | rfl | (simp; done) | (simp [*]; done)), H', ⟨Nat.le_refl _⟩, by repeat (first | exact Drawn0.refl _ | apply Drawn0.step)⟩
  case round =>
    clear H'
    try clear p2
    obtain ⟨x8_1, rfl, HA, HK1, ⟨m1, rfl⟩⟩ := hrel
    cases gk with
    | zero => exact absurd HA.out (by simp [slices_Index_string_string.l0])
    | succ k1 =>
      have H := HA.out
      clear HA
      simp only [slices_Index_string_string.l0] at H
      by_cases c3 : x8_1 < (l0.length : Int)
      · rw [if_pos c3] at H
        have c3b0 : decide (x8_1 < (l0.length : Int)) = true := decide_eq_true c3
        clear c3
        by_cases c4 : 0 ≤ x8_1
        · rw [if_pos c4] at H
          have c4b0 : decide (0 ≤ x8_1) = true := decide_eq_true c4
          clear c4
          by_cases c5 : x8_1 < (l0.length : Int)
          · rw [if_pos c5] at H
            have c5b0 : decide (x8_1 < (l0.length : Int)) = true := decide_eq_true c5
            clear c5
            by_cases c6 : a1.toList = (rdOf ByteArray.empty l0 x8_1).toList
            · rw [if_pos c6] at H
              have c6b0 : (a1.toList == (rdOf ByteArray.empty l0 x8_1).toList) = true := beq_iff_eq.mpr c6
              have c6b1 : (a1.toList != (rdOf ByteArray.empty l0 x8_1).toList) = false := bne_eq_false_iff_eq.mpr c6
              clear c6
              obtain rfl := Option.some.inj H
              have p101 : 0 ≤ (x8_1 : Int) := of_decide_eq_true (by first | (with_reducible assumption) | assumption)
              have q101 : x8_1 < (l0.length : Int) := of_decide_eq_true (by first | (with_reducible assumption) | assumption)
              obtain ⟨ad101, e101, hx101_0⟩ := Kd.at_string HR0.out x8_1 p101 q101
              cases e101
              replace p101 := eq_true p101
              replace q101 := eq_true q101
              go_wp2
              go_ret
              exact ⟨by first | rfl | (simp; done) | (simp [*]; done), by repeat (first | exact Drawn0.refl _ | apply Drawn0.step)⟩
            · rw [if_neg c6] at H
              have c6b0 : (a1.toList == (rdOf ByteArray.empty l0 x8_1).toList) = false := beq_eq_false_iff_ne.mpr c6
              have c6b1 : (a1.toList != (rdOf ByteArray.empty l0 x8_1).toList) = true := bne_iff_ne.mpr c6
              have H' := Aside0.mk H
              clear H
              have p101 : 0 ≤ (x8_1 : Int) := of_decide_eq_true (by first | (with_reducible assumption) | assumption)
              have q101 : x8_1 < (l0.length : Int) := of_decide_eq_true (by first | (with_reducible assumption) | assumption)
              obtain ⟨ad101, e101, hx101_0⟩ := Kd.at_string HR0.out x8_1 p101 q101
              cases e101
              replace p101 := eq_true p101
              replace q101 := eq_true q101
              go_wp2
              go_roundg k1
              case measure => have := HK1.out; omega
              case rel => exact ⟨(wrap64 (x8_1 + 1)), (by first | rfl | (simp; done) | (simp [*]; done)), H', ⟨by have := HK1.out; omega⟩, by repeat (first | exact Drawn0.refl _ | apply Drawn0.step)⟩
          · rw [if_neg c5] at H
            exact absurd H (by simp)
        · rw [if_neg c4] at H
          exact absurd H (by simp)
      · rw [if_neg c3] at H
        have c3b0 : decide (x8_1 < (l0.length : Int)) = false := decide_eq_false c3
        clear c3
        obtain rfl := Option.some.inj H
        go_wp2
        go_ret
        exact ⟨by first | rfl | (simp; done) | (simp [*]; done), by repeat (first | exact Drawn0.refl _ | apply Drawn0.step)⟩

def slices_Contains_string_string.f (k : Nat) (l0 : List ByteArray) (a1 : ByteArray) : Option (Bool) := (slices_Index_string_string.f k l0 a1).bind fun t102 => (some (decide (t102 ≥ 0)))
set_option maxHeartbeats 8000000 in
set_option maxRecDepth 100000 in
theorem slices_Contains_string_string.calls (k : Nat) (A0 : Option Addr) (c0 : Nat) (l0 : List ByteArray) (a1 : ByteArray) (r : Bool) (w : World) (hr0 : Kd.C Kd.string w A0 l0.length l0) (hc0 : l0.length ≤ c0) (h : slices_Contains_string_string.f k l0 a1 = some r) :
    Calls Try.prog 50 #[.slice A0 l0.length c0, .string a1] w fun e w' => e = .returned (.bool r) ∧ Drawn0 w w' := by
  have HR0 := Aside0.mk hr0
  have HC0 := Aside0.mk hc0
  clear hr0 hc0
  have H : ((slices_Index_string_string.f k l0 a1).bind fun t102 => (some (decide (t102 ≥ 0)))) = some r := h
  clear h
  replace H := Option.bind_eq_some_iff.mp H
  obtain ⟨t102, A30, H⟩ := H
  replace H : (some (decide (t102 ≥ 0))) = some r := H
  have A3 := Aside0.mk A30
  clear A30
  obtain rfl := Option.some.inj H
  go_enter Try.func50, Try.ntmps50
  go_wp2_with (first | ((with_reducible refine gate_callee (f := 74) rfl ?_); refine goesL_ (some 7) rfl rfl Try.func74 (by kernel_rfl) rfl #[.slice A0 l0.length c0, .string a1] rfl (by (try simp only [List.map_toArray, List.map_cons, List.map_nil]); first | done | rfl | (simp only [List.length_drop, List.length_take]; rfl)) ?_; (with_reducible refine (slices_Index_string_string.calls k _ _ l0 a1 t102 _ ?side1 ?side2 A3.out).mono ?_); (case side1 => repeat (first | exact HR0.out | (with_reducible refine Kd.C_alloc ?_ _) | (with_reducible refine Kd.C_drewN ?_ _) | (with_reducible refine Kd.C_drew ?_))); (case side2 => exact HC0.out); rintro e w' ⟨rfl, ⟨nd, rfl⟩⟩; refine ⟨_, rfl, ?_⟩))
  go_ret
  exact ⟨by first | rfl | (simp; done) | (simp [*]; done), by repeat (first | exact Drawn0.refl _ | apply Drawn0.step)⟩

def types_words.f  : Option (List ByteArray) := some (([(⟨#[116, 111, 112]⟩ : ByteArray), (⟨#[105, 110, 116]⟩ : ByteArray), (⟨#[98, 111, 111, 108]⟩ : ByteArray), (⟨#[110, 117, 108, 108]⟩ : ByteArray), (⟨#[105, 110, 116, 115]⟩ : ByteArray), (⟨#[97, 110, 121]⟩ : ByteArray)] : List ByteArray))
set_option maxHeartbeats 8000000 in
set_option maxRecDepth 100000 in
theorem types_words.calls  (r : List ByteArray) (w : World) (h : types_words.f  = some r) :
    Calls Try.prog 51 #[] w fun e w' => ∃ v0_ : Value, e = .returned (v0_) ∧ Kd.R Kd.string 9 w' w.heap.size (fun _ => True) v0_ r ∧ Below w.heap.size w w' := by
  have HB := Aside0.mk (Below.refl w.heap.size w)
  have H : (some (([(⟨#[116, 111, 112]⟩ : ByteArray), (⟨#[105, 110, 116]⟩ : ByteArray), (⟨#[98, 111, 111, 108]⟩ : ByteArray), (⟨#[110, 117, 108, 108]⟩ : ByteArray), (⟨#[105, 110, 116, 115]⟩ : ByteArray), (⟨#[97, 110, 121]⟩ : ByteArray)] : List ByteArray))) = some r := h
  clear h
  obtain ⟨y103, hy103⟩ : ∃ y_ : List ByteArray, y_ = (([(⟨#[116, 111, 112]⟩ : ByteArray), (⟨#[105, 110, 116]⟩ : ByteArray), (⟨#[98, 111, 111, 108]⟩ : ByteArray), (⟨#[110, 117, 108, 108]⟩ : ByteArray), (⟨#[105, 110, 116, 115]⟩ : ByteArray), (⟨#[97, 110, 121]⟩ : ByteArray)] : List ByteArray)) := ⟨_, rfl⟩
  replace H : (some y103) = some r := by first | (rw [hy103]; with_reducible exact H) | (have H2_ := (Option.bind_some _ _).symm.trans H; rw [hy103]; with_reducible exact H2_) | (have H2_ := (Option.bind_some _ _).symm.trans H; with_reducible exact H2_) | with_reducible exact H | (rw [hy103]; exact H) | exact H
  have Ny103 := Aside0.mk hy103
  clear hy103
  obtain rfl := Option.some.inj H
  go_enter Try.func51, Try.ntmps51
  go_wp2_with (first | ((with_reducible refine gate_dst (N := 1) rfl ?_); refine Kd.R_lit Kd.string _ 9 ?hg (N := 1) ?hd (xs := ([(⟨#[116, 111, 112]⟩ : ByteArray), (⟨#[105, 110, 116]⟩ : ByteArray), (⟨#[98, 111, 111, 108]⟩ : ByteArray), (⟨#[110, 117, 108, 108]⟩ : ByteArray), (⟨#[105, 110, 116, 115]⟩ : ByteArray), (⟨#[97, 110, 121]⟩ : ByteArray)] : List ByteArray)) (inner := [.string (⟨#[116, 111, 112]⟩ : ByteArray), .string (⟨#[105, 110, 116]⟩ : ByteArray), .string (⟨#[98, 111, 111, 108]⟩ : ByteArray), .string (⟨#[110, 117, 108, 108]⟩ : ByteArray), .string (⟨#[105, 110, 116, 115]⟩ : ByteArray), .string (⟨#[97, 110, 121]⟩ : ByteArray)]) (ok := fun _ => True) (okp := fun _ => True) ?hr ?hp (fun _ hk => hk) trivial (Below.refl _ _) (Nat.le_refl _) (by simp) ?_; (case hd => rfl); (case hg => rfl); (case hr => first | (go_simp; done) | (go_simp; rfl)); (case hp => exact (Reps.one (show Kd.M Kd.string _ _ _ (⟨#[116, 111, 112]⟩ : ByteArray) [.string (⟨#[116, 111, 112]⟩ : ByteArray)] from rfl) (Reps.one (show Kd.M Kd.string _ _ _ (⟨#[105, 110, 116]⟩ : ByteArray) [.string (⟨#[105, 110, 116]⟩ : ByteArray)] from rfl) (Reps.one (show Kd.M Kd.string _ _ _ (⟨#[98, 111, 111, 108]⟩ : ByteArray) [.string (⟨#[98, 111, 111, 108]⟩ : ByteArray)] from rfl) (Reps.one (show Kd.M Kd.string _ _ _ (⟨#[110, 117, 108, 108]⟩ : ByteArray) [.string (⟨#[110, 117, 108, 108]⟩ : ByteArray)] from rfl) (Reps.one (show Kd.M Kd.string _ _ _ (⟨#[105, 110, 116, 115]⟩ : ByteArray) [.string (⟨#[105, 110, 116, 115]⟩ : ByteArray)] from rfl) (Reps.one (show Kd.M Kd.string _ _ _ (⟨#[97, 110, 121]⟩ : ByteArray) [.string (⟨#[97, 110, 121]⟩ : ByteArray)] from rfl) (Reps.none _ _)))))))); intro v104 w1 ho2 hb hg_ hnew_; clear hg_ hnew_; (first | rw [← Ny103.out] at ho2 | (simp only [Int.reduceToNat] at ho2; rw [← Ny103.out] at ho2)); have n0_ := Aside0.mk (Kd.R_lower ho2 (below_size (by repeat (first | (with_reducible first | exact HB.out | apply below_alloc | apply pw_below_drewN | apply below_drew1) | exact HB.out)))); have n1_ := Aside0.mk (below_step (by repeat (first | (with_reducible first | exact HB.out | apply below_alloc | apply pw_below_drewN | apply below_drew1) | exact HB.out)) hb); clear HB; have HO105 := n0_; have HB := n1_; clear n0_ n1_; clear hb ho2))
  go_ret
  exact ⟨_, by first | rfl | (simp [errW_none, errW_some] <;> rfl) | (simp [*, errW_none, errW_some] <;> rfl), by (with_reducible repeat (first | apply Kd.R_alloc | apply Kd.R_drewN | apply Kd.R_drew)); exact HO105.out, by repeat (first | (with_reducible first | exact HB.out | apply below_alloc | apply pw_below_drewN | apply below_drew1) | exact HB.out)⟩

def firstFrom (p : S32 → Bool) (l : List S32) : Nat → Nat → Int
  | 0, _ => -1
  | d + 1, i => if p (rd_T32 l i) = true then (i : Int) else firstFrom p l d (i + 1)
set_option maxHeartbeats 1600000 in
set_option maxRecDepth 100000 in
theorem index_class (fid : Nat) (caps : Array Value) (A0 : Option Addr) (c0 : Nat) (l : List S32) (W0 : World) (hr : Kd.C k32 W0 A0 l.length l) (Inv : World → Prop) (p : S32 → Bool)
    (hB : ∀ W, Inv W → Below W0.heap.size W0 W)
    (hstep : ∀ (x : S32) (A2 : Option Addr) (c2 : Nat) (W : World), Inv W → Calls Try.prog fid (#[.agg #[.string x.f0, .int .i64 x.f1, .slice A2 x.f2.length c2]] ++ caps) W fun e W' => e = .returned (.bool (p x)) ∧ Inv W')
    (hcf : ∀ (vs : Array Value) (w : World), Sem.run Try.prog (callFunc fid vs) w = .ok (.enter fid vs) w)
    (W : World) (h0 : Inv W) :
    Calls Try.prog 75 #[.slice A0 l.length c0, .func (.func fid) #[] caps] W fun e W' => e = .returned (.int .i64 (firstFrom p l l.length 0)) ∧ Inv W' := by
  have HI := Aside0.mk h0
  have HS := Aside0.mk hstep
  have HB := Aside0.mk hB
  have HR := Aside0.mk hr
  have hlen : l.length ≤ 9223372036854775807 := hr.2.1
  clear h0 hstep hB hr
  go_enter Try.func75, Try.ntmps75
  go_wp2
  go_loopw [8] (fun v8 wr => ∃ i : Nat, v8 = .int .i64 (i : Int) ∧ i ≤ l.length ∧ Aside0 (firstFrom p l l.length 0 = firstFrom p l (l.length - i) i) ∧ Aside0 (Inv wr)) (fun v8 _ => ((l.length : Int) - intOf v8).toNat)
  case atStart => exact ⟨0, rfl, Nat.zero_le _, ⟨rfl⟩, HI⟩
  case round =>
    obtain ⟨i, rfl, hi, HF, HI⟩ := hrel
    by_cases c1 : i < l.length
    · have c1b : decide ((i : Int) < (l.length : Int)) = true := decide_eq_true (by omega)
      obtain ⟨ad, A2, c2, e1, hx0, hx1, hx2, _, _⟩ := at_T32 HR.out (i : Int) (by omega) (by omega)
      cases e1
      have hb := HB.out _ HI.out
      replace hx0 := (hb.cell (World.block_lt_of_cell? W0 _ hx0)).trans hx0
      replace hx1 := (hb.cell (World.block_lt_of_cell? W0 _ hx1)).trans hx1
      replace hx2 := (hb.cell (World.block_lt_of_cell? W0 _ hx2)).trans hx2
      simp only [Int.toNat_natCast] at hx0 hx1 hx2
      have p5 : (0 ≤ (i : Int)) = True := eq_true (by omega)
      have p6 : ((i : Int) < (l.length : Int)) = True := eq_true (by omega)
      have HN : Aside0 (firstFrom p l (l.length - i) i = if p (rd_T32 l i) = true then (i : Int) else firstFrom p l (l.length - (i + 1)) (i + 1)) := ⟨by
        obtain ⟨d, hd⟩ : ∃ d, l.length - i = d + 1 := ⟨l.length - i - 1, by omega⟩
        rw [hd, show l.length - (i + 1) = d by omega]
        rfl⟩
      clear hb
      go_wp2_with fail
      refine (HS.out (rd_T32 l i) A2 c2 _ HI.out).mono ?_
      rintro e w2 ⟨rfl, hI⟩
      clear HI
      have HI := Aside0.mk hI
      clear hI hx0 hx1 hx2
      by_cases hp : p (rd_T32 l i) = true
      · rw [hp]
        have HP := Aside0.mk hp
        clear hp
        go_wp2
        go_ret
        exact ⟨by rw [HF.out, HN.out, if_pos HP.out]; rfl, HI.out⟩
      · have HP := Aside0.mk hp
        rw [Bool.eq_false_iff.mpr hp]
        clear hp
        go_wp2
        go_roundw
        case rel => exact ⟨i + 1, rfl, by omega, ⟨by rw [HF.out, HN.out, if_neg HP.out]⟩, HI⟩
        case measure => simp [intOf]; omega
    · have c1b : decide ((i : Int) < (l.length : Int)) = false := decide_eq_false (by omega)
      have HZ : Aside0 (l.length - i = 0) := ⟨by omega⟩
      go_wp2
      go_ret
      exact ⟨by rw [HF.out, HZ.out]; rfl, HI.out⟩
theorem first_any (p : S32 → Bool) (l : List S32) : ∀ (d i : Nat), i + d = l.length → (decide (0 ≤ firstFrom p l d i)) = (l.drop i).any p
  | 0, i, h => by
    rw [List.drop_of_length_le (by omega)]
    rfl
  | d + 1, i, h => by
    have hi : i < l.length := by omega
    have hr : rd_T32 l (i : Int) = l[i] := by simp [rd_T32, List.getD_eq_getElem?_getD, hi]
    rw [List.drop_eq_getElem_cons hi, List.any_cons, ← hr, ← first_any p l d (i + 1) (by omega)]
    show decide (0 ≤ (if p (rd_T32 l (i : Int)) = true then (i : Int) else firstFrom p l d (i + 1))) = _
    by_cases e : p (rd_T32 l i) = true
    · rw [if_pos e, e]
      simp
    · rw [if_neg e, Bool.eq_false_iff.mpr e]
      simp

set_option maxHeartbeats 800000 in
set_option maxRecDepth 100000 in
theorem contains_class (fid : Nat) (caps : Array Value) (A0 : Option Addr) (c0 : Nat) (l : List S32) (W0 : World) (hr : Kd.C k32 W0 A0 l.length l) (Inv : World → Prop) (p : S32 → Bool)
    (hB : ∀ W, Inv W → Below W0.heap.size W0 W)
    (hstep : ∀ (x : S32) (A2 : Option Addr) (c2 : Nat) (W : World), Inv W → Calls Try.prog fid (#[.agg #[.string x.f0, .int .i64 x.f1, .slice A2 x.f2.length c2]] ++ caps) W fun e W' => e = .returned (.bool (p x)) ∧ Inv W')
    (hcf : ∀ (vs : Array Value) (w : World), Sem.run Try.prog (callFunc fid vs) w = .ok (.enter fid vs) w)
    (W : World) (h0 : Inv W) :
    Calls Try.prog 52 #[.slice A0 l.length c0, .func (.func fid) #[] caps] W fun e W' => e = .returned (.bool (l.any p)) ∧ Inv W' := by
  have HC := Aside0.mk (index_class fid caps A0 c0 l W0 hr Inv p hB hstep hcf W h0)
  have HA := Aside0.mk (first_any p l l.length 0 (by omega))
  clear hr hB hstep hcf h0
  go_enter Try.func52, Try.ntmps52
  go_wp2_with fail
  refine HC.out.mono ?_
  rintro e w2 ⟨rfl, hI⟩
  have HI := Aside0.mk hI
  have ha := HA.out
  rw [List.drop_zero] at ha
  clear hI HC HA
  generalize firstFrom p l l.length 0 = n at ha ⊢
  generalize hb : l.any p = b at ha ⊢
  have HB := Aside0.mk hb
  clear hb
  go_wp2
  go_ret
  exact ⟨by rw [HB.out]; rfl, HI.out⟩

def climbF (l : List S32) : Nat → Int → List Int
  | 0, _ => []
  | f + 1, c => if 0 ≤ c ∧ c < (l.length : Int) then c :: (if (rd_T32 l c).f1 ≥ c then [] else climbF l f (rd_T32 l c).f1) else []
def climbL (l : List S32) (c : Int) : List Int := climbF l (c.toNat + 1) c
theorem climbF_le (l : List S32) : ∀ (f g : Nat) (c : Int), c.toNat < f → f ≤ g → climbF l g c = climbF l f c
  | 0, _, _, h, _ => by omega
  | f + 1, 0, _, _, h => by omega
  | f + 1, g + 1, c, h, hg => by
    simp only [climbF]
    split
    · split
      · rfl
      · rename_i h1 h2
        by_cases h3 : 0 ≤ (rd_T32 l c).f1
        · rw [climbF_le l f g _ (by omega) (by omega)]
        · have e : ∀ k, climbF l k (rd_T32 l c).f1 = [] := by
            intro k
            cases k with
            | zero => rfl
            | succ k => simp only [climbF]; rw [if_neg (by omega)]
          rw [e, e]
    · rfl
theorem climbL_in (l : List S32) (c : Int) (h0 : 0 ≤ c) (h1 : c < (l.length : Int)) (h2 : (rd_T32 l c).f1 < c) : climbL l c = c :: climbL l (rd_T32 l c).f1 := by
  unfold climbL
  rw [climbF, if_pos ⟨h0, h1⟩, if_neg (by omega)]
  by_cases h3 : 0 ≤ (rd_T32 l c).f1
  · rw [climbF_le l _ c.toNat _ (Nat.lt_succ_self _) (by omega)]
  · have e : ∀ k, climbF l k (rd_T32 l c).f1 = [] := by
      intro k
      cases k with
      | zero => rfl
      | succ k => simp only [climbF]; rw [if_neg (by omega)]
    rw [e, e]
theorem climbL_last (l : List S32) (c : Int) (h0 : 0 ≤ c) (h1 : c < (l.length : Int)) (h2 : ¬ (rd_T32 l c).f1 < c) : climbL l c = [c] := by
  unfold climbL
  rw [climbF, if_pos ⟨h0, h1⟩, if_pos (by omega)]
theorem climbL_out (l : List S32) (c : Int) (h : ¬ (0 ≤ c ∧ c < (l.length : Int))) : climbL l c = [] := by
  unfold climbL
  rw [climbF, if_neg h]

set_option maxHeartbeats 800000 in
set_option maxRecDepth 100000 in
theorem climb_any (fid : Nat) (caps : Array Value) (A0 : Option Addr) (c0 : Nat) (l : List S32) (W0 : World) (hr : Kd.C k32 W0 A0 l.length l) (Inv : List Int → World → Prop) (Fin : World → Prop)
    (hB : ∀ xs W, Inv xs W → Below W0.heap.size W0 W) (hnil : ∀ W, Inv [] W → Fin W)
    (hstep : ∀ x xs W, Inv (x :: xs) W → Calls Try.prog fid (#[.int .i64 x] ++ caps) W fun e W' => (e = .returned (.bool true) ∧ Inv xs W') ∨ (e = .returned (.bool false) ∧ Fin W'))
    (hcf : ∀ (vs : Array Value) (w : World), Sem.run Try.prog (callFunc fid vs) w = .ok (.enter fid vs) w)
    (x0 : Int) (W : World) (h0 : Inv (climbL l x0) W) :
    Calls Try.prog 55 #[.slice A0 l.length c0, .int .i64 x0, .func (.func fid) #[] caps] W fun e W' => e = .returned (.tuple #[]) ∧ Fin W' := by
  have H0 := Aside0.mk h0
  have HN := Aside0.mk hnil
  have HS := Aside0.mk hstep
  have HB := Aside0.mk hB
  have HR := Aside0.mk hr
  clear h0 hnil hstep hB hr
  go_enter Try.func55, Try.ntmps55
  go_wp2
  go_loopw [1] (fun v wr => ∃ y : Int, v = .int .i64 y ∧ Aside0 (Inv (climbL l y) wr)) (fun v _ => (intOf v + 1).toNat)
  case atStart => exact ⟨x0, rfl, H0⟩
  case round =>
    obtain ⟨y, rfl, HI⟩ := hrel
    by_cases c1 : 0 ≤ y
    · have c1b : decide (0 ≤ y) = true := decide_eq_true c1
      by_cases c2 : y < (l.length : Int)
      · have c2b : decide (y < (l.length : Int)) = true := decide_eq_true c2
        obtain ⟨ad, A2, c3, e0, _, hx1, _, _, _⟩ := at_T32 HR.out y c1 c2
        subst e0
        have HX := Aside0.mk hx1
        clear hx1
        by_cases c3 : (rd_T32 l y).f1 < y
        · have HI2 := HI.out
          rw [climbL_in l y c1 c2 c3] at HI2
          have HC := Aside0.mk (HS.out _ _ _ HI2)
          have c3b : decide (y ≤ (rd_T32 l y).f1) = false := decide_eq_false (by omega)
          clear HI2
          go_wp2_with fail
          refine HC.out.mono ?_
          rintro e w1 (⟨rfl, h1⟩ | ⟨rfl, h1⟩)
          · have hB1 := HB.out _ _ h1
            have H1 := Aside0.mk h1
            have hx := (hB1.cell (World.block_lt_of_cell? W0 _ HX.out)).trans HX.out
            clear hB1 h1
            go_wp2
            go_roundw
            case rel => exact ⟨_, rfl, H1⟩
            case measure => simp [intOf]; omega
          · have H1 := Aside0.mk h1
            clear h1
            go_wp2
            go_end0
            exact ⟨rfl, H1.out⟩
        · have HI2 := HI.out
          rw [climbL_last l y c1 c2 c3] at HI2
          have HC := Aside0.mk (HS.out _ _ _ HI2)
          have c3b : decide (y ≤ (rd_T32 l y).f1) = true := decide_eq_true (by omega)
          clear HI2
          go_wp2_with fail
          refine HC.out.mono ?_
          rintro e w1 (⟨rfl, h1⟩ | ⟨rfl, h1⟩)
          · have hB1 := HB.out _ _ h1
            have H1 := Aside0.mk (HN.out _ h1)
            have hx := (hB1.cell (World.block_lt_of_cell? W0 _ HX.out)).trans HX.out
            clear hB1 h1
            go_wp2
            (try simp only [Exit.inBlock, Exit.then])
            refine bodyPost_ret (results_none rfl _ _ _) rfl ?_
            exact ⟨rfl, H1.out⟩
          · have H1 := Aside0.mk h1
            clear h1
            go_wp2
            go_end0
            exact ⟨rfl, H1.out⟩
      · have c2b : decide (y < (l.length : Int)) = false := decide_eq_false c2
        have HI2 := HI.out
        rw [climbL_out l y (by omega)] at HI2
        have H1 := Aside0.mk (HN.out _ HI2)
        clear HI2
        go_wp2
        go_end0
        exact ⟨rfl, H1.out⟩
    · have c1b : decide (0 ≤ y) = false := decide_eq_false c1
      have HI2 := HI.out
      rw [climbL_out l y (by omega)] at HI2
      have H1 := Aside0.mk (HN.out _ HI2)
      clear HI2
      go_wp2
      go_end0
      exact ⟨rfl, H1.out⟩
theorem callFunc_run {f : Nat} {fn : Func} (hf : Try.prog.funcs[f]? = some fn) (hname : (fn.name == "runtime.NumGoroutine") = false) (hb : fn.body.isSome = true) (vs : Array Value) (w : World) : Sem.run Try.prog (callFunc f vs) w = .ok (.enter f vs) w := enters_ hf hname hb vs w

theorem climbF_length (l : List S32) : ∀ (f : Nat) (c : Int), (climbF l f c).length ≤ f
  | 0, _ => Nat.le_refl _
  | f + 1, c => by
    simp only [climbF]
    split
    · split
      · simp
      · simpa using climbF_length l f _
    · simp
theorem climbL_length (l : List S32) (c : Int) : (climbL l c).length ≤ l.length := by
  by_cases h : 0 ≤ c ∧ c < (l.length : Int)
  · exact Nat.le_trans (climbF_length l _ c) (by omega)
  · rw [climbL_out l c h]; simp
theorem climbL_mem (l : List S32) (c : Int) : ∀ x ∈ climbL l c, 0 ≤ x ∧ x < (l.length : Int) := by
  have h : ∀ (f : Nat) (c : Int), ∀ x ∈ climbF l f c, 0 ≤ x ∧ x < (l.length : Int) := by
    intro f
    induction f with
    | zero => intro c x hx; cases hx
    | succ f ih =>
      intro c x hx
      simp only [climbF] at hx
      split at hx
      · rename_i h1
        rcases List.mem_cons.1 hx with rfl | h2
        · exact h1
        · split at h2
          · cases h2
          · exact ih _ x h2
      · cases hx
  exact h _ c

end Go.Proofs.Ytkjagcamikkjkaa.P

end

section
namespace Go.Proofs.Ytkjagcamikkjkaa.P
open Go.RowKit Go.Proofs.YtkjagcamikkjkaaW.PrintWords Go.Proofs.YtkjagcamikkjkaaW.PrintLast Go.Proofs.YtkjagcamikkjkaaW.PrintMore
attribute [local go_sem] max2_int min2_int max_two min_two max_three min_three max_four min_four   -- for this text's walks alone
set_option linter.unusedVariables false
set_option linter.unusedSimpArgs false

def types_class.f (l0 : List (S32)) (a1 : Int) : Option (Int) := if a1 < 16 then (some (-1)) else (if ((a1 - 16) % 256) ≥ (l0.length : Int) then (some (-1)) else (some ((a1 - 16) % 256)))
set_option maxHeartbeats 8000000 in
set_option maxRecDepth 100000 in
theorem types_class.calls (A0 : Option Addr) (c0 : Nat) (l0 : List (S32)) (a1 : Int) (r : Int) (w : World) (hr0 : Kd.C k32 w A0 l0.length l0) (hc0 : l0.length ≤ c0) (h : types_class.f l0 a1 = some r) :
    Calls Try.prog 86 #[.slice A0 l0.length c0, .int .u8 a1] w fun e w' => e = .returned (.int .i64 r) ∧ Drawn0 w w' := by
  have HR0 := Aside0.mk hr0
  have HC0 := Aside0.mk hc0
  clear hr0 hc0
  have H : (if a1 < 16 then (some (-1)) else (if ((a1 - 16) % 256) ≥ (l0.length : Int) then (some (-1)) else (some ((a1 - 16) % 256)))) = some r := h
  clear h
  by_cases c3 : a1 < 16
  · rw [if_pos c3] at H
    have c3b0 : decide (a1 < 16) = true := decide_eq_true c3
    clear c3
    obtain rfl := Option.some.inj H
    go_enter Try.func86, Try.ntmps86
    go_wp2
    go_ret
    exact ⟨by first | rfl | (simp; done) | (simp [*]; done), by repeat (first | exact Drawn0.refl _ | apply Drawn0.step)⟩
  · rw [if_neg c3] at H
    have c3b0 : decide (a1 < 16) = false := decide_eq_false c3
    clear c3
    by_cases c4 : ((a1 - 16) % 256) ≥ (l0.length : Int)
    · rw [if_pos c4] at H
      have c4b0 : decide ((l0.length : Int) ≤ ((a1 - 16) % 256)) = true := decide_eq_true c4
      clear c4
      obtain rfl := Option.some.inj H
      go_enter Try.func86, Try.ntmps86
      go_wp2
      go_ret
      exact ⟨by first | rfl | (simp; done) | (simp [*]; done), by repeat (first | exact Drawn0.refl _ | apply Drawn0.step)⟩
    · rw [if_neg c4] at H
      have c4b0 : decide ((l0.length : Int) ≤ ((a1 - 16) % 256)) = false := decide_eq_false c4
      clear c4
      obtain rfl := Option.some.inj H
      go_enter Try.func86, Try.ntmps86
      go_wp2
      go_ret
      exact ⟨by first | rfl | (simp; done) | (simp [*]; done), by repeat (first | exact Drawn0.refl _ | apply Drawn0.step)⟩

def types_stored.f (l0 : List (S32)) (a1 : Int) : Option (Bool) := if a1 = 1 then (some true) else (if a1 = 2 then (some true) else (if a1 = 4 then (some true) else (if a1 = 5 then (some true) else ((types_class.f l0 a1).bind fun t106 => (some (decide (t106 ≥ 0)))))))
set_option maxHeartbeats 8000000 in
set_option maxRecDepth 100000 in
theorem types_stored.calls (A0 : Option Addr) (c0 : Nat) (l0 : List (S32)) (a1 : Int) (r : Bool) (w : World) (hr0 : Kd.C k32 w A0 l0.length l0) (hc0 : l0.length ≤ c0) (h : types_stored.f l0 a1 = some r) :
    Calls Try.prog 77 #[.slice A0 l0.length c0, .int .u8 a1] w fun e w' => e = .returned (.bool r) ∧ Drawn0 w w' := by
  have HR0 := Aside0.mk hr0
  have HC0 := Aside0.mk hc0
  clear hr0 hc0
  have H : (if a1 = 1 then (some true) else (if a1 = 2 then (some true) else (if a1 = 4 then (some true) else (if a1 = 5 then (some true) else ((types_class.f l0 a1).bind fun t106 => (some (decide (t106 ≥ 0)))))))) = some r := h
  clear h
  by_cases c3 : a1 = 1
  · rw [if_pos c3] at H
    have c3b0 : (a1 == 1) = true := beq_iff_eq.mpr c3
    have c3b1 : (a1 != 1) = false := bne_eq_false_iff_eq.mpr c3
    clear c3
    obtain rfl := Option.some.inj H
    go_enter Try.func77, Try.ntmps77
    go_wp2
    go_ret
    exact ⟨by first | rfl | (simp; done) | (simp [*]; done), by repeat (first | exact Drawn0.refl _ | apply Drawn0.step)⟩
  · rw [if_neg c3] at H
    have c3b0 : (a1 == 1) = false := beq_eq_false_iff_ne.mpr c3
    have c3b1 : (a1 != 1) = true := bne_iff_ne.mpr c3
    by_cases c4 : a1 = 2
    · rw [if_pos c4] at H
      have c4b0 : (a1 == 2) = true := beq_iff_eq.mpr c4
      have c4b1 : (a1 != 2) = false := bne_eq_false_iff_eq.mpr c4
      clear c4
      obtain rfl := Option.some.inj H
      go_enter Try.func77, Try.ntmps77
      go_wp2
      go_ret
      exact ⟨by first | rfl | (simp; done) | (simp [*]; done), by repeat (first | exact Drawn0.refl _ | apply Drawn0.step)⟩
    · rw [if_neg c4] at H
      have c4b0 : (a1 == 2) = false := beq_eq_false_iff_ne.mpr c4
      have c4b1 : (a1 != 2) = true := bne_iff_ne.mpr c4
      by_cases c5 : a1 = 4
      · rw [if_pos c5] at H
        have c5b0 : (a1 == 4) = true := beq_iff_eq.mpr c5
        have c5b1 : (a1 != 4) = false := bne_eq_false_iff_eq.mpr c5
        clear c5
        obtain rfl := Option.some.inj H
        go_enter Try.func77, Try.ntmps77
        go_wp2
        go_ret
        exact ⟨by first | rfl | (simp; done) | (simp [*]; done), by repeat (first | exact Drawn0.refl _ | apply Drawn0.step)⟩
      · rw [if_neg c5] at H
        have c5b0 : (a1 == 4) = false := beq_eq_false_iff_ne.mpr c5
        have c5b1 : (a1 != 4) = true := bne_iff_ne.mpr c5
        by_cases c6 : a1 = 5
        · rw [if_pos c6] at H
          have c6b0 : (a1 == 5) = true := beq_iff_eq.mpr c6
          have c6b1 : (a1 != 5) = false := bne_eq_false_iff_eq.mpr c6
          clear c6
          obtain rfl := Option.some.inj H
          go_enter Try.func77, Try.ntmps77
          go_wp2
          go_ret
          exact ⟨by first | rfl | (simp; done) | (simp [*]; done), by repeat (first | exact Drawn0.refl _ | apply Drawn0.step)⟩
        · rw [if_neg c6] at H
          have c6b0 : (a1 == 5) = false := beq_eq_false_iff_ne.mpr c6
          have c6b1 : (a1 != 5) = true := bne_iff_ne.mpr c6
          replace H := Option.bind_eq_some_iff.mp H
          obtain ⟨t106, A70, H⟩ := H
          replace H : (some (decide (t106 ≥ 0))) = some r := H
          have A7 := Aside0.mk A70
          clear A70
          obtain rfl := Option.some.inj H
          go_enter Try.func77, Try.ntmps77
          go_wp2_with (first | (go_at_call 86; (with_reducible refine (types_class.calls _ _ l0 a1 t106 _ ?side1 ?side2 A7.out).mono ?_); (case side1 => repeat (first | exact HR0.out | (with_reducible refine Kd.C_alloc ?_ _) | (with_reducible refine Kd.C_drewN ?_ _) | (with_reducible refine Kd.C_drew ?_))); (case side2 => exact HC0.out); rintro e w' ⟨rfl, ⟨nd, rfl⟩⟩))
          go_ret
          exact ⟨by first | rfl | (simp; done) | (simp [*]; done), by repeat (first | exact Drawn0.refl _ | apply Drawn0.step)⟩

def namesOf (fs : List S29) : List ByteArray := fs.map (·.f0)
theorem names_next (fs : List S29) (i : Nat) (h : i < fs.length) : namesOf (fs.take (i + 1)) = namesOf (fs.take i) ++ [(rd_T29 fs i).f0] := by
  unfold namesOf
  rw [List.take_succ_eq_append_getElem h, List.map_append]
  simp [rd_T29, List.getD_eq_getElem?_getD, h]
theorem names_len (fs : List S29) (i : Nat) (h : i ≤ fs.length) : (namesOf (fs.take i)).length = i := by
  unfold namesOf
  rw [List.length_map, List.length_take]
  omega
set_option maxHeartbeats 1600000 in
set_option maxRecDepth 100000 in
theorem types_fields_step (w : World) (A0 : Option Addr) (c0 : Nat) (l : List S32) (hr : Kd.C k32 w A0 l.length l) (g0 g1 : Nat) (hg0 : w.heap.size ≤ g0) (hg1 : w.heap.size ≤ g1) (hne : g0 ≠ g1) (up : Int) (h0 : 0 ≤ up) (h1 : up < (l.length : Int)) (ys : List ByteArray) (v : Value) (W : World) (hB : Below w.heap.size w W)
    (hL : W.heap[g0]? = some (.cells #[.slice A0 l.length c0] 33 (0, 0))) (hM : W.heap[g1]? = some (.cells #[v] 102 (0, 0))) (hv : Kd.R Kd.string 9 W w.heap.size (fun _ => True) v ys) (hl : ys.length + (rd_T32 l up).f2.length < 8796093022208) :
    Calls Try.prog 76 #[.int .i64 up, .pointer (some ⟨g0, 0, none⟩), .pointer (some ⟨g1, 0, none⟩)] W fun e W' => e = .returned (.bool true) ∧ Below w.heap.size w W' ∧ W'.heap[g0]? = some (.cells #[.slice A0 l.length c0] 33 (0, 0)) ∧ ∃ v1 : Value, W'.heap[g1]? = some (.cells #[v1] 102 (0, 0)) ∧ Kd.R Kd.string 9 W' w.heap.size (fun _ => True) v1 (ys ++ namesOf (rd_T32 l up).f2) := by
  have hcL := blk_cell hL 0
  obtain ⟨ad2, A2, c2, e1, _, _, hx2, hl2, hi2⟩ := at_T32 hr up h0 h1
  cases e1
  replace hx2 := (hB.cell (World.block_lt_of_cell? w _ hx2)).trans hx2
  obtain ⟨fs, hfs⟩ : ∃ fs, fs = (rd_T32 l up).f2 := ⟨_, rfl⟩
  rw [← hfs] at hx2 hl2 hi2 hl ⊢
  have hlen : fs.length ≤ 9223372036854775807 := hi2.2.1
  have HL := Aside0.mk hL
  have HM := Aside0.mk hM
  have HV := Aside0.mk hv
  have HLIM := Aside0.mk hl
  have HF := Aside0.mk hi2
  have HB := Aside0.mk hB
  have HG0 := Aside0.mk hg0
  have HG1 := Aside0.mk hg1
  have p3 := eq_true h0
  have p4 := eq_true h1
  clear hL hM hv hl hi2 hB hg0 hg1 hfs h0 h1 hr
  go_enter Try.func76, Try.ntmps76
  go_wp2
  go_loopw [13] (fun v13 wr => ∃ i : Nat, v13 = .int .i64 (i : Int) ∧ i ≤ fs.length ∧ Aside0 (Below w.heap.size w wr) ∧ Aside0 (wr.heap[g0]? = some (.cells #[.slice (some ad2) l.length c0] 33 (0, 0))) ∧ ∃ v1 : Value, Aside0 (wr.heap[g1]? = some (.cells #[v1] 102 (0, 0))) ∧ Aside0 (Kd.R Kd.string 9 wr w.heap.size (fun _ => True) v1 (ys ++ namesOf (fs.take i)))) (fun v13 _ => ((fs.length : Int) - intOf v13).toNat)
  case atStart => exact ⟨0, rfl, Nat.zero_le _, HB, HL, v, HM, ⟨by simpa [namesOf] using HV.out⟩⟩
  case round =>
    obtain ⟨i, rfl, hi, HB, HL, v1, HM, HV⟩ := hrel
    by_cases c1 : (i : Int) < (fs.length : Int)
    · have c1b : decide ((i : Int) < (fs.length : Int)) = true := decide_eq_true c1
      have hi2 : i < fs.length := by omega
      obtain ⟨ad3, e3, hx0, hx1⟩ := at_T29 HF.out (i : Int) (by omega) c1
      cases e3
      replace hx0 := (HB.out.cell (World.block_lt_of_cell? w _ hx0)).trans hx0
      replace hx1 := (HB.out.cell (World.block_lt_of_cell? w _ hx1)).trans hx1
      simp only [Int.toNat_natCast] at hx0 hx1
      have p5 : (0 ≤ (i : Int)) = True := eq_true (by omega)
      have p6 := eq_true c1
      have HX := Aside0.mk (names_next fs i hi2)
      have HN := Aside0.mk (names_len fs i hi)
      go_upto_region 4 with (first | ((with_reducible refine gate_dst (N := 6) rfl ?_); refine box_event ?hg (N := 6) ?hd (cs := #[.string (⟨#[]⟩ : ByteArray), .int .u8 0]) (t := 29) ?hr ?_; (case hd => rfl); (case hg => rfl); (case hr => first | (go_simp; done) | (go_simp; rfl)); intro gb hg w5 hbox hb; have n1 := Aside0.mk hbox; have n2 := Aside0.mk hb; have n3 := Aside0.mk hg; have hcz0 := blk_cell hbox 0; have hcz1 := blk_cell hbox 1; have hfz0 := blk_frozen hbox 0; have hfz1 := blk_frozen hbox 1; clear hbox hb hg))
      have hlt0 := blk_lt HL.out
      have hlt1 := blk_lt HM.out
      have hgb := n3.out
      have hs := HB.out.size
      have m1 := Aside0.mk (blk_far (blk_far (blk_below HL.out n2.out) (p := ⟨gb, 0, none⟩) (by simp; omega) (.string (rd_T29 fs i).f0)) (p := ⟨gb, 1, none⟩) (by simp; omega) (.int .u8 (rd_T29 fs i).f1))
      have m2 := Aside0.mk (blk_far (blk_far (blk_below HM.out n2.out) (p := ⟨gb, 0, none⟩) (by simp; omega) (.string (rd_T29 fs i).f0)) (p := ⟨gb, 1, none⟩) (by simp; omega) (.int .u8 (rd_T29 fs i).f1))
      have m3 := Aside0.mk (((below_step HB.out n2.out).setCell (p := ⟨gb, 0, none⟩) (by simp; omega) (.string (rd_T29 fs i).f0)).setCell (p := ⟨gb, 1, none⟩) (by simp; omega) (.int .u8 (rd_T29 fs i).f1))
      have m4 := Aside0.mk (Kd.R_mono (Kd.R_far (p := ⟨gb, 1, none⟩) (Kd.R_far (p := ⟨gb, 0, none⟩) (Kd.R_below (Kd.R_elderB HV.out gb (Nat.le_of_eq n3.out.symm)) n2.out) (fun _ hk => hk.2) (.string (rd_T29 fs i).f0)) (fun _ hk => hk.2) (.int .u8 (rd_T29 fs i).f1)) (fun _ _ => trivial : ∀ k, _ → True))
      have m5 := Aside0.mk (blk_set (blk_set n1.out 0 (.string (rd_T29 fs i).f0)) 1 (.int .u8 (rd_T29 fs i).f1))
      generalize (w5.setCell ⟨gb, 0, none⟩ (.string (rd_T29 fs i).f0)).setCell ⟨gb, 1, none⟩ (.int .u8 (rd_T29 fs i).f1) = w6 at m1 m2 m3 m4 m5 ⊢
      clear n1 n2 n3 hcz0 hcz1 hfz0 hfz1 HL HM HB HV hlt0 hlt1 hgb hs
      have hzl : (ys ++ namesOf (fs.take i)).length = ys.length + i := by rw [List.length_append, HN.out]
      have HZL := Aside0.mk hzl
      clear hzl
      obtain ⟨zs, hzs⟩ : ∃ zs, zs = ys ++ namesOf (fs.take i) := ⟨_, rfl⟩
      rw [← hzs] at m4 HZL
      have HZ := Aside0.mk hzs
      clear hzs
      obtain ⟨Av, cv, e2⟩ := Kd.R_slice m4.out
      subst e2
      have hcb := blk_cell m5.out 0
      have hcm := blk_cell m2.out 0
      go_wp2_with (first | ((with_reducible refine gate_builtin (b := .append) (xs := #[.tmp 17, .tmp 20]) rfl ?_); at_builtin; refine Kd.R_append Kd.string (w0 := w) w.heap.size rfl (.tmp 17) (.tmp 20) 102 9 (.string ⟨#[]⟩) 16 rfl Try.underlying102 info9 rfl (by decide) (by omega) (.slice Av zs.length cv) zs ((rd_T29 fs i).f0) [.string ((rd_T29 fs i).f0)] (fun _ => True) (fun _ => False) rfl rfl ?aP (fun _ hk => hk.elim) ?aF ?aO ?aB ?aS ?aL ?_; (case aP => exact rfl); (case aB => exact m3.out); (case aF => exact (fun _ _ => trivial)); (case aO => exact m4.out); (case aS => exact m3.out.size); (case aL => have := HLIM.out; have h8 := HZL.out; omega); intro v1 w1 ho hb hg hat; obtain ⟨Aw, cw, e7⟩ := Kd.R_slice ho; subst e7; rw [List.length_append, List.length_singleton] at ho; have hI1 := blk_grown m2.out hg (Kd.R_ne m4.out m2.out (by decide)); have hI0 := blk_grown m1.out hg (Kd.R_ne m4.out m1.out (by decide)); have hc1 := blk_cell hI1 0; have hf1 := blk_frozen hI1 0; have HI1 := Aside0.mk hI1; have HI0 := Aside0.mk hI0; have HO := Aside0.mk ho; have HB := Aside0.mk hb; clear hI1 hI0 ho hb hg hat))
      go_roundw
      case rel => exact ⟨i + 1, rfl, by omega, ⟨HB.out.setCell HG1.out _⟩, ⟨blk_far HI0.out (by simpa using hne) _⟩, _, ⟨blk_set HI1.out 0 _⟩, ⟨by rw [HX.out, ← List.append_assoc, ← HZ.out]; exact Kd.R_set HO.out HI1.out (by decide) _ _⟩⟩
      case measure => simp [intOf]; omega
    · have c1b : decide ((i : Int) < (fs.length : Int)) = false := decide_eq_false c1
      have e9 : fs.take i = fs := List.take_of_length_le (by omega)
      rw [e9] at HV
      go_wp2
      go_ret
      exact ⟨rfl, HB.out, HL.out, v1, HM.out, HV.out⟩

def metOf (l : List S32) (line : List Int) : List ByteArray := line.flatMap fun u => namesOf (rd_T32 l u).f2
def types_fields.l0 : Nat → List S32 → List S29 → Nat → List ByteArray → Option Int
  | 0, _, _, _, _ => none
  | k + 1, l, fs, i, met => if i < fs.length then ((wire_IsName.f k (rd_T29 fs i).f0).bind fun a => if a = true then ((slices_Contains_string_string.f k met (rd_T29 fs i).f0).bind fun b => if b = true then some 20 else ((types_stored.f l (rd_T29 fs i).f1).bind fun c => if c = true then (if met.length < 8796093022208 then types_fields.l0 k l fs (i + 1) (met ++ [(rd_T29 fs i).f0]) else none) else some 22)) else some 6) else some (if (met.length : Int) > 32 then 4 else 0)
def types_fields.f (k : Nat) (l : List S32) (c : Int) : Option Int :=
  if 0 ≤ c ∧ c < (l.length : Int) ∧ (metOf l (climbL l (rd_T32 l c).f1)).length < 8796093022208 then types_fields.l0 k l (rd_T32 l c).f2 0 (metOf l (climbL l (rd_T32 l c).f1)) else none
structure FieldsMet (w : World) (A0 : Option Addr) (c0 : Nat) (l : List S32) (r : List ByteArray) (xs : List Int) (W : World) : Prop where
  below : Below w.heap.size w W
  lies : W.heap[w.heap.size]? = some (.cells #[.slice A0 l.length c0] 33 (0, 0))
  met : ∃ (v : Value) (ys : List ByteArray), W.heap[w.heap.size + 1]? = some (.cells #[v] 102 (0, 0)) ∧ Kd.R Kd.string 9 W w.heap.size (fun _ => True) v ys ∧ ys ++ metOf l xs = r
theorem FieldsMet.drew {w : World} {A0 : Option Addr} {c0 : Nat} {l : List S32} {r : List ByteArray} {xs : List Int} {W : World} (h : FieldsMet w A0 c0 l r xs W) : FieldsMet w A0 c0 l r xs W.drew :=
  ⟨below_drew1 h.below, blk_drew h.lies, by obtain ⟨v, ys, h1, h2, h3⟩ := h.met; exact ⟨v, ys, blk_drew h1, Kd.R_drew h2, h3⟩⟩
theorem FieldsMet.drewN {w : World} {A0 : Option Addr} {c0 : Nat} {l : List S32} {r : List ByteArray} {xs : List Int} {W : World} (h : FieldsMet w A0 c0 l r xs W) (m : Nat) : FieldsMet w A0 c0 l r xs (W.drewN m) :=
  ⟨pw_below_drewN h.below m, blk_drewN h.lies m, by obtain ⟨v, ys, h1, h2, h3⟩ := h.met; exact ⟨v, ys, blk_drewN h1 m, Kd.R_drewN h2 m, h3⟩⟩
theorem FieldsMet.both {w : World} {A0 : Option Addr} {c0 : Nat} {l : List S32} {r : List ByteArray} {W : World} {p : Addr} {u : Value} (hp : w.cell? p = some u) (h : ∃ xs, FieldsMet w A0 c0 l r xs W) : W.cell? ⟨w.heap.size, 0, none⟩ = some (.slice A0 l.length c0) ∧ W.cell? p = some u ∧ ∃ xs, FieldsMet w A0 c0 l r xs W := by
  obtain ⟨xs, h⟩ := h
  exact ⟨blk_cell h.lies 0, (h.below.cell (World.block_lt_of_cell? w _ hp)).trans hp, xs, h⟩
structure FieldsAt (w : World) (A0 : Option Addr) (c0 : Nat) (l : List S32) (v : Value) (zs : List ByteArray) (W : World) : Prop where
  below : Below w.heap.size w W
  lies : W.heap[w.heap.size]? = some (.cells #[.slice A0 l.length c0] 33 (0, 0))
  met : W.heap[w.heap.size + 1]? = some (.cells #[v] 102 (0, 0))
  row : Kd.R Kd.string 9 W w.heap.size (fun _ => True) v zs
theorem FieldsAt.drewN {w : World} {A0 : Option Addr} {c0 : Nat} {l : List S32} {v : Value} {zs : List ByteArray} {W : World} (h : FieldsAt w A0 c0 l v zs W) (m : Nat) : FieldsAt w A0 c0 l v zs (W.drewN m) :=
  ⟨pw_below_drewN h.below m, blk_drewN h.lies m, blk_drewN h.met m, Kd.R_drewN h.row m⟩
theorem FieldsAt.box {w : World} {A0 : Option Addr} {c0 : Nat} {l : List S32} {v : Value} {zs : List ByteArray} {W W5 : World} (h : FieldsAt w A0 c0 l v zs W) {gb : Nat} (hg : gb = W.heap.size) (hb : Below W.heap.size W W5) (s t : Value) : FieldsAt w A0 c0 l v zs ((W5.setCell ⟨gb, 0, none⟩ s).setCell ⟨gb, 1, none⟩ t) := by
  have hlt0 := blk_lt h.lies
  have hlt1 := blk_lt h.met
  have hs := h.below.size
  exact ⟨((below_step h.below hb).setCell (p := ⟨gb, 0, none⟩) (by simp; omega) s).setCell (p := ⟨gb, 1, none⟩) (by simp; omega) t,
    blk_far (blk_far (blk_below h.lies hb) (p := ⟨gb, 0, none⟩) (by simp; omega) s) (p := ⟨gb, 1, none⟩) (by simp; omega) t,
    blk_far (blk_far (blk_below h.met hb) (p := ⟨gb, 0, none⟩) (by simp; omega) s) (p := ⟨gb, 1, none⟩) (by simp; omega) t,
    Kd.R_mono (Kd.R_far (p := ⟨gb, 1, none⟩) (Kd.R_far (p := ⟨gb, 0, none⟩) (Kd.R_below (Kd.R_elderB h.row gb (Nat.le_of_eq hg.symm)) hb) (fun _ hk => hk.2) s) (fun _ hk => hk.2) t) (fun _ _ => trivial : ∀ k, _ → True)⟩
set_option maxHeartbeats 3200000 in
set_option maxRecDepth 100000 in
theorem types_fields.calls (k : Nat) (A0 : Option Addr) (c0 : Nat) (l0 : List S32) (a1 : Int) (r : Int) (w : World) (hr0 : Kd.C k32 w A0 l0.length l0) (hc0 : l0.length ≤ c0) (h : types_fields.f k l0 a1 = some r) :
    Calls Try.prog 54 #[.slice A0 l0.length c0, .int .i64 a1] w fun e w' => e = .returned (.int .i64 r) ∧ Below w.heap.size w w' := by
  have hmf : ∀ (fn : Fn) (first cap : Array Value) (w : World), (Instr.makeFunc fn first cap).run Try.prog w = .ok (.func fn first cap) w := fun _ _ _ _ => rfl
  obtain ⟨h0, h1, hlim, hres⟩ : 0 ≤ a1 ∧ a1 < (l0.length : Int) ∧ (metOf l0 (climbL l0 (rd_T32 l0 a1).f1)).length < 8796093022208 ∧ types_fields.l0 k l0 (rd_T32 l0 a1).f2 0 (metOf l0 (climbL l0 (rd_T32 l0 a1).f1)) = some r := by
    unfold types_fields.f at h
    split at h
    · rename_i h9
      exact ⟨h9.1, h9.2.1, h9.2.2, h⟩
    · cases h
  have HR := Aside0.mk hr0
  have HC := Aside0.mk hc0
  have HRES := Aside0.mk hres
  have HLIM := Aside0.mk hlim
  obtain ⟨ad2, A2, c2, e1, _, hy2, hx2, hl2, hi2⟩ := at_T32 hr0 a1 h0 h1
  cases e1
  have HY := Aside0.mk hy2
  have HX := Aside0.mk hx2
  have HF := Aside0.mk hi2
  have HFC := Aside0.mk hl2
  have p1 := eq_true h0
  have p2 := eq_true h1
  clear hr0 hc0 h hlim hres hy2 hx2 hl2 hi2
  go_enter Try.func54, Try.ntmps54
  go_wp2_with fail
  obtain ⟨line, hline⟩ : ∃ line, line = climbL l0 (rd_T32 l0 a1).f1 := ⟨_, rfl⟩
  have hM0 : FieldsMet w (some ad2) c0 l0 (metOf l0 line) line ((w.alloc (.cells #[.slice (some ad2) l0.length c0] 33)).alloc (.cells #[.slice none 0 0] 102)) :=
    ⟨below_alloc (below_alloc (Below.refl _ _) _) _, blk_alloc (blk_new _ _) _, .slice none 0 0, [], by
      have := blk_new (w.alloc (.cells #[.slice (some ad2) l0.length c0] 33)) (.cells #[.slice none 0 0] 102)
      simpa using this, Kd.R_nil _ _ _ _ _, rfl⟩
  rw [← hline] at HLIM HRES
  generalize (w.alloc (.cells #[.slice (some ad2) l0.length c0] 33)).alloc (.cells #[.slice none 0 0] 102) = w2 at hM0 ⊢
  have hcall : ∀ W, FieldsMet w (some ad2) c0 l0 (metOf l0 line) line W → Calls Try.prog 55 #[.slice (some ad2) l0.length c0, .int .i64 (rd_T32 l0 a1).f1, .func (.func 76) #[] #[.pointer (some ⟨w.heap.size, 0, none⟩), .pointer (some ⟨w.heap.size + 1, 0, none⟩)]] W fun e W' => e = .returned (.tuple #[]) ∧ FieldsMet w (some ad2) c0 l0 (metOf l0 line) [] W' := fun W hW => by
    have hmem := climbL_mem l0 (rd_T32 l0 a1).f1
    rw [← hline] at hmem
    refine (climb_any 76 _ (some ad2) c0 l0 w HR.out (fun xs W => FieldsMet w (some ad2) c0 l0 (metOf l0 line) xs W ∧ ∀ x ∈ xs, 0 ≤ x ∧ x < (l0.length : Int)) (FieldsMet w (some ad2) c0 l0 (metOf l0 line) []) (fun _ _ h => h.1.below) (fun _ h => h.1) ?_ (callFunc_run Try.func76 (by kernel_rfl) (by kernel_rfl)) _ W (by rw [← hline]; exact ⟨hW, hmem⟩))
    rintro x xs W ⟨⟨g1, g2, v, ys, g3, g4, g5⟩, g6⟩
    have hx := g6 x List.mem_cons_self
    have hcons : metOf l0 (x :: xs) = namesOf (rd_T32 l0 x).f2 ++ metOf l0 xs := rfl
    rw [hcons, ← List.append_assoc] at g5
    have hlen := congrArg List.length g5
    rw [List.length_append, List.length_append] at hlen
    have hnl : (namesOf (rd_T32 l0 x).f2).length = (rd_T32 l0 x).f2.length := by unfold namesOf; rw [List.length_map]
    have := HLIM.out
    refine (types_fields_step w (some ad2) c0 l0 HR.out w.heap.size (w.heap.size + 1) (Nat.le_refl _) (Nat.le_succ _) (by omega) x hx.1 hx.2 ys v W g1 g2 g3 g4 (by omega)).mono ?_
    rintro e W' ⟨rfl, k1, k2, v1, k3, k4⟩
    exact .inl ⟨rfl, ⟨k1, k2, v1, _, k3, k4, g5⟩, fun y hy => g6 y (List.mem_cons_of_mem _ hy)⟩
  have HCALL := Aside0.mk hcall
  clear hcall
  have hS1 := blk_cell hM0.lies 0
  have hY2 := (hM0.below.cell (World.block_lt_of_cell? w _ HY.out)).trans HY.out
  go_region_held3 (fun w' => w'.cell? ⟨w.heap.size, 0, none⟩ = some (.slice (some ad2) l0.length c0) ∧ w'.cell? ⟨(ad2.add (a1.toNat * 3)).block, (ad2.add (a1.toNat * 3)).off + 1, none⟩ = some (.int .i64 (rd_T32 l0 a1).f1) ∧ ∃ xs, FieldsMet w (some ad2) c0 l0 (metOf l0 line) xs w')
    (first | (refine FieldsMet.both HY.out ?_; (first | exact ⟨_, hfin⟩ | (refine ⟨line, ?_⟩; (repeat (first | exact hM0 | refine FieldsMet.drew ?_ | refine FieldsMet.drewN ?_ _))))))
    (first | (go_at_call 55; (with_reducible refine (HCALL.out _ ?hr1).mono ?_); (case hr1 => (repeat (first | exact hM0 | refine FieldsMet.drew ?_ | refine FieldsMet.drewN ?_ _))); rintro e w9 ⟨rfl, hfin⟩))
  obtain ⟨g1, g2, v0, zs0, g3, g4, g5⟩ := hfin
  have g6 : zs0 = metOf l0 line := by rw [← g5]; exact (List.append_nil _).symm
  subst g6
  have hAt : FieldsAt w (some ad2) c0 l0 v0 (metOf l0 line) w9 := ⟨g1, g2, g3, g4⟩
  have HAT := Aside0.mk hAt
  have hcL := blk_cell g2 0
  obtain ⟨fs, hfs⟩ : ∃ fs, fs = (rd_T32 l0 a1).f2 := ⟨_, rfl⟩
  rw [← hfs] at HX HF HFC HRES
  have hX2 := (g1.cell (World.block_lt_of_cell? w _ HX.out)).trans HX.out
  have hlen : fs.length ≤ 9223372036854775807 := HF.out.2.1
  clear hfs hline hS1 hY2 g1 g2 g3 g4 g5 hM0 HCALL HLIM hAt
  go_wp2
  go_loopw [22] (fun v22 wr => ∃ (i kq : Nat) (zs : List ByteArray) (v : Value), v22 = .int .i64 (i : Int) ∧ i ≤ fs.length ∧ Aside0 (types_fields.l0 kq l0 fs i zs = some r) ∧ Aside0 (FieldsAt w (some ad2) c0 l0 v zs wr)) (fun v22 _ => ((fs.length : Int) - intOf v22).toNat)
  case atStart => exact ⟨0, k, _, _, rfl, Nat.zero_le _, HRES, HAT⟩
  case round =>
    obtain ⟨i, kq, zs, v, rfl, hi, HH, HAT⟩ := hrel
    cases kq with
    | zero => exact absurd HH.out (by simp [types_fields.l0])
    | succ kq =>
    have H := HH.out
    clear HH
    unfold types_fields.l0 at H
    obtain ⟨Av, cv, e5⟩ := Kd.R_slice HAT.out.row
    subst e5
    by_cases c1 : i < fs.length
    · rw [if_pos c1] at H
      have c1b : decide ((i : Int) < (fs.length : Int)) = true := decide_eq_true (by omega)
      obtain ⟨b1, B1, H⟩ := Option.bind_eq_some_iff.mp H
      have HB1 := Aside0.mk B1
      have HH := Aside0.mk H
      clear B1 H
      obtain ⟨ad3, e3, hx0, hx1⟩ := at_T29 HF.out (i : Int) (by omega) (by omega)
      cases e3
      replace hx0 := (HAT.out.below.cell (World.block_lt_of_cell? w _ hx0)).trans hx0
      replace hx1 := (HAT.out.below.cell (World.block_lt_of_cell? w _ hx1)).trans hx1
      simp only [Int.toNat_natCast] at hx0 hx1
      have p5 : (0 ≤ (i : Int)) = True := eq_true (by omega)
      have p6 : ((i : Int) < (fs.length : Int)) = True := eq_true (by omega)
      go_upto_region 6 with (first | ((with_reducible refine gate_dst (N := 7) rfl ?_); refine box_event ?hg (N := 7) ?hd (cs := #[.string (⟨#[]⟩ : ByteArray), .int .u8 0]) (t := 29) ?hr ?_; (case hd => rfl); (case hg => rfl); (case hr => first | (go_simp; done) | (go_simp; rfl)); intro gb hg w5 hbox hb; have n1 := Aside0.mk hbox; have n2 := Aside0.mk hb; have n3 := Aside0.mk hg; have hcz0 := blk_cell hbox 0; have hcz1 := blk_cell hbox 1; have hfz0 := blk_frozen hbox 0; have hfz1 := blk_frozen hbox 1; clear hbox hb hg))
      have hA := HAT.out.box n3.out n2.out (.string (rd_T29 fs i).f0) (.int .u8 (rd_T29 fs i).f1)
      have m5 := blk_set (blk_set n1.out 0 (.string (rd_T29 fs i).f0)) 1 (.int .u8 (rd_T29 fs i).f1)
      generalize (w5.setCell ⟨gb, 0, none⟩ (.string (rd_T29 fs i).f0)).setCell ⟨gb, 1, none⟩ (.int .u8 (rd_T29 fs i).f1) = w6 at hA m5 ⊢
      clear n1 n2 n3 hcz0 hcz1 hfz0 hfz1 hx0 hx1 HAT
      have HAT := Aside0.mk hA
      have M5 := Aside0.mk m5
      have hcb0 := blk_cell m5 0
      clear hA m5
      go_wp2_with fail
      refine (wire_IsName.calls kq _ b1 _ HB1.out).mono ?_
      rintro e w7 ⟨rfl, m, rfl⟩
      have hA := HAT.out.drewN m
      have m5 := blk_drewN M5.out m
      generalize w6.drewN m = w7 at hA m5 ⊢
      clear HAT M5 hcb0
      have HAT := Aside0.mk hA
      have M5 := Aside0.mk m5
      clear hA m5
      by_cases d1 : b1 = true
      · subst d1
        have H := HH.out
        rw [if_pos rfl] at H
        obtain ⟨b2, B2, H⟩ := Option.bind_eq_some_iff.mp H
        have HB2 := Aside0.mk B2
        clear HH
        have HH := Aside0.mk H
        clear B2 H
        have hcb0 := blk_cell M5.out 0
        have hcm := blk_cell HAT.out.met 0
        go_wp2_with fail
        refine (slices_Contains_string_string.calls kq Av cv zs _ b2 _ (Kd.R_reads' HAT.out.row).2.2 (Kd.R_reads' HAT.out.row).2.1 HB2.out).mono ?_
        rintro e w8 ⟨rfl, m, rfl⟩
        have hA := HAT.out.drewN m
        have m5 := blk_drewN M5.out m
        generalize w7.drewN m = w8 at hA m5 ⊢
        clear HAT M5 hcb0 hcm
        have HAT := Aside0.mk hA
        have M5 := Aside0.mk m5
        clear hA m5
        by_cases d2 : b2 = true
        · subst d2
          have H := HH.out
          rw [if_pos rfl] at H
          obtain rfl := Option.some.inj H
          clear H HH
          go_wp2
          go_ret
          exact ⟨rfl, HAT.out.below⟩
        · replace d2 := Bool.eq_false_iff.mpr d2
          subst d2
          have H := HH.out
          rw [if_neg (by decide)] at H
          obtain ⟨b3, B3, H⟩ := Option.bind_eq_some_iff.mp H
          have HB3 := Aside0.mk B3
          clear HH
          have HH := Aside0.mk H
          clear B3 H
          have hcb1 := blk_cell M5.out 1
          have hcl := blk_cell HAT.out.lies 0
          go_wp2_with fail
          refine (types_stored.calls (some ad2) c0 l0 _ b3 _ (Kd.C_below HR.out HAT.out.below) HC.out HB3.out).mono ?_
          rintro e w9 ⟨rfl, m, rfl⟩
          have hA := HAT.out.drewN m
          have m5 := blk_drewN M5.out m
          generalize w8.drewN m = w9 at hA m5 ⊢
          clear HAT M5 hcb1 hcl
          have HAT := Aside0.mk hA
          have M5 := Aside0.mk m5
          clear hA m5
          by_cases d3 : b3 = true
          · subst d3
            have H := HH.out
            rw [if_pos rfl] at H
            by_cases d4 : zs.length < 8796093022208
            · rw [if_pos d4] at H
              have HLIM := Aside0.mk d4
              clear HH d4
              have HH := Aside0.mk H
              clear H
              have hcb0 := blk_cell M5.out 0
              have hcm := blk_cell HAT.out.met 0
              go_wp2_with (first | ((with_reducible refine gate_builtin (b := .append) (xs := #[.tmp 42, .tmp 45]) rfl ?_); at_builtin; refine Kd.R_append Kd.string (w0 := w) w.heap.size rfl (.tmp 42) (.tmp 45) 102 9 (.string ⟨#[]⟩) 16 rfl Try.underlying102 info9 rfl (by decide) (by omega) (.slice Av zs.length cv) zs ((rd_T29 fs i).f0) [.string ((rd_T29 fs i).f0)] (fun _ => True) (fun _ => False) rfl rfl ?aP (fun _ hk => hk.elim) ?aF ?aO ?aB ?aS ?aL ?_; (case aP => exact rfl); (case aB => exact HAT.out.below); (case aF => exact (fun _ _ => trivial)); (case aO => exact HAT.out.row); (case aS => exact HAT.out.below.size); (case aL => have h8 := HLIM.out; omega); intro v1 w1 ho hb hg hat; obtain ⟨Aw, cw, e7⟩ := Kd.R_slice ho; subst e7; rw [List.length_append, List.length_singleton] at ho; have hI1 := blk_grown HAT.out.met hg (Kd.R_ne HAT.out.row HAT.out.met (by decide)); have hI0 := blk_grown HAT.out.lies hg (Kd.R_ne HAT.out.row HAT.out.lies (by decide)); have hc1 := blk_cell hI1 0; have hf1 := blk_frozen hI1 0; have HI1 := Aside0.mk hI1; have HI0 := Aside0.mk hI0; have HO := Aside0.mk ho; have HB := Aside0.mk hb; clear hI1 hI0 ho hb hg hat))
              go_roundw
              case rel => exact ⟨i + 1, kq, _, _, rfl, by omega, HH, ⟨HB.out.setCell (Nat.le_succ _) _, blk_far HI0.out (by simp) _, blk_set HI1.out 0 _, Kd.R_set HO.out HI1.out (by decide) _ _⟩⟩
              case measure => simp [intOf]; omega
            · rw [if_neg d4] at H
              cases H
          · replace d3 := Bool.eq_false_iff.mpr d3
            subst d3
            have H := HH.out
            rw [if_neg (by decide)] at H
            obtain rfl := Option.some.inj H
            clear H HH
            go_wp2
            go_ret
            exact ⟨rfl, HAT.out.below⟩
      · replace d1 := Bool.eq_false_iff.mpr d1
        subst d1
        have H := HH.out
        rw [if_neg (by decide)] at H
        obtain rfl := Option.some.inj H
        clear H HH
        go_wp2
        go_ret
        exact ⟨rfl, HAT.out.below⟩
    · rw [if_neg c1] at H
      have c1b : decide ((i : Int) < (fs.length : Int)) = false := decide_eq_false (by omega)
      have hcm := blk_cell HAT.out.met 0
      by_cases d1 : (zs.length : Int) > 32
      · have d1b : decide ((32 : Int) < (zs.length : Int)) = true := decide_eq_true d1
        have d1c : decide (32 < zs.length) = true := decide_eq_true (by omega)
        rw [if_pos d1] at H
        obtain rfl := Option.some.inj H
        clear d1 H
        go_wp2
        go_ret
        exact ⟨rfl, HAT.out.below⟩
      · have d1b : decide ((32 : Int) < (zs.length : Int)) = false := decide_eq_false d1
        have d1c : decide (32 < zs.length) = false := decide_eq_false (by omega)
        rw [if_neg d1] at H
        obtain rfl := Option.some.inj H
        clear d1 H
        go_wp2
        go_ret
        exact ⟨rfl, HAT.out.below⟩

structure CheckAt (w : World) (gb : Nat) (x : S32) (A2 : Option Addr) (c2 : Nat) (W : World) : Prop where
  below : Below w.heap.size w W
  box : W.heap[gb]? = some (.cells #[.string x.f0, .int .i64 x.f1, .slice A2 x.f2.length c2] 32 (0, 0))
theorem CheckAt.drew {w : World} {gb : Nat} {x : S32} {A2 : Option Addr} {c2 : Nat} {W : World} (h : CheckAt w gb x A2 c2 W) : CheckAt w gb x A2 c2 W.drew := ⟨below_drew1 h.below, blk_drew h.box⟩
theorem CheckAt.drewN {w : World} {gb : Nat} {x : S32} {A2 : Option Addr} {c2 : Nat} {W : World} (h : CheckAt w gb x A2 c2 W) (m : Nat) : CheckAt w gb x A2 c2 (W.drewN m) := ⟨pw_below_drewN h.below m, blk_drewN h.box m⟩
theorem CheckAt.step {w : World} {gb : Nat} {x : S32} {A2 : Option Addr} {c2 : Nat} {W W' : World} (h : CheckAt w gb x A2 c2 W) (hb : Below W.heap.size W W') : CheckAt w gb x A2 c2 W' := ⟨below_step h.below hb, blk_below h.box hb⟩
theorem CheckAt.both {w : World} {gb : Nat} {x : S32} {A2 : Option Addr} {c2 : Nat} {W : World} (h : CheckAt w gb x A2 c2 W) : W.cell? ⟨gb, 0, none⟩ = some (.string x.f0) ∧ CheckAt w gb x A2 c2 W := ⟨blk_cell h.box 0, h⟩
set_option maxHeartbeats 800000 in
set_option maxRecDepth 100000 in
theorem types_Check_step (w : World) (gb : Nat) (y : S32) (A3 : Option Addr) (c3 : Nat) (x : S32) (A2 : Option Addr) (c2 : Nat) (W : World) (h : CheckAt w gb y A3 c3 W) :
    Calls Try.prog 53 (#[.agg #[.string x.f0, .int .i64 x.f1, .slice A2 x.f2.length c2]] ++ #[.pointer (some ⟨gb, 0, none⟩)]) W fun e W' => e = .returned (.bool (x.f0.toList == y.f0.toList)) ∧ CheckAt w gb y A3 c3 W' := by
  have HB := Aside0.mk h
  have hlt := blk_lt h.box
  have h2 := blk_alloc h.box (.cells #[.string x.f0, .int .i64 x.f1, .slice A2 x.f2.length c2] 32 (0, 0))
  have hc := blk_cell h2 0
  have H3 := Aside0.mk (CheckAt.mk (below_alloc h.below (.cells #[.string x.f0, .int .i64 x.f1, .slice A2 x.f2.length c2] 32 (0, 0))) h2)
  clear h h2
  show Calls Try.prog 53 #[.agg #[.string x.f0, .int .i64 x.f1, .slice A2 x.f2.length c2], .pointer (some ⟨gb, 0, none⟩)] W _
  go_enter Try.func53, Try.ntmps53
  go_wp2
  go_ret
  exact ⟨rfl, H3.out⟩
def types_Check.l0 : Nat → List S32 → Nat → Option (Int × Int)
  | 0, _, _ => none
  | k + 1, l, i => if i < l.length then ((if i ≥ 32 then some 4 else ((wire_IsName.f k (rd_T32 l i).f0).bind fun a => if a = true then (types_words.f.bind fun ws => (slices_Contains_string_string.f k ws (rd_T32 l i).f0).bind fun b => if b = true then some 6 else (if ((l.take i).any fun x => x.f0.toList == (rd_T32 l i).f0.toList) = true then some 20 else (if (rd_T32 l i).f1 < -1 ∨ (rd_T32 l i).f1 ≥ i then some 21 else types_fields.f k l i))) else some 6)).bind fun e => if e = 0 then types_Check.l0 k l (i + 1) else some ((i : Int), e)) else some (0, 0)
def types_Check.f (k : Nat) (l : List S32) : Option (Int × Int) := types_Check.l0 k l 0
theorem check_exit {K : Act → World → Prop} {Q : Exit → Act → World → Prop} {e : Exit} {a : Act} {W : World} (Pm : World → Prop) (hP : Pm W) (h : ∀ W', Pm W' → Exit.then K Q e a W') : Exit.then K Q e a W := h W hP
set_option maxHeartbeats 6400000 in
set_option maxRecDepth 100000 in
theorem types_Check.calls (k : Nat) (A0 : Option Addr) (c0 : Nat) (l0 : List S32) (r1 : Int) (r2 : Int) (w : World) (hr0 : Kd.C k32 w A0 l0.length l0) (hc0 : l0.length ≤ c0) (h : types_Check.f k l0 = some (r1, r2)) :
    Calls Try.prog 32 #[.slice A0 l0.length c0] w fun e w' => e = .returned (.tuple #[.int .i64 r1, .int .i64 r2]) ∧ Below w.heap.size w w' := by
  have hmf : ∀ (fn : Fn) (first cap : Array Value) (w : World), (Instr.makeFunc fn first cap).run Try.prog w = .ok (.func fn first cap) w := fun _ _ _ _ => rfl
  have HR := Aside0.mk hr0
  have HC := Aside0.mk hc0
  have hlen : l0.length ≤ 9223372036854775807 := hr0.2.1
  have HRES := Aside0.mk h
  unfold types_Check.f at HRES
  clear hr0 hc0 h
  go_enter Try.func32, Try.ntmps32
  go_wp2
  go_loopw [9] (fun v9 wr => ∃ (i kq : Nat), v9 = .int .i64 (i : Int) ∧ i ≤ l0.length ∧ Aside0 (types_Check.l0 kq l0 i = some (r1, r2)) ∧ Aside0 (Below w.heap.size w wr)) (fun v9 _ => ((l0.length : Int) - intOf v9).toNat)
  case atStart => exact ⟨0, k, rfl, Nat.zero_le _, HRES, ⟨Below.refl _ _⟩⟩
  case round =>
    obtain ⟨i, kq, rfl, hi, HH, HB⟩ := hrel
    cases kq with
    | zero => exact absurd HH.out (by simp [types_Check.l0])
    | succ kq =>
    have H := HH.out
    clear HH
    unfold types_Check.l0 at H
    by_cases c1 : i < l0.length
    · rw [if_pos c1] at H
      have c1b : decide ((i : Int) < (l0.length : Int)) = true := decide_eq_true (by omega)
      obtain ⟨e0, E0, H⟩ := Option.bind_eq_some_iff.mp H
      have HE := Aside0.mk E0
      have HH := Aside0.mk H
      clear E0 H
      obtain ⟨ad, A2, c2, e1, hx0, hx1, hx2, hl2, hi2⟩ := at_T32 HR.out (i : Int) (by omega) (by omega)
      cases e1
      replace hx0 := (HB.out.cell (World.block_lt_of_cell? w _ hx0)).trans hx0
      replace hx1 := (HB.out.cell (World.block_lt_of_cell? w _ hx1)).trans hx1
      replace hx2 := (HB.out.cell (World.block_lt_of_cell? w _ hx2)).trans hx2
      simp only [Int.toNat_natCast] at hx0 hx1 hx2
      clear hl2 hi2
      have p5 : (0 ≤ (i : Int)) = True := eq_true (by omega)
      have p6 : ((i : Int) < (l0.length : Int)) = True := eq_true (by omega)
      go_upto_region 4 with (first | ((with_reducible refine gate_dst (N := 5) rfl ?_); refine box_event ?hg (N := 5) ?hd (cs := #[.string (⟨#[]⟩ : ByteArray), .int .i64 0, .slice none 0 0]) (t := 32) ?hr ?_; (case hd => rfl); (case hg => rfl); (case hr => first | (go_simp; done) | (go_simp; rfl)); intro gb hg w5 hbox hb; have n1 := Aside0.mk hbox; have n2 := Aside0.mk hb; have n3 := Aside0.mk hg; have hcz0 := blk_cell hbox 0; have hcz1 := blk_cell hbox 1; have hcz2 := blk_cell hbox 2; have hfz0 := blk_frozen hbox 0; have hfz1 := blk_frozen hbox 1; have hfz2 := blk_frozen hbox 2; clear hbox hb hg))
      have hs := HB.out.size
      have hgb := n3.out
      obtain ⟨x, hx⟩ : ∃ x, x = rd_T32 l0 (i : Int) := ⟨_, rfl⟩
      rw [← hx] at HE ⊢
      have hA : CheckAt w gb x A2 c2 (((w5.setCell ⟨gb, 0, none⟩ (.string x.f0)).setCell ⟨gb, 1, none⟩ (.int .i64 x.f1)).setCell ⟨gb, 2, none⟩ (.slice A2 x.f2.length c2)) :=
        ⟨(((below_step HB.out n2.out).setCell (p := ⟨gb, 0, none⟩) (by simp; omega) _).setCell (p := ⟨gb, 1, none⟩) (by simp; omega) _).setCell (p := ⟨gb, 2, none⟩) (by simp; omega) _, blk_set (blk_set (blk_set n1.out 0 (.string x.f0)) 1 (.int .i64 x.f1)) 2 (.slice A2 x.f2.length c2)⟩
      generalize ((w5.setCell ⟨gb, 0, none⟩ (.string x.f0)).setCell ⟨gb, 1, none⟩ (.int .i64 x.f1)).setCell ⟨gb, 2, none⟩ (.slice A2 x.f2.length c2) = w6 at hA ⊢
      have HX := Aside0.mk hx
      clear hx n1 n2 n3 hcz0 hcz1 hcz2 hfz0 hfz1 hfz2 hx0 hx1 hx2 hs hgb
      by_cases q1 : i ≥ 32
      · have q1b : decide ((32 : Int) ≤ (i : Int)) = true := decide_eq_true (by omega)
        have hE := HE.out
        rw [if_pos q1] at hE
        obtain rfl := Option.some.inj hE
        have H := HH.out
        rw [if_neg (by decide)] at H
        obtain ⟨rfl, rfl⟩ := Prod.mk.inj (Option.some.inj H)
        clear hE H HH q1
        have HA := Aside0.mk hA
        clear hA
        go_wp2
        go_ret2
        exact ⟨rfl, HA.out.below⟩
      · have q1b : decide ((32 : Int) ≤ (i : Int)) = false := decide_eq_false (by omega)
        have hE := HE.out
        rw [if_neg q1] at hE
        clear HE q1
        obtain ⟨b1, B1, hE⟩ := Option.bind_eq_some_iff.mp hE
        have HB1 := Aside0.mk B1
        clear B1
        by_cases d1 : b1 = true
        · subst d1
          rw [if_pos rfl] at hE
          obtain ⟨ws, WS, hE⟩ := Option.bind_eq_some_iff.mp hE
          obtain ⟨b2, B2, hE⟩ := Option.bind_eq_some_iff.mp hE
          have HWS := Aside0.mk WS
          have HB2 := Aside0.mk B2
          have HE := Aside0.mk hE
          clear WS B2 hE
          go_upto_region 8 with fail
          have hcb0 := blk_cell hA.box 0
          go_region_held3 (fun w' => w'.cell? ⟨gb, 0, none⟩ = some (.string x.f0) ∧ CheckAt w gb x A2 c2 w')
            (first | (refine CheckAt.both ?_; (repeat (first | exact hW | exact hA | refine CheckAt.drew ?_ | refine CheckAt.drewN ?_ _))))
            (first | (go_at_call 49; (with_reducible refine (wire_IsName.calls kq _ true _ HB1.out).mono ?_); rintro e w9 ⟨rfl, ⟨m, rfl⟩⟩) | (go_at_call 51; (with_reducible refine (types_words.calls ws _ HWS.out).mono ?_); rintro e w9 ⟨v0, rfl, hR, hb⟩; obtain ⟨Aw, cw, rfl⟩ := Kd.R_slice hR; have hW : CheckAt w gb x A2 c2 w9 := CheckAt.step (by (repeat (first | exact hA | refine CheckAt.drew ?_ | refine CheckAt.drewN ?_ _))) hb) | (go_at_call 50; (with_reducible refine (slices_Contains_string_string.calls kq Aw cw ws _ b2 _ ?hr1 (Kd.R_reads' hR).2.1 HB2.out).mono ?_); (case hr1 => (repeat (first | exact (Kd.R_reads' hR).2.2 | refine Kd.C_drew ?_ | refine Kd.C_drewN ?_ _))); rintro e w9 ⟨rfl, ⟨m, rfl⟩⟩))
          all_goals
            refine check_exit (fun W => CheckAt w gb x A2 c2 W) ?_ (fun w7 hA7 => ?_)
          any_goals (repeat (first | exact hW | exact hA | refine CheckAt.drew ?_ | refine CheckAt.drewN ?_ _))
          all_goals
            clear hA
            by_cases d2 : b2 = true
            · subst d2
              have hE := HE.out
              rw [if_pos rfl] at hE
              obtain rfl := Option.some.inj hE
              have H := HH.out
              rw [if_neg (by decide)] at H
              obtain ⟨rfl, rfl⟩ := Prod.mk.inj (Option.some.inj H)
              have HA := Aside0.mk hA7
              clear hE H HH hA7
              go_wp2
              go_ret2
              exact ⟨rfl, HA.out.below⟩
            · replace d2 := Bool.eq_false_iff.mpr d2
              subst d2
              have hE := HE.out
              rw [if_neg (by decide)] at hE
              have HE := Aside0.mk hE
              have HA := Aside0.mk hA7
              clear hE hA7
              have p7 : (i ≤ c0) = True := eq_true (by have := HC.out; omega)
              go_wp2_with fail
              have hl9 : (l0.take i).length = i := by rw [List.length_take]; omega
              have hcall := contains_class 53 #[.pointer (some ⟨gb, 0, none⟩)] (some ad) c0 (l0.take i) w (Kd.C_take HR.out (m := i) (by omega)) (CheckAt w gb x A2 c2) (fun y => y.f0.toList == x.f0.toList) (fun _ h => h.below) (fun y A3 c3 W h => types_Check_step w gb x A2 c2 y A3 c3 W h) (callFunc_run Try.func53 (by kernel_rfl) (by kernel_rfl)) w7 HA.out
              rw [hl9] at hcall
              refine hcall.mono ?_
              clear hcall hl9
              rintro e w8 ⟨rfl, hA8⟩
              have hE := HE.out
              clear HA HE
              generalize ((l0.take i).any fun y => y.f0.toList == x.f0.toList) = b3 at hE ⊢
              by_cases d3 : b3 = true
              · subst d3
                rw [if_pos rfl] at hE
                obtain rfl := Option.some.inj hE
                have H := HH.out
                rw [if_neg (by decide)] at H
                obtain ⟨rfl, rfl⟩ := Prod.mk.inj (Option.some.inj H)
                have HA := Aside0.mk hA8
                clear hE H HH hA8
                go_wp2
                go_ret2
                exact ⟨rfl, HA.out.below⟩
              · replace d3 := Bool.eq_false_iff.mpr d3
                subst d3
                rw [if_neg (by decide)] at hE
                have hcb1 := blk_cell hA8.box 1
                by_cases q2 : x.f1 < -1
                · rw [if_pos (.inl q2)] at hE
                  obtain rfl := Option.some.inj hE
                  have H := HH.out
                  rw [if_neg (by decide)] at H
                  obtain ⟨rfl, rfl⟩ := Prod.mk.inj (Option.some.inj H)
                  have q2b : decide (x.f1 < -1) = true := decide_eq_true q2
                  have HA := Aside0.mk hA8
                  clear hE H HH hA8 q2
                  go_wp2
                  go_ret2
                  exact ⟨rfl, HA.out.below⟩
                · have q2b : decide (x.f1 < -1) = false := decide_eq_false q2
                  by_cases q3 : x.f1 ≥ (i : Int)
                  · rw [if_pos (.inr q3)] at hE
                    obtain rfl := Option.some.inj hE
                    have H := HH.out
                    rw [if_neg (by decide)] at H
                    obtain ⟨rfl, rfl⟩ := Prod.mk.inj (Option.some.inj H)
                    have q3b : decide ((i : Int) ≤ x.f1) = true := decide_eq_true q3
                    have HA := Aside0.mk hA8
                    clear hE H HH hA8 q2 q3
                    go_wp2
                    go_ret2
                    exact ⟨rfl, HA.out.below⟩
                  · have q3b : decide ((i : Int) ≤ x.f1) = false := decide_eq_false q3
                    rw [if_neg (fun h => h.elim q2 q3)] at hE
                    have HE := Aside0.mk hE
                    have HA := Aside0.mk hA8
                    clear hE hA8 q2 q3
                    go_wp2_with fail
                    refine (types_fields.calls kq (some ad) c0 l0 (i : Int) e0 _ (Kd.C_below HR.out HA.out.below) HC.out HE.out).mono ?_
                    rintro e w9 ⟨rfl, hb9⟩
                    have HB9 := Aside0.mk (below_step HA.out.below hb9)
                    clear hb9 hcb1
                    by_cases q4 : e0 = 0
                    · subst q4
                      have H := HH.out
                      rw [if_pos rfl] at H
                      have HH := Aside0.mk H
                      clear H
                      go_wp2
                      go_roundw
                      case rel => exact ⟨i + 1, kq, rfl, by omega, HH, HB9⟩
                      case measure => simp [intOf]; omega
                    · have q4b : (e0 != 0) = true := bne_iff_ne.mpr q4
                      have q4c : (e0 == 0) = false := beq_eq_false_iff_ne.mpr q4
                      have H := HH.out
                      rw [if_neg q4] at H
                      obtain ⟨rfl, rfl⟩ := Prod.mk.inj (Option.some.inj H)
                      clear H HH
                      have Q4 := Aside0.mk q4
                      clear q4
                      go_wp2
                      go_ret2
                      exact ⟨rfl, HB9.out⟩
        · replace d1 := Bool.eq_false_iff.mpr d1
          subst d1
          rw [if_neg (by decide)] at hE
          obtain rfl := Option.some.inj hE
          have H := HH.out
          rw [if_neg (by decide)] at H
          obtain ⟨rfl, rfl⟩ := Prod.mk.inj (Option.some.inj H)
          clear hE H HH
          go_upto_region 8 with fail
          have hcb0 := blk_cell hA.box 0
          have HA := Aside0.mk hA
          clear hA
          go_quiet (first | (go_at_call 49; (with_reducible refine (wire_IsName.calls kq _ false _ HB1.out).mono ?_); rintro e w9 ⟨rfl, ⟨m, rfl⟩⟩; exact ⟨rfl, _, World.drewN_drewN _ _ _⟩))
          go_wp2
          go_ret2
          exact ⟨rfl, pw_below_drewN HA.out.below _⟩
    · rw [if_neg c1] at H
      have c1b : decide ((i : Int) < (l0.length : Int)) = false := decide_eq_false (by omega)
      obtain ⟨rfl, rfl⟩ := Prod.mk.inj (Option.some.inj H)
      clear H
      go_wp2
      go_ret2
      exact ⟨rfl, HB.out⟩

def types_Fields.f (l0 : List S32) (a1 : Int) : Option (List S29) := if (climbL l0 a1).length < 17592186044416 ∧ ((climbL l0 a1).reverse.flatMap fun c => (rd_T32 l0 c).f2).length < 5864062014805 then some ((climbL l0 a1).reverse.flatMap fun c => (rd_T32 l0 c).f2) else none
set_option maxHeartbeats 800000 in
set_option maxRecDepth 100000 in
theorem types_Fields_step (B : Nat) (base : Nat) (x : Int) (ys : List Int) (v : Value) (W : World) (hI : W.heap[B]? = some (.cells #[v] 37 (0, 0))) (hbase : base ≤ W.heap.size) (hv : Kd.R (Kd.int .i64) 3 W base (fun _ => True) v ys) (hl : ys.length < 17592186044416) :
    Calls Try.prog 56 #[.int .i64 x, .pointer (some ⟨B, 0, none⟩)] W fun e W' => e = .returned (.bool true) ∧ (∃ v1 : Value, W'.heap[B]? = some (.cells #[v1] 37 (0, 0)) ∧ Kd.R (Kd.int .i64) 3 W' base (fun _ => True) v1 (ys ++ [x])) ∧ (∀ u, Below base u W → base ≤ B → Below base u W') := by
  obtain ⟨Ao, co, rfl⟩ := Kd.R_slice hv
  have hc := blk_cell hI 0
  have HI := Aside0.mk hI
  have HV := Aside0.mk hv
  have HL := Aside0.mk hl
  have HBA := Aside0.mk hbase
  clear hI hv hl hbase
  go_enter Try.func56, Try.ntmps56
  go_wp2_with (first | ((with_reducible refine gate_builtin (b := .append) (xs := #[.tmp 4, .tmp 6]) rfl ?_); at_builtin; refine Kd.R_append (Kd.int .i64) (w0 := W) base rfl (.tmp 4) (.tmp 6) 37 3 (.int .i64 0) 8 rfl Try.underlying37 info3 rfl (by decide) (by omega) (.slice Ao ys.length co) ys x [.int .i64 x] (fun _ => True) (fun _ => False) rfl rfl ?aP (fun _ hk => hk.elim) ?aF ?aO ?aB ?aS ?aL ?_; (case aP => exact rfl); (case aB => exact Below.refl _ _); (case aF => exact (fun _ _ => trivial)); (case aO => exact HV.out); (case aS => exact HBA.out); (case aL => have := HL.out; omega); intro v1 w1 ho hb hg hat; obtain ⟨A2, c2, e2⟩ := Kd.R_slice ho; subst e2; rw [List.length_append, List.length_singleton] at ho; have hI1 := blk_grown HI.out hg (Kd.R_ne HV.out HI.out (by decide)); have hc1 := blk_cell hI1 0; have hf1 := blk_frozen hI1 0; have HI1 := Aside0.mk hI1; have HO := Aside0.mk ho; have HB := Aside0.mk hb; clear hI1 ho hb hg hat))
  go_ret
  refine ⟨rfl, ⟨_, blk_set HI1.out 0 _, Kd.R_set HO.out HI1.out (by decide) _ _⟩, fun u hu hB => ?_⟩
  exact (hu.trans HB.out).setCell hB _
structure FieldsInv (W0 : World) (r : List Int) (xs : List Int) (W : World) : Prop where
  now : ∃ (v : Value) (ys : List Int), W.heap[W0.heap.size]? = some (.cells #[v] 37 (0, 0)) ∧ Kd.R (Kd.int .i64) 3 W W0.heap.size (fun _ => True) v ys ∧ ys ++ xs = r
  below : Below W0.heap.size W0 W
structure FieldsFin (W0 : World) (r : List Int) (W : World) : Prop where
  now : ∃ v : Value, W.heap[W0.heap.size]? = some (.cells #[v] 37 (0, 0)) ∧ Kd.R (Kd.int .i64) 3 W W0.heap.size (fun _ => True) v r
  below : Below W0.heap.size W0 W
def laidFields (l : List S32) (line : List Int) (d : Nat) : List S29 := (line.drop d).reverse.flatMap fun c => (rd_T32 l c).f2
theorem laid_next (l : List S32) (line : List Int) (d : Nat) (h : d < line.length) : laidFields l line d = laidFields l line (d + 1) ++ (rd_T32 l (rd line d)).f2 := by
  unfold laidFields
  rw [List.drop_eq_getElem_cons h, List.reverse_cons, List.flatMap_append]
  simp [rd, List.getD_eq_getElem?_getD, h]
theorem laid_le (l : List S32) (line : List Int) (d : Nat) : (laidFields l line d).length ≤ (laidFields l line 0).length := by
  unfold laidFields
  have : line.drop 0 = line.take d ++ line.drop d := by simp
  rw [this, List.reverse_append, List.flatMap_append, List.length_append]
  omega
set_option maxHeartbeats 1600000 in
set_option maxRecDepth 100000 in
theorem types_Fields.calls (A0 : Option Addr) (c0 : Nat) (l0 : List S32) (a1 : Int) (r : List S29) (w : World) (hr0 : Kd.C k32 w A0 l0.length l0) (hc0 : l0.length ≤ c0) (h : types_Fields.f l0 a1 = some r) :
    Calls Try.prog 36 #[.slice A0 l0.length c0, .int .i64 a1] w fun e w' => ∃ v0_ : Value, e = .returned v0_ ∧ Kd.R k29 29 w' w.heap.size (fun _ => True) v0_ r ∧ Below w.heap.size w w' := by
  have hmf : ∀ (fn : Fn) (first cap : Array Value) (w : World), (Instr.makeFunc fn first cap).run Try.prog w = .ok (.func fn first cap) w := fun _ _ _ _ => rfl
  have HR := Aside0.mk hr0
  have HC := Aside0.mk hc0
  obtain ⟨line, hline⟩ : ∃ l, l = climbL l0 a1 := ⟨_, rfl⟩
  obtain ⟨hlim0, hlim, hr⟩ : line.length < 17592186044416 ∧ (laidFields l0 line 0).length < 5864062014805 ∧ r = laidFields l0 line 0 := by
    unfold types_Fields.f at h
    split at h
    · rename_i h9
      unfold laidFields
      rw [hline, List.drop_zero]
      exact ⟨h9.1, h9.2, (Option.some.inj h).symm⟩
    · cases h
  have hlen : l0.length ≤ 9223372036854775807 := hr0.2.1
  have hcl := climbL_length l0 a1
  have hmem := climbL_mem l0 a1
  rw [← hline] at hcl hmem
  subst hr
  have HLIM := Aside0.mk hlim
  have HMEM := Aside0.mk hmem
  have HLINE := Aside0.mk hline
  have hl0 : line.length ≤ 9223372036854775807 := by omega
  have HLEN := Aside0.mk hlim0
  clear hr0 hc0 h hlim hline hlen hcl hmem hlim0
  go_enter Try.func36, Try.ntmps36
  go_wp2_with fail
  refine (climb_any 56 _ A0 c0 l0 w HR.out (FieldsInv w line) (FieldsFin w line) (fun _ _ h => h.below) ?_ ?_ (callFunc_run Try.func56 (by kernel_rfl) (by kernel_rfl)) a1 _ ?_).mono ?_
  · rintro W ⟨⟨v, ys, h1, h2, h3⟩, h4⟩
    rw [List.append_nil] at h3
    subst h3
    exact ⟨⟨v, h1, h2⟩, h4⟩
  · rintro x xs W ⟨⟨v, ys, h1, h2, h3⟩, h4⟩
    have hyl : ys.length < line.length := by rw [← h3]; simp
    have := HLEN.out
    refine (types_Fields_step _ w.heap.size x ys v W h1 h4.size h2 (by omega)).mono ?_
    rintro e W' ⟨rfl, ⟨v1, h5, h6⟩, h7⟩
    left
    exact ⟨rfl, ⟨v1, ys ++ [x], h5, h6, by simpa using h3⟩, h7 _ h4 (Nat.le_refl _)⟩
  · exact ⟨⟨.slice none 0 0, [], blk_new _ _, Kd.R_nil _ _ _ _ _, HLINE.out.symm⟩, (Below.refl _ _).alloc (Nat.le_refl _) _⟩
  · rintro e w1 ⟨rfl, ⟨v, h1, h2⟩, h3⟩
    obtain ⟨Ao, co, rfl⟩ := Kd.R_slice h2
    have hc := blk_cell h1 0
    have HI := Aside0.mk h1
    have HV := Aside0.mk h2
    have HB := Aside0.mk h3
    clear h1 h2 h3
    go_wp2
    go_loopw [6, 7] (fun v6 v7 wr => ∃ y : Int, v7 = .int .i64 y ∧ -1 ≤ y ∧ y < line.length ∧ Aside0 (Kd.R k29 29 wr w.heap.size (fun _ => True) v6 (laidFields l0 line (y + 1).toNat)) ∧ Aside0 (wr.heap[w.heap.size]? = some (.cells #[.slice Ao line.length co] 37 (0, 0))) ∧ Aside0 (Kd.R (Kd.int .i64) 3 wr w.heap.size (fun _ => True) (.slice Ao line.length co) line) ∧ Aside0 (Below w.heap.size w wr)) (fun _ v7 _ => (intOf v7 + 1).toNat)
    case atStart =>
      refine ⟨_, rfl, by omega, by omega, ⟨?_⟩, HI, HV, HB⟩
      have e : ((line.length : Int) - 1 + 1).toNat = line.length := by omega
      have e2 : laidFields l0 line line.length = [] := by unfold laidFields; simp
      rw [e, e2]
      exact Kd.R_nil _ _ _ _ _
    case round =>
      obtain ⟨y, rfl, hy0, hy1, HO, HI, HV, HB⟩ := hrel
      obtain ⟨A6, c6, rfl⟩ := Kd.R_slice HO.out
      by_cases c1 : 0 ≤ y
      · have c1b : decide (0 ≤ y) = true := decide_eq_true c1
        have hc := blk_cell HI.out 0
        obtain ⟨ad, e0, hx0⟩ := Kd.at_int (Kd.R_reads' HV.out).2.2 y c1 hy1
        cases e0
        have hrange := HMEM.out (rd line y) (by
          have : y.toNat < line.length := by omega
          simp [rd, List.getD_eq_getElem?_getD, this])
        obtain ⟨hr1, hr2⟩ := hrange
        obtain ⟨ad2, A2, c2, e1, _, _, hx2, hl2, hi2⟩ := at_T32 HR.out (rd line y) hr1 hr2
        cases e1
        replace hx2 := (HB.out.cell (World.block_lt_of_cell? w _ hx2)).trans hx2
        have HR2 := Aside0.mk hi2
        have HC2 := Aside0.mk hl2
        have hnext := laid_next l0 line y.toNat (by omega)
        have ey : (y + 1).toNat = y.toNat + 1 := by omega
        have eyy : ((y.toNat : Nat) : Int) = y := by omega
        rw [← ey, eyy] at hnext
        have HNEXT := Aside0.mk hnext
        have HLE := Aside0.mk (Nat.lt_of_le_of_lt (laid_le l0 line y.toNat) HLIM.out)
        clear hi2 hl2 hnext ey eyy
        have p3 := eq_true hr1
        have p4 := eq_true hr2
        clear hr1 hr2
        go_wp2_with (first | ((with_reducible refine gate_builtin (b := .append) (xs := #[.tmp 19, .tmp 27]) rfl ?_); at_builtin; refine Kd.R_append_rows k29 (w0 := w) w.heap.size rfl (.tmp 19) (.tmp 27) 30 29 (.agg #[(.string ⟨#[]⟩), (.int .u8 0)]) 24 rfl Try.underlying30 info29 rfl (by decide) (by omega) (.slice A6 (laidFields l0 line (y + 1).toNat).length c6) (laidFields l0 line (y + 1).toNat) ((rd_T32 l0 (rd line y)).f2) _ _ _ (fun _ => True) (fun _ => False) rfl rfl ?aO ?aR (fun _ _ h => h) (fun _ h => h.elim) ?aF ?aB ?aS ?aL ?_; (case aR => exact Kd.C_below HR2.out HB.out); (case aB => exact HB.out); (case aF => exact (fun _ _ => trivial)); (case aO => exact HO.out); (case aS => exact HB.out.size); (case aL => have h9 := HLE.out; have h8 := congrArg List.length HNEXT.out; rw [List.length_append] at h8; omega); intro v1 w2 ho hb hg hat; rw [← HNEXT.out] at ho; have n0 := Aside0.mk ho; have n1 := Aside0.mk hb; have n2 := Aside0.mk (blk_grown HI.out hg (Kd.R_ne HO.out HI.out (by decide))); have n3 := Aside0.mk (Kd.R_over' HV.out (Kd.R_typed HO.out) (by decide) hg); clear HO HB HI HV ho hb hg hat))
        go_roundw
        case rel => exact ⟨y - 1, rfl, by omega, by omega, by rw [show (y - 1 + 1).toNat = y.toNat by omega]; exact n0, n2, n3, n1⟩
        case measure => simp [intOf]; omega
      · have c1b : decide (0 ≤ y) = false := decide_eq_false c1
        have ey : (y + 1).toNat = 0 := by omega
        have HO3 : Aside0 (Kd.R k29 29 wr w.heap.size (fun _ => True) (.slice A6 (laidFields l0 line (y + 1).toNat).length c6) (laidFields l0 line 0)) := ⟨by have h9 := HO.out; rw [ey] at h9 ⊢; exact h9⟩
        clear ey
        go_wp2
        go_ret
        exact ⟨_, rfl, HO3.out, HB.out⟩


end Go.Proofs.Ytkjagcamikkjkaa.P

end

section
namespace Go.Proofs.Ytkjagcamikkjkaa.P
open Go.RowKit Go.Proofs.YtkjagcamikkjkaaW.PrintWords Go.Proofs.YtkjagcamikkjkaaW.PrintLast Go.Proofs.YtkjagcamikkjkaaW.PrintMore
attribute [local go_sem] max2_int min2_int max_two min_two max_three min_three max_four min_four   -- for this text's walks alone
set_option linter.unusedVariables false
set_option linter.unusedSimpArgs false


































def types_IsRef.f (a0 : Int) : Option (Bool) := if a0 = 3 then (some true) else (if a0 = 4 then (some true) else (if a0 = 5 then (some true) else (some (decide (a0 ≥ 16)))))
set_option maxHeartbeats 8000000 in
set_option maxRecDepth 100000 in
theorem types_IsRef.calls (a0 : Int) (r : Bool) (w : World) (h : types_IsRef.f a0 = some r) :
    Calls Try.prog 58 #[.int .u8 a0] w fun e w' => e = .returned (.bool r) ∧ Drawn0 w w' := by
  have H : (if a0 = 3 then (some true) else (if a0 = 4 then (some true) else (if a0 = 5 then (some true) else (some (decide (a0 ≥ 16)))))) = some r := h
  clear h
  by_cases c2 : a0 = 3
  · rw [if_pos c2] at H
    have c2b0 : (a0 == 3) = true := beq_iff_eq.mpr c2
    have c2b1 : (a0 != 3) = false := bne_eq_false_iff_eq.mpr c2
    clear c2
    obtain rfl := Option.some.inj H
    go_enter Try.func58, Try.ntmps58
    go_wp2
    go_ret
    exact ⟨by first | rfl | (simp; done) | (simp [*]; done), by repeat (first | exact Drawn0.refl _ | apply Drawn0.step)⟩
  · rw [if_neg c2] at H
    have c2b0 : (a0 == 3) = false := beq_eq_false_iff_ne.mpr c2
    have c2b1 : (a0 != 3) = true := bne_iff_ne.mpr c2
    by_cases c3 : a0 = 4
    · rw [if_pos c3] at H
      have c3b0 : (a0 == 4) = true := beq_iff_eq.mpr c3
      have c3b1 : (a0 != 4) = false := bne_eq_false_iff_eq.mpr c3
      clear c3
      obtain rfl := Option.some.inj H
      go_enter Try.func58, Try.ntmps58
      go_wp2
      go_ret
      exact ⟨by first | rfl | (simp; done) | (simp [*]; done), by repeat (first | exact Drawn0.refl _ | apply Drawn0.step)⟩
    · rw [if_neg c3] at H
      have c3b0 : (a0 == 4) = false := beq_eq_false_iff_ne.mpr c3
      have c3b1 : (a0 != 4) = true := bne_iff_ne.mpr c3
      by_cases c4 : a0 = 5
      · rw [if_pos c4] at H
        have c4b0 : (a0 == 5) = true := beq_iff_eq.mpr c4
        have c4b1 : (a0 != 5) = false := bne_eq_false_iff_eq.mpr c4
        clear c4
        obtain rfl := Option.some.inj H
        go_enter Try.func58, Try.ntmps58
        go_wp2
        go_ret
        exact ⟨by first | rfl | (simp; done) | (simp [*]; done), by repeat (first | exact Drawn0.refl _ | apply Drawn0.step)⟩
      · rw [if_neg c4] at H
        have c4b0 : (a0 == 5) = false := beq_eq_false_iff_ne.mpr c4
        have c4b1 : (a0 != 5) = true := bne_iff_ne.mpr c4
        obtain rfl := Option.some.inj H
        go_enter Try.func58, Try.ntmps58
        go_wp2
        go_ret
        exact ⟨by first | rfl | (simp; done) | (simp [*]; done), by repeat (first | exact Drawn0.refl _ | apply Drawn0.step)⟩















def slices_Index_int_int.l0 : Nat → List Int → Int → Int → Int → Option (Int)
  | 0, _, _, _, _ => none
  | k + 1, x0, x1, x7, x8 => if x8 < x7 then (if 0 ≤ x8 then (if x8 < (x0.length : Int) then (if x1 = (rd x0 x8) then (some x8) else (slices_Index_int_int.l0 k x0 x1 x7 (wrap64 (x8 + 1)))) else (none)) else (none)) else (some (-1))
def slices_Index_int_int.f (k : Nat) (l0 : List Int) (a1 : Int) : Option (Int) := slices_Index_int_int.l0 k l0 a1 (l0.length : Int) 0
set_option maxHeartbeats 8000000 in
set_option maxRecDepth 100000 in
theorem slices_Index_int_int.calls (k : Nat) (A0 : Option Addr) (c0 : Nat) (l0 : List Int) (a1 : Int) (r : Int) (w : World) (hr0 : Kd.C (Kd.int .i64) w A0 l0.length l0) (hc0 : l0.length ≤ c0) (h : slices_Index_int_int.f k l0 a1 = some r) :
    Calls Try.prog 45 #[.slice A0 l0.length c0, .int .i64 a1] w fun e w' => e = .returned (.int .i64 r) ∧ Drawn0 w w' := by
  have HR0 := Aside0.mk hr0
  have HC0 := Aside0.mk hc0
  clear hr0 hc0
  have H : (slices_Index_int_int.l0 k l0 a1 (l0.length : Int) 0) = some r := h
  clear h
  have H' := Aside0.mk H
  clear H
  go_enter Try.func45, Try.ntmps45
  go_wp2
  go_loopg [8] k (fun kq v8 w' => ∃ (x8_1 : Int), v8 = .int .i64 x8_1 ∧ Aside0 (slices_Index_int_int.l0 kq l0 a1 (l0.length : Int) x8_1 = some r) ∧ Aside0 (kq ≤ k) ∧ Drawn0 w w')
  case atStart => exact ⟨(0), (by first | rfl | (simp; done) | (simp [*]; done)), H', ⟨Nat.le_refl _⟩, by repeat (first | exact Drawn0.refl _ | apply Drawn0.step)⟩
  case round =>
    clear H'
    try clear p2
    obtain ⟨x8_1, rfl, HA, HK1, ⟨m1, rfl⟩⟩ := hrel
    cases gk with
    | zero => exact absurd HA.out (by simp [slices_Index_int_int.l0])
    | succ k1 =>
      have H := HA.out
      clear HA
      simp only [slices_Index_int_int.l0] at H
      by_cases c3 : x8_1 < (l0.length : Int)
      · rw [if_pos c3] at H
        have c3b0 : decide (x8_1 < (l0.length : Int)) = true := decide_eq_true c3
        clear c3
        by_cases c4 : 0 ≤ x8_1
        · rw [if_pos c4] at H
          have c4b0 : decide (0 ≤ x8_1) = true := decide_eq_true c4
          clear c4
          by_cases c5 : x8_1 < (l0.length : Int)
          · rw [if_pos c5] at H
            have c5b0 : decide (x8_1 < (l0.length : Int)) = true := decide_eq_true c5
            clear c5
            by_cases c6 : a1 = (rd l0 x8_1)
            · rw [if_pos c6] at H
              have c6b0 : (a1 == (rd l0 x8_1)) = true := beq_iff_eq.mpr c6
              have c6b1 : (a1 != (rd l0 x8_1)) = false := bne_eq_false_iff_eq.mpr c6
              clear c6
              obtain rfl := Option.some.inj H
              have p124 : 0 ≤ (x8_1 : Int) := of_decide_eq_true (by first | (with_reducible assumption) | assumption)
              have q124 : x8_1 < (l0.length : Int) := of_decide_eq_true (by first | (with_reducible assumption) | assumption)
              obtain ⟨ad124, e124, hx124_0⟩ := Kd.at_int HR0.out x8_1 p124 q124
              cases e124
              replace p124 := eq_true p124
              replace q124 := eq_true q124
              go_wp2
              go_ret
              exact ⟨by first | rfl | (simp; done) | (simp [*]; done), by repeat (first | exact Drawn0.refl _ | apply Drawn0.step)⟩
            · rw [if_neg c6] at H
              have c6b0 : (a1 == (rd l0 x8_1)) = false := beq_eq_false_iff_ne.mpr c6
              have c6b1 : (a1 != (rd l0 x8_1)) = true := bne_iff_ne.mpr c6
              have H' := Aside0.mk H
              clear H
              have p124 : 0 ≤ (x8_1 : Int) := of_decide_eq_true (by first | (with_reducible assumption) | assumption)
              have q124 : x8_1 < (l0.length : Int) := of_decide_eq_true (by first | (with_reducible assumption) | assumption)
              obtain ⟨ad124, e124, hx124_0⟩ := Kd.at_int HR0.out x8_1 p124 q124
              cases e124
              replace p124 := eq_true p124
              replace q124 := eq_true q124
              go_wp2
              go_roundg k1
              case measure => have := HK1.out; omega
              case rel => exact ⟨(wrap64 (x8_1 + 1)), (by first | rfl | (simp; done) | (simp [*]; done)), H', ⟨by have := HK1.out; omega⟩, by repeat (first | exact Drawn0.refl _ | apply Drawn0.step)⟩
          · rw [if_neg c5] at H
            exact absurd H (by simp)
        · rw [if_neg c4] at H
          exact absurd H (by simp)
      · rw [if_neg c3] at H
        have c3b0 : decide (x8_1 < (l0.length : Int)) = false := decide_eq_false c3
        clear c3
        obtain rfl := Option.some.inj H
        go_wp2
        go_ret
        exact ⟨by first | rfl | (simp; done) | (simp [*]; done), by repeat (first | exact Drawn0.refl _ | apply Drawn0.step)⟩

def slices_Contains_int_int.f (k : Nat) (l0 : List Int) (a1 : Int) : Option (Bool) := (slices_Index_int_int.f k l0 a1).bind fun t125 => (some (decide (t125 ≥ 0)))
set_option maxHeartbeats 8000000 in
set_option maxRecDepth 100000 in
theorem slices_Contains_int_int.calls (k : Nat) (A0 : Option Addr) (c0 : Nat) (l0 : List Int) (a1 : Int) (r : Bool) (w : World) (hr0 : Kd.C (Kd.int .i64) w A0 l0.length l0) (hc0 : l0.length ≤ c0) (h : slices_Contains_int_int.f k l0 a1 = some r) :
    Calls Try.prog 27 #[.slice A0 l0.length c0, .int .i64 a1] w fun e w' => e = .returned (.bool r) ∧ Drawn0 w w' := by
  have HR0 := Aside0.mk hr0
  have HC0 := Aside0.mk hc0
  clear hr0 hc0
  have H : ((slices_Index_int_int.f k l0 a1).bind fun t125 => (some (decide (t125 ≥ 0)))) = some r := h
  clear h
  replace H := Option.bind_eq_some_iff.mp H
  obtain ⟨t125, A30, H⟩ := H
  replace H : (some (decide (t125 ≥ 0))) = some r := H
  have A3 := Aside0.mk A30
  clear A30
  obtain rfl := Option.some.inj H
  go_enter Try.func27, Try.ntmps27
  go_wp2_with (first | ((with_reducible refine gate_callee (f := 45) rfl ?_); refine goesL_ (some 7) rfl rfl Try.func45 (by kernel_rfl) rfl #[.slice A0 l0.length c0, .int .i64 a1] rfl (by (try simp only [List.map_toArray, List.map_cons, List.map_nil]); first | done | rfl | (simp only [List.length_drop, List.length_take]; rfl)) ?_; (with_reducible refine (slices_Index_int_int.calls k _ _ l0 a1 t125 _ ?side1 ?side2 A3.out).mono ?_); (case side1 => repeat (first | exact HR0.out | (with_reducible refine Kd.C_alloc ?_ _) | (with_reducible refine Kd.C_drewN ?_ _) | (with_reducible refine Kd.C_drew ?_))); (case side2 => exact HC0.out); rintro e w' ⟨rfl, ⟨nd, rfl⟩⟩; refine ⟨_, rfl, ?_⟩))
  go_ret
  exact ⟨by first | rfl | (simp; done) | (simp [*]; done), by repeat (first | exact Drawn0.refl _ | apply Drawn0.step)⟩


def slices_Equal_int_int.l0 : Nat → List Int → List Int → Int → Int → Option (Bool)
  | 0, _, _, _, _ => none
  | k + 1, x0, x1, x12, x13 => if x13 < x12 then (if 0 ≤ x13 then (if x13 < (x0.length : Int) then (if x13 < (x1.length : Int) then (if (rd x0 x13) = (rd x1 x13) then (slices_Equal_int_int.l0 k x0 x1 x12 (wrap64 (x13 + 1))) else (some false)) else (none)) else (none)) else (none)) else (some true)
def slices_Equal_int_int.f (k : Nat) (l0 : List Int) (l1 : List Int) : Option (Bool) := if (l0.length : Int) = (l1.length : Int) then (slices_Equal_int_int.l0 k l0 l1 (l0.length : Int) 0) else (some false)
set_option maxHeartbeats 8000000 in
set_option maxRecDepth 100000 in
theorem slices_Equal_int_int.calls (k : Nat) (A0 : Option Addr) (c0 : Nat) (l0 : List Int) (A1 : Option Addr) (c1 : Nat) (l1 : List Int) (r : Bool) (w : World) (hr0 : Kd.C (Kd.int .i64) w A0 l0.length l0) (hc0 : l0.length ≤ c0) (hr1 : Kd.C (Kd.int .i64) w A1 l1.length l1) (hc1 : l1.length ≤ c1) (h : slices_Equal_int_int.f k l0 l1 = some r) :
    Calls Try.prog 30 #[.slice A0 l0.length c0, .slice A1 l1.length c1] w fun e w' => e = .returned (.bool r) ∧ Drawn0 w w' := by
  have HR0 := Aside0.mk hr0
  have HC0 := Aside0.mk hc0
  clear hr0 hc0
  have HR1 := Aside0.mk hr1
  have HC1 := Aside0.mk hc1
  clear hr1 hc1
  have H : (if (l0.length : Int) = (l1.length : Int) then (slices_Equal_int_int.l0 k l0 l1 (l0.length : Int) 0) else (some false)) = some r := h
  clear h
  by_cases c3 : (l0.length : Int) = (l1.length : Int)
  · rw [if_pos c3] at H
    have c3b0 : ((l0.length : Int) == (l1.length : Int)) = true := beq_iff_eq.mpr c3
    have c3b1 : ((l0.length : Int) != (l1.length : Int)) = false := bne_eq_false_iff_eq.mpr c3
    have c3b2 : (l0.length == l1.length) = true := by first | simpa using c3 | (simp at c3 ⊢; omega)
    clear c3
    have H' := Aside0.mk H
    clear H
    go_enter Try.func30, Try.ntmps30
    go_wp2
    repeat (go_quiet (fail); try go_wp2)
    go_loopg [13] k (fun kq v13 w' => ∃ (x13_1 : Int), v13 = .int .i64 x13_1 ∧ Aside0 (slices_Equal_int_int.l0 kq l0 l1 (l0.length : Int) x13_1 = some r) ∧ Aside0 (kq ≤ k) ∧ Drawn0 w w')
    case atStart => exact ⟨(0), (by first | rfl | (simp; done) | (simp [*]; done)), H', ⟨Nat.le_refl _⟩, by repeat (first | exact Drawn0.refl _ | apply Drawn0.step)⟩
    case round =>
      clear H'
      try clear c1
      try clear p2
      try clear c3
      try clear c3b0
      try clear c3b1
      try clear c3b2
      obtain ⟨x13_1, rfl, HA, HK1, ⟨m1, rfl⟩⟩ := hrel
      cases gk with
      | zero => exact absurd HA.out (by simp [slices_Equal_int_int.l0])
      | succ k1 =>
        have H := HA.out
        clear HA
        simp only [slices_Equal_int_int.l0] at H
        by_cases c4 : x13_1 < (l0.length : Int)
        · rw [if_pos c4] at H
          have c4b0 : decide (x13_1 < (l0.length : Int)) = true := decide_eq_true c4
          clear c4
          by_cases c5 : 0 ≤ x13_1
          · rw [if_pos c5] at H
            have c5b0 : decide (0 ≤ x13_1) = true := decide_eq_true c5
            clear c5
            by_cases c6 : x13_1 < (l0.length : Int)
            · rw [if_pos c6] at H
              have c6b0 : decide (x13_1 < (l0.length : Int)) = true := decide_eq_true c6
              clear c6
              by_cases c7 : x13_1 < (l1.length : Int)
              · rw [if_pos c7] at H
                have c7b0 : decide (x13_1 < (l1.length : Int)) = true := decide_eq_true c7
                clear c7
                by_cases c8 : (rd l0 x13_1) = (rd l1 x13_1)
                · rw [if_pos c8] at H
                  have c8b0 : ((rd l0 x13_1) == (rd l1 x13_1)) = true := beq_iff_eq.mpr c8
                  have c8b1 : ((rd l0 x13_1) != (rd l1 x13_1)) = false := bne_eq_false_iff_eq.mpr c8
                  clear c8
                  have H' := Aside0.mk H
                  clear H
                  have p141 : 0 ≤ (x13_1 : Int) := of_decide_eq_true (by first | (with_reducible assumption) | assumption)
                  have q141 : x13_1 < (l0.length : Int) := of_decide_eq_true (by first | (with_reducible assumption) | assumption)
                  obtain ⟨ad141, e141, hx141_0⟩ := Kd.at_int HR0.out x13_1 p141 q141
                  cases e141
                  replace p141 := eq_true p141
                  replace q141 := eq_true q141
                  have p142 : 0 ≤ (x13_1 : Int) := of_decide_eq_true (by first | (with_reducible assumption) | assumption)
                  have q142 : x13_1 < (l1.length : Int) := of_decide_eq_true (by first | (with_reducible assumption) | assumption)
                  obtain ⟨ad142, e142, hx142_0⟩ := Kd.at_int HR1.out x13_1 p142 q142
                  cases e142
                  replace p142 := eq_true p142
                  replace q142 := eq_true q142
                  go_wp2
                  repeat (go_quiet (fail); try go_wp2)
                  go_roundg k1
                  case measure => have := HK1.out; omega
                  case rel => exact ⟨(wrap64 (x13_1 + 1)), (by first | rfl | (simp; done) | (simp [*]; done)), H', ⟨by have := HK1.out; omega⟩, by repeat (first | exact Drawn0.refl _ | apply Drawn0.step)⟩
                · rw [if_neg c8] at H
                  have c8b0 : ((rd l0 x13_1) == (rd l1 x13_1)) = false := beq_eq_false_iff_ne.mpr c8
                  have c8b1 : ((rd l0 x13_1) != (rd l1 x13_1)) = true := bne_iff_ne.mpr c8
                  obtain rfl := Option.some.inj H
                  have p141 : 0 ≤ (x13_1 : Int) := of_decide_eq_true (by first | (with_reducible assumption) | assumption)
                  have q141 : x13_1 < (l0.length : Int) := of_decide_eq_true (by first | (with_reducible assumption) | assumption)
                  obtain ⟨ad141, e141, hx141_0⟩ := Kd.at_int HR0.out x13_1 p141 q141
                  cases e141
                  replace p141 := eq_true p141
                  replace q141 := eq_true q141
                  have p142 : 0 ≤ (x13_1 : Int) := of_decide_eq_true (by first | (with_reducible assumption) | assumption)
                  have q142 : x13_1 < (l1.length : Int) := of_decide_eq_true (by first | (with_reducible assumption) | assumption)
                  obtain ⟨ad142, e142, hx142_0⟩ := Kd.at_int HR1.out x13_1 p142 q142
                  cases e142
                  replace p142 := eq_true p142
                  replace q142 := eq_true q142
                  go_wp2
                  repeat (go_quiet (fail); try go_wp2)
                  go_ret
                  exact ⟨by first | rfl | (simp; done) | (simp [*]; done), by repeat (first | exact Drawn0.refl _ | apply Drawn0.step)⟩
              · rw [if_neg c7] at H
                exact absurd H (by simp)
            · rw [if_neg c6] at H
              exact absurd H (by simp)
          · rw [if_neg c5] at H
            exact absurd H (by simp)
        · rw [if_neg c4] at H
          have c4b0 : decide (x13_1 < (l0.length : Int)) = false := decide_eq_false c4
          clear c4
          obtain rfl := Option.some.inj H
          go_wp2
          repeat (go_quiet (fail); try go_wp2)
          go_ret
          exact ⟨by first | rfl | (simp; done) | (simp [*]; done), by repeat (first | exact Drawn0.refl _ | apply Drawn0.step)⟩
  · rw [if_neg c3] at H
    have c3b0 : ((l0.length : Int) == (l1.length : Int)) = false := beq_eq_false_iff_ne.mpr c3
    have c3b1 : ((l0.length : Int) != (l1.length : Int)) = true := bne_iff_ne.mpr c3
    have c3b2 : (l0.length == l1.length) = false := by first | simpa using c3 | (simp at c3 ⊢; omega)
    obtain rfl := Option.some.inj H
    go_enter Try.func30, Try.ntmps30
    go_wp2
    repeat (go_quiet (fail); try go_wp2)
    go_ret
    exact ⟨by first | rfl | (simp; done) | (simp [*]; done), by repeat (first | exact Drawn0.refl _ | apply Drawn0.step)⟩




end Go.Proofs.Ytkjagcamikkjkaa.P

end

section
namespace Go.Proofs.Ytkjagcamikkjkaa.P
open Go.RowKit Go.Proofs.YtkjagcamikkjkaaW.PrintWords Go.Proofs.YtkjagcamikkjkaaW.PrintLast Go.Proofs.YtkjagcamikkjkaaW.PrintMore
attribute [local go_sem] max2_int min2_int max_two min_two max_three min_three max_four min_four
set_option linter.unusedVariables false
set_option linter.unusedSimpArgs false
section
variable {P : Program} {ops : Array Oper} {rest : List Oper} {o : Oper} {a : Act} {Q : Exit → Act → World → Prop} {K : Act → World → Prop}
structure Rws (w0 : World) (l : List (Nat × TypeId × Array Value)) (W : World) : Prop where
  lies : ∀ p ∈ l, W.heap[p.1]? = some (.cells p.2.2 p.2.1 (0, 0)) ∧ w0.heap.size ≤ p.1
  ne : (l.map Prod.fst).Nodup
  below : Below w0.heap.size w0 W
theorem Rws.nil (w : World) : Rws w [] w := ⟨fun _ h => by simp at h, by simp, Below.refl _ _⟩
theorem Rws.step {w0 W W1 : World} {l : List (Nat × TypeId × Array Value)} (h : Rws w0 l W) (hb : Below W.heap.size W W1) : Rws w0 l W1 := ⟨fun p hp => ⟨blk_below (h.lies p hp).1 hb, (h.lies p hp).2⟩, h.ne, below_step h.below hb⟩
theorem Rws.drewN {w0 W : World} {l : List (Nat × TypeId × Array Value)} (h : Rws w0 l W) (m : Nat) : Rws w0 l (W.drewN m) := h.step (pw_below_drewN (Below.refl _ _) m)
theorem Rws.mem {w0 W : World} {l : List (Nat × TypeId × Array Value)} (h : Rws w0 l W) {g : Nat} {t : TypeId} {cs : Array Value} (hm : (g, t, cs) ∈ l) : W.heap[g]? = some (.cells cs t (0, 0)) := (h.lies _ hm).1
theorem Rws.add {w0 W : World} {l : List (Nat × TypeId × Array Value)} (h : Rws w0 l W) (t : TypeId) (cs : Array Value) : Rws w0 ((W.heap.size, t, cs) :: l) (W.alloc (.cells cs t (0, 0))) := by
  have hb : Below W.heap.size W (W.alloc (.cells cs t (0, 0))) := below_alloc (Below.refl _ _) _
  refine ⟨fun p hp => ?_, ?_, below_step h.below hb⟩
  · rcases List.mem_cons.1 hp with rfl | hp
    · exact ⟨blk_new W _, h.below.size⟩
    · exact ⟨blk_below (h.lies p hp).1 hb, (h.lies p hp).2⟩
  · rw [List.map_cons, List.nodup_cons]
    refine ⟨fun hm => ?_, h.ne⟩
    obtain ⟨p, hp, e⟩ := List.mem_map.1 hm
    have := blk_lt (h.lies p hp).1
    have e : p.1 = W.heap.size := e
    omega
theorem Rws.put {w0 W W1 : World} (l1 : List (Nat × TypeId × Array Value)) {l2 : List (Nat × TypeId × Array Value)} {g : Nat} {t : TypeId} {cs cs' : Array Value} (h : Rws w0 (l1 ++ (g, t, cs) :: l2) W) (hx : W1.heap[g]? = some (.cells cs' t (0, 0))) (hk : Kept W W1 (fun k => k = g)) (hb : ∀ (B : Nat) (w0 : World), B ≤ g → Below B w0 W → Below B w0 W1) : Rws w0 (l1 ++ (g, t, cs') :: l2) W1 := by
  have hn : ((l1 ++ (g, t, cs) :: l2).map Prod.fst) = ((l1 ++ (g, t, cs') :: l2).map Prod.fst) := by simp
  have hne := h.ne
  have hge := (h.lies (g, t, cs) (by simp)).2
  refine ⟨fun p hp => ?_, hn ▸ hne, hb _ _ hge h.below⟩
  have hnd : ∀ q ∈ l1 ++ l2, q.1 ≠ g := by
    rw [List.map_append, List.map_cons, List.nodup_append] at hne
    intro q hq e
    rcases List.mem_append.1 hq with hq | hq
    · exact hne.2.2 q.1 (List.mem_map.2 ⟨q, hq, rfl⟩) g (by simp) e
    · have := (List.nodup_cons.1 hne.2.1).1
      exact this (List.mem_map.2 ⟨q, hq, e⟩)
  rcases List.mem_append.1 hp with hp | hp
  · have hq := h.lies p (List.mem_append.2 (.inl hp))
    exact ⟨blk_kept hq.1 hk (fun e => hnd p (List.mem_append.2 (.inl hp)) e), hq.2⟩
  · rcases List.mem_cons.1 hp with rfl | hp
    · exact ⟨hx, hge⟩
    · have hq := h.lies p (List.mem_append.2 (.inr (List.mem_cons_of_mem _ hp)))
      exact ⟨blk_kept hq.1 hk (fun e => hnd p (List.mem_append.2 (.inr hp)) e), hq.2⟩
theorem rw_box (hgd : o.guard = none) (ty : TypeId) {x : Operand} (ho : o.op = .box ty x) {cs : Array Value} (hx : a.eval x = .agg cs) {w0 W : World} {l : List (Nat × TypeId × Array Value)} (hl : Rws w0 l W)
    (h : ∀ g w1, Rws w0 ((g, ty, cs) :: l) w1 → wpList P ops Q rest (a.put o.dst (.pointer (some ⟨g, 0, none⟩))) w1) : wpList P ops Q (o :: rest) a W :=
  Kd.event_run hgd (by
    unfold execOp
    simp only [ho, hx]
    simp [Instr.box, newVar, newRow, Value.cells, Sem.run_bind]) (h W.heap.size _ (hl.add ty cs))
theorem rw_alloc_wp (ty : TypeId) (ho : o.op = .alloc ty) {cs : Array Value} (hz : (P.info? ty).map (·.zero) = some (some (.agg cs))) {w0 W : World} {l : List (Nat × TypeId × Array Value)} (hl : Rws w0 l W)
    (h : ∀ g w1, g = W.heap.size → Rws w0 ((g, ty, cs) :: l) w1 → Below W.heap.size W w1 → K (a.put o.dst (.pointer (some ⟨g, 0, none⟩))) w1) : Oper.wp P o a W K Q := by
  have hrun : (execOp a.eval o).run P W = .ok (.value (.pointer (some ⟨W.heap.size, 0, none⟩))) (W.alloc (.cells cs ty (0, 0))) := by
    unfold execOp
    cases hq : P.info? ty with
    | none => simp [hq] at hz
    | some i =>
      have hs : i.zero = some (.agg cs) := by simpa [hq] using hz
      simp only [ho]
      simp [Instr.alloc, zeroValue, typeInfo, hq, hs, newVar, newRow, Value.cells, Sem.run_bind]
  have hw := h W.heap.size _ rfl (hl.add ty cs) (below_alloc (Below.refl _ _) _)
  unfold Oper.wp
  rw [hrun]
  exact hw
theorem take_dst {S : World → Prop} {md : Region.Mode} {i : Nat} (N : Tmp) {oi : Oper} {v : Value} {fuel : Nat} {listed : Array Bool} {a : Act} {w : World} (hi : ops[i]? = some oi) (hN : oi.dst = some N)
    (hs : Region.noSelect ops = true) (hf : Region.free md ops listed i = true) (hr : (Region.ready md ops listed).contains i = true)
    (hQ : ∀ c a w, Q (.panic c) (a.put (some N) v) w → Q (.panic c) a w) (hy : YieldsIf P ops S oi v a) (hS : S w)
    (h : wpAnyH P md ops Q S fuel (listed.setIfInBounds i true) (a.put (some N) v) w) : wpAnyH P md ops Q S (fuel + 1) listed a w :=
  wpAnyH_take hi hs hf hr (by rw [hN]; exact hQ) hy hS (by rw [hN]; exact h)
end
section
variable {P : Program} {ops : Array Oper} {rest : List Oper} {o : Oper} {a : Act} {Q : Exit → Act → World → Prop} {K : Act → World → Prop}
theorem one_cells {u : Value} (h : u.oneCell' = true) : u.cells = #[u] := by cases u <;> first | rfl | cases h
theorem Rws.set {w0 W : World} (l1 : List (Nat × TypeId × Array Value)) {l2 : List (Nat × TypeId × Array Value)} {g : Nat} {t : TypeId} {cs : Array Value} (h : Rws w0 (l1 ++ (g, t, cs) :: l2) W) (i : Nat) (u : Value) : Rws w0 (l1 ++ (g, t, cs.setIfInBounds i u) :: l2) (W.setCell ⟨g, i, none⟩ u) :=
  h.put l1 (blk_set (h.mem (g := g) (t := t) (cs := cs) (by simp)) i u) ⟨by simp [World.setCell], fun k _ hn => Below.heap_setCell W ⟨g, i, none⟩ u k hn⟩ (fun B w0 hB hb => hb.setCell hB u)
theorem set_kept (W : World) (g i : Nat) (u : Value) : Kept W (W.setCell ⟨g, i, none⟩ u) (fun k => k = g) := ⟨by simp [World.setCell], fun k _ hn => Below.heap_setCell W ⟨g, i, none⟩ u k hn⟩
theorem run_store_one_cell (ty : TypeId) {W : World} {g i : Nat} {t : TypeId} {cs : Array Value} {u : Value} (hg : W.heap[g]? = some (.cells cs t (0, 0))) (hi : i < cs.size) (hu : u.oneCell' = true) (hsz : (P.info? ty).map (·.size) = some 1) : (storeVar ty ⟨g, i, none⟩ u).run P W = .ok () (W.setCell ⟨g, i, none⟩ u) := by
  have h1 := run_store P W ⟨g, i, none⟩ u .plain hu
  rw [blk_cell hg i, blk_frozen hg i, Array.getElem?_eq_getElem hi] at h1
  cases hq : P.info? ty with
  | none => simp [hq] at hsz
  | some j =>
    have hs : j.size = 1 := by simpa [hq] using hsz
    have := run_storeCells_cells (P := P) g i [u] 0 W (fun j hj => by simp at hj; subst hj; simp only [Nat.add_zero]; rw [blk_cell hg i, Array.getElem?_eq_getElem hi]; rfl) (fun j hj => by simp at hj; subst hj; simp only [Nat.add_zero]; rw [blk_frozen hg i]) (fun v hv => by simp at hv; subst hv; exact hu)
    simp only [Nat.add_zero] at this
    simp [storeVar, sizeOf, typeInfo, hq, one_cells hu, hs, this, World.setCells]
theorem rw_cell_wp (ty : TypeId) {x y : Operand} (ho : o.op = .store ty x y) {g i : Nat} (hx : a.eval x = .pointer (some ⟨g, i, none⟩)) {u : Value} (hy : a.eval y = u) (hu : u.oneCell' = true) {w0 W : World} (l1 : List (Nat × TypeId × Array Value)) {l2 : List (Nat × TypeId × Array Value)} {t : TypeId} {cs : Array Value} (hl : Rws w0 (l1 ++ (g, t, cs) :: l2) W) (hi : i < cs.size) (hsz : (P.info? ty).map (·.size) = some 1)
    (h : ∀ w1, Rws w0 (l1 ++ (g, t, cs.setIfInBounds i u) :: l2) w1 → Kept W w1 (fun k => k = g) → K (a.put o.dst undef) w1) : Oper.wp P o a W K Q := by
  have hrun := run_store_one_cell (P := P) ty (hl.mem (g := g) (t := t) (cs := cs) (by simp)) hi hu hsz
  unfold Oper.wp execOp
  simp only [ho, hx, hy, Instr.storeAt, Instr.sureAddr, Sem.run_bind, Sem.run_pure, Result.andThen_ok, hrun]
  exact h _ (hl.set l1 i u) (set_kept W g i u)
theorem rw_cell (hgd : o.guard = none) (ty : TypeId) {x y : Operand} (ho : o.op = .store ty x y) {g i : Nat} (hx : a.eval x = .pointer (some ⟨g, i, none⟩)) {u : Value} (hy : a.eval y = u) (hu : u.oneCell' = true) {w0 W : World} (l1 : List (Nat × TypeId × Array Value)) {l2 : List (Nat × TypeId × Array Value)} {t : TypeId} {cs : Array Value} (hl : Rws w0 (l1 ++ (g, t, cs) :: l2) W) (hi : i < cs.size) (hsz : (P.info? ty).map (·.size) = some 1)
    (h : ∀ w1, Rws w0 (l1 ++ (g, t, cs.setIfInBounds i u) :: l2) w1 → Kept W w1 (fun k => k = g) → wpList P ops Q rest (a.put o.dst undef) w1) : wpList P ops Q (o :: rest) a W :=
  wpList_plain hgd fun _ hK => rw_cell_wp ty ho hx hy hu l1 hl hi hsz (fun w1 hX hk => hK _ _ (h w1 hX hk))
theorem rw_alloc1 (hgd : o.guard = none) (ty : TypeId) (ho : o.op = .alloc ty) {z : Value} (hz : (P.info? ty).map (·.zero) = some (some z)) (h1 : z.oneCell' = true) {w0 W : World} {l : List (Nat × TypeId × Array Value)} (hl : Rws w0 l W)
    (h : ∀ g w1, g = W.heap.size → Rws w0 ((g, ty, #[z]) :: l) w1 → Below W.heap.size W w1 → wpList P ops Q rest (a.put o.dst (.pointer (some ⟨g, 0, none⟩))) w1) : wpList P ops Q (o :: rest) a W :=
  Kd.event_run hgd (by
    unfold execOp
    cases hq : P.info? ty with
    | none => simp [hq] at hz
    | some i =>
      have hs : i.zero = some z := by simpa [hq] using hz
      simp only [ho]
      simp [Instr.alloc, zeroValue, typeInfo, hq, hs, newVar, newRow, one_cells h1, Sem.run_bind]) (h W.heap.size _ rfl (hl.add ty #[z]) (below_alloc (Below.refl _ _) _))
end
theorem mkeyed : Go.Maps.Keyed Try.prog 3 := Go.Maps.int_keyed Try.underlying3
def I64 (x : Int) : Prop := -9223372036854775808 ≤ x ∧ x ≤ 9223372036854775807
theorem I64.wf {x : Int} (h : I64 x) : (Lit.int .i64 x).wf = true := WalkArith.wf_i64 h
def ptrR : Value → Option (DataW Unit × List MemPlace)
  | .pointer none => some (.lit (.bool false), [])
  | .pointer (some ⟨b, 0, none⟩) => some (.lit (.int .i64 (b : Int)), [])
  | _ => none
theorem ptrR_inv {v : Value} {b : Nat} {ps : List MemPlace} (h : ptrR v = some (.lit (.int .i64 (b : Int)), ps)) : v = .pointer (some ⟨b, 0, none⟩) := by
  unfold ptrR at h
  split at h
  · simp at h
  · rename_i b2
    simp at h
    have h9 : b2 = b := by have := h.1; omega
    rw [h9]
  · cases h
theorem ptrR_inv0 {v : Value} {ps : List MemPlace} (h : ptrR v = some (.lit (.bool false), ps)) : v = .pointer none := by
  unfold ptrR at h
  split at h
  · rfl
  · simp at h
  · cases h
theorem pzero (w : World) : (zeroValue 83).run Try.prog w = .ok (.pointer none) w := by kernel_rfl
def PMap (W : World) (B n : Nat) (g : Int → Option Nat) : Prop := ∃ D : DataW Unit, W.ownsMap Try.prog 3 ptrR B n D ∧ (∀ x, Maps.has D (.int .i64 x) = (g x).isSome) ∧ (∀ x b, g x = some b → ∀ z, D.atKey (.int .i64 x) z = .lit (.int .i64 (b : Int)))
theorem PMap.made (w : World) : PMap (w.alloc (.map #[] 0)) w.heap.size 0 (fun _ => none) := ⟨.map [], World.ownsMap_made _ _ _ _, fun _ => rfl, fun _ _ h => by cases h⟩
theorem PMap.block {W W1 : World} {B n : Nat} {g : Int → Option Nat} (h : PMap W B n g) (hb : W1.heap[B]? = W.heap[B]?) : PMap W1 B n g := by
  obtain ⟨D, ⟨es, clock, h1, h2⟩, h3⟩ := h
  exact ⟨D, ⟨es, clock, hb.trans h1, h2⟩, h3⟩
theorem PMap.lt {W : World} {B n : Nat} {g : Int → Option Nat} (h : PMap W B n g) : B < W.heap.size := by
  obtain ⟨D, h1, _⟩ := h
  exact h1.lt
theorem PMap.is {W : World} {B n : Nat} {g : Int → Option Nat} (h : PMap W B n g) : ∃ es clock, W.heap[B]? = some (.map es clock) := by
  obtain ⟨D, ⟨es, clock, h1, _⟩, _⟩ := h
  exact ⟨es, clock, h1⟩
theorem PMap.ne {W : World} {B n : Nat} {g : Int → Option Nat} (h : PMap W B n g) {b : Nat} {cs : Array Value} {t : TypeId} {fr : Nat × Nat} (hb : W.heap[b]? = some (.cells cs t fr)) : B ≠ b := fun e => by
  obtain ⟨es, clock, h1⟩ := h.is
  rw [e, hb] at h1
  cases h1
theorem PMap.mono {W : World} {B n n' : Nat} {g : Int → Option Nat} (h : PMap W B n g) (hn : n ≤ n') : PMap W B n' g := by
  obtain ⟨D, h1, h2⟩ := h
  exact ⟨D, h1.mono hn, h2⟩
def updP (g : Int → Option Nat) (x : Int) (v : Nat) : Int → Option Nat := fun y => if y = x then some v else g y
def delP (g : Int → Option Nat) (x : Int) : Int → Option Nat := fun y => if y = x then none else g y
theorem PMap.put_has {D : DataW Unit} {g : Int → Option Nat} {x : Int} {v : Nat} (hm : Maps.IsMap D) (h1 : ∀ x, Maps.has D (.int .i64 x) = (g x).isSome) (h2 : ∀ x b, g x = some b → ∀ z, D.atKey (.int .i64 x) z = .lit (.int .i64 (b : Int))) :
    (∀ y, Maps.has (D.put (.int .i64 x) (.lit (.int .i64 (v : Int)))) (.int .i64 y) = (updP g x v y).isSome) ∧ (∀ y b, updP g x v y = some b → ∀ z, (D.put (.int .i64 x) (.lit (.int .i64 (v : Int)))).atKey (.int .i64 y) z = .lit (.int .i64 (b : Int))) := by
  have hk : WideAt.IsKeyLit (.int .i64 x) := trivial
  refine ⟨fun y => ?_, fun y c hy z => ?_⟩
  · unfold updP
    by_cases e : y = x
    · rw [if_pos e, e, Maps.has_put_same hm hk]; rfl
    · rw [if_neg e, Maps.has_put_other (fun e' => e (by cases e'; rfl)), h1]
  · unfold updP at hy
    by_cases e : y = x
    · rw [if_pos e] at hy
      cases hy
      rw [e, Maps.atKey_put_same hm hk]
    · rw [if_neg e] at hy
      rw [Maps.atKey_put_other (fun e' => e (by cases e'; rfl)), h2 y c hy]
section
variable {ops : Array Oper} {rest : List Oper} {o : Oper} {a : Act} {Q : Exit → Act → World → Prop} {K : Act → World → Prop}
theorem pm_make (hgd : o.guard = none) (ho : o.op = .makeMap 48 none) {W : World} (h : PMap (W.alloc (.map #[] 0)) W.heap.size 0 (fun _ => none) → wpList Try.prog ops Q rest (a.put o.dst (.map (some W.heap.size))) (W.alloc (.map #[] 0))) : wpList Try.prog ops Q (o :: rest) a W :=
  Kd.event_run hgd (by
    unfold execOp
    simp only [ho]
    simp [run_makeMap, Sem.run_bind]) (h (PMap.made W))
theorem pm_store_wp {m x v : Operand} (ho : o.op = .mapUpdate 48 m x v) {W : World} {B n : Nat} {g : Int → Option Nat} (hm : a.eval m = .map (some B)) (hown : PMap W B n g) (hn : n < maxLen) {k : Int} {b : Nat} (hx : a.eval x = .int .i64 k) (hv : a.eval v = .pointer (some ⟨b, 0, none⟩)) (hk : I64 k)
    (h : ∀ w1, PMap w1 B (n + 1) (updP g k b) → W.grownBy w1 (some B) → K (a.put o.dst undef) w1) : Oper.wp Try.prog o a W K Q := by
  obtain ⟨D, h1, h2, h3⟩ := hown
  obtain ⟨w', hrun, r1, r2⟩ := h1.update mkeyed Try.underlying48 hn (Go.Maps.keyOf_int_mk Try.underlying3 hk.wf) (show ptrR (.pointer (some ⟨b, 0, none⟩)) = some (.lit (.int .i64 (b : Int)), []) from rfl)
  have hp := PMap.put_has (v := b) (x := k) (h1.tidy mkeyed).isMap h2 h3
  unfold Oper.wp
  simp [execOp, ho, hm, hx, hv, hrun, Result.andThen]
  exact h _ ⟨_, r1, hp.1, hp.2⟩ r2
theorem pm_look (hgd : o.guard = none) {m x : Operand} (ho : o.op = .lookup 48 m x false) {W : World} {B n : Nat} {g : Int → Option Nat} (hm : a.eval m = .map (some B)) (hown : PMap W B n g) {k : Int} (hx : a.eval x = .int .i64 k) (hk : I64 k)
    (h : wpList Try.prog ops Q rest (a.put o.dst (.pointer ((g k).map fun b => ⟨b, 0, none⟩))) W) : wpList Try.prog ops Q (o :: rest) a W :=
  wpList_plain hgd fun _ hK => by
    obtain ⟨D, h1, h2, h3⟩ := hown
    obtain ⟨v, ps, hrun, hv⟩ := h1.lookup mkeyed Try.underlying48 (pzero W) (show ptrR (.pointer none) = some (.lit (.bool false), []) from rfl) (Go.Maps.keyOf_int_mk Try.underlying3 hk.wf)
    have e : v = .pointer ((g k).map fun b => ⟨b, 0, none⟩) := by
      cases hg : g k with
      | none =>
        have h9 := h2 k
        rw [hg] at h9
        rw [Maps.atKey_of_not_has (by simpa using h9)] at hv
        exact ptrR_inv0 hv
      | some b =>
        rw [h3 k b hg] at hv
        exact ptrR_inv hv
    unfold Oper.wp
    simp [execOp, ho, hm, hx, hrun, Result.andThen]
    rw [e]
    exact hK _ _ h
end
def fieldsL (l : List S32) (c : Int) : List S29 := (climbL l c).reverse.flatMap fun c => (rd_T32 l c).f2
def ObjOK (l : List S32) (last : Nat) (x : Int) (o : Int × List Int) : Prop := 1 ≤ x ∧ x ≤ (last : Int) ∧ o.2.length ≤ 4096 ∧ (0 ≤ o.1 → o.1 < (l.length : Int) ∧ o.2.length = (fieldsL l o.1).length) ∧ ∀ y ∈ o.2, -2147483648 ≤ y ∧ y ≤ 2147483647
structure HS where
  hb : Nat
  B : Nat
  vc : Value
  l : List S32
  room : Int
  used : Int
  last : Nat
  m : Int → Option (Int × List Int)
  fr : Nat → Prop
  w9 : World
def HS.cell (s : HS) : Array Value := #[s.vc, .int .i64 s.room, .int .i64 s.used, .int .i64 (s.last : Int), .map (some s.B)]
structure HeapIn (w0 : World) (s : HS) (ob rb : Int → Nat) (W : World) : Prop where
  hd : W.heap[s.hb]? = some (.cells s.cell 50 (0, 0))
  mp : PMap W s.B s.last (fun x => (s.m x).map fun _ => ob x)
  obj : ∀ x o, s.m x = some o → W.heap[ob x]? = some (.cells #[.int .i64 o.1, .slice (some ⟨rb x, 0, none⟩) o.2.length o.2.length] 82 (0, 0)) ∧ W.heap[rb x]? = some (.cells (o.2.map (Value.int .i64)).toArray 3 (0, 0))
  inj : ∀ x y o p, s.m x = some o → s.m y = some p → x ≠ y → ob x ≠ ob y ∧ rb x ≠ rb y
  base : w0.heap.size ≤ s.hb ∧ w0.heap.size ≤ s.B ∧ ∀ x o, s.m x = some o → w0.heap.size ≤ ob x ∧ w0.heap.size ≤ rb x
  cls : Kd.R k32 32 W w0.heap.size (fun k => ¬ s.fr k) s.vc s.l
  dom : ∀ x o, s.m x = some o → ObjOK s.l s.last x o
  num : 0 ≤ s.used ∧ s.used ≤ s.room ∧ s.room ≤ 4096
  below : Below w0.heap.size w0 W
  keep : s.w9.heap.size ≤ W.heap.size ∧ ∀ k, s.fr k → k < s.w9.heap.size ∧ W.heap[k]? = s.w9.heap[k]?
  sep : ∀ k, s.fr k → k ≠ s.hb ∧ k ≠ s.B ∧ ∀ x o, s.m x = some o → k ≠ ob x ∧ k ≠ rb x
def HeapAt (w0 : World) (s : HS) (W : World) : Prop := ∃ ob rb, HeapIn w0 s ob rb W
theorem HeapIn.step {w0 : World} {s : HS} {ob rb : Int → Nat} {W W1 : World} (h : HeapIn w0 s ob rb W) (hb : Below W.heap.size W W1) : HeapIn w0 s ob rb W1 :=
  ⟨blk_below h.hd hb, h.mp.block (hb.block _ h.mp.lt), fun x o hx => ⟨blk_below (h.obj x o hx).1 hb, blk_below (h.obj x o hx).2 hb⟩, h.inj, h.base, Kd.R_below h.cls hb, h.dom, h.num, below_step h.below hb, ⟨Nat.le_trans h.keep.1 hb.size, fun k hk => ⟨(h.keep.2 k hk).1, (hb.block k (Nat.lt_of_lt_of_le (h.keep.2 k hk).1 h.keep.1)).trans (h.keep.2 k hk).2⟩⟩, h.sep⟩
theorem HeapAt.step {w0 : World} {s : HS} {W W1 : World} (h : HeapAt w0 s W) (hb : Below W.heap.size W W1) : HeapAt w0 s W1 := by
  obtain ⟨ob, rb, h⟩ := h
  exact ⟨ob, rb, h.step hb⟩
theorem HeapAt.below {w0 : World} {s : HS} {W : World} (h : HeapAt w0 s W) : Below w0.heap.size w0 W := by
  obtain ⟨ob, rb, h⟩ := h
  exact h.below
theorem HeapAt.num {w0 : World} {s : HS} {W : World} (h : HeapAt w0 s W) : 0 ≤ s.used ∧ s.used ≤ s.room ∧ s.room ≤ 4096 := by
  obtain ⟨ob, rb, h⟩ := h
  exact h.num
theorem HeapAt.head {w0 : World} {s : HS} {W : World} (h : HeapAt w0 s W) : W.heap[s.hb]? = some (.cells s.cell 50 (0, 0)) := by
  obtain ⟨ob, rb, h⟩ := h
  exact h.hd
theorem HeapAt.cells {w0 : World} {s : HS} {W : World} (h : HeapAt w0 s W) : W.cell? ⟨s.hb, 0, none⟩ = some s.vc ∧ W.cell? ⟨s.hb, 1, none⟩ = some (.int .i64 s.room) ∧ W.cell? ⟨s.hb, 2, none⟩ = some (.int .i64 s.used) ∧ W.cell? ⟨s.hb, 3, none⟩ = some (.int .i64 (s.last : Int)) ∧ W.cell? ⟨s.hb, 4, none⟩ = some (.map (some s.B)) :=
  ⟨blk_cell h.head 0, blk_cell h.head 1, blk_cell h.head 2, blk_cell h.head 3, blk_cell h.head 4⟩
theorem map_some_neq (B : Nat) (w : World) : (binOp .neq 48 (.map (some B)) (.map none)).run Try.prog w = .ok (.bool true) w := by kernel_rfl
set_option maxHeartbeats 1600000 in
set_option maxRecDepth 100000 in
theorem hp_made (w0 : World) (s : HS) (W : World) (h : HeapAt w0 s W) : Calls Try.prog 34 #[.pointer (some ⟨s.hb, 0, none⟩)] W fun e w' => e = .returned (.bool true) ∧ Below W.heap.size W w' := by
  have H := Aside0.mk h
  have hmn := map_some_neq
  obtain ⟨f0, f1, f2, f3, f4⟩ := h.cells
  clear h
  go_enter Try.func34, Try.ntmps34
  go_wp2
  go_ret
  exact ⟨rfl, Below.refl _ _⟩
set_option maxHeartbeats 1600000 in
set_option maxRecDepth 100000 in
theorem hp_Used (w0 : World) (s : HS) (W : World) (h : HeapAt w0 s W) : Calls Try.prog 17 #[.pointer (some ⟨s.hb, 0, none⟩)] W fun e w' => e = .returned (.int .i64 s.used) ∧ Below W.heap.size W w' := by
  have H := Aside0.mk h
  clear h
  go_enter Try.func17, Try.ntmps17
  go_wp2_with fail
  refine (hp_made w0 s _ H.out).mono ?_
  rintro e w1 ⟨rfl, hb⟩
  have HB := Aside0.mk hb
  replace H := Aside0.mk (H.out.step hb)
  clear hb
  obtain ⟨f0, f1, f2, f3, f4⟩ := H.out.cells
  go_wp2
  go_ret
  exact ⟨rfl, HB.out⟩
def findV (s : HS) (ob : Int → Nat) (x : Int) : Value := if x = 0 then .tuple #[.pointer none, .iface 24 (.int .i64 140)] else match s.m x with
  | none => .tuple #[.pointer none, .iface 24 (.int .i64 141)]
  | some _ => .tuple #[.pointer (some ⟨ob x, 0, none⟩), .nilIface]
set_option maxHeartbeats 1600000 in
set_option maxRecDepth 100000 in
theorem hp_find (w0 : World) (s : HS) (ob rb : Int → Nat) (x : Int) (hk : I64 x) (W : World) (h : HeapIn w0 s ob rb W) : Calls Try.prog 41 #[.pointer (some ⟨s.hb, 0, none⟩), .int .i64 x] W fun e w' => e = .returned (findV s ob x) ∧ Below W.heap.size W w' := by
  have H := Aside0.mk h
  clear h
  have HK := Aside0.mk hk
  clear hk
  unfold findV
  by_cases c0 : x = 0
  · have c0b : (x == 0) = true := by rw [c0]; rfl
    rw [if_pos c0]
    clear c0
    go_enter Try.func41, Try.ntmps41
    go_wp2_with fail
    refine ((hp_made w0 s _ ⟨ob, rb, H.out⟩)).mono ?_
    rintro e w1 ⟨rfl, hb⟩
    have HB := Aside0.mk hb
    replace H := Aside0.mk (H.out.step hb)
    clear hb
    obtain ⟨f0, f1, f2, f3, f4⟩ := (show HeapAt w0 s w1 from ⟨ob, rb, H.out⟩).cells
    go_wp2
    go_ret2
    exact ⟨rfl, HB.out⟩
  · have c0b : (x == 0) = false := by rw [beq_eq_false_iff_ne]; exact c0
    rw [if_neg c0]
    clear c0
    cases hm : s.m x with
    | none =>
      have HM := Aside0.mk hm
      clear hm
      go_enter Try.func41, Try.ntmps41
      go_wp2_with fail
      refine ((hp_made w0 s _ ⟨ob, rb, H.out⟩)).mono ?_
      rintro e w1 ⟨rfl, hb⟩
      have HB := Aside0.mk hb
      replace H := Aside0.mk (H.out.step hb)
      clear hb
      obtain ⟨f0, f1, f2, f3, f4⟩ := (show HeapAt w0 s w1 from ⟨ob, rb, H.out⟩).cells
      go_wp2_with (first | ((with_reducible refine gate_dst (N := 21) rfl ?_); refine pm_look rfl rfl rfl H.out.mp rfl HK.out ?_; rw [HM.out]; simp only [Option.map_none, Option.map_some]) | ((with_reducible refine gate_dst (N := 29) rfl ?_); refine pm_look rfl rfl rfl H.out.mp rfl HK.out ?_; rw [HM.out]; simp only [Option.map_none, Option.map_some]))
      go_ret2
      exact ⟨rfl, HB.out⟩
    | some o =>
      have HM := Aside0.mk hm
      clear hm
      go_enter Try.func41, Try.ntmps41
      go_wp2_with fail
      refine ((hp_made w0 s _ ⟨ob, rb, H.out⟩)).mono ?_
      rintro e w1 ⟨rfl, hb⟩
      have HB := Aside0.mk hb
      replace H := Aside0.mk (H.out.step hb)
      clear hb
      obtain ⟨f0, f1, f2, f3, f4⟩ := (show HeapAt w0 s w1 from ⟨ob, rb, H.out⟩).cells
      go_wp2_with (first | ((with_reducible refine gate_dst (N := 21) rfl ?_); refine pm_look rfl rfl rfl H.out.mp rfl HK.out ?_; rw [HM.out]; simp only [Option.map_none, Option.map_some]) | ((with_reducible refine gate_dst (N := 29) rfl ?_); refine pm_look rfl rfl rfl H.out.mp rfl HK.out ?_; rw [HM.out]; simp only [Option.map_none, Option.map_some]))
      go_ret2
      exact ⟨rfl, HB.out⟩
theorem isTypeOf (v : Value) (w : World) : (Go.Extern.ReflectliteType.typeOf #[.iface 24 v]).run Try.prog w = .ok (.iface 137 (.agg #[.pointer (some ⟨0, 24, none⟩)])) w := by kernel_rfl
def comparableFn : Array Value → Sem Value := Go.Extern.ReflectliteType.method fun t => do Go.Extern.Rtype.noPackHeld "Comparable" t; pure (.bool (← Go.typeInfo t).comparable)
theorem isComparable (w : World) : (comparableFn #[.agg #[.pointer (some ⟨0, 24, none⟩)]]).run Try.prog w = .ok (.bool true) w := by kernel_rfl
theorem isMethodComparable (v : Value) (w : World) : (Go.method 282 137 v "Comparable").run Try.prog w = .ok (107, v) w := by kernel_rfl
theorem isComp : (Try.prog.info? 24).map (·.comparable) = some true := by kernel_rfl
set_option maxHeartbeats 1600000 in
set_option maxRecDepth 100000 in
theorem is_errno (k : Int) (w : World) :
    Calls Try.prog 61 #[.iface 24 (.int .i64 k), .iface 24 (.int .i64 k)] w fun e w' => e = .returned (.bool true) ∧ w' = w := by
  have h8 := @run_callFunc_extern Try.prog 79 _ Go.Extern.ReflectliteType.typeOf Try.func79 (by kernel_rfl) (by kernel_rfl) (by kernel_rfl) (by kernel_rfl)
  have h32 := @run_callFunc_extern Try.prog 107 _ comparableFn Try.func107 (by kernel_rfl) (by kernel_rfl) (by kernel_rfl) (by kernel_rfl)
  have tT := isTypeOf
  have cT := isComparable
  have mR := isMethodComparable
  have heq := Go.Lib.run_eql_iface_int (P := Try.prog) w (t := 91) (k := .i64) k k Try.underlying91 isComp Try.underlying24
  have hkk : (k == k) = true := by simp
  rw [hkk] at heq
  go_enter Try.func61, Try.ntmps61
  go_wp2

  refine wp_loop_rounds 1 ?_
  rw [rounds_succ]
  go_wp2
  go_ret
  exact ⟨rfl, rfl⟩
theorem isAssert1 (k : Int) (w : World) : (Instr.typeAssert (.iface 24 (.int .i64 k)) 91 139 true).run Try.prog w = .ok (.tuple #[.nilIface, .bool false]) w := run_typeAssert_lacksB Try.underlying139 (by kernel_rfl) (by kernel_rfl) _ _ w
theorem isAssert2 (k : Int) (w : World) : (Instr.typeAssert (.iface 24 (.int .i64 k)) 91 142 true).run Try.prog w = .ok (.tuple #[.nilIface, .bool false]) w := run_typeAssert_lacksB Try.underlying142 (by kernel_rfl) (by kernel_rfl) _ _ w
theorem isAssert3 (k : Int) (w : World) : (Instr.typeAssert (.iface 24 (.int .i64 k)) 91 144 true).run Try.prog w = .ok (.tuple #[.nilIface, .bool false]) w := run_typeAssert_lacksB Try.underlying144 (by kernel_rfl) (by kernel_rfl) _ _ w
set_option maxHeartbeats 1600000 in
set_option maxRecDepth 100000 in
theorem is_not (k n : Int) (h : ¬ k = n) (w : World) :
    Calls Try.prog 61 #[.iface 24 (.int .i64 k), .iface 24 (.int .i64 n)] w fun e w' => e = .returned (.bool false) ∧ w' = w := by
  have h8 := @run_callFunc_extern Try.prog 79 _ Go.Extern.ReflectliteType.typeOf Try.func79 (by kernel_rfl) (by kernel_rfl) (by kernel_rfl) (by kernel_rfl)
  have h32 := @run_callFunc_extern Try.prog 107 _ comparableFn Try.func107 (by kernel_rfl) (by kernel_rfl) (by kernel_rfl) (by kernel_rfl)
  have tT := isTypeOf
  have cT := isComparable
  have mR := isMethodComparable
  have heq := Go.Lib.run_eql_iface_int (P := Try.prog) w (t := 91) (k := .i64) k n Try.underlying91 isComp Try.underlying24
  have hkk : (k == n) = false := by rw [beq_eq_false_iff_ne]; exact h
  have ta1 := isAssert1
  have ta2 := isAssert2
  have ta3 := isAssert3
  clear h
  rw [hkk] at heq
  go_enter Try.func61, Try.ntmps61
  go_wp2

  refine wp_loop_rounds 1 ?_
  rw [rounds_succ]
  go_wp2
  go_ret
  exact ⟨rfl, rfl⟩
set_option maxHeartbeats 1600000 in
set_option maxRecDepth 100000 in
theorem number_140 (w : World) : Calls Try.prog 42 #[.iface 24 (.int .i64 140)] w fun e w' => e = .returned (.int .i64 140) ∧ Below w.heap.size w w' := by
  have HBW := Aside0.mk (below_alloc (Below.refl w.heap.size w) (.cells #[.int .i64 8, .int .i64 140, .int .i64 141] 24))
  go_enter Try.func42, Try.ntmps42
  go_wp2
  refine wp_loop_rounds 2 ?_
  rw [rounds_succ]
  go_wp2_with fail
  refine (is_not 140 8 (by decide) _).mono ?_
  rintro e w1 ⟨rfl, rfl⟩
  go_wp2
  rw [rounds_succ]
  go_wp2_with fail
  refine (is_errno 140 _).mono ?_
  rintro e w1 ⟨rfl, rfl⟩
  go_wp2
  go_ret
  exact ⟨rfl, HBW.out⟩
set_option maxHeartbeats 1600000 in
set_option maxRecDepth 100000 in
theorem number_141 (w : World) : Calls Try.prog 42 #[.iface 24 (.int .i64 141)] w fun e w' => e = .returned (.int .i64 141) ∧ Below w.heap.size w w' := by
  have HBW := Aside0.mk (below_alloc (Below.refl w.heap.size w) (.cells #[.int .i64 8, .int .i64 140, .int .i64 141] 24))
  go_enter Try.func42, Try.ntmps42
  go_wp2
  refine wp_loop_rounds 3 ?_
  rw [rounds_succ]
  go_wp2_with fail
  refine (is_not 141 8 (by decide) _).mono ?_
  rintro e w1 ⟨rfl, rfl⟩
  go_wp2
  rw [rounds_succ]
  go_wp2_with fail
  refine (is_not 141 140 (by decide) _).mono ?_
  rintro e w1 ⟨rfl, rfl⟩
  go_wp2
  rw [rounds_succ]
  go_wp2_with fail
  refine (is_errno 141 _).mono ?_
  rintro e w1 ⟨rfl, rfl⟩
  go_wp2
  go_ret
  exact ⟨rfl, HBW.out⟩
theorem findV_zero (s : HS) (ob : Int → Nat) : findV s ob 0 = .tuple #[.pointer none, .iface 24 (.int .i64 140)] := by unfold findV; rw [if_pos rfl]
theorem findV_none {s : HS} (ob : Int → Nat) {x : Int} (h0 : ¬ x = 0) (h : s.m x = none) : findV s ob x = .tuple #[.pointer none, .iface 24 (.int .i64 141)] := by unfold findV; rw [if_neg h0, h]
theorem findV_some {s : HS} (ob : Int → Nat) {x : Int} {o : Int × List Int} (h0 : ¬ x = 0) (h : s.m x = some o) : findV s ob x = .tuple #[.pointer (some ⟨ob x, 0, none⟩), .nilIface] := by unfold findV; rw [if_neg h0, h]
def placeE (s : HS) (x i : Int) : Int := if x = 0 then 140 else match s.m x with
  | none => 141
  | some o => if 0 ≤ i ∧ i < (o.2.length : Int) then 0 else 142
def placeV (s : HS) (rb : Int → Nat) (x i : Int) : Value := if placeE s x i = 0 then .tuple #[.pointer (some ⟨rb x, i.toNat, none⟩), .int .i64 0] else .tuple #[.pointer none, .int .i64 (placeE s x i)]
theorem placeV_no {s : HS} (rb : Int → Nat) {x i k : Int} (h : placeE s x i = k) (hk : ¬ k = 0) : placeV s rb x i = .tuple #[.pointer none, .int .i64 k] := by unfold placeV; rw [h, if_neg hk]
theorem placeV_yes {s : HS} (rb : Int → Nat) {x i : Int} (h : placeE s x i = 0) : placeV s rb x i = .tuple #[.pointer (some ⟨rb x, i.toNat, none⟩), .int .i64 0] := by unfold placeV; rw [if_pos h]
theorem placeE_zero (s : HS) (i : Int) : placeE s 0 i = 140 := by unfold placeE; rw [if_pos rfl]
theorem placeE_none {s : HS} {x : Int} (i : Int) (h0 : ¬ x = 0) (h : s.m x = none) : placeE s x i = 141 := by unfold placeE; rw [if_neg h0, h]
theorem placeE_in {s : HS} {x i : Int} {o : Int × List Int} (h0 : ¬ x = 0) (h : s.m x = some o) (hi : 0 ≤ i ∧ i < (o.2.length : Int)) : placeE s x i = 0 := by unfold placeE; rw [if_neg h0, h]; exact if_pos hi
theorem placeE_out {s : HS} {x i : Int} {o : Int × List Int} (h0 : ¬ x = 0) (h : s.m x = some o) (hi : ¬ (0 ≤ i ∧ i < (o.2.length : Int))) : placeE s x i = 142 := by unfold placeE; rw [if_neg h0, h]; exact if_neg hi
set_option maxHeartbeats 1600000 in
set_option maxRecDepth 100000 in
theorem hp_place (w0 : World) (s : HS) (ob rb : Int → Nat) (x i : Int) (hk : I64 x) (W : World) (h : HeapIn w0 s ob rb W) : Calls Try.prog 37 #[.pointer (some ⟨s.hb, 0, none⟩), .int .i64 x, .int .i64 i] W fun e w' => e = .returned (placeV s rb x i) ∧ Below W.heap.size W w' := by
  have H := Aside0.mk h
  clear h
  by_cases c0 : x = 0
  · subst c0
    rw [placeV_no rb (placeE_zero s i) (by decide)]
    go_enter Try.func37, Try.ntmps37
    go_wp2_with fail
    refine (hp_find w0 s ob rb 0 hk _ H.out).mono ?_
    rw [findV_zero]
    rintro e w1 ⟨rfl, hb⟩
    have HB := Aside0.mk hb
    replace H := Aside0.mk (H.out.step hb)
    clear hb
    go_wp2_with fail
    refine (number_140 _).mono ?_
    rintro e w2 ⟨rfl, hb⟩
    have HB2 := Aside0.mk (below_then HB.out HB.out.size hb)
    clear hb
    go_wp2
    go_ret2
    exact ⟨rfl, HB2.out⟩
  · cases hm : s.m x with
    | none =>
      rw [placeV_no rb (placeE_none i c0 hm) (by decide)]
      have HV := Aside0.mk (findV_none ob c0 hm)
      clear hm c0
      go_enter Try.func37, Try.ntmps37
      go_wp2_with fail
      refine (hp_find w0 s ob rb x hk _ H.out).mono ?_
      rw [HV.out]
      rintro e w1 ⟨rfl, hb⟩
      have HB := Aside0.mk hb
      replace H := Aside0.mk (H.out.step hb)
      clear hb
      go_wp2_with fail
      refine (number_141 _).mono ?_
      rintro e w2 ⟨rfl, hb⟩
      have HB2 := Aside0.mk (below_then HB.out HB.out.size hb)
      clear hb
      go_wp2
      go_ret2
      exact ⟨rfl, HB2.out⟩
    | some o =>
      have HV := Aside0.mk (findV_some ob c0 hm)
      have HM := Aside0.mk hm
      by_cases ci : 0 ≤ i ∧ i < (o.2.length : Int)
      · rw [placeV_yes rb (placeE_in c0 hm ci)]
        obtain ⟨ci1, ci2⟩ := ci
        have d1 : decide (i < 0) = false := decide_eq_false (by omega)
        have d2 : decide (i ≥ (o.2.length : Int)) = false := decide_eq_false (by omega)
        have d3 : decide ((o.2.length : Int) ≤ i) = false := decide_eq_false (by omega)
        have p5 : (0 ≤ i) = True := eq_true ci1
        have p6 : (i < (o.2.length : Int)) = True := eq_true ci2
        clear hm c0 ci1 ci2
        go_enter Try.func37, Try.ntmps37
        go_wp2_with fail
        refine (hp_find w0 s ob rb x hk _ H.out).mono ?_
        rw [HV.out]
        rintro e w1 ⟨rfl, hb⟩
        have HB := Aside0.mk hb
        replace H := Aside0.mk (H.out.step hb)
        clear hb
        have g1 := blk_cell (H.out.obj x o HM.out).1 1
        simp only [List.getElem?_toArray, List.getElem?_cons_zero, List.getElem?_cons_succ] at g1
        go_wp2
        go_ret2
        exact ⟨rfl, HB.out⟩
      · rw [placeV_no rb (placeE_out c0 hm ci) (by decide)]
        clear hm c0
        by_cases ci1 : i < 0
        · have d1 : decide (i < 0) = true := decide_eq_true ci1
          clear ci ci1
          go_enter Try.func37, Try.ntmps37
          go_wp2_with fail
          refine (hp_find w0 s ob rb x hk _ H.out).mono ?_
          rw [HV.out]
          rintro e w1 ⟨rfl, hb⟩
          have HB := Aside0.mk hb
          clear hb
          go_wp2
          go_ret2
          exact ⟨rfl, HB.out⟩
        · have d1 : decide (i < 0) = false := decide_eq_false ci1
          have d2 : decide (i ≥ (o.2.length : Int)) = true := decide_eq_true (by omega)
          have d3 : decide ((o.2.length : Int) ≤ i) = true := decide_eq_true (by omega)
          clear ci ci1
          go_enter Try.func37, Try.ntmps37
          go_wp2_with fail
          refine (hp_find w0 s ob rb x hk _ H.out).mono ?_
          rw [HV.out]
          rintro e w1 ⟨rfl, hb⟩
          have HB := Aside0.mk hb
          replace H := Aside0.mk (H.out.step hb)
          clear hb
          have g1 := blk_cell (H.out.obj x o HM.out).1 1
          simp only [List.getElem?_toArray, List.getElem?_cons_zero, List.getElem?_cons_succ] at g1
          go_wp2
          go_ret2
          exact ⟨rfl, HB.out⟩
def numAt (s : HS) (x i : Int) : Int := ((s.m x).map fun o => o.2.getD i.toNat 0).getD 0
def getM (s : HS) (x i : Int) : Int × Int := if placeE s x i = 0 then (numAt s x i, 0) else (0, placeE s x i)
theorem placeE_found {s : HS} {x i : Int} (h : placeE s x i = 0) : ∃ o, s.m x = some o ∧ 0 ≤ i ∧ i < (o.2.length : Int) ∧ ¬ x = 0 := by
  unfold placeE at h
  split at h
  · cases h
  · rename_i h0
    cases hm : s.m x with
    | none => rw [hm] at h; cases h
    | some o =>
      rw [hm] at h
      simp only at h
      split at h
      · rename_i hi; exact ⟨o, rfl, hi.1, hi.2, h0⟩
      · cases h
theorem num_cell {W : World} {b : Nat} {xs : List Int} (h : W.heap[b]? = some (.cells (xs.map (Value.int .i64)).toArray 3 (0, 0))) {i : Nat} (hi : i < xs.length) : W.cell? ⟨b, i, none⟩ = some (.int .i64 (xs.getD i 0)) := by
  rw [blk_cell h i]
  simp [List.getD_eq_getElem?_getD, List.getElem?_eq_getElem hi]
set_option maxHeartbeats 1600000 in
set_option maxRecDepth 100000 in
theorem hp_Get (w0 : World) (s : HS) (x i : Int) (hk : I64 x) (W : World) (h : HeapAt w0 s W) : Calls Try.prog 19 #[.pointer (some ⟨s.hb, 0, none⟩), .int .i64 x, .int .i64 i] W fun e w' => e = .returned (.tuple #[.int .i64 (getM s x i).1, .int .i64 (getM s x i).2]) ∧ Below W.heap.size W w' := by
  obtain ⟨ob, rb, h⟩ := h
  have H := Aside0.mk h
  have HK := Aside0.mk hk
  clear h hk
  unfold getM
  by_cases hp : placeE s x i = 0
  · rw [if_pos hp]
    obtain ⟨o, hm, h0, h1, _⟩ := placeE_found hp
    have HV := Aside0.mk (placeV_yes rb hp)
    have HM := Aside0.mk hm
    have hn : numAt s x i = o.2.getD i.toNat 0 := by unfold numAt; rw [hm]; rfl
    rw [hn]
    have HI := Aside0.mk (show i.toNat < o.2.length by omega)
    clear hm h0 h1 hn hp
    go_enter Try.func19, Try.ntmps19
    go_wp2_with fail
    refine (hp_place w0 s ob rb x i HK.out _ H.out).mono ?_
    rw [HV.out]
    rintro e w1 ⟨rfl, hb⟩
    have HB := Aside0.mk hb
    replace H := Aside0.mk (H.out.step hb)
    clear hb
    have g1 := num_cell (H.out.obj x o HM.out).2 HI.out
    go_wp2
    go_ret2
    exact ⟨rfl, HB.out⟩
  · rw [if_neg hp]
    have HV := Aside0.mk (placeV_no rb (k := placeE s x i) rfl hp)
    obtain ⟨k, hkk⟩ : ∃ k, k = placeE s x i := ⟨_, rfl⟩
    rw [← hkk] at hp HV ⊢
    have c0b : (k == 0) = false := by rw [beq_eq_false_iff_ne]; exact hp
    have c1b : (k != 0) = true := by rw [bne_iff_ne]; exact hp
    clear hp hkk
    go_enter Try.func19, Try.ntmps19
    go_wp2_with fail
    refine (hp_place w0 s ob rb x i HK.out _ H.out).mono ?_
    rw [HV.out]
    rintro e w1 ⟨rfl, hb⟩
    have HB := Aside0.mk hb
    replace H := Aside0.mk (H.out.step hb)
    clear hb
    go_wp2
    go_ret2
    exact ⟨rfl, HB.out⟩
def lenM (s : HS) (x : Int) : Int × Int := if x = 0 then (0, 140) else match s.m x with
  | none => (0, 141)
  | some o => ((o.2.length : Int), 0)
def classM (s : HS) (x : Int) : Int × Bool := if x = 0 then (0, false) else match s.m x with
  | none => (0, false)
  | some o => if o.1 < 0 then (0, false) else (o.1, true)
set_option maxHeartbeats 1600000 in
set_option maxRecDepth 100000 in
theorem hp_Len (w0 : World) (s : HS) (x : Int) (hk : I64 x) (W : World) (h : HeapAt w0 s W) : Calls Try.prog 16 #[.pointer (some ⟨s.hb, 0, none⟩), .int .i64 x] W fun e w' => e = .returned (.tuple #[.int .i64 (lenM s x).1, .int .i64 (lenM s x).2]) ∧ Below W.heap.size W w' := by
  obtain ⟨ob, rb, h⟩ := h
  have H := Aside0.mk h
  clear h
  unfold lenM
  by_cases c0 : x = 0
  · subst c0
    rw [if_pos rfl]
    go_enter Try.func16, Try.ntmps16
    go_wp2_with fail
    refine (hp_find w0 s ob rb 0 hk _ H.out).mono ?_
    rw [findV_zero]
    rintro e w1 ⟨rfl, hb⟩
    have HB := Aside0.mk hb
    clear hb
    go_wp2_with fail
    refine (number_140 _).mono ?_
    rintro e w2 ⟨rfl, hb⟩
    have HB2 := Aside0.mk (below_then HB.out HB.out.size hb)
    clear hb
    go_wp2
    go_ret2
    exact ⟨rfl, HB2.out⟩
  · rw [if_neg c0]
    cases hm : s.m x with
    | none =>
      have HV := Aside0.mk (findV_none ob c0 hm)
      clear hm c0
      go_enter Try.func16, Try.ntmps16
      go_wp2_with fail
      refine (hp_find w0 s ob rb x hk _ H.out).mono ?_
      rw [HV.out]
      rintro e w1 ⟨rfl, hb⟩
      have HB := Aside0.mk hb
      clear hb
      go_wp2_with fail
      refine (number_141 _).mono ?_
      rintro e w2 ⟨rfl, hb⟩
      have HB2 := Aside0.mk (below_then HB.out HB.out.size hb)
      clear hb
      go_wp2
      go_ret2
      exact ⟨rfl, HB2.out⟩
    | some o =>
      have HV := Aside0.mk (findV_some ob c0 hm)
      have HM := Aside0.mk hm
      clear hm c0
      go_enter Try.func16, Try.ntmps16
      go_wp2_with fail
      refine (hp_find w0 s ob rb x hk _ H.out).mono ?_
      rw [HV.out]
      rintro e w1 ⟨rfl, hb⟩
      have HB := Aside0.mk hb
      replace H := Aside0.mk (H.out.step hb)
      clear hb
      have g1 := blk_cell (H.out.obj x o HM.out).1 1
      simp only [List.getElem?_toArray, List.getElem?_cons_zero, List.getElem?_cons_succ] at g1
      go_wp2
      go_ret2
      exact ⟨rfl, HB.out⟩
set_option maxHeartbeats 1600000 in
set_option maxRecDepth 100000 in
theorem hp_Class (w0 : World) (s : HS) (x : Int) (hk : I64 x) (W : World) (h : HeapAt w0 s W) : Calls Try.prog 21 #[.pointer (some ⟨s.hb, 0, none⟩), .int .i64 x] W fun e w' => e = .returned (.tuple #[.int .i64 (classM s x).1, .bool (classM s x).2]) ∧ Below W.heap.size W w' := by
  obtain ⟨ob, rb, h⟩ := h
  have H := Aside0.mk h
  clear h
  unfold classM
  by_cases c0 : x = 0
  · subst c0
    rw [if_pos rfl]
    go_enter Try.func21, Try.ntmps21
    go_wp2_with fail
    refine (hp_find w0 s ob rb 0 hk _ H.out).mono ?_
    rw [findV_zero]
    rintro e w1 ⟨rfl, hb⟩
    have HB := Aside0.mk hb
    replace H := Aside0.mk (H.out.step hb)
    clear hb
    go_wp2
    go_ret2
    exact ⟨rfl, HB.out⟩
  · rw [if_neg c0]
    cases hm : s.m x with
    | none =>
      have HV := Aside0.mk (findV_none ob c0 hm)
      clear hm c0
      go_enter Try.func21, Try.ntmps21
      go_wp2_with fail
      refine (hp_find w0 s ob rb x hk _ H.out).mono ?_
      rw [HV.out]
      rintro e w1 ⟨rfl, hb⟩
      have HB := Aside0.mk hb
      replace H := Aside0.mk (H.out.step hb)
      clear hb
      go_wp2
      go_ret2
      exact ⟨rfl, HB.out⟩
    | some o =>
      have HV := Aside0.mk (findV_some ob c0 hm)
      have HM := Aside0.mk hm
      clear hm c0
      by_cases cn : o.1 < 0
      · have d1 : decide (o.1 < 0) = true := decide_eq_true cn
        simp only [if_pos cn]
        clear cn
        go_enter Try.func21, Try.ntmps21
        go_wp2_with fail
        refine (hp_find w0 s ob rb x hk _ H.out).mono ?_
        rw [HV.out]
        rintro e w1 ⟨rfl, hb⟩
        have HB := Aside0.mk hb
        replace H := Aside0.mk (H.out.step hb)
        clear hb
        have g0 := blk_cell (H.out.obj x o HM.out).1 0
        simp only [List.getElem?_toArray, List.getElem?_cons_zero, List.getElem?_cons_succ] at g0
        go_wp2
        go_ret2
        exact ⟨rfl, HB.out⟩
      · have d1 : decide (o.1 < 0) = false := decide_eq_false cn
        simp only [if_neg cn]
        clear cn
        go_enter Try.func21, Try.ntmps21
        go_wp2_with fail
        refine (hp_find w0 s ob rb x hk _ H.out).mono ?_
        rw [HV.out]
        rintro e w1 ⟨rfl, hb⟩
        have HB := Aside0.mk hb
        replace H := Aside0.mk (H.out.step hb)
        clear hb
        have g0 := blk_cell (H.out.obj x o HM.out).1 0
        simp only [List.getElem?_toArray, List.getElem?_cons_zero, List.getElem?_cons_succ] at g0
        go_wp2
        go_ret2
        exact ⟨rfl, HB.out⟩
theorem blk_ne {W : World} {a b : Nat} {c c' : Array Value} {t t' : TypeId} {f f' : Nat × Nat} (h1 : W.heap[a]? = some (.cells c t f)) (h2 : W.heap[b]? = some (.cells c' t' f')) (ht : t ≠ t') : ¬ a = b := by
  intro e
  rw [e, h2] at h1
  injection h1 with h1
  injection h1 with _ h1
  exact ht h1.symm
theorem cls_kept {W W1 : World} {base : Nat} {ok : Nat → Prop} {v : Value} {l : List S32} (h : Kd.R k32 32 W base ok v l) {g t : Nat} {cs : Array Value} (hb : W.heap[g]? = some (.cells cs t (0, 0))) (ht : ∀ q, q ∈ (32 : Nat) :: k32.E → q ≠ t) (hk : Kept W W1 (fun k => k = g)) : Kd.R k32 32 W1 base ok v l :=
  Kd.R_mono (Kd.R_step (Kd.R_types h hb ht) (fun j hj hlt => hk.2 j hlt hj.2)) (fun _ h => h.1)
theorem HeapIn.kept1 {w0 : World} {s : HS} {ob rb : Int → Nat} {W W1 : World} (H : HeapIn w0 s ob rb W) {g : Nat} (hk : Kept W W1 (fun k => k = g)) (hn : ∀ k, s.fr k → k ≠ g) : s.w9.heap.size ≤ W1.heap.size ∧ ∀ k, s.fr k → k < s.w9.heap.size ∧ W1.heap[k]? = s.w9.heap[k]? := ⟨Nat.le_trans H.keep.1 hk.1, fun k hf => ⟨(H.keep.2 k hf).1, (hk.2 k (Nat.lt_of_lt_of_le (H.keep.2 k hf).1 H.keep.1) (hn k hf)).trans (H.keep.2 k hf).2⟩⟩
theorem HeapIn.head {w0 : World} {s : HS} {ob rb : Int → Nat} {W W1 : World} (H : HeapIn w0 s ob rb W) (s' : HS) (e1 : s'.hb = s.hb) (e2 : s'.B = s.B) (e3 : s'.vc = s.vc) (e4 : s'.l = s.l) (e5 : s'.m = s.m) (e7 : s'.fr = s.fr) (e8 : s'.w9 = s.w9) (e6 : s.last ≤ s'.last) (hn : 0 ≤ s'.used ∧ s'.used ≤ s'.room ∧ s'.room ≤ 4096)
    (hX : Rws w0 [(s.hb, 50, s'.cell)] W1) (hk : Kept W W1 (fun k => k = s.hb)) : HeapIn w0 s' ob rb W1 := by
  have hno : ∀ x o, s.m x = some o → ¬ ob x = s.hb ∧ ¬ rb x = s.hb := fun x o hx => ⟨blk_ne (H.obj x o hx).1 H.hd (by show (82 : Nat) ≠ 50; decide), blk_ne (H.obj x o hx).2 H.hd (by show (3 : Nat) ≠ 50; decide)⟩
  refine ⟨by rw [e1]; exact hX.mem List.mem_cons_self, by rw [e2, e5]; exact (H.mp.block (hk.2 _ H.mp.lt (H.mp.ne H.hd))).mono e6, by rw [e5]; exact fun x o hx => ⟨blk_kept (H.obj x o hx).1 hk (hno x o hx).1, blk_kept (H.obj x o hx).2 hk (hno x o hx).2⟩, by rw [e5]; exact H.inj, by rw [e1, e2, e5]; exact H.base, by rw [e3, e4, e7]; exact cls_kept H.cls H.hd (by show ∀ q, q ∈ (32 : Nat) :: k32.E → q ≠ (50 : Nat); decide) hk, by rw [e5, e4]; exact fun x o hx => ⟨(H.dom x o hx).1, by have := (H.dom x o hx).2.1; omega, (H.dom x o hx).2.2⟩, hn, hX.below, by rw [e7, e8]; exact H.kept1 hk (fun k hf => (H.sep k hf).1), by rw [e1, e2, e5, e7]; exact H.sep⟩
theorem HeapIn.rws {w0 : World} {s : HS} {ob rb : Int → Nat} {W : World} (H : HeapIn w0 s ob rb W) : Rws w0 [(s.hb, 50, s.cell)] W := ⟨fun p hp => by rw [List.mem_singleton.1 hp]; exact ⟨H.hd, H.base.1⟩, by simp, H.below⟩
def setNum (m : Int → Option (Int × List Int)) (x i v : Int) : Int → Option (Int × List Int) := fun y => if y = x then (m x).map fun o => (o.1, o.2.set i.toNat v) else m y
theorem HeapIn.num_set {w0 : World} {s : HS} {ob rb : Int → Nat} {W W1 : World} (H : HeapIn w0 s ob rb W) {x i v : Int} (hv : -2147483648 ≤ v ∧ v ≤ 2147483647) {o : Int × List Int} (hm : s.m x = some o) (hX : Rws w0 [(rb x, 3, ((o.2.set i.toNat v).map (Value.int .i64)).toArray)] W1) (hk : Kept W W1 (fun k => k = rb x)) : HeapIn w0 { s with m := setNum s.m x i v } ob rb W1 := by
  have hr := (H.obj x o hm).2
  have hold : ∀ y q, setNum s.m x i v y = some q → ∃ q0, s.m y = some q0 ∧ q0.1 = q.1 ∧ q0.2.length = q.2.length ∧ ∀ z ∈ q.2, z ∈ q0.2 ∨ z = v := by
    intro y q hq
    unfold setNum at hq
    split at hq
    · rename_i e
      rw [e, hm]
      rw [hm] at hq
      cases hq
      exact ⟨o, rfl, rfl, by simp, fun z hz => List.mem_or_eq_of_mem_set hz⟩
    · exact ⟨q, hq, rfl, rfl, fun z hz => .inl hz⟩
  refine ⟨blk_kept H.hd hk (blk_ne H.hd hr (by show (50 : Nat) ≠ 3; decide)), ?_, ?_, ?_, ⟨H.base.1, H.base.2.1, fun y q hq => ?_⟩, cls_kept H.cls hr (by show ∀ q, q ∈ (32 : Nat) :: k32.E → q ≠ (3 : Nat); decide) hk, fun y q hq => ?_, H.num, hX.below, H.kept1 hk (fun k hf => ((H.sep k hf).2.2 x o hm).2), fun k hf => ⟨(H.sep k hf).1, (H.sep k hf).2.1, fun y q hq => by obtain ⟨q0, h0, _⟩ := hold y q hq; exact (H.sep k hf).2.2 y q0 h0⟩⟩
  · have e : (fun y => (setNum s.m x i v y).map fun _ => ob y) = fun y => (s.m y).map fun _ => ob y := by
      funext y
      unfold setNum
      split
      · rename_i e; rw [e, hm]; rfl
      · rfl
    show PMap W1 s.B s.last (fun y => (setNum s.m x i v y).map fun _ => ob y)
    rw [e]
    exact H.mp.block (hk.2 _ H.mp.lt (H.mp.ne hr))
  · intro y q hq
    have hob : ¬ ob y = rb x := by
      obtain ⟨q0, h0, _⟩ := hold y q hq
      exact blk_ne (H.obj y q0 h0).1 hr (by show (82 : Nat) ≠ 3; decide)
    change setNum s.m x i v y = some q at hq
    by_cases e : y = x
    · subst e
      unfold setNum at hq
      rw [if_pos rfl, hm] at hq
      cases hq
      refine ⟨?_, hX.mem List.mem_cons_self⟩
      have := blk_kept (H.obj y o hm).1 hk hob
      simpa using this
    · unfold setNum at hq
      rw [if_neg e] at hq
      exact ⟨blk_kept (H.obj y q hq).1 hk hob, blk_kept (H.obj y q hq).2 hk (H.inj y x q o hq hm e).2⟩
  · intro y z p q hp hq hne
    obtain ⟨p0, hp0, _⟩ := hold y p hp
    obtain ⟨q0, hq0, _⟩ := hold z q hq
    exact H.inj y z p0 q0 hp0 hq0 hne
  · obtain ⟨q0, hq0, _⟩ := hold y q hq
    exact H.base.2.2 y q0 hq0
  · obtain ⟨q0, hq0, hc, hl, hz⟩ := hold y q hq
    have := H.dom y q0 hq0
    exact ⟨this.1, this.2.1, by rw [← hl]; exact this.2.2.1, by rw [← hc, ← hl]; exact this.2.2.2.1, fun z hz2 => (hz z hz2).elim (fun h => this.2.2.2.2 z h) (fun h => by rw [h]; exact hv)⟩
section
variable {ops : Array Oper} {rest : List Oper} {o : Oper} {a : Act} {Q : Exit → Act → World → Prop}
theorem head_store (hgd : o.guard = none) {p x : Operand} (ho : o.op = .store 3 p x) {w0 W : World} {s : HS} {ob rb : Int → Nat} (j : Nat) {v : Int} (hx : a.eval p = .pointer (some ⟨s.hb, j, none⟩)) (hy : a.eval x = .int .i64 v) (H : HeapIn w0 s ob rb W) (hj : j < 5) (s' : HS) (hc : s.cell.setIfInBounds j (.int .i64 v) = s'.cell) (e1 : s'.hb = s.hb) (e2 : s'.B = s.B) (e3 : s'.vc = s.vc) (e4 : s'.l = s.l) (e5 : s'.m = s.m) (e7 : s'.fr = s.fr) (e8 : s'.w9 = s.w9) (e6 : s.last ≤ s'.last) (hn : 0 ≤ s'.used ∧ s'.used ≤ s'.room ∧ s'.room ≤ 4096)
    (h : ∀ w1, HeapIn w0 s' ob rb w1 → Kept W w1 (fun k => k = s.hb) → wpList Try.prog ops Q rest (a.put o.dst undef) w1) : wpList Try.prog ops Q (o :: rest) a W :=
  rw_cell hgd 3 ho hx hy rfl [] H.rws (by show j < 5; exact hj) (by kernel_rfl) (fun w1 hX hk => h w1 (H.head s' e1 e2 e3 e4 e5 e7 e8 e6 hn (by rw [← hc]; exact hX) hk) hk)
theorem num_store (hgd : o.guard = none) {p y : Operand} (ho : o.op = .store 3 p y) {w0 W : World} {s : HS} {ob rb : Int → Nat} {x i v : Int} {q : Int × List Int} (hp : a.eval p = .pointer (some ⟨rb x, i.toNat, none⟩)) (hy : a.eval y = .int .i64 v) (H : HeapIn w0 s ob rb W) (hv : -2147483648 ≤ v ∧ v ≤ 2147483647) (hm : s.m x = some q) (hi : i.toNat < q.2.length)
    (h : ∀ w1, HeapIn w0 { s with m := setNum s.m x i v } ob rb w1 → wpList Try.prog ops Q rest (a.put o.dst undef) w1) : wpList Try.prog ops Q (o :: rest) a W :=
  rw_cell hgd 3 ho hp hy rfl [] (l2 := []) (t := 3) (cs := (q.2.map (Value.int .i64)).toArray) ⟨fun r hr => by rw [List.mem_singleton.1 hr]; exact ⟨(H.obj x q hm).2, (H.base.2.2 x q hm).2⟩, by simp, H.below⟩ (by simpa using hi) (by kernel_rfl) (fun w1 hX hk => h w1 (H.num_set hv hm (by
    have e : (q.2.map (Value.int .i64)).toArray.setIfInBounds i.toNat (Value.int .i64 v) = ((q.2.set i.toNat v).map (Value.int .i64)).toArray := by simp [List.map_set]
    rw [List.nil_append, e] at hX
    exact hX) hk))
end
def putM (s : HS) (x i v : Int) : Int × HS := if placeE s x i = 0 then (if v < -2147483648 ∨ v > 2147483647 then (5, s) else (0, { s with m := setNum s.m x i v })) else (placeE s x i, s)
set_option maxHeartbeats 1600000 in
set_option maxRecDepth 100000 in
theorem hp_Put (w0 : World) (s : HS) (x i v : Int) (hk : I64 x) (W : World) (h : HeapAt w0 s W) : Calls Try.prog 11 #[.pointer (some ⟨s.hb, 0, none⟩), .int .i64 x, .int .i64 i, .int .i64 v] W fun e w' => e = .returned (.int .i64 (putM s x i v).1) ∧ HeapAt w0 (putM s x i v).2 w' := by
  obtain ⟨ob, rb, h⟩ := h
  have H := Aside0.mk h
  have HK := Aside0.mk hk
  clear h hk
  unfold putM
  by_cases hp : placeE s x i = 0
  · rw [if_pos hp]
    obtain ⟨o, hm, h0, h1, _⟩ := placeE_found hp
    have HV := Aside0.mk (placeV_yes rb hp)
    have HM := Aside0.mk hm
    have HI := Aside0.mk (show i.toNat < o.2.length by omega)
    clear hm h0 h1 hp
    by_cases cv : v < -2147483648 ∨ v > 2147483647
    · rw [if_pos cv]
      by_cases cl : v < -2147483648
      · have d1 : decide (v < -2147483648) = true := decide_eq_true cl
        clear cv cl
        go_enter Try.func11, Try.ntmps11
        go_wp2_with fail
        refine (hp_place w0 s ob rb x i HK.out _ H.out).mono ?_
        rw [HV.out]
        rintro e w1 ⟨rfl, hb⟩
        have HB := Aside0.mk hb
        replace H := Aside0.mk (H.out.step hb)
        clear hb
        go_wp2
        go_ret
        exact ⟨rfl, ob, rb, H.out⟩
      · have d1 : decide (v < -2147483648) = false := decide_eq_false cl
        have d2 : decide (v > 2147483647) = true := decide_eq_true (by omega)
        have d3 : decide (2147483647 < v) = true := decide_eq_true (by omega)
        clear cv cl
        go_enter Try.func11, Try.ntmps11
        go_wp2_with fail
        refine (hp_place w0 s ob rb x i HK.out _ H.out).mono ?_
        rw [HV.out]
        rintro e w1 ⟨rfl, hb⟩
        have HB := Aside0.mk hb
        replace H := Aside0.mk (H.out.step hb)
        clear hb
        go_wp2
        go_ret
        exact ⟨rfl, ob, rb, H.out⟩
    · rw [if_neg cv]
      have HV9 := Aside0.mk (show -2147483648 ≤ v ∧ v ≤ 2147483647 by omega)
      have d1 : decide (v < -2147483648) = false := decide_eq_false (by omega)
      have d2 : decide (v > 2147483647) = false := decide_eq_false (by omega)
      have d3 : decide (2147483647 < v) = false := decide_eq_false (by omega)
      clear cv
      go_enter Try.func11, Try.ntmps11
      go_wp2_with fail
      refine (hp_place w0 s ob rb x i HK.out _ H.out).mono ?_
      rw [HV.out]
      rintro e w1 ⟨rfl, hb⟩
      have HB := Aside0.mk hb
      replace H := Aside0.mk (H.out.step hb)
      clear hb
      go_wp2_with (first | ((with_reducible refine gate_store (t := 3) (p := 31) rfl ?_); refine num_store rfl rfl (x := x) (i := i) rfl rfl H.out HV9.out HM.out HI.out ?_; intro w9 ho; replace H := Aside0.mk ho; clear ho))
      go_ret
      exact ⟨rfl, ob, rb, H.out⟩
  · rw [if_neg hp]
    have HV := Aside0.mk (placeV_no rb (k := placeE s x i) rfl hp)
    obtain ⟨k, hkk⟩ : ∃ k, k = placeE s x i := ⟨_, rfl⟩
    rw [← hkk] at hp HV ⊢
    have c0b : (k == 0) = false := by rw [beq_eq_false_iff_ne]; exact hp
    have c1b : (k != 0) = true := by rw [bne_iff_ne]; exact hp
    clear hp hkk
    go_enter Try.func11, Try.ntmps11
    go_wp2_with fail
    refine (hp_place w0 s ob rb x i HK.out _ H.out).mono ?_
    rw [HV.out]
    rintro e w1 ⟨rfl, hb⟩
    have HB := Aside0.mk hb
    replace H := Aside0.mk (H.out.step hb)
    clear hb
    go_wp2
    go_ret
    exact ⟨rfl, ob, rb, H.out⟩
def updM (m : Int → Option (Int × List Int)) (x : Int) (o : Int × List Int) : Int → Option (Int × List Int) := fun y => if y = x then some o else m y
def addM (s : HS) (c n : Int) : Int × Int × HS := if n > s.room - s.used - 1 then (0, 7, s) else ((s.last : Int) + 1, 0, { s with used := s.used + (n + 1), last := s.last + 1, m := updM s.m ((s.last : Int) + 1) (c, List.replicate n.toNat 0) })
theorem made_ints (n : Nat) : madeCells #[.int .i64 0] n = ((List.replicate n (0 : Int)).map (Value.int .i64)).toArray := by
  refine Array.ext' ?_
  simp only [madeCells]
  refine List.ext_getElem (by simp) (fun i h1 h2 => ?_)
  simp [Nat.mod_one]
theorem run_make_ints (n : Int) (h0 : 0 ≤ n) (hn : n ≤ 4096) (W : World) : (Instr.makeSlice 37 (.int .i64 n) (.int .i64 n)).run Try.prog W = .ok (.slice (some ⟨W.heap.size, 0, none⟩) n.toNat n.toNat) (W.alloc (.cells ((List.replicate n.toNat (0 : Int)).map (Value.int .i64)).toArray 3)) := by
  obtain ⟨i0, hi, hzz⟩ := Option.map_eq_some_iff.1 (show (Try.prog.info? 3).map (fun i => (i.zero, i.size, i.bytes)) = some (some (.int .i64 0), 1, 8) by kernel_rfl)
  simp only [Prod.mk.injEq] at hzz
  have h := run_make (P := Try.prog) W 37 3 i0 (.int .i64 0) Try.underlying37 hi hzz.1 .i64 .i64 n n h0 (Int.le_refl _) (by rw [hzz.2.2]; omega) (by omega)
  have e : (Value.int .i64 0).cells = #[.int .i64 0] := rfl
  rw [h, hzz.2.1, Nat.mul_one, e, made_ints]
theorem HeapIn.added {w0 : World} {s : HS} {ob rb : Int → Nat} {W W1 : World} (H : HeapIn w0 s ob rb W) {x c : Int} {nums : List Int} {g1 g2 : Nat} (hg1 : W.heap[g1]? = some (.cells #[.int .i64 c, .slice (some ⟨g2, 0, none⟩) nums.length nums.length] 82 (0, 0))) (hg2 : W.heap[g2]? = some (.cells (nums.map (Value.int .i64)).toArray 3 (0, 0))) (hnew : ∀ y o, s.m y = some o → ob y ≠ g1 ∧ rb y ≠ g2) (hb1 : w0.heap.size ≤ g1) (hb2 : w0.heap.size ≤ g2) (hf9 : ∀ k, s.fr k → k ≠ g1 ∧ k ≠ g2)
    (hm : s.m x = none) (hOK : ObjOK s.l s.last x (c, nums)) (hmp : PMap W1 s.B s.last (updP (fun y => (s.m y).map fun _ => ob y) x g1)) (hg : W.grownBy W1 (some s.B)) :
    HeapIn w0 { s with m := updM s.m x (c, nums) } (fun y => if y = x then g1 else ob y) (fun y => if y = x then g2 else rb y) W1 := by
  have hB : ∀ (g : Nat) (cs : Array Value) (t : Nat), W.heap[g]? = some (.cells cs t (0, 0)) → W1.heap[g]? = some (.cells cs t (0, 0)) := fun g cs t hh => blk_grown hh hg (fun e => H.mp.ne hh (Option.some.inj e).symm)
  have hne : ∀ y o, s.m y = some o → ¬ y = x := fun y o hy e => by rw [e, hm] at hy; cases hy
  refine ⟨hB _ _ _ H.hd, ?_, fun y o hy => ?_, fun y z p q hp hq hyz => ?_, ⟨H.base.1, H.base.2.1, fun y o hy => ?_⟩, Kd.R_mono (Kd.R_grown (Kd.R_bound H.cls) hg (fun k hk e => ?_)) (fun _ h => h.1), fun y o hy => ?_, H.num, H.below.grown hg H.below.size (fun k hk => by cases hk; exact H.base.2.1), ⟨Nat.le_trans H.keep.1 hg.size, fun k hf => ⟨(H.keep.2 k hf).1, (hg.block k (Nat.lt_of_lt_of_le (H.keep.2 k hf).1 H.keep.1) (fun e => (H.sep k hf).2.1 (Option.some.inj e))).trans (H.keep.2 k hf).2⟩⟩, fun k hf => ⟨(H.sep k hf).1, (H.sep k hf).2.1, fun y q hq => ?_⟩⟩
  · have e : (fun y => (updM s.m x (c, nums) y).map fun _ => if y = x then g1 else ob y) = updP (fun y => (s.m y).map fun _ => ob y) x g1 := by
      funext y
      unfold updM updP
      by_cases e : y = x
      · rw [if_pos e, if_pos e, if_pos e]; rfl
      · rw [if_neg e, if_neg e, if_neg e]
    show PMap W1 s.B s.last (fun y => (updM s.m x (c, nums) y).map fun _ => if y = x then g1 else ob y)
    rw [e]
    exact hmp
  · change updM s.m x (c, nums) y = some o at hy
    unfold updM at hy
    by_cases e : y = x
    · rw [if_pos e] at hy
      cases hy
      simp only [if_pos e]
      exact ⟨hB _ _ _ hg1, hB _ _ _ hg2⟩
    · rw [if_neg e] at hy
      simp only [if_neg e]
      exact ⟨hB _ _ _ (H.obj y o hy).1, hB _ _ _ (H.obj y o hy).2⟩
  · change updM s.m x (c, nums) y = some p at hp
    change updM s.m x (c, nums) z = some q at hq
    unfold updM at hp hq
    by_cases e : y = x
    · have e2 : ¬ z = x := fun e2 => hyz (e.trans e2.symm)
      rw [if_neg e2] at hq
      simp only [if_pos e, if_neg e2]
      have := hnew z q hq
      exact ⟨fun h => this.1 h.symm, fun h => this.2 h.symm⟩
    · rw [if_neg e] at hp
      simp only [if_neg e]
      by_cases e2 : z = x
      · simp only [if_pos e2]
        exact hnew y p hp
      · rw [if_neg e2] at hq
        simp only [if_neg e2]
        exact H.inj y z p q hp hq hyz
  · change updM s.m x (c, nums) y = some o at hy
    unfold updM at hy
    by_cases e : y = x
    · simp only [if_pos e]; exact ⟨hb1, hb2⟩
    · rw [if_neg e] at hy
      simp only [if_neg e]
      exact H.base.2.2 y o hy
  · obtain ⟨_, _, _, q, _, cells, hc⟩ := hk
    exact H.mp.ne hc (Option.some.inj e).symm
  · change updM s.m x (c, nums) y = some o at hy
    unfold updM at hy
    by_cases e : y = x
    · rw [if_pos e] at hy
      cases hy
      rw [e]
      exact hOK
    · rw [if_neg e] at hy
      exact H.dom y o hy
  · change updM s.m x (c, nums) y = some q at hq
    unfold updM at hq
    by_cases e : y = x
    · simp only [if_pos e]; exact hf9 k hf
    · rw [if_neg e] at hq
      simp only [if_neg e]
      exact (H.sep k hf).2.2 y q hq
set_option maxHeartbeats 1600000 in
set_option maxRecDepth 100000 in
theorem hp_add (w0 : World) (s : HS) (c n : Int) (h0 : 0 ≤ n) (hn : n ≤ 9223372036854775807) (hrec : 0 ≤ c → c < (s.l.length : Int) ∧ n = ((fieldsL s.l c).length : Int)) (hlast : s.last < 4611686018427387904) (W : World) (h : HeapAt w0 s W) : Calls Try.prog 35 #[.pointer (some ⟨s.hb, 0, none⟩), .int .i64 c, .int .i64 n] W fun e w' => e = .returned (.tuple #[.int .i64 (addM s c n).1, .int .i64 (addM s c n).2.1]) ∧ HeapAt w0 (addM s c n).2.2 w' := by
  obtain ⟨ob, rb, h⟩ := h
  have H := Aside0.mk h
  have hnum := h.num
  obtain ⟨f0, f1, f2, f3, f4⟩ := (show HeapAt w0 s W from ⟨ob, rb, h⟩).cells
  have HL := Aside0.mk hlast
  have HREC := Aside0.mk hrec
  clear h hlast hrec
  have hw1 : IntKind.i64.wrap (s.room - s.used) = s.room - s.used := by rw [IntKind.wrap_i64]; omega
  have hw2 : IntKind.i64.wrap (s.room - s.used - 1) = s.room - s.used - 1 := by rw [IntKind.wrap_i64]; omega
  unfold addM
  by_cases cf : n > s.room - s.used - 1
  · rw [if_pos cf]
    have d1 : decide (n > s.room - s.used - 1) = true := decide_eq_true cf
    have d2 : decide (s.room - s.used - 1 < n) = true := decide_eq_true cf
    clear cf
    go_enter Try.func35, Try.ntmps35
    go_wp2
    repeat (go_quiet (fail); try go_wp2)
    go_ret2
    exact ⟨rfl, ob, rb, H.out.step (pw_below_drewN (Below.refl _ _) _)⟩
  · rw [if_neg cf]
    have d1 : decide (n > s.room - s.used - 1) = false := decide_eq_false cf
    have d2 : decide (s.room - s.used - 1 < n) = false := decide_eq_false cf
    have HN := Aside0.mk (show 0 ≤ n ∧ n ≤ 4096 ∧ s.used + (n + 1) ≤ s.room by omega)
    have HNUM := Aside0.mk hnum
    have hw3 : IntKind.i64.wrap (n + 1) = n + 1 := by rw [IntKind.wrap_i64]; omega
    have hw4 : IntKind.i64.wrap (s.used + (n + 1)) = s.used + (n + 1) := by rw [IntKind.wrap_i64]; omega
    have hw5 : IntKind.i64.wrap ((s.last : Int) + 1) = (s.last : Int) + 1 := by rw [IntKind.wrap_i64]; have := HL.out; omega
    clear cf hnum h0 hn
    go_enter Try.func35, Try.ntmps35
    go_wp2
    go_quiet (fail)
    have hd9 := pw_below_drewN (Below.refl W.heap.size W) nq
    replace H := Aside0.mk (H.out.step hd9)
    generalize W.drewN nq = W1 at H ⊢
    clear f0 f1 f2 f3 f4 hd9
    obtain ⟨f0, f1, f2, f3, f4⟩ := (show HeapAt w0 s W1 from ⟨ob, rb, H.out⟩).cells
    have HP := Aside0.mk H.out.mp
    have HDOM := Aside0.mk (show s.m ((s.last : Int) + 1) = none by
      cases hmm : s.m ((s.last : Int) + 1) with
      | none => rfl
      | some q => have := (H.out.dom _ q hmm).2.1; omega)
    go_wp2_with (first | ((with_reducible refine gate_store (t := 3) (p := 28) rfl ?_); refine head_store rfl rfl 2 rfl rfl H.out (by decide) { s with used := s.used + (n + 1) } rfl rfl rfl rfl rfl rfl rfl rfl (Nat.le_refl _) (by have h1 := HN.out; have h2 := HNUM.out; exact ⟨by show 0 ≤ s.used + (n + 1); omega, h1.2.2, h2.2.2⟩) ?_; intro w9 ho hk; replace HP := Aside0.mk (HP.out.block (hk.2 _ HP.out.lt (HP.out.ne H.out.hd))); replace H := Aside0.mk ho; clear ho hk f0 f1 f2 f3 f4; have f3 := blk_cell H.out.hd 3; simp only [HS.cell, List.getElem?_toArray, List.getElem?_cons_zero, List.getElem?_cons_succ] at f3) | ((with_reducible refine gate_store (t := 3) (p := 35) rfl ?_); refine head_store rfl rfl 3 rfl rfl H.out (by decide) { s with used := s.used + (n + 1), last := s.last + 1 } (by simp [HS.cell]) rfl rfl rfl rfl rfl rfl rfl (Nat.le_succ _) (by have h1 := HN.out; have h2 := HNUM.out; exact ⟨by show 0 ≤ s.used + (n + 1); omega, h1.2.2, h2.2.2⟩) ?_; intro w9 ho hk; replace HP := Aside0.mk (HP.out.block (hk.2 _ HP.out.lt (HP.out.ne H.out.hd))); replace H := Aside0.mk ho; clear ho hk f3))
    (try simp only [Act.put, List.setIfInBounds_toArray, List.set_cons_zero, List.set_cons_succ])
    refine wp_region_held_drew (S := fun w' => w'.heap[s.hb]? = some (.cells #[s.vc, .int .i64 s.room, .int .i64 (s.used + (n + 1)), .int .i64 ((s.last : Int) + 1), .map (some s.B)] 50 (0, 0))) (by kernel_rfl) ?_ (fun hHeld => ?_)
    · exact H.out.hd
    replace H : Aside0 (HeapIn w0 { s with used := s.used + (n + 1), last := s.last + 1 } ob rb w9.drew) := ⟨H.out.step (pw_below_drewN (Below.refl _ _) 1)⟩
    replace HP : Aside0 (PMap w9.drew s.B s.last fun x => (s.m x).map fun _ => ob x) := ⟨HP.out⟩
    refine take_dst (i := 0) (v := ?_) 36 rfl rfl (by kernel_rfl) (by kernel_rfl) (by kernel_rfl) (fun _ _ _ h => h) (Or.inl ⟨by rfl, ?_⟩) (by assumption) ?_
    rotate_left
    · intro w hSw
      have f3 := blk_cell hSw 3
      have f4 := blk_cell hSw 4
      go_simp
      try with_reducible rfl
    (try simp only [Act.put, List.setIfInBounds_toArray, List.set_cons_zero, List.set_cons_succ])
    refine take_dst (i := 1) (v := ?_) 37 rfl rfl (by kernel_rfl) (by kernel_rfl) (by kernel_rfl) (fun _ _ _ h => h) (Or.inl ⟨by rfl, ?_⟩) (by assumption) ?_
    rotate_left
    · intro w hSw
      have f3 := blk_cell hSw 3
      have f4 := blk_cell hSw 4
      go_simp
      try with_reducible rfl
    (try simp only [Act.put, List.setIfInBounds_toArray, List.set_cons_zero, List.set_cons_succ])
    refine take_dst (i := 2) (v := ?_) 38 rfl rfl (by kernel_rfl) (by kernel_rfl) (by kernel_rfl) (fun _ _ _ h => h) (Or.inl ⟨by rfl, ?_⟩) (by assumption) ?_
    rotate_left
    · intro w hSw
      have f3 := blk_cell hSw 3
      have f4 := blk_cell hSw 4
      go_simp
      try with_reducible rfl
    (try simp only [Act.put, List.setIfInBounds_toArray, List.set_cons_zero, List.set_cons_succ])
    refine take_dst (i := 3) (v := ?_) 39 rfl rfl (by kernel_rfl) (by kernel_rfl) (by kernel_rfl) (fun _ _ _ h => h) (Or.inl ⟨by rfl, ?_⟩) (by assumption) ?_
    rotate_left
    · intro w hSw
      have f3 := blk_cell hSw 3
      have f4 := blk_cell hSw 4
      go_simp
      try with_reducible rfl
    (try simp only [Act.put, List.setIfInBounds_toArray, List.set_cons_zero, List.set_cons_succ])
    refine take_dst (i := 4) (v := ?_) 40 rfl rfl (by kernel_rfl) (by kernel_rfl) (by kernel_rfl) (fun _ _ _ h => h) (Or.inl ⟨by rfl, ?_⟩) (by assumption) ?_
    rotate_left
    · intro w hSw
      have f3 := blk_cell hSw 3
      have f4 := blk_cell hSw 4
      go_simp
      try with_reducible rfl
    (try simp only [Act.put, List.setIfInBounds_toArray, List.set_cons_zero, List.set_cons_succ])
    refine take_dst (i := 5) (v := ?_) 41 rfl rfl (by kernel_rfl) (by kernel_rfl) (by kernel_rfl) (fun _ _ _ h => h) (Or.inl ⟨by rfl, ?_⟩) (by assumption) ?_
    rotate_left
    · intro w hSw
      have f3 := blk_cell hSw 3
      have f4 := blk_cell hSw 4
      go_simp
      try with_reducible rfl
    (try simp only [Act.put, List.setIfInBounds_toArray, List.set_cons_zero, List.set_cons_succ])
    refine take_dst (i := 6) (v := ?_) 42 rfl rfl (by kernel_rfl) (by kernel_rfl) (by kernel_rfl) (fun _ _ _ h => h) (Or.inl ⟨by rfl, ?_⟩) (by assumption) ?_
    rotate_left
    · intro w hSw
      have f3 := blk_cell hSw 3
      have f4 := blk_cell hSw 4
      go_simp
      try with_reducible rfl
    (try simp only [Act.put, List.setIfInBounds_toArray, List.set_cons_zero, List.set_cons_succ])
    refine take_dst (i := 7) (v := ?_) 43 rfl rfl (by kernel_rfl) (by kernel_rfl) (by kernel_rfl) (fun _ _ _ h => h) (Or.inl ⟨by rfl, ?_⟩) (by assumption) ?_
    rotate_left
    · intro w hSw
      have f3 := blk_cell hSw 3
      have f4 := blk_cell hSw 4
      go_simp
      try with_reducible rfl
    (try simp only [Act.put, List.setIfInBounds_toArray, List.set_cons_zero, List.set_cons_succ])
    refine take_dst (i := 8) (v := ?_) 44 rfl rfl (by kernel_rfl) (by kernel_rfl) (by kernel_rfl) (fun _ _ _ h => h) (Or.inl ⟨by rfl, ?_⟩) (by assumption) ?_
    rotate_left
    · intro w hSw
      have f3 := blk_cell hSw 3
      have f4 := blk_cell hSw 4
      go_simp
      try with_reducible rfl
    (try simp only [Act.put, List.setIfInBounds_toArray, List.set_cons_zero, List.set_cons_succ])
    refine take_dst (i := 9) (v := ?_) 45 rfl rfl (by kernel_rfl) (by kernel_rfl) (by kernel_rfl) (fun _ _ _ h => h) (Or.inl ⟨by rfl, ?_⟩) (by assumption) ?_
    rotate_left
    · intro w hSw
      have f3 := blk_cell hSw 3
      have f4 := blk_cell hSw 4
      go_simp
      try with_reducible rfl
    (try simp only [Act.put, List.setIfInBounds_toArray, List.set_cons_zero, List.set_cons_succ])
    generalize w9.drew = w10 at H HP hHeld ⊢
    refine wpAnyH_ready (rs := [10]) (by kernel_rfl) (by simp) ?_
    refine AllReadyH.cons rfl (fun K hK => ?_) AllReadyH.nil
    have hmk := run_make_ints n HN.out.1 HN.out.2.1 w10
    go_simp
    have hb9 : Below w10.heap.size w10 (w10.alloc (.cells (Array.replicate n.toNat (Value.int .i64 0)) 3)) := below_alloc (Below.refl _ _) _
    have hg9 := blk_new w10 (.cells (Array.replicate n.toNat (Value.int .i64 0)) 3)
    have hs9 : (w10.alloc (.cells (Array.replicate n.toNat (Value.int .i64 0)) 3)).heap.size = w10.heap.size + 1 := by simp
    refine hK.out _ _ (blk_below hHeld hb9) (fun hHeld => ?_)
    obtain ⟨g2, hg2⟩ : ∃ g2, g2 = w10.heap.size := ⟨_, rfl⟩
    have HFR := Aside0.mk (show ∀ k, s.fr k → k < g2 by
      intro k hf
      have h1 := (H.out.keep.2 k hf).1
      have h2 := H.out.keep.1
      have h3 : w10.heap.size = g2 := hg2.symm
      exact Nat.lt_of_lt_of_le h1 (h3 ▸ h2))
    have HLO := Aside0.mk (show (∀ y o, s.m y = some o → ob y < g2 ∧ rb y < g2) ∧ w0.heap.size ≤ g2 by
      rw [hg2]
      exact ⟨fun y o hy => ⟨blk_lt (H.out.obj y o hy).1, blk_lt (H.out.obj y o hy).2⟩, H.out.below.size⟩)
    replace HP := Aside0.mk (HP.out.block (hb9.block _ HP.out.lt))
    replace H := Aside0.mk (H.out.step hb9)
    rw [← hg2] at hg9 hs9 ⊢
    generalize w10.alloc (.cells (Array.replicate n.toNat (Value.int .i64 0)) 3) = w11 at H HP hHeld hg9 hs9 ⊢
    have HG := Aside0.mk hg9
    have HSZ := Aside0.mk hs9
    clear hmk hK K hb9 hg9 hs9 hg2
    (try simp only [Act.put, List.setIfInBounds_toArray, List.set_cons_zero, List.set_cons_succ])
    refine take_dst (i := 11) (v := ?_) 47 rfl rfl (by kernel_rfl) (by kernel_rfl) (by kernel_rfl) (fun _ _ _ h => h) (Or.inl ⟨by rfl, ?_⟩) (by assumption) ?_
    rotate_left
    · intro w hSw
      have f3 := blk_cell hSw 3
      have f4 := blk_cell hSw 4
      go_simp
      try with_reducible rfl
    (try simp only [Act.put, List.setIfInBounds_toArray, List.set_cons_zero, List.set_cons_succ])
    refine wpAnyH_ready (rs := [12]) (by kernel_rfl) (by simp) ?_
    refine AllReadyH.cons rfl (fun K hK => ?_) AllReadyH.nil
    go_simp
    have hb9 : Below w11.heap.size w11 (w11.alloc (.cells #[.int .i64 c, .slice (some ⟨g2, 0, none⟩) n.toNat n.toNat] 82)) := below_alloc (Below.refl _ _) _
    have hg9 := blk_new w11 (.cells #[.int .i64 c, .slice (some ⟨g2, 0, none⟩) n.toNat n.toNat] 82)
    refine hK.out _ _ (blk_below hHeld hb9) (fun hHeld => ?_)
    replace HP := Aside0.mk (HP.out.block (hb9.block _ HP.out.lt))
    replace H := Aside0.mk (H.out.step hb9)
    replace HG := Aside0.mk (blk_below HG.out hb9)
    obtain ⟨g1, hg1⟩ : ∃ g1, g1 = w11.heap.size := ⟨_, rfl⟩
    replace HSZ := Aside0.mk (show g1 = g2 + 1 by rw [hg1]; exact HSZ.out)
    rw [← hg1] at hg9 ⊢
    generalize w11.alloc (.cells #[.int .i64 c, .slice (some ⟨g2, 0, none⟩) n.toNat n.toNat] 82) = w12 at H HP HG hHeld hg9 ⊢
    have HG1 := Aside0.mk hg9
    clear hK K hb9 hg9 hg1
    (try simp only [Act.put, List.setIfInBounds_toArray, List.set_cons_zero, List.set_cons_succ])
    refine wpAnyH_ready (rs := [13]) (by kernel_rfl) (by simp) ?_
    refine AllReadyH.cons rfl (fun K hK => ?_) AllReadyH.nil
    refine Eq.mpr (if_pos (by rfl)) ?_
    refine pm_store_wp rfl rfl HP.out (by have := HL.out; unfold maxLen; omega) (k := (s.last : Int) + 1) (b := g1) rfl rfl (by have := HL.out; constructor <;> omega) ?_
    intro w13 r1 r2
    have hh := H.out.added (x := (s.last : Int) + 1) (c := c) (nums := List.replicate n.toNat 0) (g1 := g1) (g2 := g2) (by simpa using HG1.out) (by simpa using HG.out) (fun y o hy => by have := HLO.out.1 y o hy; have := HSZ.out; exact ⟨by omega, by omega⟩) (by have := HLO.out.2; have := HSZ.out; omega) HLO.out.2 (fun k hf => by have := HFR.out k hf; have := HSZ.out; exact ⟨by omega, by omega⟩) HDOM.out ⟨by omega, by show (s.last : Int) + 1 ≤ ((s.last + 1 : Nat) : Int); omega, by simp; have := HN.out.2.1; omega, fun h9 => ⟨(HREC.out h9).1, by have := (HREC.out h9).2; show (List.replicate n.toNat (0 : Int)).length = (fieldsL s.l c).length; rw [List.length_replicate]; have := HN.out.1; omega⟩, fun y hy => by rw [List.eq_of_mem_replicate hy]; omega⟩ r1 r2
    refine hK.out _ _ hh.hd (fun hHeld => ?_)
    (try simp only [Act.put, List.setIfInBounds_toArray, List.set_cons_zero, List.set_cons_succ])
    have HH := Aside0.mk hh
    have f3 := blk_cell hh.hd 3
    simp only [HS.cell, List.getElem?_toArray, List.getElem?_cons_zero, List.getElem?_cons_succ] at f3
    clear hK K r1 r2 hh H HP
    refine wpAnyH_done (by kernel_rfl) ?_ _
    go_wp2
    go_ret2
    exact ⟨by first | rfl | (simp; done), _, _, HH.out⟩

def rowM (s : HS) (n : Int) : Int × Int × HS := if n < 0 then (0, 5, s) else addM s (-1) n
set_option maxHeartbeats 1600000 in
set_option maxRecDepth 100000 in
theorem hp_Row (w0 : World) (s : HS) (n : Int) (hn : n ≤ 9223372036854775807) (hlast : s.last < 4611686018427387904) (W : World) (h : HeapAt w0 s W) : Calls Try.prog 18 #[.pointer (some ⟨s.hb, 0, none⟩), .int .i64 n] W fun e w' => e = .returned (.tuple #[.int .i64 (rowM s n).1, .int .i64 (rowM s n).2.1]) ∧ HeapAt w0 (rowM s n).2.2 w' := by
  have H := Aside0.mk h
  have HN := Aside0.mk hn
  clear h hn
  unfold rowM
  by_cases c0 : n < 0
  · rw [if_pos c0]
    have d1 : decide (n < 0) = true := decide_eq_true c0
    clear c0
    go_enter Try.func18, Try.ntmps18
    go_wp2_with fail
    refine (hp_made w0 s _ H.out).mono ?_
    rintro e w1 ⟨rfl, hb⟩
    replace H := Aside0.mk (H.out.step hb)
    clear hb
    go_wp2
    go_ret2
    exact ⟨rfl, H.out⟩
  · rw [if_neg c0]
    have d1 : decide (n < 0) = false := decide_eq_false c0
    have H0 := Aside0.mk (show 0 ≤ n by omega)
    clear c0
    go_enter Try.func18, Try.ntmps18
    go_wp2_with fail
    refine (hp_made w0 s _ H.out).mono ?_
    rintro e w1 ⟨rfl, hb⟩
    replace H := Aside0.mk (H.out.step hb)
    clear hb
    go_wp2_with fail
    refine (hp_add w0 s (-1) n H0.out HN.out (fun h9 => by omega) hlast _ H.out).mono ?_
    rintro e w2 ⟨rfl, ha⟩
    have HA := Aside0.mk ha
    clear ha
    go_wp2
    go_ret2
    exact ⟨rfl, HA.out⟩
def recordM (s : HS) (c : Int) : Int × Int × HS := if c < 0 ∨ c ≥ (s.l.length : Int) then (0, 1, s) else addM s c ((fieldsL s.l c).length : Int)
theorem fieldsL_is {l : List S32} {c : Int} {r : List S29} (h : types_Fields.f l c = some r) : r = fieldsL l c ∧ r.length < 5864062014805 := by
  unfold types_Fields.f at h
  split at h
  · rename_i hc
    cases h
    exact ⟨rfl, hc.2⟩
  · cases h
set_option maxHeartbeats 1600000 in
set_option maxRecDepth 100000 in
theorem hp_Record (w0 : World) (s : HS) (c : Int) (r : List S29) (hf : types_Fields.f s.l c = some r) (hlast : s.last < 4611686018427387904) (W : World) (h : HeapAt w0 s W) : Calls Try.prog 10 #[.pointer (some ⟨s.hb, 0, none⟩), .int .i64 c] W fun e w' => e = .returned (.tuple #[.int .i64 (recordM s c).1, .int .i64 (recordM s c).2.1]) ∧ HeapAt w0 (recordM s c).2.2 w' := by
  obtain ⟨ob, rb, h⟩ := h
  obtain ⟨A, cc, hvc⟩ := Kd.R_slice h.cls
  have HVC := Aside0.mk hvc
  have H := Aside0.mk (show HeapAt w0 s W from ⟨ob, rb, h⟩)
  have HF := Aside0.mk hf
  have HFL := Aside0.mk (fieldsL_is hf)
  clear h hf hvc
  unfold recordM
  by_cases cc0 : c < 0 ∨ c ≥ (s.l.length : Int)
  · rw [if_pos cc0]
    by_cases c0 : c < 0
    · have d1 : decide (c < 0) = true := decide_eq_true c0
      clear c0 cc0
      go_enter Try.func10, Try.ntmps10
      go_wp2_with fail
      refine (hp_made w0 s _ H.out).mono ?_
      rintro e w1 ⟨rfl, hb⟩
      replace H := Aside0.mk (H.out.step hb)
      clear hb
      go_wp2
      go_ret2
      exact ⟨rfl, H.out⟩
    · have d1 : decide (c < 0) = false := decide_eq_false c0
      have d2 : decide (c ≥ (s.l.length : Int)) = true := decide_eq_true (by omega)
      have d3 : decide ((s.l.length : Int) ≤ c) = true := decide_eq_true (by omega)
      clear c0 cc0
      go_enter Try.func10, Try.ntmps10
      go_wp2_with fail
      refine (hp_made w0 s _ H.out).mono ?_
      rintro e w1 ⟨rfl, hb⟩
      replace H := Aside0.mk (H.out.step hb)
      clear hb
      have f0 := H.out.cells.1
      rw [HVC.out] at f0
      go_wp2
      go_ret2
      exact ⟨rfl, H.out⟩
  · rw [if_neg cc0]
    have HCL := Aside0.mk (show c < (s.l.length : Int) by omega)
    have d1 : decide (c < 0) = false := decide_eq_false (by omega)
    have d2 : decide (c ≥ (s.l.length : Int)) = false := decide_eq_false (by omega)
    have d3 : decide ((s.l.length : Int) ≤ c) = false := decide_eq_false (by omega)
    clear cc0
    go_enter Try.func10, Try.ntmps10
    go_wp2_with fail
    refine (hp_made w0 s _ H.out).mono ?_
    rintro e w1 ⟨rfl, hb⟩
    replace H := Aside0.mk (H.out.step hb)
    clear hb
    have f0 := H.out.cells.1
    rw [HVC.out] at f0
    have HC := Aside0.mk (show s.l.length ≤ cc ∧ Kd.C k32 w1 A s.l.length s.l by
      obtain ⟨ob, rb, h⟩ := H.out
      have := h.cls
      rw [HVC.out] at this
      exact (Kd.R_reads' this).2)
    go_wp2_with fail
    refine (types_Fields.calls A cc s.l c r _ HC.out.2 HC.out.1 HF.out).mono ?_
    rintro e w2 ⟨v2, rfl, hv2, hb⟩
    obtain ⟨A2, c2, e2⟩ := Kd.R_slice hv2
    subst e2
    replace H := Aside0.mk (H.out.step hb)
    have hrl : (r.length : Int) = ((fieldsL s.l c).length : Int) := by rw [HFL.out.1]
    have HRL := Aside0.mk hrl
    clear hb hv2 f0 hrl
    go_wp2_with fail
    rw [HRL.out]
    refine (hp_add w0 s c ((fieldsL s.l c).length : Int) (by omega) (by have := HFL.out.2; have := HRL.out; omega) (fun _ => ⟨HCL.out, rfl⟩) hlast _ H.out).mono ?_
    rintro e w3 ⟨rfl, ha⟩
    have HA := Aside0.mk ha
    clear ha
    go_wp2
    go_ret2
    exact ⟨rfl, HA.out⟩
end Go.Proofs.Ytkjagcamikkjkaa.P

end

section
namespace Go.Proofs.Ytkjagcamikkjkaa.P
open Go.RowKit Go.Proofs.YtkjagcamikkjkaaW.PrintWords Go.Proofs.YtkjagcamikkjkaaW.PrintLast Go.Proofs.YtkjagcamikkjkaaW.PrintMore
attribute [local go_sem] max2_int min2_int max_two min_two max_three min_three max_four min_four
set_option linter.unusedVariables false
set_option linter.unusedSimpArgs false
theorem uzero (w : World) : (zeroValue 79).run Try.prog w = .ok (.agg #[]) w := by kernel_rfl
def UMap (W : World) (B n : Nat) (g : Int → Bool) : Prop := ∃ D : DataW Unit, W.ownsMap Try.prog 3 unitElem B n D ∧ ∀ x, Maps.has D (.int .i64 x) = g x
theorem UMap.made (w : World) : UMap (w.alloc (.map #[] 0)) w.heap.size 0 (fun _ => false) := ⟨.map [], World.ownsMap_made _ _ _ _, fun _ => rfl⟩
theorem UMap.block {W W1 : World} {B n : Nat} {g : Int → Bool} (h : UMap W B n g) (hb : W1.heap[B]? = W.heap[B]?) : UMap W1 B n g := by
  obtain ⟨D, ⟨es, clock, h1, h2⟩, h3⟩ := h
  exact ⟨D, ⟨es, clock, hb.trans h1, h2⟩, h3⟩
theorem UMap.lt {W : World} {B n : Nat} {g : Int → Bool} (h : UMap W B n g) : B < W.heap.size := by
  obtain ⟨D, h1, _⟩ := h
  exact h1.lt
theorem UMap.ne {W : World} {B n : Nat} {g : Int → Bool} (h : UMap W B n g) {b : Nat} {cs : Array Value} {t : TypeId} {fr : Nat × Nat} (hb : W.heap[b]? = some (.cells cs t fr)) : B ≠ b := fun e => by
  obtain ⟨D, ⟨es, clock, h1, _⟩, _⟩ := h
  rw [e, hb] at h1
  cases h1
section
variable {ops : Array Oper} {rest : List Oper} {o : Oper} {a : Act} {Q : Exit → Act → World → Prop} {K : Act → World → Prop}
theorem um_store (hgd : o.guard = none) {m x v : Operand} (ho : o.op = .mapUpdate 76 m x v) {W : World} {B n : Nat} {g : Int → Bool} (hm : a.eval m = .map (some B)) (hown : UMap W B n g) (hn : n < maxLen) {k : Int} (hx : a.eval x = .int .i64 k) (hv : a.eval v = .agg #[]) (hk : I64 k)
    (h : ∀ w1, UMap w1 B (n + 1) (fun y => decide (y = k) || g y) → W.grownBy w1 (some B) → wpList Try.prog ops Q rest (a.put o.dst undef) w1) : wpList Try.prog ops Q (o :: rest) a W :=
  wpList_plain hgd fun _ hK => by
    obtain ⟨D, h1, h2⟩ := hown
    obtain ⟨w', hrun, r1, r2⟩ := h1.update mkeyed Try.underlying76 hn (Go.Maps.keyOf_int_mk Try.underlying3 hk.wf) unitElem_mk
    have hmm := (h1.tidy mkeyed).isMap
    have hkk : WideAt.IsKeyLit (.int .i64 k) := trivial
    unfold Oper.wp
    simp [execOp, ho, hm, hx, hv, hrun, Result.andThen]
    refine hK _ _ (h _ ⟨_, r1, fun y => ?_⟩ r2)
    by_cases e : y = k
    · subst e
      show _ = (decide (y = y) || g y)
      rw [Maps.has_put_same hmm hkk, decide_eq_true rfl]; rfl
    · show _ = (decide (y = k) || g y)
      rw [Maps.has_put_other (fun e' => e (by cases e'; rfl)), h2, decide_eq_false e]; rfl
theorem um_look (hgd : o.guard = none) {m x : Operand} (ho : o.op = .lookup 76 m x true) {W : World} {B n : Nat} {g : Int → Bool} (hm : a.eval m = .map (some B)) (hown : UMap W B n g) {k : Int} (hx : a.eval x = .int .i64 k) (hk : I64 k)
    (h : wpList Try.prog ops Q rest (a.put o.dst (.tuple #[.agg #[], .bool (g k)])) W) : wpList Try.prog ops Q (o :: rest) a W := by
  obtain ⟨D, h1, h2⟩ := hown
  refine wpList_lookup_own_unit W hgd m x _ ho 3 79 mkeyed Try.underlying76 (uzero _) B n D hm h1 _ _ hx (Go.Maps.keyOf_int_mk Try.underlying3 hk.wf) ?_
  rw [h2 k]
  exact h
end
def meetM (s : HS) (st : List Int × List Int) (x : Int) : List Int × List Int := if (s.m x).isSome = true ∧ x ∉ st.1 then (st.1 ++ [x], st.2 ++ [x]) else st
def memH (l : List Int) (x : Int) : Bool := decide (x ∈ l)
structure MarkIn (w0 w1 : World) (s : HS) (b2 b6 b7 B : Nat) (met op : List Int) (v : Value) (W : World) : Prop where
  rows : Rws w1 [(b7, 37, #[v]), (b6, 76, #[.map (some B)]), (b2, 23, #[.pointer (some ⟨s.hb, 0, none⟩)])] W
  set : UMap W B met.length (memH met)
  base : w1.heap.size ≤ B
  open_ : Kd.R (Kd.int .i64) 3 W w1.heap.size (fun _ => True) v op
theorem MarkIn.below {w0 w1 : World} {s : HS} {b2 b6 b7 B : Nat} {met op : List Int} {v : Value} {W : World} (h : MarkIn w0 w1 s b2 b6 b7 B met op v W) : Below w1.heap.size w1 W := h.rows.below
theorem MarkIn.step {w0 w1 : World} {s : HS} {b2 b6 b7 B : Nat} {met op : List Int} {v : Value} {W W1 : World} (h : MarkIn w0 w1 s b2 b6 b7 B met op v W) (hb : Below W.heap.size W W1) : MarkIn w0 w1 s b2 b6 b7 B met op v W1 := ⟨h.rows.step hb, h.set.block (hb.block _ h.set.lt), h.base, Kd.R_below h.open_ hb⟩
theorem MarkIn.cells {w0 w1 : World} {s : HS} {b2 b6 b7 B : Nat} {met op : List Int} {v : Value} {W : World} (h : MarkIn w0 w1 s b2 b6 b7 B met op v W) : W.cell? ⟨b7, 0, none⟩ = some v ∧ W.cell? ⟨b6, 0, none⟩ = some (.map (some B)) ∧ W.cell? ⟨b2, 0, none⟩ = some (.pointer (some ⟨s.hb, 0, none⟩)) :=
  ⟨blk_cell (h.rows.mem (g := b7) (t := 37) (cs := #[v]) (by simp)) 0, blk_cell (h.rows.mem (g := b6) (t := 76) (cs := #[.map (some B)]) (by simp)) 0, blk_cell (h.rows.mem (g := b2) (t := 23) (cs := #[.pointer (some ⟨s.hb, 0, none⟩)]) (by simp)) 0⟩
def KeptT (W W1 : World) : Prop := W.heap.size ≤ W1.heap.size ∧ ∀ (g : Nat) (cs : Array Value) (t : Nat), W.heap[g]? = some (.cells cs t (0, 0)) → t ≠ (3 : Nat) → t ≠ (37 : Nat) → W1.heap[g]? = some (.cells cs t (0, 0))
theorem KeptT.refl (W : World) : KeptT W W := ⟨Nat.le_refl _, fun _ _ _ h _ _ => h⟩
theorem KeptT.trans {W W1 W2 : World} (h : KeptT W W1) (k : KeptT W1 W2) : KeptT W W2 := ⟨Nat.le_trans h.1 k.1, fun g cs t hg h1 h2 => k.2 g cs t (h.2 g cs t hg h1 h2) h1 h2⟩
theorem KeptT.below {W W1 W2 : World} (h : KeptT W W1) (hb : Below W1.heap.size W1 W2) : KeptT W W2 := h.trans ⟨hb.size, fun g cs t hg _ _ => blk_below hg hb⟩
theorem int_ne (q : Nat) (hq : q ≠ 3) : ∀ t, t ∈ (3 : Nat) :: (Kd.int .i64).E → t ≠ q := by
  intro t ht
  simp [Kd.int, Kd.scalar] at ht
  rw [ht]
  exact fun e => hq e.symm
theorem Rws.besidesH {w0 W W1 : World} {l : List (Nat × TypeId × Array Value)} (h : Rws w0 l W) {v : Value} {e : Nat} (ht : ∀ k, v.ownBlock = some k → ∃ cells, W.heap[k]? = some (.cells cells e (0, 0))) (hne : ∀ p ∈ l, p.2.1 ≠ e) (hg : W.grownBy W1 v.ownBlock) (hb : Below w0.heap.size w0 W1) : Rws w0 l W1 :=
  ⟨fun p hp => ⟨blk_grown (h.lies p hp).1 hg (fun q => by
    obtain ⟨cs, hc⟩ := ht _ q.symm
    rw [(h.lies p hp).1] at hc
    injection hc with hc
    injection hc with _ hc
    exact hne p hp hc), (h.lies p hp).2⟩, h.ne, hb⟩
theorem below_noneH {W W1 : World} (hg : W.grownBy W1 none) : Below W.heap.size W W1 := ⟨hg.os, hg.tape, hg.output, hg.size, fun k hk => hg.block k hk (by simp)⟩
section
variable {ops : Array Oper} {rest : List Oper} {o : Oper} {a : Act} {Q : Exit → Act → World → Prop}
theorem rw_allocH (hgd : o.guard = none) (ty : TypeId) (ho : o.op = .alloc ty) {cs : Array Value} (hz : (Try.prog.info? ty).map (·.zero) = some (some (.agg cs))) {w0 W : World} {l : List (Nat × TypeId × Array Value)} (hl : Rws w0 l W)
    (h : ∀ g w1, Rws w0 ((g, ty, cs) :: l) w1 → Below W.heap.size W w1 → wpList Try.prog ops Q rest (a.put o.dst (.pointer (some ⟨g, 0, none⟩))) w1) : wpList Try.prog ops Q (o :: rest) a W :=
  wpList_plain hgd fun _ hK => rw_alloc_wp ty ho hz hl (fun g w1 _ hX hb => hK _ _ (h g w1 hX hb))
end
theorem memH_add (met : List Int) (x : Int) : (fun y => decide (y = x) || memH met y) = memH (met ++ [x]) := by
  funext y
  unfold memH
  by_cases e : y = x
  · rw [decide_eq_true e, Bool.true_or, decide_eq_true (List.mem_append.2 (.inr (List.mem_singleton.2 e)))]
  · rw [decide_eq_false e, Bool.false_or]
    exact decide_eq_decide.2 ⟨fun h => List.mem_append.2 (.inl h), fun h => (List.mem_append.1 h).elim id (fun h => absurd (List.mem_singleton.1 h) e)⟩
section
variable {ops : Array Oper} {rest : List Oper} {o : Oper} {a : Act} {Q : Exit → Act → World → Prop}
theorem mk_set (hgd : o.guard = none) {m x v : Operand} (ho : o.op = .mapUpdate 76 m x v) {w0 w1 W : World} {s : HS} {b2 b6 b7 B : Nat} {met op : List Int} {u : Value} (H : MarkIn w0 w1 s b2 b6 b7 B met op u W) (hm : a.eval m = .map (some B)) (hn : met.length < maxLen) {k : Int} (hx : a.eval x = .int .i64 k) (hv : a.eval v = .agg #[]) (hk : I64 k)
    (h : ∀ W1, MarkIn w0 w1 s b2 b6 b7 B (met ++ [k]) op u W1 → KeptT W W1 → wpList Try.prog ops Q rest (a.put o.dst undef) W1) : wpList Try.prog ops Q (o :: rest) a W :=
  um_store hgd ho hm H.set hn hx hv hk (fun W1 r1 r2 => h W1 ⟨⟨fun p hp => ⟨blk_grown (H.rows.lies p hp).1 r2 (fun e => H.set.ne (H.rows.lies p hp).1 (Option.some.inj e).symm), (H.rows.lies p hp).2⟩, H.rows.ne, H.below.grown r2 H.below.size (fun k hk => by cases hk; exact H.base)⟩, by rw [List.length_append, List.length_singleton, ← memH_add]; exact r1, H.base, Kd.R_mono (Kd.R_grown (Kd.R_bound H.open_) r2 (fun k hk e => by
    obtain ⟨_, _, _, q, _, cells, hc⟩ := hk
    exact H.set.ne hc (Option.some.inj e).symm)) (fun _ _ => trivial)⟩ ⟨r2.size, fun g cs t hg _ _ => blk_grown hg r2 (fun e => H.set.ne hg (Option.some.inj e).symm)⟩)
structure MarkA (w0 w1 : World) (s : HS) (b2 b6 b7 B : Nat) (met op : List Int) (u v : Value) (W : World) : Prop where
  rows : Rws w1 [(b7, 37, #[u]), (b6, 76, #[.map (some B)]), (b2, 23, #[.pointer (some ⟨s.hb, 0, none⟩)])] W
  set : UMap W B met.length (memH met)
  base : w1.heap.size ≤ B
  open_ : Kd.R (Kd.int .i64) 3 W w1.heap.size (fun _ => True) v op
theorem mk_app (hgd : o.guard = none) {p x : Operand} (ho : o.op = .call { callee := .builtin .append, args := #[p, x], argTypes := #[37, 37] }) {w0 w1 W : World} {s : HS} {b2 b6 b7 B : Nat} {met op : List Int} {v : Value} (k : Int) {A : Option Addr} {c : Nat} (H : MarkIn w0 w1 s b2 b6 b7 B met op v W) (hp : a.eval p = v) (hx : a.eval x = .slice A 1 c) (HL : (Kd.int .i64).C W A 1 [k]) (hlt : op.length < 17592186044416)
    (h : ∀ v1 W1, MarkA w0 w1 s b2 b6 b7 B met (op ++ [k]) v v1 W1 → KeptT W W1 → wpList Try.prog ops Q rest (a.put o.dst v1) W1) : wpList Try.prog ops Q (o :: rest) a W := by
  refine Kd.R_append_rows (Kd.int .i64) (w0 := w1) w1.heap.size hgd p x 37 3 (.int .i64 0) 8 ho Try.underlying37 info3 rfl (by decide) (by omega) v op [k] A 1 c (fun _ => True) (fun _ => False) hp hx H.open_ HL (fun _ _ hh => hh) (fun _ hh => hh.elim) (fun _ _ => trivial) H.below H.below.size (by omega) ?_
  intro v1 W1 h1 h2 h3 h4
  exact h v1 W1 ⟨H.rows.besidesH (Kd.R_typed H.open_) (by intro p hp; simp at hp; rcases hp with rfl | rfl | rfl <;> first | (show (37 : Nat) ≠ 3; decide) | (show (76 : Nat) ≠ 3; decide) | (show (23 : Nat) ≠ 3; decide)) h3 h2, H.set.block (h3.block _ H.set.lt (fun e => by obtain ⟨cs, hc⟩ := Kd.R_typed H.open_ B e.symm; exact H.set.ne hc rfl)), H.base, h1⟩ ⟨h3.size, fun g cs t hg ht _ => blk_grown hg h3 (fun e => by
    obtain ⟨cs2, hc2⟩ := Kd.R_typed H.open_ g e.symm
    rw [hg] at hc2
    injection hc2 with hc2
    injection hc2 with _ hc2
    exact ht hc2)⟩
theorem mk_put (hgd : o.guard = none) {p x : Operand} (ho : o.op = .store 37 p x) {w0 w1 W : World} {s : HS} {b2 b6 b7 B : Nat} {met op : List Int} {u v : Value} (H : MarkA w0 w1 s b2 b6 b7 B met op u v W) (hp : a.eval p = .pointer (some ⟨b7, 0, none⟩)) (hx : a.eval x = v)
    (h : ∀ W1, MarkIn w0 w1 s b2 b6 b7 B met op v W1 → KeptT W W1 → wpList Try.prog ops Q rest (a.put o.dst undef) W1) : wpList Try.prog ops Q (o :: rest) a W := by
  obtain ⟨A, c, e⟩ := Kd.R_slice H.open_
  have hm := H.rows.mem (g := b7) (t := 37) (cs := #[u]) (by simp)
  refine rw_cell hgd 37 ho (i := 0) hp hx (by rw [e]; rfl) [] H.rows (by show (_ : Nat) < 1; decide) (by kernel_rfl) ?_
  intro W1 hX hk
  exact h W1 ⟨hX, H.set.block (hk.2 _ H.set.lt (H.set.ne hm)), H.base, Kd.R_mono (Kd.R_step (Kd.R_types H.open_ hm (int_ne _ (by show (37 : Nat) ≠ 3; decide))) (fun j hj hlt => hk.2 j hlt hj.2)) (fun _ _ => trivial)⟩ ⟨hk.1, fun g cs t hg _ ht => blk_kept hg hk (blk_ne hg hm ht)⟩
end
set_option maxHeartbeats 1600000 in
set_option maxRecDepth 100000 in
theorem hp_meet (w0 w1 : World) (s : HS) (b2 b6 b7 B : Nat) (met op : List Int) (v : Value) (x : Int) (hk : I64 x) (hlt : op.length < 17592186044416) (hlt2 : met.length < 17592186044416) (h0 : HeapAt w0 s w1) (W : World) (h : MarkIn w0 w1 s b2 b6 b7 B met op v W) :
    Calls Try.prog 57 #[.int .i64 x, .pointer (some ⟨b6, 0, none⟩), .pointer (some ⟨b2, 0, none⟩), .pointer (some ⟨b7, 0, none⟩)] W fun e w' => e = .returned (.tuple #[]) ∧ KeptT W w' ∧ ∃ v', MarkIn w0 w1 s b2 b6 b7 B (meetM s (met, op) x).1 (meetM s (met, op) x).2 v' w' := by
  obtain ⟨ob, rb, h0⟩ := h0
  have KT := Aside0.mk (KeptT.refl W)
  have H := Aside0.mk (h0.step h.below)
  have M := Aside0.mk h
  have HK := Aside0.mk hk
  have HLT := Aside0.mk hlt
  have HLT2 := Aside0.mk hlt2
  obtain ⟨A7, c7, e7⟩ := Kd.R_slice h.open_
  subst e7
  clear h0 h hk hlt hlt2
  obtain ⟨k7, k6, k2⟩ := M.out.cells
  have f4 := blk_cell H.out.hd 4
  simp only [HS.cell, List.getElem?_toArray, List.getElem?_cons_zero, List.getElem?_cons_succ] at f4
  unfold meetM
  cases hm : s.m x with
  | none =>
    have HSM := Aside0.mk hm
    have HMB := Aside0.mk (show memH met x = memH met x from rfl)
    rw [if_neg (by simp)]
    clear hm
    go_enter Try.func57, Try.ntmps57
    go_wp2_with (first | ((with_reducible refine gate_dst (N := 5) rfl ?_); refine rw_allocH rfl 79 rfl (cs := #[]) (by kernel_rfl) M.out.rows ?_; intro b5 w_ hX hb9; have hU := blk_cell (hX.mem List.mem_cons_self) 0; replace M := Aside0.mk (M.out.step hb9); replace H := Aside0.mk (H.out.step hb9); replace KT := Aside0.mk (KT.out.below hb9); clear hX hb9 k7 k6 k2 f4; obtain ⟨k7, k6, k2⟩ := M.out.cells; have f4 := blk_cell H.out.hd 4; simp only [HS.cell, List.getElem?_toArray, List.getElem?_cons_zero, List.getElem?_cons_succ] at f4) | ((with_reducible refine gate_dst (N := 11) rfl ?_); refine um_look rfl rfl rfl M.out.set rfl HK.out ?_; rw [HMB.out]) | ((with_reducible refine gate_dst (N := 19) rfl ?_); refine pm_look rfl rfl rfl H.out.mp rfl HK.out ?_; rw [HSM.out]; simp only [Option.map_none, Option.map_some]))
    apply bodyPost_end (results_none rfl _ _ _)
    · rfl
    · exact ⟨rfl, KT.out, _, M.out⟩
  | some o =>
    have HSM := Aside0.mk hm
    by_cases hmem : x ∈ met
    · have HMB := Aside0.mk (show memH met x = true from decide_eq_true hmem)
      rw [if_neg (fun h => h.2 hmem)]
      clear hm hmem
      go_enter Try.func57, Try.ntmps57
      go_wp2_with (first | ((with_reducible refine gate_dst (N := 5) rfl ?_); refine rw_allocH rfl 79 rfl (cs := #[]) (by kernel_rfl) M.out.rows ?_; intro b5 w_ hX hb9; have hU := blk_cell (hX.mem List.mem_cons_self) 0; replace M := Aside0.mk (M.out.step hb9); replace H := Aside0.mk (H.out.step hb9); replace KT := Aside0.mk (KT.out.below hb9); clear hX hb9 k7 k6 k2 f4; obtain ⟨k7, k6, k2⟩ := M.out.cells; have f4 := blk_cell H.out.hd 4; simp only [HS.cell, List.getElem?_toArray, List.getElem?_cons_zero, List.getElem?_cons_succ] at f4) | ((with_reducible refine gate_dst (N := 11) rfl ?_); refine um_look rfl rfl rfl M.out.set rfl HK.out ?_; rw [HMB.out]) | ((with_reducible refine gate_dst (N := 19) rfl ?_); refine pm_look rfl rfl rfl H.out.mp rfl HK.out ?_; rw [HSM.out]; simp only [Option.map_none, Option.map_some]))
      apply bodyPost_end (results_none rfl _ _ _)
      · rfl
      · exact ⟨rfl, KT.out, _, M.out⟩
    · have HMB := Aside0.mk (show memH met x = false from decide_eq_false hmem)
      rw [if_pos ⟨rfl, hmem⟩]
      clear hm hmem
      go_enter Try.func57, Try.ntmps57
      go_wp2_with (first | ((with_reducible refine gate_dst (N := 5) rfl ?_); refine rw_allocH rfl 79 rfl (cs := #[]) (by kernel_rfl) M.out.rows ?_; intro b5 w_ hX hb9; have hU := blk_cell (hX.mem List.mem_cons_self) 0; replace M := Aside0.mk (M.out.step hb9); replace H := Aside0.mk (H.out.step hb9); replace KT := Aside0.mk (KT.out.below hb9); clear hX hb9 k7 k6 k2 f4; obtain ⟨k7, k6, k2⟩ := M.out.cells; have f4 := blk_cell H.out.hd 4; simp only [HS.cell, List.getElem?_toArray, List.getElem?_cons_zero, List.getElem?_cons_succ] at f4) | ((with_reducible refine gate_dst (N := 11) rfl ?_); refine um_look rfl rfl rfl M.out.set rfl HK.out ?_; rw [HMB.out]) | ((with_reducible refine gate_dst (N := 19) rfl ?_); refine pm_look rfl rfl rfl H.out.mp rfl HK.out ?_; rw [HSM.out]; simp only [Option.map_none, Option.map_some]) | (first | ((with_reducible refine gate_dst (N := 31) rfl ?_); refine Kd.R_lit (Kd.int .i64) _ 3 ?hgA (N := 31) ?hdA (xs := ([x] : List Int)) (inner := [.int .i64 x]) (ok := fun _ => True) (okp := fun _ => True) ?hrA ?hpA (fun _ hk => hk) trivial M.out.below M.out.below.size (by simp) ?_; (case hdA => rfl); (case hgA => rfl); (case hrA => first | (go_simp; done) | (go_simp; rfl)); (case hpA => exact (Reps.one (show Kd.M (Kd.int .i64) _ _ _ x [.int .i64 x] from rfl) (Reps.none _ _))); intro v31 w3 ho1 hb1 hg1 _; have hbn := below_noneH hg1; obtain ⟨A3, c3', e3'⟩ := Kd.R_slice ho1; subst e3'; have HL1 := Aside0.mk (Kd.R_reads' ho1).2.2; replace M := Aside0.mk (M.out.step hbn); replace KT := Aside0.mk (KT.out.below hbn); clear ho1 hb1 hg1 hbn k7) | (at_builtin; refine mk_app rfl rfl x M.out rfl rfl HL1.out HLT.out ?_; intro v5 w4 ho hkt; have MA := Aside0.mk ho; replace KT := Aside0.mk (KT.out.trans hkt); clear ho hkt; obtain ⟨A5, c5, e5⟩ := Kd.R_slice MA.out.open_; subst e5) | ((with_reducible refine gate_store (t := 37) (p := 3) rfl ?_); refine mk_put rfl rfl MA.out rfl rfl ?_; intro w6 ho hkt; replace M := Aside0.mk ho; replace KT := Aside0.mk (KT.out.trans hkt); clear ho hkt MA) | (refine mk_set rfl rfl M.out rfl (by have := HLT2.out; unfold maxLen; omega) rfl rfl HK.out ?_; intro w7 ho hkt; replace M := Aside0.mk ho; replace KT := Aside0.mk (KT.out.trans hkt); clear ho hkt k6 k7; obtain ⟨k7, k6, k2⟩ := M.out.cells)))
      apply bodyPost_end (results_none rfl _ _ _)
      · rfl
      · exact ⟨rfl, KT.out, _, M.out⟩
end Go.Proofs.Ytkjagcamikkjkaa.P

end

section
namespace Go.Proofs.Ytkjagcamikkjkaa.P
open Go.RowKit Go.Proofs.YtkjagcamikkjkaaW.PrintWords Go.Proofs.YtkjagcamikkjkaaW.PrintLast Go.Proofs.YtkjagcamikkjkaaW.PrintMore
attribute [local go_sem] max2_int min2_int max_two min_two max_three min_three max_four min_four
set_option linter.unusedVariables false
set_option linter.unusedSimpArgs false
def isRefH (t : Int) : Bool := (types_IsRef.f t).getD false
theorem isRefH_is (t : Int) : types_IsRef.f t = some (isRefH t) := by
  unfold isRefH types_IsRef.f
  split
  · rfl
  · split
    · rfl
    · split
      · rfl
      · rfl
def meetAll (s : HS) (fl : List S29) (nums : List Int) : Nat → List Int × List Int → List Int × List Int
  | 0, st => st
  | i + 1, st => if isRefH (rd_T29 fl (i : Int)).f1 = true then meetM s (meetAll s fl nums i st) (nums.getD i 0) else meetAll s fl nums i st
def fitM (n : Nat) : Bool := decide (n < 8796093022208)
theorem fitM_is {n : Nat} (h : fitM n = true) : n < 8796093022208 := of_decide_eq_true h
def markGo (s : HS) : Nat → List Int × List Int → Option (List Int)
  | 0, _ => none
  | k + 1, st => if st.2.length = 0 then some st.1 else match s.m (st.2.getD (st.2.length - 1) 0) with
    | none => none
    | some o => if (fitM st.1.length && fitM st.2.length) = true then (if o.1 < 0 then markGo s k (st.1, st.2.dropLast) else markGo s k (meetAll s (fieldsL s.l o.1) o.2 (fieldsL s.l o.1).length (st.1, st.2.dropLast))) else none
def rootsM (s : HS) : List Int → List Int × List Int → Option (List Int × List Int)
  | [], st => some st
  | x :: r, st => if x ≠ 0 ∧ s.m x = none then none else rootsM s r (meetM s st x)
def markM (k : Nat) (s : HS) (roots : List Int) : Option (Option (List Int)) := match rootsM s roots ([], []) with
  | none => some none
  | some st => (markGo s k st).map some
theorem meetM_len (s : HS) (st : List Int × List Int) (x : Int) : (meetM s st x).1.length ≤ st.1.length + 1 ∧ (meetM s st x).2.length ≤ st.2.length + 1 := by
  unfold meetM
  split
  · simp
  · simp
theorem meetAll_len (s : HS) (fl : List S29) (nums : List Int) : ∀ (i : Nat) (st : List Int × List Int), (meetAll s fl nums i st).1.length ≤ st.1.length + i ∧ (meetAll s fl nums i st).2.length ≤ st.2.length + i
  | 0, st => ⟨Nat.le_refl _, Nat.le_refl _⟩
  | i + 1, st => by
    have ih := meetAll_len s fl nums i st
    have h := meetM_len s (meetAll s fl nums i st) (nums.getD i 0)
    unfold meetAll
    split
    · exact ⟨by omega, by omega⟩
    · exact ⟨by omega, by omega⟩
def FieldsOK (l : List S32) : Prop := ∀ c : Int, 0 ≤ c → c < (l.length : Int) → types_Fields.f l c = some (fieldsL l c)
theorem MarkIn.last_cell {w0 w1 : World} {s : HS} {b2 b6 b7 B g7 c7 m : Nat} {met q : List Int} {x : Int} {W : World} (h : MarkIn w0 w1 s b2 b6 b7 B met (q ++ [x]) (.slice (some ⟨g7, 0, none⟩) (q ++ [x]).length c7) W) (hm : m = q.length) : W.cell? ⟨g7, m, none⟩ = some (.int .i64 x) := by
  have := (Kd.R_cell 0 h.open_ (m : Int) (by omega) (by rw [List.length_append, List.length_singleton]; omega)).1
  rw [Int.toNat_natCast] at this
  rw [this]
  unfold rdOf
  rw [Int.toNat_natCast, hm]
  simp
theorem MarkIn.pop {w0 w1 : World} {s : HS} {b2 b6 b7 B g7 c7 m : Nat} {met q : List Int} {x : Int} {W : World} (h : MarkIn w0 w1 s b2 b6 b7 B met (q ++ [x]) (.slice (some ⟨g7, 0, none⟩) (q ++ [x]).length c7) W) (hm : m = q.length) : MarkA w0 w1 s b2 b6 b7 B met q (.slice (some ⟨g7, 0, none⟩) (q ++ [x]).length c7) (.slice (some ⟨g7, 0, none⟩) m c7) W :=
  ⟨h.rows, h.set, h.base, by have := Kd.R_take h.open_ (m := m) (by rw [hm]; simp); rwa [show (q ++ [x]).take m = q by rw [hm]; simp] at this⟩
theorem R_keptT {W W1 : World} {base : Nat} {v : Value} {xs : List S29} (h : Kd.R k29 29 W base (fun _ => True) v xs) (hk : KeptT W W1) : Kd.R k29 29 W1 base (fun _ => True) v xs :=
  Kd.R_mono (Kd.R_step (Kd.R_bound h) (fun k hk2 hlt => by
    obtain ⟨_, _, _, q, hq, cells, hc⟩ := hk2
    have hne : ∀ q, q ∈ (29 : Nat) :: k29.E → q ≠ (3 : Nat) ∧ q ≠ (37 : Nat) := by decide
    exact (hk.2 k cells q hc (hne q hq).1 (hne q hq).2).trans hc.symm)) (fun _ _ => trivial)
theorem pm_run {W : World} {B n : Nat} {g : Int → Option Nat} (hown : PMap W B n g) {k : Int} (hk : I64 k) : (Instr.lookup 48 (.map (some B)) (.int .i64 k) false).run Try.prog W = .ok (.pointer ((g k).map fun b => ⟨b, 0, none⟩)) W := by
  obtain ⟨D, h1, h2, h3⟩ := hown
  obtain ⟨v, ps, hrun, hv⟩ := h1.lookup mkeyed Try.underlying48 (pzero W) (show ptrR (.pointer none) = some (.lit (.bool false), []) from rfl) (Go.Maps.keyOf_int_mk Try.underlying3 hk.wf)
  rw [hrun]
  cases hg : g k with
  | none =>
    have h9 := h2 k
    rw [hg] at h9
    rw [Maps.atKey_of_not_has (by simpa using h9)] at hv
    rw [ptrR_inv0 hv]
    rfl
  | some b =>
    rw [h3 k b hg] at hv
    rw [ptrR_inv hv]
    rfl
def MarkPost (w1 : World) (res : Option (List Int)) (e : Ending) (w' : World) : Prop := (res = none ∧ e = .returned (.tuple #[.map none, .bool false])) ∨ ∃ (met : List Int) (B : Nat), res = some met ∧ e = .returned (.tuple #[.map (some B), .bool true]) ∧ w1.heap.size ≤ B ∧ UMap w' B met.length (memH met)
theorem rw_boxH {ops : Array Oper} {rest : List Oper} {o : Oper} {a : Act} {Q : Exit → Act → World → Prop} (hgd : o.guard = none) (ty : TypeId) {x : Operand} (ho : o.op = .box ty x) {v : Value} (hx : a.eval x = v) (h1 : v.oneCell' = true) {w0 W : World} {l : List (Nat × TypeId × Array Value)} (hl : Rws w0 l W)
    (h : ∀ g w1, Rws w0 ((g, ty, #[v]) :: l) w1 → Below W.heap.size W w1 → wpList Try.prog ops Q rest (a.put o.dst (.pointer (some ⟨g, 0, none⟩))) w1) : wpList Try.prog ops Q (o :: rest) a W :=
  Kd.event_run hgd (by
    unfold execOp
    simp only [ho, hx]
    simp [Instr.box, newVar, newRow, one_cells h1, Sem.run_bind]) (h W.heap.size _ (hl.add ty #[v]) (below_alloc (Below.refl _ _) _))
theorem um_make {ops : Array Oper} {rest : List Oper} {o : Oper} {a : Act} {Q : Exit → Act → World → Prop} (hgd : o.guard = none) (ho : o.op = .makeMap 76 none) {W : World} (h : UMap (W.alloc (.map #[] 0)) W.heap.size 0 (fun _ => false) → wpList Try.prog ops Q rest (a.put o.dst (.map (some W.heap.size))) (W.alloc (.map #[] 0))) : wpList Try.prog ops Q (o :: rest) a W :=
  Kd.event_run hgd (by
    unfold execOp
    simp only [ho]
    simp [run_makeMap, Sem.run_bind]) (h (UMap.made W))
theorem wrap_h {i n : Nat} (h : i < n) (hn : n ≤ 9223372036854775807) : wrap64 ((i : Int) + 1) = ((i + 1 : Nat) : Int) := by unfold wrap64; omega
theorem meas_h {j n : Nat} {m : Int} (h : j < n) (e : m = ((j + 1 : Nat) : Int)) : ((n : Int) - intOf (.int .i64 m)).toNat < ((n : Int) - intOf (.int .i64 (j : Int))).toNat := by
  subst e
  show ((n : Int) - ((j + 1 : Nat) : Int)).toNat < ((n : Int) - (j : Int)).toNat
  omega
theorem callFunc_h {f : Nat} {fn : Func} (hf : Try.prog.funcs[f]? = some fn) (hname : (fn.name == "runtime.NumGoroutine") = false) (hb : fn.body.isSome = true) (vs : Array Value) (w : World) : Sem.run Try.prog (callFunc f vs) w = .ok (.enter f vs) w := enters_ hf hname hb vs w
set_option maxHeartbeats 1600000 in
set_option maxRecDepth 100000 in
theorem hp_mark (w0 : World) (s : HS) (k : Nat) (A : Option Addr) (c : Nat) (roots : List Int) (res : Option (List Int)) (W : World) (h : HeapAt w0 s W) (hfo : FieldsOK s.l) (hnl : s.last < 4611686018427387904) (hC : (Kd.int .i64).C W A roots.length roots) (hrk : ∀ y ∈ roots, I64 y) (hrl : roots.length < 17592186044416) (hm : markM k s roots = some res) :
    Calls Try.prog 38 #[.pointer (some ⟨s.hb, 0, none⟩), .slice A roots.length c] W fun e w' => Below W.heap.size W w' ∧ MarkPost W res e w' := by
  have hmf : ∀ (fn : Fn) (first cap : Array Value) (w : World), (Instr.makeFunc fn first cap).run Try.prog w = .ok (.func fn first cap) w := fun _ _ _ _ => rfl
  have hcf := callFunc_h Try.func57 (by kernel_rfl) (by kernel_rfl)
  have H := Aside0.mk h
  have HFO := Aside0.mk hfo
  have HNL := Aside0.mk hnl
  have HC := Aside0.mk hC
  have HRK := Aside0.mk hrk
  have HRL := Aside0.mk hrl
  have HMK := Aside0.mk hm
  clear h hfo hnl hC hrk hrl hm
  go_enter Try.func38, Try.ntmps38
  go_wp2_with (first | ((with_reducible refine gate_dst (N := 2) rfl ?_); refine rw_boxH rfl 23 rfl (v := .pointer (some ⟨s.hb, 0, none⟩)) rfl rfl (Rws.nil W) ?_; intro b2 w_ hX hb9; clear hb9; have HX := Aside0.mk hX; clear hX) | ((with_reducible refine gate_dst (N := 14) rfl ?_); refine um_make rfl rfl ?_; intro hM; have hb9 := below_alloc (Below.refl w_.heap.size w_) (.map #[] 0); have HBB := Aside0.mk HX.out.below.size; replace HX := Aside0.mk (HX.out.step hb9); have HM := Aside0.mk hM; clear hM hb9; obtain ⟨B, hB⟩ : ∃ B, B = w_.heap.size := ⟨_, rfl⟩; rw [← hB] at HM HBB ⊢; clear hB; generalize w_.alloc (.map #[] 0) = w5 at HX HM ⊢) | ((with_reducible refine gate_dst (N := 6) rfl ?_); refine rw_alloc1 rfl 76 rfl (z := .map none) (by kernel_rfl) rfl HX.out ?_; intro b6 w6 hg9 hX hb9; clear hg9; replace HM := Aside0.mk (HM.out.block (hb9.block _ HM.out.lt)); clear hb9; replace HX := Aside0.mk hX; clear hX) | ((with_reducible refine gate_store (t := 76) (p := 6) rfl ?_); refine rw_cell rfl 76 rfl (i := 0) rfl (u := .map (some B)) rfl rfl [] HX.out (by show (0 : Nat) < 1; decide) (by kernel_rfl) ?_; intro w7 hX hk9; replace HM := Aside0.mk (HM.out.block (hk9.2 _ HM.out.lt (HM.out.ne (HX.out.mem List.mem_cons_self)))); clear hk9; replace HX : Aside0 (Rws W [(b6, 76, #[.map (some B)]), (b2, 23, #[.pointer (some ⟨s.hb, 0, none⟩)])] w7) := ⟨hX⟩; clear hX) | ((with_reducible refine gate_dst (N := 7) rfl ?_); refine rw_alloc1 rfl 37 rfl (z := .slice none 0 0) (by kernel_rfl) rfl HX.out ?_; intro b7 w8 hg9 hX hb9; clear hg9; replace HM := Aside0.mk (HM.out.block (hb9.block _ HM.out.lt)); clear hb9; replace HX := Aside0.mk hX; clear hX))
  have M0 : Aside0 (MarkIn w0 W s b2 b6 b7 B [] [] (.slice none 0 0) _) := ⟨⟨HX.out, by have := HM.out; rwa [show memH [] = fun _ => false from by funext y; rfl], HBB.out, Kd.R_nil _ _ _ _ _⟩⟩
  go_loopw [18] (fun v18 wr => ∃ (j : Nat) (met op : List Int) (v : Value), v18 = .int .i64 (j : Int) ∧ j ≤ roots.length ∧ Aside0 (MarkIn w0 W s b2 b6 b7 B met op v wr) ∧ Aside0 (met.length ≤ j ∧ op.length ≤ j) ∧ Aside0 ((match rootsM s (roots.drop j) (met, op) with | none => some none | some st => (markGo s k st).map some) = some res)) (fun v18 _ => ((roots.length : Int) - intOf v18).toNat)
  case atStart => exact ⟨0, [], [], _, rfl, Nat.zero_le _, M0, ⟨Nat.le_refl _, Nat.le_refl _⟩, HMK⟩
  case round =>
    rename_i wr
    clear HX HM M0 HMK
    obtain ⟨j, met, op, v, rfl, hj, M, HLS, HMK⟩ := hrel
    by_cases c1 : j < roots.length
    · obtain ⟨x, hx⟩ : ∃ x, x = rd roots (j : Int) := ⟨_, rfl⟩
      obtain ⟨ad, e1, hxa⟩ := Kd.at_int (Kd.C_below HC.out M.out.below) (j : Int) (by omega) (by omega)
      cases e1
      rw [← hx, Int.toNat_natCast] at hxa
      have hdr : roots.drop j = x :: roots.drop (j + 1) := by rw [List.drop_eq_getElem_cons c1, hx]; unfold rd; rw [Int.toNat_natCast, List.getD_eq_getElem?_getD, List.getElem?_eq_getElem c1]; rfl
      have HK := Aside0.mk (HRK.out x (by have := List.getElem_mem c1; rw [hx]; unfold rd; rw [Int.toNat_natCast, List.getD_eq_getElem?_getD, List.getElem?_eq_getElem c1]; exact this))
      have hmk := HMK.out
      rw [hdr] at hmk
      simp only [rootsM] at hmk
      have HW := Aside0.mk (wrap_h c1 (by have := HRL.out; omega))
      have c1b : decide ((j : Int) < (roots.length : Int)) = true := decide_eq_true (by omega)
      have c1c : decide (j < roots.length) = true := decide_eq_true c1
      have p5 : (0 ≤ (j : Int)) = True := eq_true (by omega)
      have p6 : ((j : Int) < (roots.length : Int)) = True := eq_true (by omega)
      have HJ := Aside0.mk c1
      have HLA : Aside0 (op.length < 17592186044416 ∧ met.length < 17592186044416) := ⟨by have h1 := HLS.out.1; have h2 := HLS.out.2; have h3 := HRL.out; constructor <;> omega⟩
      obtain ⟨ob, rb, hh⟩ := H.out
      have HH := Aside0.mk (hh.step M.out.below)
      obtain ⟨k7, k6, k2⟩ := M.out.cells
      have f4 := blk_cell HH.out.hd 4
      simp only [HS.cell, List.getElem?_toArray, List.getElem?_cons_zero, List.getElem?_cons_succ] at f4
      clear hx hdr c1 hh HMK
      by_cases hbad : x ≠ 0 ∧ s.m x = none
      · rw [if_pos hbad] at hmk
        have HRN := Aside0.mk (Option.some.inj hmk).symm
        have c0b : (x == 0) = false := by rw [beq_eq_false_iff_ne]; exact hbad.1
        have c0c : (x != 0) = true := by rw [bne_iff_ne]; exact hbad.1
        have HSM := Aside0.mk hbad.2
        clear hbad hmk
        go_wp2_with (first | ((with_reducible refine gate_dst (N := 30) rfl ?_); refine gate_guard (by rfl) ?_; dsimp only; refine pm_look rfl rfl rfl HH.out.mp rfl HK.out ?_; rw [HSM.out]; simp only [Option.map_none, Option.map_some]))
        go_ret2
        exact ⟨M.out.below, .inl ⟨HRN.out, rfl⟩⟩
      · rw [if_neg hbad] at hmk
        have HMK := Aside0.mk hmk
        clear hmk
        by_cases c0 : x = 0
        · clear hbad
          subst c0
          go_wp2_with fail
          refine (hp_meet w0 W s b2 b6 b7 B met op v 0 HK.out HLA.out.1 HLA.out.2 H.out wr M.out).mono ?_
          rintro e w9 ⟨rfl, _, v9, hm9⟩
          have M9 := Aside0.mk hm9
          have HL9 := Aside0.mk (meetM_len s (met, op) 0)
          clear hm9 M k7 k6 k2 f4 hxa
          go_wp2
          go_roundw
          case rel => exact ⟨j + 1, _, _, v9, by have e9 := HW.out; first | (rw [e9]; done) | (simp; done), HJ.out, M9, ⟨Nat.le_trans HL9.out.1 (Nat.succ_le_succ HLS.out.1), Nat.le_trans HL9.out.2 (Nat.succ_le_succ HLS.out.2)⟩, HMK⟩
          case measure => exact meas_h HJ.out HW.out
        · obtain ⟨o, hso⟩ : ∃ o, s.m x = some o := by
            cases hmm : s.m x with
            | none => exact absurd ⟨c0, hmm⟩ hbad
            | some o => exact ⟨o, rfl⟩
          have HSM := Aside0.mk hso
          have c0b : (x == 0) = false := by rw [beq_eq_false_iff_ne]; exact c0
          have c0c : (x != 0) = true := by rw [bne_iff_ne]; exact c0
          clear hbad c0 hso
          go_wp2_with (first | ((with_reducible refine gate_dst (N := 30) rfl ?_); refine gate_guard (by rfl) ?_; dsimp only; refine pm_look rfl rfl rfl HH.out.mp rfl HK.out ?_; rw [HSM.out]; simp only [Option.map_none, Option.map_some]))
          refine (hp_meet w0 W s b2 b6 b7 B met op v x HK.out HLA.out.1 HLA.out.2 H.out wr M.out).mono ?_
          rintro e w9 ⟨rfl, _, v9, hm9⟩
          have M9 := Aside0.mk hm9
          have HL9 := Aside0.mk (meetM_len s (met, op) x)
          clear hm9 M k7 k6 k2 f4 hxa
          go_wp2
          go_roundw
          case rel => exact ⟨j + 1, _, _, v9, by have e9 := HW.out; first | (rw [e9]; done) | (simp; done), HJ.out, M9, ⟨Nat.le_trans HL9.out.1 (Nat.succ_le_succ HLS.out.1), Nat.le_trans HL9.out.2 (Nat.succ_le_succ HLS.out.2)⟩, HMK⟩
          case measure => exact meas_h HJ.out HW.out
    · have c1b : decide ((j : Int) < (roots.length : Int)) = false := decide_eq_false (by omega)
      have c1c : decide (j < roots.length) = false := decide_eq_false c1
      have hmk := HMK.out
      rw [List.drop_eq_nil_of_le (by omega)] at hmk
      simp only [rootsM] at hmk
      obtain ⟨rr, hr1, hr2⟩ := Option.map_eq_some_iff.1 hmk
      have HGO := Aside0.mk hr1
      have HRES := Aside0.mk hr2
      clear hmk hr1 hr2 c1 HMK hj
      go_wp2_with fail
      go_loopg [39] k (fun kq v39 wr => ∃ (met op : List Int) (v : Value), Aside0 (MarkIn w0 W s b2 b6 b7 B met op v wr) ∧ Aside0 (markGo s kq (met, op) = some rr))
      case atStart => exact ⟨met, op, v, M, HGO⟩
      case round =>
        clear M HGO HLS
        obtain ⟨met, op, v, M, HGO⟩ := hrel
        cases gk with
        | zero => exact absurd HGO.out (by simp [markGo])
        | succ gk =>
        obtain ⟨A7, c7, e7⟩ := Kd.R_slice M.out.open_
        subst e7
        obtain ⟨k7, k6, k2⟩ := M.out.cells
        rcases List.eq_nil_or_concat op with hop | ⟨q, x, hop⟩
        · subst hop
          have hgo := HGO.out
          unfold markGo at hgo
          rw [if_pos (by rfl)] at hgo
          have HRR := Aside0.mk (Option.some.inj hgo)
          clear hgo HGO
          go_wp2_with fail
          go_ret2
          exact ⟨M.out.below, Or.inr ⟨met, B, by rw [← HRES.out, ← HRR.out], rfl, M.out.base, M.out.set⟩⟩
        · rw [List.concat_eq_append] at hop
          subst hop
          have hgo := HGO.out
          unfold markGo at hgo
          rw [if_neg (by simp)] at hgo
          have hlast : (q ++ [x]).getD ((q ++ [x]).length - 1) 0 = x := by simp
          simp only [hlast, List.dropLast_concat] at hgo
          cases hso : s.m x with
          | none => rw [hso] at hgo; cases hgo
          | some o =>
          rw [hso] at hgo
          simp only at hgo
          by_cases hft : (fitM met.length && fitM (q ++ [x]).length) = true
          case neg => rw [if_neg hft] at hgo; cases hgo
          rw [if_pos hft, ] at hgo
          obtain ⟨m, hm⟩ : ∃ m, m = q.length := ⟨_, rfl⟩
          have hlen1 : (q ++ [x]).length = m + 1 := by rw [hm]; simp
          obtain ⟨g7, c7', e7', _, _, _⟩ := Kd.R_form M.out.open_ (by simp)
          rw [hlen1] at e7'
          injection e7' with e8 _ e9
          subst e8 e9
          have HSO := Aside0.mk hso
          have HM := Aside0.mk hm
          have HLEN1 := Aside0.mk hlen1
          have HGO := Aside0.mk hgo
          rw [Bool.and_eq_true] at hft
          have HFT : Aside0 (met.length < 8796093022208 ∧ m < 8796093022208) := ⟨fitM_is hft.1, by have := fitM_is hft.2; rw [hlen1] at this; omega⟩
          obtain ⟨ob, rb, hh⟩ := H.out
          have HHW := Aside0.mk hh
          have HH := Aside0.mk (hh.step M.out.below)
          have HK := Aside0.mk (show I64 x by have h7 := HH.out.dom x o hso; have h71 := h7.1; have h72 := h7.2.1; have h8 := HNL.out; constructor <;> omega)
          have hwm : IntKind.i64.wrap (((m + 1 : Nat) : Int) - 1) = (m : Int) := by rw [IntKind.wrap_i64]; have := HFT.out.2; omega
          have hwm2 : IntKind.i64.wrap (m : Int) = (m : Int) := by rw [IntKind.wrap_i64]; have := HFT.out.2; omega
          have p7 : ((m : Int) < (m : Int) + 1) = True := eq_true (by omega)
          have p5 : (0 ≤ (m : Int)) = True := eq_true (by omega)
          have p6 : ((m : Int) < ((m + 1 : Nat) : Int)) = True := eq_true (by omega)
          rw [hlen1] at k7
          have t1 : decide (((m + 1 : Nat) : Int) > 0) = true := decide_eq_true (by omega)
          have t2 : decide ((0 : Int) < ((m + 1 : Nat) : Int)) = true := decide_eq_true (by omega)
          have t3 : decide (0 < m + 1) = true := decide_eq_true (by omega)
          clear hlast hso hgo hm hft hlen1 hh
          go_wp2_with fail
          (try simp only [Act.put, List.setIfInBounds_toArray, List.set_cons_zero, List.set_cons_succ])
          refine wp_region_held_drew (S := fun w' => MarkIn w0 W s b2 b6 b7 B met (q ++ [x]) (.slice (some ⟨g7, 0, none⟩) (q ++ [x]).length c7) w' ∧ HeapIn w0 s ob rb w') (by kernel_rfl) ?_ (fun hHeld => ?_)
          · exact ⟨M.out.step (pw_below_drewN (Below.refl _ _) 1), HH.out.step (pw_below_drewN (Below.refl _ _) 1)⟩
          clear k7 k6 k2 M HH t1 t2 t3
          refine take_dst (i := 0) (v := ?_) 40 rfl rfl (by kernel_rfl) (by kernel_rfl) (by kernel_rfl) (fun _ _ _ h => h) (Or.inl ⟨by rfl, ?_⟩) (by assumption) ?_
          rotate_left
          · intro w hSw
            obtain ⟨k7, k6, k2⟩ := hSw.1.cells
            rw [HLEN1.out] at k7
            have f4 := blk_cell hSw.2.hd 4
            simp only [HS.cell, List.getElem?_toArray, List.getElem?_cons_zero, List.getElem?_cons_succ] at f4
            go_simp
            try with_reducible rfl
          (try simp only [Act.put, List.setIfInBounds_toArray, List.set_cons_zero, List.set_cons_succ])
          refine take_dst (i := 1) (v := ?_) 41 rfl rfl (by kernel_rfl) (by kernel_rfl) (by kernel_rfl) (fun _ _ _ h => h) (Or.inl ⟨by rfl, ?_⟩) (by assumption) ?_
          rotate_left
          · intro w hSw
            obtain ⟨k7, k6, k2⟩ := hSw.1.cells
            rw [HLEN1.out] at k7
            have f4 := blk_cell hSw.2.hd 4
            simp only [HS.cell, List.getElem?_toArray, List.getElem?_cons_zero, List.getElem?_cons_succ] at f4
            go_simp
            try with_reducible rfl
          (try simp only [Act.put, List.setIfInBounds_toArray, List.set_cons_zero, List.set_cons_succ])
          refine take_dst (i := 2) (v := ?_) 42 rfl rfl (by kernel_rfl) (by kernel_rfl) (by kernel_rfl) (fun _ _ _ h => h) (Or.inl ⟨by rfl, ?_⟩) (by assumption) ?_
          rotate_left
          · intro w hSw
            obtain ⟨k7, k6, k2⟩ := hSw.1.cells
            rw [HLEN1.out] at k7
            have f4 := blk_cell hSw.2.hd 4
            simp only [HS.cell, List.getElem?_toArray, List.getElem?_cons_zero, List.getElem?_cons_succ] at f4
            go_simp
            try with_reducible rfl
          (try simp only [Act.put, List.setIfInBounds_toArray, List.set_cons_zero, List.set_cons_succ])
          refine take_dst (i := 3) (v := ?_) 43 rfl rfl (by kernel_rfl) (by kernel_rfl) (by kernel_rfl) (fun _ _ _ h => h) (Or.inl ⟨by rfl, ?_⟩) (by assumption) ?_
          rotate_left
          · intro w hSw
            obtain ⟨k7, k6, k2⟩ := hSw.1.cells
            rw [HLEN1.out] at k7
            have f4 := blk_cell hSw.2.hd 4
            simp only [HS.cell, List.getElem?_toArray, List.getElem?_cons_zero, List.getElem?_cons_succ] at f4
            go_simp
            try with_reducible rfl
          (try simp only [Act.put, List.setIfInBounds_toArray, List.set_cons_zero, List.set_cons_succ])
          refine take_dst (i := 4) (v := ?_) 44 rfl rfl (by kernel_rfl) (by kernel_rfl) (by kernel_rfl) (fun _ _ _ h => h) (Or.inl ⟨by rfl, ?_⟩) (by assumption) ?_
          rotate_left
          · intro w hSw
            obtain ⟨k7, k6, k2⟩ := hSw.1.cells
            rw [HLEN1.out] at k7
            have f4 := blk_cell hSw.2.hd 4
            simp only [HS.cell, List.getElem?_toArray, List.getElem?_cons_zero, List.getElem?_cons_succ] at f4
            go_simp
            try with_reducible rfl
          (try simp only [Act.put, List.setIfInBounds_toArray, List.set_cons_zero, List.set_cons_succ])
          refine take_dst (i := 5) (v := ?_) 45 rfl rfl (by kernel_rfl) (by kernel_rfl) (by kernel_rfl) (fun _ _ _ h => h) (Or.inl ⟨by rfl, ?_⟩) (by assumption) ?_
          rotate_left
          · intro w hSw
            obtain ⟨k7, k6, k2⟩ := hSw.1.cells
            rw [HLEN1.out] at k7
            have f4 := blk_cell hSw.2.hd 4
            simp only [HS.cell, List.getElem?_toArray, List.getElem?_cons_zero, List.getElem?_cons_succ] at f4
            go_simp
            try with_reducible rfl
          (try simp only [Act.put, List.setIfInBounds_toArray, List.set_cons_zero, List.set_cons_succ])
          refine take_dst (i := 6) (v := ?_) 46 rfl rfl (by kernel_rfl) (by kernel_rfl) (by kernel_rfl) (fun _ _ _ h => h) (Or.inl ⟨by rfl, ?_⟩) (by assumption) ?_
          rotate_left
          · intro w hSw
            obtain ⟨k7, k6, k2⟩ := hSw.1.cells
            rw [HLEN1.out] at k7
            have f4 := blk_cell hSw.2.hd 4
            simp only [HS.cell, List.getElem?_toArray, List.getElem?_cons_zero, List.getElem?_cons_succ] at f4
            go_simp
            try with_reducible rfl
          (try simp only [Act.put, List.setIfInBounds_toArray, List.set_cons_zero, List.set_cons_succ])
          refine take_dst (i := 7) (v := ?_) 47 rfl rfl (by kernel_rfl) (by kernel_rfl) (by kernel_rfl) (fun _ _ _ h => h) (Or.inl ⟨by rfl, ?_⟩) (by assumption) ?_
          rotate_left
          · intro w hSw
            obtain ⟨k7, k6, k2⟩ := hSw.1.cells
            rw [HLEN1.out] at k7
            have f4 := blk_cell hSw.2.hd 4
            simp only [HS.cell, List.getElem?_toArray, List.getElem?_cons_zero, List.getElem?_cons_succ] at f4
            go_simp
            try with_reducible rfl
          (try simp only [Act.put, List.setIfInBounds_toArray, List.set_cons_zero, List.set_cons_succ])
          refine take_dst (i := 8) (v := ?_) 48 rfl rfl (by kernel_rfl) (by kernel_rfl) (by kernel_rfl) (fun _ _ _ h => h) (Or.inl ⟨by rfl, ?_⟩) (by assumption) ?_
          rotate_left
          · intro w hSw
            obtain ⟨k7, k6, k2⟩ := hSw.1.cells
            rw [HLEN1.out] at k7
            have f4 := blk_cell hSw.2.hd 4
            simp only [HS.cell, List.getElem?_toArray, List.getElem?_cons_zero, List.getElem?_cons_succ] at f4
            go_simp
            try with_reducible rfl
          (try simp only [Act.put, List.setIfInBounds_toArray, List.set_cons_zero, List.set_cons_succ])
          refine take_dst (i := 9) (v := ?_) 49 rfl rfl (by kernel_rfl) (by kernel_rfl) (by kernel_rfl) (fun _ _ _ h => h) (Or.inl ⟨by rfl, ?_⟩) (by assumption) ?_
          rotate_left
          · intro w hSw
            obtain ⟨k7, k6, k2⟩ := hSw.1.cells
            rw [HLEN1.out] at k7
            have f4 := blk_cell hSw.2.hd 4
            simp only [HS.cell, List.getElem?_toArray, List.getElem?_cons_zero, List.getElem?_cons_succ] at f4
            have hcell := hSw.1.last_cell HM.out
            go_simp
            try with_reducible rfl
          (try simp only [Act.put, List.setIfInBounds_toArray, List.set_cons_zero, List.set_cons_succ])
          refine take_dst (i := 10) (v := ?_) 50 rfl rfl (by kernel_rfl) (by kernel_rfl) (by kernel_rfl) (fun _ _ _ h => h) (Or.inl ⟨by rfl, ?_⟩) (by assumption) ?_
          rotate_left
          · intro w hSw
            obtain ⟨k7, k6, k2⟩ := hSw.1.cells
            rw [HLEN1.out] at k7
            have f4 := blk_cell hSw.2.hd 4
            simp only [HS.cell, List.getElem?_toArray, List.getElem?_cons_zero, List.getElem?_cons_succ] at f4
            have hlk := pm_run hSw.2.mp HK.out
            rw [HSO.out] at hlk
            simp only [Option.map_some] at hlk
            go_simp
            try with_reducible rfl
          (try simp only [Act.put, List.setIfInBounds_toArray, List.set_cons_zero, List.set_cons_succ])
          refine take_dst (i := 11) (v := ?_) 11 rfl rfl (by kernel_rfl) (by kernel_rfl) (by kernel_rfl) (fun _ _ _ h => h) (Or.inl ⟨by rfl, ?_⟩) (by assumption) ?_
          rotate_left
          · intro w hSw
            obtain ⟨k7, k6, k2⟩ := hSw.1.cells
            rw [HLEN1.out] at k7
            have f4 := blk_cell hSw.2.hd 4
            simp only [HS.cell, List.getElem?_toArray, List.getElem?_cons_zero, List.getElem?_cons_succ] at f4
            go_simp
            try with_reducible rfl
          (try simp only [Act.put, List.setIfInBounds_toArray, List.set_cons_zero, List.set_cons_succ])
          have M := Aside0.mk hHeld.1
          have HH := Aside0.mk hHeld.2
          refine wpAnyH_done (by kernel_rfl) ?_ _
          clear hHeld
          generalize wr.drew = wr3 at M HH ⊢
          obtain ⟨k7, k6, k2⟩ := M.out.cells
          rw [HLEN1.out] at k7
          have g0 := blk_cell (HH.out.obj x o HSO.out).1 0
          simp only [List.getElem?_toArray, List.getElem?_cons_zero, List.getElem?_cons_succ] at g0
          have hcap := (Kd.R_reads' M.out.open_).2.1
          rw [HLEN1.out] at hcap
          have hmx : m + 1 ≤ 9223372036854775807 := by have := HFT.out.2; omega
          by_cases cn : o.1 < 0
          · have d1 : decide (o.1 < 0) = true := decide_eq_true cn
            have hgo := HGO.out
            rw [if_pos cn] at hgo
            have HG2 := Aside0.mk hgo
            clear cn hgo HGO
            go_wp2_with (first | ((with_reducible refine gate_store (t := 37) (p := 7) rfl ?_); refine mk_put rfl rfl (v := .slice (some ⟨g7, 0, none⟩) m c7) (M.out.pop HM.out) rfl rfl ?_; intro w6 ho hkt; clear hkt; replace HH := Aside0.mk (HHW.out.step ho.below); replace M := Aside0.mk ho; clear ho k7 k6 k2 g0; have g0 := blk_cell (HH.out.obj x o HSO.out).1 0; simp only [List.getElem?_toArray, List.getElem?_cons_zero, List.getElem?_cons_succ] at g0))
            go_roundg gk
            case measure => omega
            case rel => exact ⟨met, q, _, M, HG2⟩
          · have d1 : decide (o.1 < 0) = false := decide_eq_false cn
            have hgo := HGO.out
            rw [if_neg cn] at hgo
            have HG2 := Aside0.mk hgo
            have HCN := Aside0.mk cn
            clear cn hgo HGO
            go_wp2_with (first | ((with_reducible refine gate_store (t := 37) (p := 7) rfl ?_); refine mk_put rfl rfl (v := .slice (some ⟨g7, 0, none⟩) m c7) (M.out.pop HM.out) rfl rfl ?_; intro w6 ho hkt; clear hkt; replace HH := Aside0.mk (HHW.out.step ho.below); replace M := Aside0.mk ho; clear ho k7 k6 k2 g0; have g0 := blk_cell (HH.out.obj x o HSO.out).1 0; simp only [List.getElem?_toArray, List.getElem?_cons_zero, List.getElem?_cons_succ] at g0))
            obtain ⟨Ac, cc, hvc⟩ := Kd.R_slice HH.out.cls
            have HVC := Aside0.mk hvc
            have HREC := Aside0.mk ((HH.out.dom x o HSO.out).2.2.2.1 (by have := HCN.out; omega))
            have HNUMS := Aside0.mk ((HH.out.dom x o HSO.out).2.2.2.2)
            obtain ⟨fl, hfl⟩ : ∃ fl, fl = fieldsL s.l o.1 := ⟨_, rfl⟩
            have HFL := Aside0.mk (show types_Fields.f s.l o.1 = some fl by rw [hfl]; exact HFO.out o.1 (by have := HCN.out; omega) HREC.out.1)
            rw [← hfl] at HG2 HREC
            clear hvc d1 hfl g0
            (try simp only [Act.put, List.setIfInBounds_toArray, List.set_cons_zero, List.set_cons_succ])
            refine wp_region_held_drew (S := fun w' => MarkIn w0 W s b2 b6 b7 B met q (.slice (some ⟨g7, 0, none⟩) m c7) w' ∧ HeapIn w0 s ob rb w') (by kernel_rfl) ?_ (fun hHeld => ?_)
            · exact ⟨M.out.step (pw_below_drewN (Below.refl _ _) 1), HH.out.step (pw_below_drewN (Below.refl _ _) 1)⟩
            clear M HH
            refine take_dst (i := 0) (v := ?_) 61 rfl rfl (by kernel_rfl) (by kernel_rfl) (by kernel_rfl) (fun _ _ _ h => h) (Or.inl ⟨by rfl, ?_⟩) (by assumption) ?_
            rotate_left
            · intro w hSw
              obtain ⟨k7, k6, k2⟩ := hSw.1.cells
              have f0 := blk_cell hSw.2.hd 0
              have g0 := blk_cell (hSw.2.obj x o HSO.out).1 0
              simp only [HS.cell, List.getElem?_toArray, List.getElem?_cons_zero, List.getElem?_cons_succ, HVC.out] at f0 g0
              go_simp
              try with_reducible rfl
            (try simp only [Act.put, List.setIfInBounds_toArray, List.set_cons_zero, List.set_cons_succ])
            refine take_dst (i := 1) (v := ?_) 62 rfl rfl (by kernel_rfl) (by kernel_rfl) (by kernel_rfl) (fun _ _ _ h => h) (Or.inl ⟨by rfl, ?_⟩) (by assumption) ?_
            rotate_left
            · intro w hSw
              obtain ⟨k7, k6, k2⟩ := hSw.1.cells
              have f0 := blk_cell hSw.2.hd 0
              have g0 := blk_cell (hSw.2.obj x o HSO.out).1 0
              simp only [HS.cell, List.getElem?_toArray, List.getElem?_cons_zero, List.getElem?_cons_succ, HVC.out] at f0 g0
              go_simp
              try with_reducible rfl
            (try simp only [Act.put, List.setIfInBounds_toArray, List.set_cons_zero, List.set_cons_succ])
            refine take_dst (i := 2) (v := ?_) 63 rfl rfl (by kernel_rfl) (by kernel_rfl) (by kernel_rfl) (fun _ _ _ h => h) (Or.inl ⟨by rfl, ?_⟩) (by assumption) ?_
            rotate_left
            · intro w hSw
              obtain ⟨k7, k6, k2⟩ := hSw.1.cells
              have f0 := blk_cell hSw.2.hd 0
              have g0 := blk_cell (hSw.2.obj x o HSO.out).1 0
              simp only [HS.cell, List.getElem?_toArray, List.getElem?_cons_zero, List.getElem?_cons_succ, HVC.out] at f0 g0
              go_simp
              try with_reducible rfl
            (try simp only [Act.put, List.setIfInBounds_toArray, List.set_cons_zero, List.set_cons_succ])
            refine take_dst (i := 3) (v := ?_) 64 rfl rfl (by kernel_rfl) (by kernel_rfl) (by kernel_rfl) (fun _ _ _ h => h) (Or.inl ⟨by rfl, ?_⟩) (by assumption) ?_
            rotate_left
            · intro w hSw
              obtain ⟨k7, k6, k2⟩ := hSw.1.cells
              have f0 := blk_cell hSw.2.hd 0
              have g0 := blk_cell (hSw.2.obj x o HSO.out).1 0
              simp only [HS.cell, List.getElem?_toArray, List.getElem?_cons_zero, List.getElem?_cons_succ, HVC.out] at f0 g0
              go_simp
              try with_reducible rfl
            (try simp only [Act.put, List.setIfInBounds_toArray, List.set_cons_zero, List.set_cons_succ])
            refine take_dst (i := 4) (v := ?_) 65 rfl rfl (by kernel_rfl) (by kernel_rfl) (by kernel_rfl) (fun _ _ _ h => h) (Or.inl ⟨by rfl, ?_⟩) (by assumption) ?_
            rotate_left
            · intro w hSw
              obtain ⟨k7, k6, k2⟩ := hSw.1.cells
              have f0 := blk_cell hSw.2.hd 0
              have g0 := blk_cell (hSw.2.obj x o HSO.out).1 0
              simp only [HS.cell, List.getElem?_toArray, List.getElem?_cons_zero, List.getElem?_cons_succ, HVC.out] at f0 g0
              go_simp
              try with_reducible rfl
            (try simp only [Act.put, List.setIfInBounds_toArray, List.set_cons_zero, List.set_cons_succ])
            refine take_dst (i := 5) (v := ?_) 66 rfl rfl (by kernel_rfl) (by kernel_rfl) (by kernel_rfl) (fun _ _ _ h => h) (Or.inl ⟨by rfl, ?_⟩) (by assumption) ?_
            rotate_left
            · intro w hSw
              obtain ⟨k7, k6, k2⟩ := hSw.1.cells
              have f0 := blk_cell hSw.2.hd 0
              have g0 := blk_cell (hSw.2.obj x o HSO.out).1 0
              simp only [HS.cell, List.getElem?_toArray, List.getElem?_cons_zero, List.getElem?_cons_succ, HVC.out] at f0 g0
              go_simp
              try with_reducible rfl
            (try simp only [Act.put, List.setIfInBounds_toArray, List.set_cons_zero, List.set_cons_succ])
            refine take_dst (i := 6) (v := ?_) 67 rfl rfl (by kernel_rfl) (by kernel_rfl) (by kernel_rfl) (fun _ _ _ h => h) (Or.inl ⟨by rfl, ?_⟩) (by assumption) ?_
            rotate_left
            · intro w hSw
              obtain ⟨k7, k6, k2⟩ := hSw.1.cells
              have f0 := blk_cell hSw.2.hd 0
              have g0 := blk_cell (hSw.2.obj x o HSO.out).1 0
              simp only [HS.cell, List.getElem?_toArray, List.getElem?_cons_zero, List.getElem?_cons_succ, HVC.out] at f0 g0
              go_simp
              try with_reducible rfl
            (try simp only [Act.put, List.setIfInBounds_toArray, List.set_cons_zero, List.set_cons_succ])
            refine take_dst (i := 7) (v := ?_) 68 rfl rfl (by kernel_rfl) (by kernel_rfl) (by kernel_rfl) (fun _ _ _ h => h) (Or.inl ⟨by rfl, ?_⟩) (by assumption) ?_
            rotate_left
            · intro w hSw
              obtain ⟨k7, k6, k2⟩ := hSw.1.cells
              have f0 := blk_cell hSw.2.hd 0
              have g0 := blk_cell (hSw.2.obj x o HSO.out).1 0
              simp only [HS.cell, List.getElem?_toArray, List.getElem?_cons_zero, List.getElem?_cons_succ, HVC.out] at f0 g0
              go_simp
              try with_reducible rfl
            (try simp only [Act.put, List.setIfInBounds_toArray, List.set_cons_zero, List.set_cons_succ])
            refine take_dst (i := 10) (v := ?_) 71 rfl rfl (by kernel_rfl) (by kernel_rfl) (by kernel_rfl) (fun _ _ _ h => h) (Or.inl ⟨by rfl, ?_⟩) (by assumption) ?_
            rotate_left
            · intro w hSw
              obtain ⟨k7, k6, k2⟩ := hSw.1.cells
              have f0 := blk_cell hSw.2.hd 0
              have g0 := blk_cell (hSw.2.obj x o HSO.out).1 0
              simp only [HS.cell, List.getElem?_toArray, List.getElem?_cons_zero, List.getElem?_cons_succ, HVC.out] at f0 g0
              go_simp
              try with_reducible rfl
            (try simp only [Act.put, List.setIfInBounds_toArray, List.set_cons_zero, List.set_cons_succ])
            generalize w6.drew = w6d at hHeld ⊢
            have HCC := Aside0.mk (show s.l.length ≤ cc ∧ Kd.C k32 w6d Ac s.l.length s.l by
              have := hHeld.2.cls
              rw [HVC.out] at this
              exact (Kd.R_reads' this).2)
            refine wpAnyH_ready (rs := [8]) (by kernel_rfl) (by simp) ?_
            refine AllReadyH.cons rfl (fun K hK => ?_) AllReadyH.nil
            go_simp
            refine (types_Fields.calls Ac cc s.l o.1 fl _ HCC.out.2 HCC.out.1 HFL.out).mono ?_
            rintro e w9 ⟨v9, rfl, hf9, hb9⟩
            obtain ⟨A9, c9, e9⟩ := Kd.R_slice hf9
            subst e9
            have h9 := And.intro (hHeld.1.step hb9) (hHeld.2.step hb9)
            have HF := Aside0.mk (Kd.R_lower hf9 hHeld.1.below.size)
            go_simp
            refine hK.out _ _ h9 (fun hHeld => ?_)
            (try simp only [Act.put, List.setIfInBounds_toArray, List.set_cons_zero, List.set_cons_succ])
            clear hK K h9 hf9 hb9 HCC
            refine take_dst (i := 9) (v := ?_) 70 rfl rfl (by kernel_rfl) (by kernel_rfl) (by kernel_rfl) (fun _ _ _ h => h) (Or.inl ⟨by rfl, ?_⟩) (by assumption) ?_
            rotate_left
            · intro w hSw
              obtain ⟨k7, k6, k2⟩ := hSw.1.cells
              have f0 := blk_cell hSw.2.hd 0
              have g0 := blk_cell (hSw.2.obj x o HSO.out).1 0
              simp only [HS.cell, List.getElem?_toArray, List.getElem?_cons_zero, List.getElem?_cons_succ, HVC.out] at f0 g0
              go_simp
              try with_reducible rfl
            (try simp only [Act.put, List.setIfInBounds_toArray, List.set_cons_zero, List.set_cons_succ])
            have M := Aside0.mk hHeld.1
            refine wpAnyH_done (by kernel_rfl) ?_ _
            clear hHeld
            have HRLEN := Aside0.mk (show fl.length < 8796093022208 by have := HREC.out.2; have h4 := (show o.2.length ≤ 4096 from (HHW.out.dom x o HSO.out).2.2.1); omega)
            go_wp2_with fail
            go_loopw [71] (fun v71 wr => ∃ (i : Nat) (met2 op2 : List Int) (v : Value), v71 = .int .i64 (i : Int) ∧ i ≤ fl.length ∧ Aside0 (MarkIn w0 W s b2 b6 b7 B met2 op2 v wr) ∧ Aside0 ((met2, op2) = meetAll s fl o.2 i (met, q)) ∧ Aside0 (Kd.R k29 29 wr W.heap.size (fun _ => True) (.slice A9 fl.length c9) fl)) (fun v71 _ => ((fl.length : Int) - intOf v71).toNat)
            case atStart => exact ⟨0, met, q, _, rfl, Nat.zero_le _, M, ⟨rfl⟩, HF⟩
            case round =>
              clear M HF
              obtain ⟨i, met2, op2, v, rfl, hi, M, HST, HF⟩ := hrel
              by_cases c1 : i < fl.length
              · obtain ⟨y, hy⟩ : ∃ y, y = rd_T29 fl (i : Int) := ⟨_, rfl⟩
                obtain ⟨ad9, e1, h0, h1⟩ := at_T29 (Kd.R_reads' HF.out).2.2 (i : Int) (by omega) (by omega)
                cases e1
                rw [← hy, Int.toNat_natCast] at h0 h1
                have HI := Aside0.mk c1
                have HW := Aside0.mk (wrap_h c1 (by have := HRLEN.out; omega))
                have c1b : decide ((i : Int) < (fl.length : Int)) = true := decide_eq_true (by omega)
                have c1c : decide (i < fl.length) = true := decide_eq_true c1
                have p5 : (0 ≤ (i : Int)) = True := eq_true (by omega)
                have p6 : ((i : Int) < (fl.length : Int)) = True := eq_true (by omega)
                have p8 : ((i : Int) < (o.2.length : Int)) = True := eq_true (by have := HREC.out.2; omega)
                have hml := meetAll_len s fl o.2 i (met, q)
                rw [← HST.out] at hml
                have HLA : Aside0 (op2.length < 17592186044416 ∧ met2.length < 17592186044416) := ⟨by have h1 := hml.1; have h2 := hml.2; have h3 := HFT.out.1; have h4 := HFT.out.2; have h5 := HRLEN.out; have h6 := HM.out; simp only at h1 h2; constructor <;> omega⟩
                have hstep : meetAll s fl o.2 (i + 1) (met, q) = if isRefH y.f1 = true then meetM s (met2, op2) (o.2.getD i 0) else (met2, op2) := by rw [meetAll, ← HST.out, ← hy]
                have HSTEP := Aside0.mk hstep
                have HY := Aside0.mk (show I64 (o.2.getD i 0) by
                  have hlt : i < o.2.length := by have := HREC.out.2; omega
                  have hmem : o.2.getD i 0 ∈ o.2 := by rw [List.getD_eq_getElem?_getD, List.getElem?_eq_getElem hlt]; exact List.getElem_mem hlt
                  have := HNUMS.out _ hmem
                  constructor <;> omega)
                clear hy hml hstep c1
                go_wp2_with fail
                have hb9 := below_alloc (Below.refl wr.heap.size wr) (.cells #[.string y.f0, .int .u8 y.f1] 29)
                replace M := Aside0.mk (M.out.step hb9)
                replace HF := Aside0.mk (Kd.R_below HF.out hb9)
                clear hb9 h0 h1
                refine (types_IsRef.calls y.f1 (isRefH y.f1) _ (isRefH_is _)).mono ?_
                rintro e w12 ⟨rfl, hd12⟩
                replace M := Aside0.mk (M.out.step hd12.below)
                replace HF := Aside0.mk (Kd.R_below HF.out hd12.below)
                have HH := Aside0.mk (HHW.out.step M.out.below)
                have g1 := blk_cell (HH.out.obj x o HSO.out).1 1
                have gn := num_cell (HH.out.obj x o HSO.out).2 (i := i) (by have := HREC.out.2; have := HI.out; omega)
                simp only [List.getElem?_toArray, List.getElem?_cons_zero, List.getElem?_cons_succ] at g1
                clear hd12
                cases hb : isRefH y.f1 with
                | true =>
                  have HS2 := Aside0.mk (show meetAll s fl o.2 (i + 1) (met, q) = meetM s (met2, op2) (o.2.getD i 0) by rw [HSTEP.out, hb, if_pos rfl])
                  clear hb
                  obtain ⟨z, hz⟩ : ∃ z, z = o.2.getD i 0 := ⟨_, rfl⟩
                  rw [← hz] at HS2 HY gn
                  clear hz
                  go_wp2_with fail
                  refine (hp_meet w0 W s b2 b6 b7 B met2 op2 v z HY.out HLA.out.1 HLA.out.2 H.out w12 M.out).mono ?_
                  rintro e w13 ⟨rfl, hkt, v13, hm13⟩
                  have M13 := Aside0.mk hm13
                  have HF13 := Aside0.mk (R_keptT HF.out hkt)
                  clear hm13 hkt M HF HH g1 gn
                  go_wp2
                  go_roundw
                  case rel => exact ⟨i + 1, _, _, v13, by have e9 := HW.out; first | (rw [e9]; done) | (simp; done), HI.out, M13, ⟨HS2.out.symm⟩, HF13⟩
                  case measure => exact meas_h HI.out HW.out
                | false =>
                  have HS2 := Aside0.mk (show meetAll s fl o.2 (i + 1) (met, q) = (met2, op2) by rw [HSTEP.out, hb, if_neg (by decide)])
                  clear hb g1 gn
                  go_wp2_with fail
                  go_roundw
                  case rel => exact ⟨i + 1, met2, op2, v, by have e9 := HW.out; first | (rw [e9]; done) | (simp; done), HI.out, M, ⟨HS2.out.symm⟩, HF⟩
                  case measure => exact meas_h HI.out HW.out
              · have c1b : decide ((i : Int) < (fl.length : Int)) = false := decide_eq_false (by omega)
                have c1c : decide (i < fl.length) = false := decide_eq_false c1
                have HS2 := Aside0.mk (show meetAll s fl o.2 fl.length (met, q) = (met2, op2) by rw [HST.out, show i = fl.length by omega])
                clear c1 hi
                go_wp2_with fail
                go_roundg gk
                case measure => omega
                case rel => exact ⟨met2, op2, v, M, ⟨by have := HG2.out; rw [HS2.out] at this; exact this⟩⟩
section
open Go.Shelf Go.Proofs
def Try.keysA_ren : Go.Shelf.Ren := ⟨fun | 7 => 40 | 10 => 60 | n => n, fun | 23 => 48 | 26 => 3 | 3 => 83 | 28 => 86 | 0 => 0 | 27 => 85 | 33 => 108 | 4 => 4 | n => n, fun | n => n⟩
theorem Try.keysA : Go.Proofs.SlLaysZI.n7 Try.prog Try.keysA_ren := {
  mixed := by kernel_rfl
  f7 := ⟨Try.f40.name, by decide, Try.func40.trans (congrArg some (by kernel_rfl))⟩
  f10 := ⟨Try.f60.name, by decide, Try.func60.trans (congrArg some (by kernel_rfl))⟩
  t0 := Try.underlying0
  a0 := Try.isAgg0
  z0 := Try.sizeOf0
  v0 := Try.zeroValue0
  t4 := Try.underlying4
  a4 := Try.isAgg4
  z4 := Try.sizeOf4
  v4 := Try.zeroValue4
  t23 := Try.underlying48
  a23 := Try.isAgg48
  z23 := Try.sizeOf48
  v23 := Try.zeroValue48
  t26 := Try.underlying3
  a26 := Try.isAgg3
  z26 := Try.sizeOf3
  v26 := Try.zeroValue3
  t27 := Try.underlying85
  a27 := Try.isAgg85
  z27 := Try.sizeOf85
  v27 := Try.zeroValue85
  t28 := Try.underlying86
  a28 := Try.isAgg86
  z28 := Try.sizeOf86
  v28 := Try.zeroValue86
  t33 := Try.underlying108
  a33 := Try.isAgg108
  z33 := Try.sizeOf108
  v33 := Try.zeroValue108 }
def Try.sortedA_ren : Go.Shelf.Ren := ⟨fun | 6 => 39 | 8 => 59 | 9 => 29 | 11 => 78 | 13 => 48 | 12 => 47 | 23 => 72 | 24 => 73 | 14 => 64 | 15 => 65 | 16 => 66 | 17 => 67 | 18 => 68 | 19 => 69 | 20 => 46 | 21 => 70 | 22 => 71 | 25 => 81 | 26 => 82 | 27 => 83 | 28 => 84 | 29 => 85 | 30 => 63 | 31 => 87 | n => n, fun | 26 => 3 | 28 => 86 | 24 => 37 | 0 => 0 | 3 => 3 | 37 => 22 | 48 => 119 | 50 => 121 | 4 => 4 | 40 => 113 | 39 => 112 | 45 => 56 | 5 => 5 | 9 => 9 | 51 => 130 | 55 => 73 | 57 => 147 | 58 => 148 | 33 => 108 | n => n, fun | n => n⟩
theorem Try.sortedA : Go.Proofs.SlLaysZI.n6 Try.prog Try.sortedA_ren := {
  mixed := by kernel_rfl
  f6 := ⟨Try.f39.name, by decide, Try.func39.trans (congrArg some (by kernel_rfl))⟩
  f8 := ⟨Try.f59.name, by decide, Try.func59.trans (congrArg some (by kernel_rfl))⟩
  f11 := ⟨Try.f78.name, by decide, Try.func78.trans (congrArg some (by kernel_rfl))⟩
  t0 := Try.underlying0
  a0 := Try.isAgg0
  z0 := Try.sizeOf0
  v0 := Try.zeroValue0
  t24 := Try.underlying37
  a24 := Try.isAgg37
  z24 := Try.sizeOf37
  v24 := Try.zeroValue37
  t26 := Try.underlying3
  a26 := Try.isAgg3
  z26 := Try.sizeOf3
  v26 := Try.zeroValue3
  t28 := Try.underlying86
  a28 := Try.isAgg86
  z28 := Try.sizeOf86
  v28 := Try.zeroValue86
  i26 := by kernel_rfl }
def Try.sortA_ren : Go.Shelf.Ren := ⟨fun | 5 => 29 | 8 => 48 | 7 => 47 | 19 => 72 | 20 => 73 | 10 => 64 | 11 => 65 | 12 => 66 | 13 => 67 | 14 => 68 | 15 => 69 | 16 => 46 | 17 => 70 | 18 => 71 | 30 => 81 | 31 => 82 | 32 => 83 | 33 => 84 | 34 => 85 | 35 => 63 | 40 => 87 | n => n, fun | 23 => 37 | 25 => 3 | 3 => 3 | 32 => 22 | 22 => 37 | 0 => 0 | 44 => 119 | 46 => 121 | 4 => 4 | 36 => 113 | 35 => 112 | 41 => 56 | 5 => 5 | 9 => 9 | 53 => 130 | 57 => 73 | 63 => 147 | 64 => 148 | n => n, fun | n => n⟩
theorem Try.sortA : Go.Proofs.SlLaysM.n5 Try.prog Try.sortA_ren := {
  mixed := by kernel_rfl
  f5 := ⟨Try.f29.name, by decide, Try.func29.trans (congrArg some (by kernel_rfl))⟩
  f7 := ⟨Try.f47.name, by decide, Try.func47.trans (congrArg some (by kernel_rfl))⟩
  f8 := Try.func48.trans (congrArg some (by kernel_rfl))
  f10 := ⟨Try.f64.name, by decide, Try.func64.trans (congrArg some (by kernel_rfl))⟩
  f11 := ⟨Try.f65.name, by decide, Try.func65.trans (congrArg some (by kernel_rfl))⟩
  f12 := ⟨Try.f66.name, by decide, Try.func66.trans (congrArg some (by kernel_rfl))⟩
  f13 := ⟨Try.f67.name, by decide, Try.func67.trans (congrArg some (by kernel_rfl))⟩
  f14 := ⟨Try.f68.name, by decide, Try.func68.trans (congrArg some (by kernel_rfl))⟩
  f15 := ⟨Try.f69.name, by decide, Try.func69.trans (congrArg some (by kernel_rfl))⟩
  f16 := ⟨Try.f46.name, by decide, Try.func46.trans (congrArg some (by kernel_rfl))⟩
  f17 := ⟨Try.f70.name, by decide, Try.func70.trans (congrArg some (by kernel_rfl))⟩
  f18 := ⟨Try.f71.name, by decide, Try.func71.trans (congrArg some (by kernel_rfl))⟩
  f19 := Try.func72.trans (congrArg some (by kernel_rfl))
  f20 := Try.func73.trans (congrArg some (by kernel_rfl))
  f30 := ⟨Try.f81.name, by decide, Try.func81.trans (congrArg some (by kernel_rfl))⟩
  f31 := Try.func82.trans (congrArg some (by kernel_rfl))
  f32 := Try.func83.trans (congrArg some (by kernel_rfl))
  f33 := ⟨Try.f84.name, by decide, Try.func84.trans (congrArg some (by kernel_rfl))⟩
  f34 := ⟨Try.f85.name, by decide, Try.func85.trans (congrArg some (by kernel_rfl))⟩
  f35 := ⟨Try.f63.name, by decide, Try.func63.trans (congrArg some (by kernel_rfl))⟩
  f40 := ⟨Try.f87.name, by decide, Try.func87.trans (congrArg some (by kernel_rfl))⟩
  t0 := Try.underlying0
  a0 := Try.isAgg0
  z0 := Try.sizeOf0
  v0 := Try.zeroValue0
  t3 := Try.underlying3
  a3 := Try.isAgg3
  z3 := Try.sizeOf3
  v3 := Try.zeroValue3
  t4 := Try.underlying4
  a4 := Try.isAgg4
  z4 := Try.sizeOf4
  v4 := Try.zeroValue4
  t5 := Try.underlying5
  a5 := Try.isAgg5
  z5 := Try.sizeOf5
  v5 := Try.zeroValue5
  t9 := Try.underlying9
  a9 := Try.isAgg9
  z9 := Try.sizeOf9
  v9 := Try.zeroValue9
  t22 := Try.underlying37
  a22 := Try.isAgg37
  z22 := Try.sizeOf37
  v22 := Try.zeroValue37
  t23 := Try.underlying37
  a23 := Try.isAgg37
  z23 := Try.sizeOf37
  v23 := Try.zeroValue37
  t25 := Try.underlying3
  a25 := Try.isAgg3
  z25 := Try.sizeOf3
  v25 := Try.zeroValue3
  t32 := Try.underlying22
  a32 := Try.isAgg22
  z32 := Try.sizeOf22
  v32 := Try.zeroValue22
  t35 := Try.underlying112
  a35 := Try.isAgg112
  z35 := Try.sizeOf112
  v35 := Try.zeroValue112
  t36 := Try.underlying113
  a36 := Try.isAgg113
  z36 := Try.sizeOf113
  v36 := Try.zeroValue113
  t41 := Try.underlying56
  a41 := Try.isAgg56
  z41 := Try.sizeOf56
  v41 := Try.zeroValue56
  t44 := Try.underlying119
  a44 := Try.isAgg119
  z44 := Try.sizeOf119
  v44 := Try.zeroValue119
  t46 := Try.underlying121
  a46 := Try.isAgg121
  z46 := Try.sizeOf121
  v46 := Try.zeroValue121
  t53 := Try.underlying130
  a53 := Try.isAgg130
  z53 := Try.sizeOf130
  v53 := Try.zeroValue130
  t57 := Try.underlying73
  a57 := Try.isAgg73
  z57 := Try.sizeOf73
  v57 := Try.zeroValue73
  t63 := Try.underlying147
  a63 := Try.isAgg147
  z63 := Try.sizeOf147
  v63 := Try.zeroValue147
  t64 := Try.underlying148
  a64 := Try.isAgg148
  z64 := Try.sizeOf148
  v64 := Try.zeroValue148 }
def Try.keysB_ren : Go.Shelf.Ren := ⟨fun | 7 => 43 | 10 => 62 | n => n, fun | 23 => 76 | 26 => 3 | 3 => 79 | 28 => 86 | 0 => 0 | 27 => 85 | 33 => 108 | 4 => 4 | n => n, fun | n => n⟩
theorem Try.keysB : Go.Proofs.SlLaysZI.n7 Try.prog Try.keysB_ren := {
  mixed := by kernel_rfl
  f7 := ⟨Try.f43.name, by decide, Try.func43.trans (congrArg some (by kernel_rfl))⟩
  f10 := ⟨Try.f62.name, by decide, Try.func62.trans (congrArg some (by kernel_rfl))⟩
  t0 := Try.underlying0
  a0 := Try.isAgg0
  z0 := Try.sizeOf0
  v0 := Try.zeroValue0
  t4 := Try.underlying4
  a4 := Try.isAgg4
  z4 := Try.sizeOf4
  v4 := Try.zeroValue4
  t23 := Try.underlying76
  a23 := Try.isAgg76
  z23 := Try.sizeOf76
  v23 := Try.zeroValue76
  t26 := Try.underlying3
  a26 := Try.isAgg3
  z26 := Try.sizeOf3
  v26 := Try.zeroValue3
  t27 := Try.underlying85
  a27 := Try.isAgg85
  z27 := Try.sizeOf85
  v27 := Try.zeroValue85
  t28 := Try.underlying86
  a28 := Try.isAgg86
  z28 := Try.sizeOf86
  v28 := Try.zeroValue86
  t33 := Try.underlying108
  a33 := Try.isAgg108
  z33 := Try.sizeOf108
  v33 := Try.zeroValue108 }
end
section
open Go.Maps Go.Sort Go.Shelf Go.Proofs
theorem keys_facts {R : Value → Option (DataW Unit × List MemPlace)} {W : World} {B n : Nat} {D : DataW Unit} (hown : W.ownsMap Try.prog 3 R B n D) : (intKeys D).Nodup ∧ (∀ x, x ∈ intKeys D ↔ Maps.has D (.int .i64 x) = true) ∧ (intKeys D).length = Maps.size D := by
  obtain ⟨es, hD, hpw, _⟩ := hown.entries mkeyed
  obtain ⟨es', hD', hko⟩ := hown.keysOf
  obtain rfl : es = es' := by rw [hD] at hD'; simpa using hD'
  subst hD
  have hk : ∀ p ∈ es, ∃ x, p.1 = .int .i64 x := fun p hp => by obtain ⟨v, hv⟩ := hko p hp; obtain ⟨x, _, hx, _⟩ := Maps.keyOf_i64 Try.underlying3 hv; exact ⟨x, hx⟩
  refine ⟨?_, fun x => ?_, by simp [intKeys, Maps.size]⟩
  · show (es.map fun p => _root_.Go.intOf p.1).Nodup
    refine List.pairwise_map.2 (hpw.imp_of_mem fun {p q} hp' hq' hne e => hne ?_)
    obtain ⟨a, ha⟩ := hk p hp'
    obtain ⟨b, hb⟩ := hk q hq'
    rw [ha, hb] at e ⊢
    exact congrArg _ e
  · rw [has_eq, List.any_eq_true]
    show x ∈ es.map (fun p => _root_.Go.intOf p.1) ↔ _
    rw [List.mem_map]
    constructor
    · rintro ⟨p, hp', rfl⟩
      obtain ⟨a, ha⟩ := hk p hp'
      exact ⟨p, hp', by rw [ha]; simp [Lit.sameKey, _root_.Go.intOf]⟩
    · rintro ⟨p, hp', hs⟩
      obtain ⟨a, ha⟩ := hk p hp'
      rw [ha] at hs
      exact ⟨p, hp', by rw [ha]; simpa [Lit.sameKey, _root_.Go.intOf] using hs⟩
theorem sorts_h (m : Nat) : AnyZI.SortsIn Try.prog Try.sortedA_ren Fence.wide m :=
  ⟨fun blk off cap ss W hH hblk hsz => callsIn_wide.2 (AnyM.slices_Sort_int Try.sortA blk off cap ss W hH hblk hsz),
   fun p cap W => callsIn_wide.2 (AnyM.slices_Sort_int_none Try.sortA p cap W)⟩
theorem keysA_calls (B : Nat) (W : World) : Calls Try.prog 40 #[.map (some B)] W fun e w' => e = .returned (.func (.func 60) #[] #[.pointer (some ⟨W.heap.size, 0, none⟩)]) ∧ w' = W.alloc (.cells #[.map (some B)] 48) :=
  (callsIn_wide (n := 5)).1 (AnyZI.keys_in Try.keysA Fence.wide 5 trivial rfl (some B) W)
theorem sortedA_calls {R : Value → Option (DataW Unit × List MemPlace)} {W : World} {B n : Nat} {D : DataW Unit} (hown : W.ownsMap Try.prog 3 R B n D) (hmax : Maps.size D ≤ 17592186044416) : Calls Try.prog 39 #[.func (.func 60) #[] #[.pointer (some ⟨W.heap.size, 0, none⟩)]] (W.alloc (.cells #[.map (some B)] 48)) fun e w' => ∃ (v : Value) (ss : List Int), e = .returned v ∧ ss.Perm (intKeys D) ∧ w'.ownsRow W.heap.size 3 1 v ss.length ((ss.mergeSort (fun x y => decide (x ≤ y))).map (Value.int .i64)) ∧ Below W.heap.size W w' := by
  have hbl := hown.lt
  have hseq : SeqGives Fence.wide 2 Try.prog 60 #[.pointer (some ⟨W.heap.size, 0, none⟩)] encZ (fun ss => ss.Perm (intKeys D)) (Maps.size D) (W.alloc (.cells #[.map (some B)] 48)) :=
    AnyZI.keys_gives (ρ := Try.keysA_ren) { Try.keysA with } Fence.wide _ trivial rfl (by omega) W.heap.size B n D _ (by simp) (by simp) (by
      obtain ⟨es, clock, hb, Ft, hs, hD⟩ := hown
      exact ⟨es, clock, (Below.heap_alloc _ _ B hbl).trans hb, Ft, hs, hD⟩)
  have cS := AnyZI.sorted_in Try.sortedA Fence.wide 5 trivial trivial trivial trivial rfl (by omega) (sorts_h _) (enters_of Try.func29 (by kernel_rfl) rfl) 60 #[.pointer (some ⟨W.heap.size, 0, none⟩)] trivial (enters_of Try.func60 (by kernel_rfl) rfl) _ _ (by unfold maxLen; omega) (by omega) _ hseq
  refine ((callsIn_wide (n := 5)).1 cS).mono ?_
  rintro e w' ⟨v, ss, rfl, hS, hrow, _, hb⟩
  exact ⟨v, ss, rfl, hS, ownsRow_base_a hrow (by simp), ((Below.refl _ W).alloc (Nat.le_refl _) _).trans (hb.mono (by simp))⟩
theorem keysB_calls (B : Nat) (W : World) : Calls Try.prog 43 #[.map (some B)] W fun e w' => e = .returned (.func (.func 62) #[] #[.pointer (some ⟨W.heap.size, 0, none⟩)]) ∧ w' = W.alloc (.cells #[.map (some B)] 76) :=
  (callsIn_wide (n := 5)).1 (AnyZI.keys_in Try.keysB Fence.wide 5 trivial rfl (some B) W)
end
end Go.Proofs.Ytkjagcamikkjkaa.P
end

