/- Proved: the law ModuleChecks holds for every input that the row lets in. No condition of ours. -/
import Derived.Test.YtdlmcjchnoeebaaBModuleChecksb
import Derived.Test.YtdlmcjchnoeebaaProg
import Derived.WalkSpells
import Derived.ChangeKeysEq
import Derived.Deep.MidRow
section
namespace Go.Proofs.Ytdlmcjchnoeebaa.P
open Go.RowKit Go.Proofs.YtdlmcjchnoeebaaW.PrintWords Go.Proofs.YtdlmcjchnoeebaaW.PrintLast Go.Proofs.YtdlmcjchnoeebaaW.PrintMore
theorem amk {p : Prop} (h : p) : Aside0 p := ⟨h⟩
theorem sia.{u} {α : Type u} (l : List α) (i : Nat) (a : α) : l.toArray.setIfInBounds i a = (l.set i a).toArray := List.setIfInBounds_toArray l i a
theorem scz.{u} {α : Type u} {x : α} {xs : List α} {a : α} : (x :: xs).set 0 a = a :: xs := List.set_cons_zero
theorem scs.{u} {α : Type u} {x : α} {xs : List α} {i : Nat} {a : α} : (x :: xs).set (i + 1) a = x :: xs.set i a := List.set_cons_succ
theorem blc (w : World) (a : Addr) {u : Value} (h : w.cell? a = some u) : a.block < w.heap.size := World.block_lt_of_cell? w a h
theorem pbd {B : Nat} {w W : World} (h : Below B w W) (n : Nat) : Below B w (W.drewN n) := pw_below_drewN h n
theorem bal {w W : World} (h : Below w.heap.size w W) (o : Obj) : Below w.heap.size w (W.alloc o) := below_alloc h o
theorem bdr {base : Nat} {w W : World} (h : Below base w W) : Below base w W.drew := below_drew1 h
theorem bkf {w : World} {g : Nat} {t : TypeId} {cs : Array Value} (h : w.heap[g]? = some (.cells cs t (0, 0))) (i : Nat) : w.frozen? ⟨g, i, none⟩ = false := blk_frozen h i
theorem bkd {w : World} {g : Nat} {o : Obj} (h : w.heap[g]? = some o) (n : Nat) : (w.drewN n).heap[g]? = some o := blk_drewN h n
theorem bka {w : World} {g : Nat} {o : Obj} (h : w.heap[g]? = some o) (o' : Obj) : (w.alloc o').heap[g]? = some o := blk_alloc h o'
attribute [local go_sem] max2_int min2_int max_two min_two max_three min_three max_four min_four   -- for this text's walks alone
set_option linter.unusedVariables false
set_option linter.unusedSimpArgs false



def errW : Option Int → Value
  | none => .nilIface
  | some c => .iface 0 (.int .i64 c)
theorem errW_none : errW none = .nilIface := rfl
theorem errW_some (c : Int) : errW (some c) = .iface 0 (.int .i64 c) := rfl

theorem info3 : (Try.prog.info? 3).map (fun i => (i.zero, i.size, i.bytes)) = some (some (.int .i64 0), 1, 8) := by kernel_rfl
theorem info5 : (Try.prog.info? 5).map (fun i => (i.zero, i.size, i.bytes)) = some (some (.int .u8 0), 1, 1) := by kernel_rfl
theorem info9 : (Try.prog.info? 9).map (fun i => (i.zero, i.size, i.bytes)) = some (some (.string ⟨#[]⟩), 1, 16) := by kernel_rfl
theorem info36 : (Try.prog.info? 36).map (fun i => (i.zero, i.size, i.bytes)) = some (some (.slice none 0 0), 1, 24) := by kernel_rfl
theorem info45 : (Try.prog.info? 45).map (fun i => (i.zero, i.size, i.bytes)) = some (some (.int .u8 0), 1, 1) := by kernel_rfl
theorem info49 : (Try.prog.info? 49).map (fun i => (i.zero, i.size, i.bytes)) = some (some (.agg #[(.string ⟨#[]⟩), (.slice none 0 0), (.int .u8 0), (.int .i64 0), (.slice none 0 0)]), 5, 80) := by kernel_rfl
theorem info64 : (Try.prog.info? 64).map (fun i => (i.zero, i.size, i.bytes)) = some (some (.agg #[(.string ⟨#[]⟩), (.int .i64 0), (.slice none 0 0)]), 3, 48) := by kernel_rfl
theorem info99 : (Try.prog.info? 99).map (fun i => (i.zero, i.size, i.bytes)) = some (some (.agg #[(.string ⟨#[]⟩), (.int .u8 0)]), 2, 24) := by kernel_rfl
structure S99 where
  f0 : ByteArray
  f1 : Int
def z99 : S99 := ⟨(⟨#[]⟩ : ByteArray), (0 : Int)⟩
def k99 : Kd S99 := Kd.iso (Kd.pair Kd.string (Kd.int .u8)) (fun x : S99 => (x.f0, x.f1))
theorem k99_open {w : World} {x : S99} {cs : List Value} (h : k99.K w x cs) : cs = [.string x.f0, .int .u8 x.f1] := by
  obtain ⟨_, _, rfl, rfl, rfl⟩ := h
  exact rfl
def rd_T99 (xs : List S99) (i : Int) : S99 := xs.getD i.toNat z99
theorem at_T99 {w : World} {A : Option Addr} {n : Nat} {xs : List S99} (h : Kd.C k99 w A n xs) (i : Int) (h0 : 0 ≤ i) (h1 : i < n) : ∃ ad , A = some ad ∧ w.cell? (ad.add (i.toNat * 2)) = some (.string (rd_T99 xs i).f0) ∧ w.cell? ⟨(ad.add (i.toNat * 2)).block, (ad.add (i.toNat * 2)).off + 1, none⟩ = some (.int .u8 (rd_T99 xs i).f1) := by
  obtain ⟨ad, c, e, _, hK, hc0⟩ := Kd.C_get h z99 i h0 h1
  have hc : ∀ j u, c[j]? = some u → w.cell? (ad.add (i.toNat * 2 + j)) = some u := hc0
  obtain rfl := k99_open hK
  exact ⟨ad, e, hc 0 _ rfl, by rw [← add_field _ _ 1 (by omega)]; exact hc 1 _ rfl⟩

structure S64 where
  f0 : ByteArray
  f1 : Int
  f2 : (List S99)
def z64 : S64 := ⟨(⟨#[]⟩ : ByteArray), (0 : Int), ([] : List S99)⟩
def k64 : Kd S64 := Kd.iso (Kd.pair Kd.string (Kd.pair (Kd.int .i64) (Kd.slice 99 k99))) (fun x : S64 => (x.f0, x.f1, x.f2))
theorem k64_open {w : World} {x : S64} {cs : List Value} (h : k64.K w x cs) : ∃ A2 c2, cs = [.string x.f0, .int .i64 x.f1, .slice A2 x.f2.length c2] ∧ x.f2.length ≤ c2 ∧ k99.C w A2 x.f2.length x.f2 := by
  obtain ⟨_, _, rfl, rfl, ⟨_, _, rfl, rfl, ⟨A2, c2, rfl, l2, g2⟩⟩⟩ := h
  exact ⟨A2, c2, rfl, l2, g2⟩
theorem k64_mkM (w : World) (base : Nat) (ok : Nat → Prop) (x : S64) {v2 : Value} (g2 : k99.R 99 w base ok v2 x.f2) : k64.M w base ok x [.string x.f0, .int .i64 x.f1, v2] := ⟨[.string x.f0], [.int .i64 x.f1, v2], rfl, rfl, ⟨[.int .i64 x.f1], [v2], rfl, rfl, ⟨v2, rfl, g2⟩⟩⟩
def rd_T64 (xs : List S64) (i : Int) : S64 := xs.getD i.toNat z64
theorem at_T64 {w : World} {A : Option Addr} {n : Nat} {xs : List S64} (h : Kd.C k64 w A n xs) (i : Int) (h0 : 0 ≤ i) (h1 : i < n) : ∃ ad A2 c2, A = some ad ∧ w.cell? (ad.add (i.toNat * 3)) = some (.string (rd_T64 xs i).f0) ∧ w.cell? ⟨(ad.add (i.toNat * 3)).block, (ad.add (i.toNat * 3)).off + 1, none⟩ = some (.int .i64 (rd_T64 xs i).f1) ∧ w.cell? ⟨(ad.add (i.toNat * 3)).block, (ad.add (i.toNat * 3)).off + 2, none⟩ = some (.slice A2 (rd_T64 xs i).f2.length c2) ∧ (rd_T64 xs i).f2.length ≤ c2 ∧ k99.C w A2 (rd_T64 xs i).f2.length (rd_T64 xs i).f2 := by
  obtain ⟨ad, c, e, _, hK, hc0⟩ := Kd.C_get h z64 i h0 h1
  have hc : ∀ j u, c[j]? = some u → w.cell? (ad.add (i.toNat * 3 + j)) = some u := hc0
  obtain ⟨A2, c2, rfl, l2, g2⟩ := k64_open hK
  exact ⟨ad, A2, c2, e, hc 0 _ rfl, by rw [← add_field _ _ 1 (by omega)]; exact hc 1 _ rfl, by rw [← add_field _ _ 2 (by omega)]; exact hc 2 _ rfl, l2, g2⟩

structure S47 where
  f0 : (List Int)
  f1 : Int
def z47 : S47 := ⟨([] : List Int), (0 : Int)⟩
def k47 : Kd S47 := Kd.iso (Kd.pair (Kd.slice 45 (Kd.int .u8)) (Kd.int .u8)) (fun x : S47 => (x.f0, x.f1))
theorem k47_open {w : World} {x : S47} {cs : List Value} (h : k47.K w x cs) : ∃ A0 c0, cs = [.slice A0 x.f0.length c0, .int .u8 x.f1] ∧ x.f0.length ≤ c0 ∧ (Kd.int .u8).C w A0 x.f0.length x.f0 := by
  obtain ⟨_, _, rfl, ⟨A0, c0, rfl, l0, g0⟩, rfl⟩ := h
  exact ⟨A0, c0, rfl, l0, g0⟩
theorem k47_mkM (w : World) (base : Nat) (ok : Nat → Prop) (x : S47) {v0 : Value} (g0 : (Kd.int .u8).R 45 w base ok v0 x.f0) : k47.M w base ok x [v0, .int .u8 x.f1] := ⟨[v0], [.int .u8 x.f1], rfl, ⟨v0, rfl, g0⟩, rfl⟩
def rd_L8 (xs : List (List Int)) (i : Int) : (List Int) := xs.getD i.toNat ([] : List Int)
theorem at_L8 {w : World} {A : Option Addr} {n : Nat} {xs : List (List Int)} (h : Kd.C (Kd.slice 5 (Kd.int .u8)) w A n xs) (i : Int) (h0 : 0 ≤ i) (h1 : i < n) : ∃ ad A0 c0, A = some ad ∧ w.cell? (ad.add i.toNat) = some (.slice A0 (rd_L8 xs i).length c0) ∧ (rd_L8 xs i).length ≤ c0 ∧ (Kd.int .u8).C w A0 (rd_L8 xs i).length (rd_L8 xs i) := by
  obtain ⟨ad, c, e, _, hK, hc0⟩ := Kd.C_get h ([] : List Int) i h0 h1
  have hc : ∀ j u, c[j]? = some u → w.cell? (ad.add (i.toNat * 1 + j)) = some u := hc0
  obtain ⟨A0, c0, rfl, l0, g0⟩ := hK
  exact ⟨ad, A0, c0, e, by have hq := hc 0 _ rfl; rwa [Nat.mul_one, Nat.add_zero] at hq, l0, g0⟩

structure S49 where
  f0 : ByteArray
  f1 : S47
  f2 : Int
  f3 : (List Int)
def z49 : S49 := ⟨(⟨#[]⟩ : ByteArray), z47, (0 : Int), ([] : List Int)⟩
def k49 : Kd S49 := Kd.iso (Kd.pair Kd.string (Kd.pair k47 (Kd.pair (Kd.int .i64) (Kd.slice 5 (Kd.int .u8))))) (fun x : S49 => (x.f0, x.f1, x.f2, x.f3))
theorem k49_open {w : World} {x : S49} {cs : List Value} (h : k49.K w x cs) : ∃ A1 c1 A4 c4, cs = [.string x.f0, .slice A1 x.f1.f0.length c1, .int .u8 x.f1.f1, .int .i64 x.f2, .slice A4 x.f3.length c4] ∧ x.f1.f0.length ≤ c1 ∧ (Kd.int .u8).C w A1 x.f1.f0.length x.f1.f0 ∧ x.f3.length ≤ c4 ∧ (Kd.int .u8).C w A4 x.f3.length x.f3 := by
  obtain ⟨_, _, rfl, rfl, ⟨_, _, rfl, s1, ⟨_, _, rfl, rfl, ⟨A4, c4, rfl, l4, g4⟩⟩⟩⟩ := h
  obtain ⟨A1, c1, rfl, l1, g1⟩ := k47_open s1
  exact ⟨A1, c1, A4, c4, rfl, l1, g1, l4, g4⟩
theorem k49_mkM (w : World) (base : Nat) (ok : Nat → Prop) (x : S49) {v1 : Value} (g1 : (Kd.int .u8).R 45 w base ok v1 x.f1.f0) {v4 : Value} (g4 : (Kd.int .u8).R 5 w base ok v4 x.f3) : k49.M w base ok x [.string x.f0, v1, .int .u8 x.f1.f1, .int .i64 x.f2, v4] := ⟨[.string x.f0], [v1, .int .u8 x.f1.f1, .int .i64 x.f2, v4], rfl, rfl, ⟨[v1, .int .u8 x.f1.f1], [.int .i64 x.f2, v4], rfl, (k47_mkM w base ok x.f1 g1), ⟨[.int .i64 x.f2], [v4], rfl, rfl, ⟨v4, rfl, g4⟩⟩⟩⟩
def rd_T49 (xs : List S49) (i : Int) : S49 := xs.getD i.toNat z49
theorem at_T49 {w : World} {A : Option Addr} {n : Nat} {xs : List S49} (h : Kd.C k49 w A n xs) (i : Int) (h0 : 0 ≤ i) (h1 : i < n) : ∃ ad A1 c1 A4 c4, A = some ad ∧ w.cell? (ad.add (i.toNat * 5)) = some (.string (rd_T49 xs i).f0) ∧ w.cell? ⟨(ad.add (i.toNat * 5)).block, (ad.add (i.toNat * 5)).off + 1, none⟩ = some (.slice A1 (rd_T49 xs i).f1.f0.length c1) ∧ w.cell? ⟨(ad.add (i.toNat * 5)).block, (ad.add (i.toNat * 5)).off + 2, none⟩ = some (.int .u8 (rd_T49 xs i).f1.f1) ∧ w.cell? ⟨(ad.add (i.toNat * 5)).block, (ad.add (i.toNat * 5)).off + 3, none⟩ = some (.int .i64 (rd_T49 xs i).f2) ∧ w.cell? ⟨(ad.add (i.toNat * 5)).block, (ad.add (i.toNat * 5)).off + 4, none⟩ = some (.slice A4 (rd_T49 xs i).f3.length c4) ∧ (rd_T49 xs i).f1.f0.length ≤ c1 ∧ (Kd.int .u8).C w A1 (rd_T49 xs i).f1.f0.length (rd_T49 xs i).f1.f0 ∧ (rd_T49 xs i).f3.length ≤ c4 ∧ (Kd.int .u8).C w A4 (rd_T49 xs i).f3.length (rd_T49 xs i).f3 := by
  obtain ⟨ad, c, e, _, hK, hc0⟩ := Kd.C_get h z49 i h0 h1
  have hc : ∀ j u, c[j]? = some u → w.cell? (ad.add (i.toNat * 5 + j)) = some u := hc0
  obtain ⟨A1, c1, A4, c4, rfl, l1, g1, l4, g4⟩ := k49_open hK
  exact ⟨ad, A1, c1, A4, c4, e, hc 0 _ rfl, by rw [← add_field _ _ 1 (by omega)]; exact hc 1 _ rfl, by rw [← add_field _ _ 2 (by omega)]; exact hc 2 _ rfl, by rw [← add_field _ _ 3 (by omega)]; exact hc 3 _ rfl, by rw [← add_field _ _ 4 (by omega)]; exact hc 4 _ rfl, l1, g1, l4, g4⟩

end Go.Proofs.Ytdlmcjchnoeebaa.P

end

section
namespace Go.Proofs.Ytdlmcjchnoeebaa.P
open Go.RowKit Go.Proofs.YtdlmcjchnoeebaaW.PrintWords Go.Proofs.Ytdlmcjchnoeebaa.Sees

def Ok99 (x : S99) : Prop := (fun s : ByteArray => s.size ≤ 140737488351232) x.f0 ∧ (fun n : Int => (Lit.int .u8 n).wf = true) x.f1
theorem sees99 : Sees Try.prog 99 k99 Ok99 := sees_struct (fun x : S99 => (x.f0, x.f1)) (fun y => ⟨y.1, y.2⟩) (fun _ => rfl) Try.underlying99 (by kernel_rfl) (sees_more rfl (by kernel_rfl) (sees_string Try.underlying9) (sees_last rfl (by kernel_rfl) (sees_int Try.underlying45)))
def Ok64 (x : S64) : Prop := (fun s : ByteArray => s.size ≤ 140737488351232) x.f0 ∧ (fun n : Int => (Lit.int .i64 n).wf = true) x.f1 ∧ (fun l : List (S99) => l.length ≤ 9223372036854775807 ∧ l.length * 24 ≤ 140737488351232 ∧ ∀ x ∈ l, Ok99 x) x.f2
theorem sees64 : Sees Try.prog 64 k64 Ok64 := sees_struct (fun x : S64 => (x.f0, x.f1, x.f2)) (fun y => ⟨y.1, y.2.1, y.2.2⟩) (fun _ => rfl) Try.underlying64 (by kernel_rfl) (sees_more rfl (by kernel_rfl) (sees_string Try.underlying9) (sees_more rfl (by kernel_rfl) (sees_int Try.underlying3) (sees_last rfl (by kernel_rfl) (sees_slice (B := 24) Try.underlying62 (by kernel_rfl) (by kernel_rfl) sees99))))
def Ok47 (x : S47) : Prop := (fun l : List (Int) => l.length ≤ 9223372036854775807 ∧ l.length * 1 ≤ 140737488351232 ∧ ∀ x ∈ l, (fun n : Int => (Lit.int .u8 n).wf = true) x) x.f0 ∧ (fun n : Int => (Lit.int .u8 n).wf = true) x.f1
theorem sees47 : Sees Try.prog 47 k47 Ok47 := sees_struct (fun x : S47 => (x.f0, x.f1)) (fun y => ⟨y.1, y.2⟩) (fun _ => rfl) Try.underlying47 (by kernel_rfl) (sees_more rfl (by kernel_rfl) (sees_slice (B := 1) Try.underlying44 (by kernel_rfl) (by kernel_rfl) (sees_int Try.underlying45)) (sees_last rfl (by kernel_rfl) (sees_int Try.underlying45)))
def Ok49 (x : S49) : Prop := (fun s : ByteArray => s.size ≤ 140737488351232) x.f0 ∧ Ok47 x.f1 ∧ (fun n : Int => (Lit.int .i64 n).wf = true) x.f2 ∧ (fun l : List (Int) => l.length ≤ 9223372036854775807 ∧ l.length * 1 ≤ 140737488351232 ∧ ∀ x ∈ l, (fun n : Int => (Lit.int .u8 n).wf = true) x) x.f3
theorem sees49 : Sees Try.prog 49 k49 Ok49 := sees_struct (fun x : S49 => (x.f0, x.f1, x.f2, x.f3)) (fun y => ⟨y.1, y.2.1, y.2.2.1, y.2.2.2⟩) (fun _ => rfl) Try.underlying49 (by kernel_rfl) (sees_more rfl (by kernel_rfl) (sees_string Try.underlying9) (sees_more rfl (by kernel_rfl) sees47 (sees_more rfl (by kernel_rfl) (sees_int Try.underlying3) (sees_last rfl (by kernel_rfl) (sees_slice (B := 1) Try.underlying36 (by kernel_rfl) (by kernel_rfl) (sees_int Try.underlying5))))))
end Go.Proofs.Ytdlmcjchnoeebaa.P

end

section
namespace Go.Proofs.Ytdlmcjchnoeebaa.P
open Go.RowKit Go.Proofs.YtdlmcjchnoeebaaW.PrintWords Go.Proofs.YtdlmcjchnoeebaaW.PrintLast Go.Proofs.YtdlmcjchnoeebaaW.PrintMore
attribute [local go_sem] max2_int min2_int max_two min_two max_three min_three max_four min_four   -- for this text's walks alone
set_option linter.unusedVariables false
set_option linter.unusedSimpArgs false

def types_class.f (l0 : List (S64)) (a1 : Int) : Option (Int) := if a1 < 16 then (some (-1)) else (if ((a1 - 16) % 256) ≥ (l0.length : Int) then (some (-1)) else (some ((a1 - 16) % 256)))
set_option maxHeartbeats 8000000 in
set_option maxRecDepth 100000 in
theorem types_class.calls (A0 : Option Addr) (c0 : Nat) (l0 : List (S64)) (a1 : Int) (r : Int) (w : World) (hr0 : Kd.C k64 w A0 l0.length l0) (hc0 : l0.length ≤ c0) (h : types_class.f l0 a1 = some r) :
    Calls Try.prog 128 #[.slice A0 l0.length c0, .int .u8 a1] w fun e w' => e = .returned (.int .i64 r) ∧ Drawn0 w w' := by
  have HR0 := amk hr0
  have HC0 := amk hc0
  clear hr0 hc0
  have H : (if a1 < 16 then (some (-1)) else (if ((a1 - 16) % 256) ≥ (l0.length : Int) then (some (-1)) else (some ((a1 - 16) % 256)))) = some r := h
  clear h
  by_cases c3 : a1 < 16
  · rw [if_pos c3] at H
    have c3b0 : decide (a1 < 16) = true := decide_eq_true c3
    clear c3
    obtain rfl := Option.some.inj H
    go_enter Try.func128, Try.ntmps128
    go_wp2
    go_ret
    exact ⟨by first | rfl | (simp; done) | (simp [*]; done), by repeat (first | exact Drawn0.refl _ | apply Drawn0.step)⟩
  · rw [if_neg c3] at H
    have c3b0 : decide (a1 < 16) = false := decide_eq_false c3
    clear c3
    by_cases c4 : ((a1 - 16) % 256) ≥ (l0.length : Int)
    · rw [if_pos c4] at H
      have c4b0 : decide ((l0.length : Int) ≤ ((a1 - 16) % 256)) = true := decide_eq_true c4
      clear c4
      obtain rfl := Option.some.inj H
      go_enter Try.func128, Try.ntmps128
      go_wp2
      go_ret
      exact ⟨by first | rfl | (simp; done) | (simp [*]; done), by repeat (first | exact Drawn0.refl _ | apply Drawn0.step)⟩
    · rw [if_neg c4] at H
      have c4b0 : decide ((l0.length : Int) ≤ ((a1 - 16) % 256)) = false := decide_eq_false c4
      clear c4
      obtain rfl := Option.some.inj H
      go_enter Try.func128, Try.ntmps128
      go_wp2
      go_ret
      exact ⟨by first | rfl | (simp; done) | (simp [*]; done), by repeat (first | exact Drawn0.refl _ | apply Drawn0.step)⟩

def types_Valid.f (l0 : List (S64)) (a1 : Int) : Option (Bool) := if a1 ≤ 5 then (some true) else ((types_class.f l0 a1).bind fun t101 => (some (decide (t101 ≥ 0))))
set_option maxHeartbeats 8000000 in
set_option maxRecDepth 100000 in
theorem types_Valid.calls (A0 : Option Addr) (c0 : Nat) (l0 : List (S64)) (a1 : Int) (r : Bool) (w : World) (hr0 : Kd.C k64 w A0 l0.length l0) (hc0 : l0.length ≤ c0) (h : types_Valid.f l0 a1 = some r) :
    Calls Try.prog 110 #[.slice A0 l0.length c0, .int .u8 a1] w fun e w' => e = .returned (.bool r) ∧ Drawn0 w w' := by
  have HR0 := amk hr0
  have HC0 := amk hc0
  clear hr0 hc0
  have H : (if a1 ≤ 5 then (some true) else ((types_class.f l0 a1).bind fun t101 => (some (decide (t101 ≥ 0))))) = some r := h
  clear h
  by_cases c3 : a1 ≤ 5
  · rw [if_pos c3] at H
    have c3b0 : decide (a1 ≤ 5) = true := decide_eq_true c3
    clear c3
    obtain rfl := Option.some.inj H
    go_enter Try.func110, Try.ntmps110
    go_wp2
    go_ret
    exact ⟨by first | rfl | (simp; done) | (simp [*]; done), by repeat (first | exact Drawn0.refl _ | apply Drawn0.step)⟩
  · rw [if_neg c3] at H
    have c3b0 : decide (a1 ≤ 5) = false := decide_eq_false c3
    clear c3
    replace H := Option.bind_eq_some_iff.mp H
    obtain ⟨t101, A40, H⟩ := H
    replace H : (some (decide (t101 ≥ 0))) = some r := H
    have A4 := amk A40
    clear A40
    obtain rfl := Option.some.inj H
    go_enter Try.func110, Try.ntmps110
    go_wp2_with (first | (go_at_call 128; (with_reducible refine (types_class.calls _ _ l0 a1 t101 _ ?side1 ?side2 A4.out).mono ?_); (case side1 => repeat (first | exact HR0.out | (with_reducible refine Kd.C_alloc ?_ _) | (with_reducible refine Kd.C_drewN ?_ _) | (with_reducible refine Kd.C_drew ?_))); (case side2 => exact HC0.out); rintro e w' ⟨rfl, ⟨nd, rfl⟩⟩))
    go_ret
    exact ⟨by first | rfl | (simp; done) | (simp [*]; done), by repeat (first | exact Drawn0.refl _ | apply Drawn0.step)⟩

def module_stored.f (l0 : List (S64)) (a1 : Int) : Option (Bool) := (types_Valid.f l0 a1).bind fun t102 => (if t102 = true then (if a1 = 0 then (some false) else (some (a1 != 3))) else (some false))
set_option maxHeartbeats 8000000 in
set_option maxRecDepth 100000 in
theorem module_stored.calls (A0 : Option Addr) (c0 : Nat) (l0 : List (S64)) (a1 : Int) (r : Bool) (w : World) (hr0 : Kd.C k64 w A0 l0.length l0) (hc0 : l0.length ≤ c0) (h : module_stored.f l0 a1 = some r) :
    Calls Try.prog 70 #[.slice A0 l0.length c0, .int .u8 a1] w fun e w' => e = .returned (.bool r) ∧ Drawn0 w w' := by
  have HR0 := amk hr0
  have HC0 := amk hc0
  clear hr0 hc0
  have H : ((types_Valid.f l0 a1).bind fun t102 => (if t102 = true then (if a1 = 0 then (some false) else (some (a1 != 3))) else (some false))) = some r := h
  clear h
  replace H := Option.bind_eq_some_iff.mp H
  obtain ⟨t102, A30, H⟩ := H
  replace H : (if t102 = true then (if a1 = 0 then (some false) else (some (a1 != 3))) else (some false)) = some r := H
  have A3 := amk A30
  clear A30
  by_cases c4 : t102 = true
  · subst c4
    have H1 : (if a1 = 0 then (some false) else (some (a1 != 3))) = some r := by rw [if_pos rfl] at H; exact H
    clear H
    have H := H1
    clear H1
    by_cases c5 : a1 = 0
    · rw [if_pos c5] at H
      have c5b0 : (a1 == 0) = true := beq_iff_eq.mpr c5
      have c5b1 : (a1 != 0) = false := bne_eq_false_iff_eq.mpr c5
      clear c5
      obtain rfl := Option.some.inj H
      go_enter Try.func70, Try.ntmps70
      go_wp2_with (first | ((with_reducible refine gate_callee (f := 110) rfl ?_); refine goesL_ (some 7) rfl rfl Try.func110 (by kernel_rfl) rfl #[.slice A0 l0.length c0, .int .u8 a1] rfl (by (try simp only [List.map_toArray, List.map_cons, List.map_nil]); first | done | rfl | (simp only [List.length_drop, List.length_take]; rfl)) ?_; (with_reducible refine (types_Valid.calls _ _ l0 a1 true _ ?side1 ?side2 A3.out).mono ?_); (case side1 => repeat (first | exact HR0.out | (with_reducible refine Kd.C_alloc ?_ _) | (with_reducible refine Kd.C_drewN ?_ _) | (with_reducible refine Kd.C_drew ?_))); (case side2 => exact HC0.out); rintro e w' ⟨rfl, ⟨nd, rfl⟩⟩; refine ⟨_, rfl, ?_⟩))
      go_ret
      exact ⟨by first | rfl | (simp; done) | (simp [*]; done), by repeat (first | exact Drawn0.refl _ | apply Drawn0.step)⟩
    · rw [if_neg c5] at H
      have c5b0 : (a1 == 0) = false := beq_eq_false_iff_ne.mpr c5
      have c5b1 : (a1 != 0) = true := bne_iff_ne.mpr c5
      obtain rfl := Option.some.inj H
      go_enter Try.func70, Try.ntmps70
      go_wp2_with (first | ((with_reducible refine gate_callee (f := 110) rfl ?_); refine goesL_ (some 7) rfl rfl Try.func110 (by kernel_rfl) rfl #[.slice A0 l0.length c0, .int .u8 a1] rfl (by (try simp only [List.map_toArray, List.map_cons, List.map_nil]); first | done | rfl | (simp only [List.length_drop, List.length_take]; rfl)) ?_; (with_reducible refine (types_Valid.calls _ _ l0 a1 true _ ?side1 ?side2 A3.out).mono ?_); (case side1 => repeat (first | exact HR0.out | (with_reducible refine Kd.C_alloc ?_ _) | (with_reducible refine Kd.C_drewN ?_ _) | (with_reducible refine Kd.C_drew ?_))); (case side2 => exact HC0.out); rintro e w' ⟨rfl, ⟨nd, rfl⟩⟩; refine ⟨_, rfl, ?_⟩))
      go_ret
      exact ⟨by first | rfl | (simp; done) | (simp [*]; done), by repeat (first | exact Drawn0.refl _ | apply Drawn0.step)⟩
  · replace c4 := Bool.eq_false_iff.mpr c4
    subst c4
    have H1 : (some false) = some r := by rw [if_neg (show ¬ (false = true) by decide)] at H; exact H
    clear H
    have H := H1
    clear H1
    obtain rfl := Option.some.inj H
    go_enter Try.func70, Try.ntmps70
    go_wp2_with (first | ((with_reducible refine gate_callee (f := 110) rfl ?_); refine goesL_ (some 7) rfl rfl Try.func110 (by kernel_rfl) rfl #[.slice A0 l0.length c0, .int .u8 a1] rfl (by (try simp only [List.map_toArray, List.map_cons, List.map_nil]); first | done | rfl | (simp only [List.length_drop, List.length_take]; rfl)) ?_; (with_reducible refine (types_Valid.calls _ _ l0 a1 false _ ?side1 ?side2 A3.out).mono ?_); (case side1 => repeat (first | exact HR0.out | (with_reducible refine Kd.C_alloc ?_ _) | (with_reducible refine Kd.C_drewN ?_ _) | (with_reducible refine Kd.C_drew ?_))); (case side2 => exact HC0.out); rintro e w' ⟨rfl, ⟨nd, rfl⟩⟩; refine ⟨_, rfl, ?_⟩))
    go_ret
    exact ⟨by first | rfl | (simp; done) | (simp [*]; done), by repeat (first | exact Drawn0.refl _ | apply Drawn0.step)⟩

def firstFromFunc (p : S49 → Bool) (l : List S49) : Nat → Nat → Int
  | 0, _ => -1
  | d + 1, i => if p (rd_T49 l i) = true then (i : Int) else firstFromFunc p l d (i + 1)
set_option maxHeartbeats 1600000 in
set_option maxRecDepth 100000 in
theorem index_func (fid : Nat) (caps : Array Value) (A0 : Option Addr) (c0 : Nat) (l : List S49) (W0 : World) (hr : Kd.C k49 W0 A0 l.length l) (Inv : World → Prop) (p : S49 → Bool)
    (hB : ∀ W, Inv W → Below W0.heap.size W0 W)
    (hstep : ∀ (x : S49) (A1 : Option Addr) (c1 : Nat) (A4 : Option Addr) (c4 : Nat) (W : World), Inv W → Calls Try.prog fid (#[.agg #[.string x.f0, .slice A1 x.f1.f0.length c1, .int .u8 x.f1.f1, .int .i64 x.f2, .slice A4 x.f3.length c4]] ++ caps) W fun e W' => e = .returned (.bool (p x)) ∧ Inv W')
    (hcf : ∀ (vs : Array Value) (w : World), Sem.run Try.prog (callFunc fid vs) w = .ok (.enter fid vs) w)
    (W : World) (h0 : Inv W) :
    Calls Try.prog 26 #[.slice A0 l.length c0, .func (.func fid) #[] caps] W fun e W' => e = .returned (.int .i64 (firstFromFunc p l l.length 0)) ∧ Inv W' := by
  have HI := amk h0
  have HS := amk hstep
  have HB := amk hB
  have HR := amk hr
  have hlen : l.length ≤ 9223372036854775807 := hr.2.1
  clear h0 hstep hB hr
  go_enter Try.func26, Try.ntmps26
  go_wp2
  go_loopw [8] (fun v8 wr => ∃ i : Nat, v8 = .int .i64 (i : Int) ∧ i ≤ l.length ∧ Aside0 (firstFromFunc p l l.length 0 = firstFromFunc p l (l.length - i) i) ∧ Aside0 (Inv wr)) (fun v8 _ => ((l.length : Int) - intOf v8).toNat)
  case atStart => exact ⟨0, rfl, Nat.zero_le _, ⟨rfl⟩, HI⟩
  case round =>
    obtain ⟨i, rfl, hi, HF, HI⟩ := hrel
    by_cases c1 : i < l.length
    · have c1b : decide ((i : Int) < (l.length : Int)) = true := decide_eq_true (by omega)
      obtain ⟨ad, A1, c1, A4, c4, e1, hx0, hx1, hx2, hx3, hx4, _, _⟩ := at_T49 HR.out (i : Int) (by omega) (by omega)
      cases e1
      have hb := HB.out _ HI.out
      replace hx0 := (hb.cell (blc W0 _ hx0)).trans hx0
      replace hx1 := (hb.cell (blc W0 _ hx1)).trans hx1
      replace hx2 := (hb.cell (blc W0 _ hx2)).trans hx2
      replace hx3 := (hb.cell (blc W0 _ hx3)).trans hx3
      replace hx4 := (hb.cell (blc W0 _ hx4)).trans hx4
      simp only [Int.toNat_natCast] at hx0 hx1 hx2 hx3 hx4
      have p5 : (0 ≤ (i : Int)) = True := eq_true (by omega)
      have p6 : ((i : Int) < (l.length : Int)) = True := eq_true (by omega)
      have HN : Aside0 (firstFromFunc p l (l.length - i) i = if p (rd_T49 l i) = true then (i : Int) else firstFromFunc p l (l.length - (i + 1)) (i + 1)) := ⟨by
        obtain ⟨d, hd⟩ : ∃ d, l.length - i = d + 1 := ⟨l.length - i - 1, by omega⟩
        rw [hd, show l.length - (i + 1) = d by omega]
        rfl⟩
      clear hb
      go_wp2_with fail
      refine (HS.out (rd_T49 l i) A1 c1 A4 c4 _ HI.out).mono ?_
      rintro e w2 ⟨rfl, hI⟩
      clear HI
      have HI := amk hI
      clear hI hx0 hx1 hx2 hx3 hx4
      by_cases hp : p (rd_T49 l i) = true
      · rw [hp]
        have HP := amk hp
        clear hp
        go_wp2
        go_ret
        exact ⟨by rw [HF.out, HN.out, if_pos HP.out]; rfl, HI.out⟩
      · have HP := amk hp
        rw [Bool.eq_false_iff.mpr hp]
        clear hp
        go_wp2
        go_roundw
        case rel => exact ⟨i + 1, rfl, by omega, ⟨by rw [HF.out, HN.out, if_neg HP.out]⟩, HI⟩
        case measure => simp [intOf]; omega
    · have c1b : decide ((i : Int) < (l.length : Int)) = false := decide_eq_false (by omega)
      have HZ : Aside0 (l.length - i = 0) := ⟨by omega⟩
      go_wp2
      go_ret
      exact ⟨by rw [HF.out, HZ.out]; rfl, HI.out⟩
theorem first_any_func (p : S49 → Bool) (l : List S49) : ∀ (d i : Nat), i + d = l.length → (decide (0 ≤ firstFromFunc p l d i)) = (l.drop i).any p
  | 0, i, h => by
    rw [List.drop_of_length_le (by omega)]
    rfl
  | d + 1, i, h => by
    have hi : i < l.length := by omega
    have hr : rd_T49 l (i : Int) = l[i] := by simp [rd_T49, List.getD_eq_getElem?_getD, hi]
    rw [List.drop_eq_getElem_cons hi, List.any_cons, ← hr, ← first_any_func p l d (i + 1) (by omega)]
    show decide (0 ≤ (if p (rd_T49 l (i : Int)) = true then (i : Int) else firstFromFunc p l d (i + 1))) = _
    by_cases e : p (rd_T49 l i) = true
    · rw [if_pos e, e]
      simp
    · rw [if_neg e, Bool.eq_false_iff.mpr e]
      simp

theorem callFunc_run2 {f : Nat} {fn : Func} (hf : Try.prog.funcs[f]? = some fn) (hname : (fn.name == "runtime.NumGoroutine") = false) (hb : fn.body.isSome = true) (vs : Array Value) (w : World) : Sem.run Try.prog (callFunc f vs) w = .ok (.enter f vs) w := enters_ hf hname hb vs w
def slices_Clone_byte_byte.f (l0 : List Int) : Option (List Int) := if l0.length < 140737488355328 then some l0 else none
set_option maxHeartbeats 800000 in
set_option maxRecDepth 100000 in
theorem slices_Clone_byte_byte.calls (A0 : Option Addr) (c0 : Nat) (l0 : List Int) (r : List Int) (w : World) (hr0 : Kd.C (Kd.int .u8) w A0 l0.length l0) (hc0 : l0.length ≤ c0) (h : slices_Clone_byte_byte.f l0 = some r) :
    Calls Try.prog 25 #[.slice A0 l0.length c0] w fun e w' => ∃ v0_ : Value, e = .returned v0_ ∧ Kd.R (Kd.int .u8) 5 w' w.heap.size (fun _ => True) v0_ r ∧ Below w.heap.size w w' := by
  obtain ⟨hlim, rfl⟩ : l0.length < 140737488355328 ∧ r = l0 := by
    unfold slices_Clone_byte_byte.f at h
    split at h
    · rename_i h9
      exact ⟨h9, (Option.some.inj h).symm⟩
    · cases h
  have hnil := Lib.run_eql_slice_nil (P := Try.prog) (h := Try.underlying36)
  have HR := amk hr0
  have HL := amk hlim
  cases A0 with
  | none =>
    have e0 : r = [] := by
      rcases Nat.eq_zero_or_pos r.length with h0 | h0
      · exact List.length_eq_zero_iff.1 h0
      · obtain ⟨ad, e, _⟩ := hr0.2.2 h0
        cases e
    have E0 := amk e0
    clear h hr0 hlim e0
    go_enter Try.func25, Try.ntmps25
    go_wp2
    go_ret
    refine ⟨_, rfl, ?_, Below.refl _ _⟩
    rw [E0.out]
    exact Kd.R_nil _ _ _ _ _
  | some ad =>
    clear h hr0 hlim
    go_enter Try.func25, Try.ntmps25
    go_wp2_with (first | ((with_reducible refine gate_dst (N := 5) rfl ?_); refine Kd.R_lit (Kd.int .u8) _ 5 ?hg (N := 5) ?hd (xs := ([] : List Int)) (inner := []) (ok := fun _ => True) (okp := fun _ => True) ?hr ?hp (fun _ hk => hk) trivial (Below.refl _ _) (Nat.le_refl _) (by simp) ?_; (case hd => rfl); (case hg => rfl); (case hr => first | (go_simp; done) | (go_simp; rfl)); (case hp => exact (Reps.none _ _)); intro v1 w1 ho1 hb1 _ _; have n1 := amk ho1; have n2 := amk hb1; clear ho1 hb1; obtain ⟨A1, c1, e1⟩ := Kd.R_slice n1.out; subst e1) | ((with_reducible refine gate_builtin (b := .append) (xs := #[.tmp 5, .tmp 6]) rfl ?_); at_builtin; refine Kd.R_append_rows (Kd.int .u8) (w0 := w) w.heap.size rfl (.tmp 5) (.tmp 6) 36 5 (.int .u8 0) 1 rfl Try.underlying36 info5 rfl (by decide) (by omega) (.slice A1 (([] : List Int)).length c1) ([] : List Int) r _ _ _ (fun _ => True) (fun _ => False) rfl rfl ?aO ?aR (fun _ _ h => h) (fun _ h => h.elim) ?aF ?aB ?aS ?aL ?_; (case aR => exact Kd.C_below HR.out n2.out); (case aB => exact n2.out); (case aF => exact (fun _ _ => trivial)); (case aO => exact n1.out); (case aS => exact n2.out.size); (case aL => have h9 := HL.out; simp only [List.length_nil]; omega); intro v2 w2 ho2 hb2 _ _; have n3 := amk ho2; have n4 := amk hb2; clear ho2 hb2))
    go_ret
    exact ⟨_, rfl, n3.out, n4.out⟩

def api_Field_59.f (l0 : List S99) : Option (List S99) := if l0.length < 5864062014805 then some l0 else none
set_option maxHeartbeats 800000 in
set_option maxRecDepth 100000 in
theorem api_Field_59.calls (A0 : Option Addr) (c0 : Nat) (l0 : List S99) (r : List S99) (w : World) (hr0 : Kd.C k99 w A0 l0.length l0) (hc0 : l0.length ≤ c0) (h : api_Field_59.f l0 = some r) :
    Calls Try.prog 59 #[.slice A0 l0.length c0] w fun e w' => ∃ v0_ : Value, e = .returned v0_ ∧ Kd.R k99 99 w' w.heap.size (fun _ => True) v0_ r ∧ Below w.heap.size w w' := by
  obtain ⟨hlim, rfl⟩ : l0.length < 5864062014805 ∧ r = l0 := by
    unfold api_Field_59.f at h
    split at h
    · rename_i h9
      exact ⟨h9, (Option.some.inj h).symm⟩
    · cases h
  have hnil := Lib.run_eql_slice_nil (P := Try.prog) (h := Try.underlying62)
  have HR := amk hr0
  have HL := amk hlim
  cases A0 with
  | none =>
    have e0 : r = [] := by
      rcases Nat.eq_zero_or_pos r.length with h0 | h0
      · exact List.length_eq_zero_iff.1 h0
      · obtain ⟨ad, e, _⟩ := hr0.2.2 h0
        cases e
    have E0 := amk e0
    clear h hr0 hlim e0
    go_enter Try.func59, Try.ntmps59
    go_wp2
    go_ret
    refine ⟨_, rfl, ?_, Below.refl _ _⟩
    rw [E0.out]
    exact Kd.R_nil _ _ _ _ _
  | some ad =>
    clear h hr0 hlim
    go_enter Try.func59, Try.ntmps59
    go_wp2_with (first | ((with_reducible refine gate_dst (N := 5) rfl ?_); refine Kd.R_lit k99 _ 99 ?hg (N := 5) ?hd (xs := ([] : List S99)) (inner := []) (ok := fun _ => True) (okp := fun _ => True) ?hr ?hp (fun _ hk => hk) trivial (Below.refl _ _) (Nat.le_refl _) (by simp) ?_; (case hd => rfl); (case hg => rfl); (case hr => first | (go_simp; done) | (go_simp; rfl)); (case hp => exact (Reps.none _ _)); intro v1 w1 ho1 hb1 _ _; have n1 := amk ho1; have n2 := amk hb1; clear ho1 hb1; obtain ⟨A1, c1, e1⟩ := Kd.R_slice n1.out; subst e1) | ((with_reducible refine gate_builtin (b := .append) (xs := #[.tmp 5, .tmp 6]) rfl ?_); at_builtin; refine Kd.R_append_rows k99 (w0 := w) w.heap.size rfl (.tmp 5) (.tmp 6) 62 99 (.agg #[(.string ⟨#[]⟩), (.int .u8 0)]) 24 rfl Try.underlying62 info99 rfl (by decide) (by omega) (.slice A1 (([] : List S99)).length c1) ([] : List S99) r _ _ _ (fun _ => True) (fun _ => False) rfl rfl ?aO ?aR (fun _ _ h => h) (fun _ h => h.elim) ?aF ?aB ?aS ?aL ?_; (case aR => exact Kd.C_below HR.out n2.out); (case aB => exact n2.out); (case aF => exact (fun _ _ => trivial)); (case aO => exact n1.out); (case aS => exact n2.out.size); (case aL => have h9 := HL.out; simp only [List.length_nil]; omega); intro v2 w2 ho2 hb2 _ _; have n3 := amk ho2; have n4 := amk hb2; clear ho2 hb2))
    go_ret
    exact ⟨_, rfl, n3.out, n4.out⟩

def provisoplain_Classes.l0 : Nat → List (S64) → List (S64) → Int → Int → Option ((List (S64)))
  | 0, _, _, _, _ => none
  | k + 1, x3, x6, x7, x8 => if x8 < x7 then (if 0 ≤ x8 then (if x8 < (x6.length : Int) then ((api_Field_59.f ((rd_T64 x6 x8).f2)).bind fun t107 => (if x3.length < 2932031007402 then (provisoplain_Classes.l0 k (x3 ++ [(⟨(rd_T64 x6 x8).f0, (rd_T64 x6 x8).f1, t107⟩ : S64)]) x6 x7 (wrap64 (x8 + 1))) else (none))) else (none)) else (none)) else (some x3)
def provisoplain_Classes.f (k : Nat) (l0 : List (S64)) : Option ((List (S64))) := provisoplain_Classes.l0 k ([] : List (S64)) l0 (l0.length : Int) 0
set_option maxHeartbeats 8000000 in
set_option maxRecDepth 100000 in
theorem provisoplain_Classes.calls (k : Nat) (A0 : Option Addr) (c0 : Nat) (l0 : List (S64)) (r : List (S64)) (w : World) (hr0 : Kd.C k64 w A0 l0.length l0) (hc0 : l0.length ≤ c0) (h : provisoplain_Classes.f k l0 = some r) :
    Calls Try.prog 28 #[.slice A0 l0.length c0] w fun e w' => ∃ v0_ : Value, e = .returned (v0_) ∧ Kd.S k64 64 w' w.heap.size (fun _ => True) v0_ r ∧ Below w.heap.size w w' := by
  have hu64 := Try.underlying64
  have HR0 := amk hr0
  have HC0 := amk hc0
  clear hr0 hc0
  have HB := amk (Below.refl w.heap.size w)
  have H : (provisoplain_Classes.l0 k ([] : List (S64)) l0 (l0.length : Int) 0) = some r := h
  clear h
  have H' := amk H
  clear H
  go_enter Try.func28, Try.ntmps28
  go_wp2
  go_loopg [3, 8] k (fun kq v3 v8 w' => ∃ (x3_1 : List (S64)) (x8_1 : Int), v8 = .int .i64 x8_1 ∧ Aside0 (provisoplain_Classes.l0 kq x3_1 l0 (l0.length : Int) x8_1 = some r) ∧ Aside0 (kq ≤ k) ∧ Aside0 (Kd.S k64 64 w' w.heap.size (fun _ => True) v3 x3_1) ∧ Aside0 (Below w.heap.size w w'))
  case atStart => exact ⟨(([] : List (S64))), (0), (by first | rfl | (simp; done) | (simp [*]; done)), H', ⟨Nat.le_refl _⟩, ⟨by first | exact Kd.S_nil _ _ _ _ _ | exact Kd.N_nil _ _ _ _ _ | exact Kd.V_nil _ _ _ _ _ | exact Kd.Q_nil _ _ _ _ _ | exact Kd.R_nil _ _ _ _ _⟩, ⟨by repeat (first | (with_reducible first | exact HB.out | apply bal | apply pbd | apply bdr) | exact HB.out)⟩⟩
  case round =>
    clear H'
    obtain ⟨x3_1, x8_1, rfl, HA, HK1, HO_3, HB⟩ := hrel
    cases gk with
    | zero => exact absurd HA.out (by simp [provisoplain_Classes.l0])
    | succ k1 =>
      have H := HA.out
      clear HA
      simp only [provisoplain_Classes.l0] at H
      by_cases c2 : x8_1 < (l0.length : Int)
      · rw [if_pos c2] at H
        have c2b0 : decide (x8_1 < (l0.length : Int)) = true := decide_eq_true c2
        clear c2
        by_cases c3 : 0 ≤ x8_1
        · rw [if_pos c3] at H
          have c3b0 : decide (0 ≤ x8_1) = true := decide_eq_true c3
          clear c3
          by_cases c4 : x8_1 < (l0.length : Int)
          · rw [if_pos c4] at H
            have c4b0 : decide (x8_1 < (l0.length : Int)) = true := decide_eq_true c4
            clear c4
            replace H := Option.bind_eq_some_iff.mp H
            obtain ⟨t107, A50, H⟩ := H
            replace H : (if x3_1.length < 2932031007402 then (provisoplain_Classes.l0 k1 (x3_1 ++ [(⟨(rd_T64 l0 x8_1).f0, (rd_T64 l0 x8_1).f1, t107⟩ : S64)]) l0 (l0.length : Int) (wrap64 (x8_1 + 1))) else (none)) = some r := H
            have A5 := amk A50
            clear A50
            by_cases c6 : x3_1.length < 2932031007402
            · rw [if_pos c6] at H
              have LMc6 := amk c6
              clear c6
              obtain ⟨y110, hy110⟩ : ∃ y_ : List (S64), y_ = (x3_1 ++ [(⟨(rd_T64 l0 x8_1).f0, (rd_T64 l0 x8_1).f1, t107⟩ : S64)]) := ⟨_, rfl⟩
              replace H : (provisoplain_Classes.l0 k1 y110 l0 (l0.length : Int) (wrap64 (x8_1 + 1))) = some r := by first | (rw [hy110]; with_reducible exact H) | (have H2_ := (Option.bind_some _ _).symm.trans H; rw [hy110]; with_reducible exact H2_) | (have H2_ := (Option.bind_some _ _).symm.trans H; with_reducible exact H2_) | with_reducible exact H | (rw [hy110]; exact H) | exact H
              have Ny110 := amk hy110
              clear hy110
              have H' := amk H
              clear H
              have p105 : 0 ≤ (x8_1 : Int) := of_decide_eq_true (by first | (with_reducible assumption) | assumption)
              have q105 : x8_1 < (l0.length : Int) := of_decide_eq_true (by first | (with_reducible assumption) | assumption)
              obtain ⟨ad105, A105_2, c105_2, e105, hx105_0, hx105_1, hx105_2, hl105_2, hi105_2⟩ := at_T64 HR0.out x8_1 p105 q105
              cases e105
              replace hx105_0 := (HB.out.cell (blc w _ hx105_0)).trans hx105_0
              replace hx105_1 := (HB.out.cell (blc w _ hx105_1)).trans hx105_1
              replace hx105_2 := (HB.out.cell (blc w _ hx105_2)).trans hx105_2
              have HR105_2 := amk hi105_2
              have HC105_2 := amk hl105_2
              clear hi105_2 hl105_2
              replace p105 := eq_true p105
              replace q105 := eq_true q105
              go_wp2_with (first | ((with_reducible refine gate_dst (N := 5) rfl ?_); refine box_event ?hg (N := 5) ?hd (cs := #[.string (⟨#[]⟩ : ByteArray), .int .i64 0, .slice none 0 0]) (t := 64) ?hr ?_; (case hd => rfl); (case hg => rfl); (case hr => first | (go_simp; done) | (go_simp; rfl)); intro gb106 hg w7 hbox hb; have n0_ := amk (Kd.S_below (Kd.S_elderB (by (with_reducible repeat (first | apply Kd.S_alloc | apply Kd.S_drewN | apply Kd.S_drew)); exact HO_3.out) gb106 (Nat.le_of_eq hg.symm)) hb); have n1_ := amk (below_step (by repeat (first | (with_reducible first | exact HB.out | apply bal | apply pbd | apply bdr) | exact HB.out)) hb); have n2_ := amk (hbox); have n3_ := amk ((by rw [hg]; exact (below_size (by repeat (first | (with_reducible first | exact HB.out | apply bal | apply pbd | apply bdr) | exact HB.out))) : w.heap.size ≤ gb106)); have n4_ := amk ((by rw [hg]; exact (below_size (by repeat (first | (with_reducible first | exact HB.out | apply bal | apply pbd | apply bdr) | exact HB.out))) : w.heap.size ≤ gb106)); clear HO_3; clear HB; have HO_3 := n0_; have HB := n1_; have BK106 := n2_; have GW106 := n3_; have GE106 := n4_; clear n0_ n1_ n2_ n3_ n4_; clear hb hbox hg; have hcz8_0 : w7.cell? ⟨gb106, 0, none⟩ = some (.string (⟨#[]⟩ : ByteArray)) := (blk_cell BK106.out 0).trans rfl; have hcz8_1 : w7.cell? ⟨gb106, 1, none⟩ = some (.int .i64 0) := (blk_cell BK106.out 1).trans rfl; have hcz8_2 : w7.cell? ⟨gb106, 2, none⟩ = some (.slice none 0 0) := (blk_cell BK106.out 2).trans rfl; have hfz8_0 := bkf BK106.out 0; have hfz8_1 := bkf BK106.out 1; have hfz8_2 := bkf BK106.out 2) | ((with_reducible refine gate_callee (f := 59) rfl ?_); refine goesL_ (some 14) rfl rfl Try.func59 (by kernel_rfl) rfl #[.slice A105_2 ((rd_T64 l0 x8_1).f2).length c105_2] rfl (by (try simp only [List.map_toArray, List.map_cons, List.map_nil]); first | done | rfl | (simp only [List.length_drop, List.length_take]; rfl)) ?_; (with_reducible refine (api_Field_59.calls _ _ ((rd_T64 l0 x8_1).f2) t107 _ ?side1 ?side2 A5.out).mono ?_); (case side1 => exact Kd.C_below HR105_2.out (by repeat (first | (with_reducible first | exact HB.out | apply bal | apply pbd | apply bdr | refine below_set ?_ GE106.out) | exact HB.out))); (case side2 => exact HC105_2.out); rintro e w9 ⟨v108, rfl, ho0, hb⟩; refine ⟨_, rfl, ?_⟩; have n0_ := amk (Kd.S_elder' (by (with_reducible repeat (first | apply Kd.S_alloc | apply Kd.S_drewN | apply Kd.S_drew)); exact (Kd.S_mono (Kd.S_far (p := ⟨gb106, 2, none⟩) (Kd.S_far (p := ⟨gb106, 1, none⟩) (Kd.S_far (p := ⟨gb106, 0, none⟩) (Kd.S_mono HO_3.out (fun k_ hk => (⟨hk, hk.2⟩ : _ ∧ k_ ≠ gb106))) (fun _ hk => hk.2) (.string ((rd_T64 l0 x8_1).f0))) (fun _ hk => hk.2) (.int .i64 ((rd_T64 l0 x8_1).f1))) (fun _ hk => hk.2) (.slice A105_2 ((rd_T64 l0 x8_1).f2).length c105_2)) (fun _ h_ => h_.1))) (Kd.R_base ho0) hb); have n1_ := amk (Kd.R_lower ho0 (below_size (by repeat (first | (with_reducible first | exact HB.out | apply bal | apply pbd | apply bdr | refine below_set ?_ GE106.out) | exact HB.out)))); have n2_ := amk (blk_below (g := gb106) (o := .cells #[.string ((rd_T64 l0 x8_1).f0), .int .i64 ((rd_T64 l0 x8_1).f1), .slice A105_2 ((rd_T64 l0 x8_1).f2).length c105_2] 64 (0, 0)) (by (with_reducible repeat (first | refine bkd ?_ _ | refine blk_drew ?_ | refine bka ?_ _)); refine blk_put (cs := #[.string ((rd_T64 l0 x8_1).f0), .int .i64 ((rd_T64 l0 x8_1).f1), .slice none 0 0]) ?_ 2 _ rfl; (with_reducible repeat (first | refine bkd ?_ _ | refine blk_drew ?_ | refine bka ?_ _)); refine blk_put (cs := #[.string ((rd_T64 l0 x8_1).f0), .int .i64 0, .slice none 0 0]) ?_ 1 _ rfl; (with_reducible repeat (first | refine bkd ?_ _ | refine blk_drew ?_ | refine bka ?_ _)); refine blk_put (cs := #[.string (⟨#[]⟩ : ByteArray), .int .i64 0, .slice none 0 0]) ?_ 0 _ rfl; (with_reducible repeat (first | refine bkd ?_ _ | refine blk_drew ?_ | refine bka ?_ _)); exact BK106.out) hb); have n3_ := amk (below_step (by repeat (first | (with_reducible first | exact HB.out | apply bal | apply pbd | apply bdr | refine below_set ?_ GE106.out) | exact HB.out)) hb); clear HO_3; clear BK106; clear HB; have HO_3 := n0_; have HO109 := n1_; have BK106 := n2_; have HB := n3_; clear n0_ n1_ n2_ n3_; (try clear hb); (try clear hb2); (try clear hk); (try clear hi); (try clear ho0); obtain ⟨Ao10, co10, eo10⟩ := Kd.R_slice HO109.out; subst eo10; have hcz11_0 : w9.cell? ⟨gb106, 0, none⟩ = some (.string ((rd_T64 l0 x8_1).f0)) := (blk_cell BK106.out 0).trans rfl; have hcz11_1 : w9.cell? ⟨gb106, 1, none⟩ = some (.int .i64 ((rd_T64 l0 x8_1).f1)) := (blk_cell BK106.out 1).trans rfl; have hcz11_2 : w9.cell? ⟨gb106, 2, none⟩ = some (.slice A105_2 ((rd_T64 l0 x8_1).f2).length c105_2) := (blk_cell BK106.out 2).trans rfl; have hfz11_0 := bkf BK106.out 0; have hfz11_1 := bkf BK106.out 1; have hfz11_2 := bkf BK106.out 2) | ((with_reducible refine gate_store (t := 62) (p := 15) rfl ?_); refine store_event (t := 62) (p := 15) (v := ?vo_w12) (w1 := (w9.setCell ⟨gb106, 2, none⟩ (.slice Ao10 t107.length co10))) ?hg ?ho ?hn ?hr ?_; (case ho => rfl); (case hg => rfl); (case hn => rfl); (case hr => first | (go_simp; done) | (go_simp; rfl)); intro w12 hw; have n0_ : Aside0 (Kd.S k64 64 w12 w.heap.size (fun k_ => some k_ ≠ (.slice Ao10 t107.length co10 : Value).ownBlock ∧ k_ ≠ gb106) u3 x3_1) := ⟨(by rw [hw]; exact (by (with_reducible repeat (first | apply Kd.S_alloc | apply Kd.S_drewN | apply Kd.S_drew)); exact Kd.S_mono (Kd.S_far (p := ⟨gb106, 2, none⟩) (Kd.S_mono HO_3.out (fun k_ hk => (⟨hk, hk.1.2⟩ : _ ∧ k_ ≠ gb106))) (fun _ hk => hk.2) (.slice Ao10 t107.length co10)) (fun _ hk => ⟨hk.1.2, hk.1.1.2⟩)))⟩; have n1_ : Aside0 (Kd.R k99 99 w12 w.heap.size (fun _ => True) (.slice Ao10 t107.length co10) t107) := ⟨(by rw [hw]; exact (by (with_reducible repeat (first | apply Kd.R_alloc | apply Kd.R_drewN | apply Kd.R_drew)); exact Kd.R_mono (Kd.R_far (p := ⟨gb106, 2, none⟩) (Kd.R_types HO109.out BK106.out (by decide)) (fun _ hk => hk.2) (.slice Ao10 t107.length co10)) (fun _ hk => trivial)))⟩; have n2_ : Aside0 (w12.heap[gb106]? = some (.cells #[.string ((rd_T64 l0 x8_1).f0), .int .i64 ((rd_T64 l0 x8_1).f1), .slice Ao10 t107.length co10] 64 (0, 0))) := ⟨(by rw [hw]; exact (by (with_reducible repeat (first | refine bkd ?_ _ | refine blk_drew ?_ | refine bka ?_ _)); refine blk_put (cs := #[.string ((rd_T64 l0 x8_1).f0), .int .i64 ((rd_T64 l0 x8_1).f1), .slice A105_2 ((rd_T64 l0 x8_1).f2).length c105_2]) ?_ 2 _ rfl; (with_reducible repeat (first | refine bkd ?_ _ | refine blk_drew ?_ | refine bka ?_ _)); exact BK106.out))⟩; have n3_ : Aside0 (Below w.heap.size w w12) := ⟨(by rw [hw]; exact (by repeat (first | (with_reducible first | exact HB.out | apply bal | apply pbd | apply bdr | refine below_set ?_ GE106.out) | exact HB.out)))⟩; clear hw; clear HO_3; clear HO109; clear BK106; clear HB; have HO_3 := n0_; have HO109 := n1_; have BK106 := n2_; have HB := n3_; clear n0_ n1_ n2_ n3_; have hcz13_0 : w12.cell? ⟨gb106, 0, none⟩ = some (.string ((rd_T64 l0 x8_1).f0)) := (blk_cell BK106.out 0).trans rfl; have hcz13_1 : w12.cell? ⟨gb106, 1, none⟩ = some (.int .i64 ((rd_T64 l0 x8_1).f1)) := (blk_cell BK106.out 1).trans rfl; have hcz13_2 : w12.cell? ⟨gb106, 2, none⟩ = some (.slice Ao10 t107.length co10) := (blk_cell BK106.out 2).trans rfl; have hfz13_0 := bkf BK106.out 0; have hfz13_1 := bkf BK106.out 1; have hfz13_2 := bkf BK106.out 2) | ((with_reducible refine gate_builtin (b := .append) (xs := #[.tmp 16, .tmp 18]) rfl ?_); at_builtin; refine Kd.S_append k64 (w0 := w) w.heap.size rfl (.tmp 16) (.tmp 18) 22 64 (.agg #[(.string ⟨#[]⟩), (.int .i64 0), (.slice none 0 0)]) 48 rfl Try.underlying22 info64 rfl (by decide) (by omega) u3 x3_1 (⟨(rd_T64 l0 x8_1).f0, (rd_T64 l0 x8_1).f1, t107⟩ : S64) [.string ((rd_T64 l0 x8_1).f0), .int .i64 ((rd_T64 l0 x8_1).f1), .slice Ao10 t107.length co10] (fun k_ => k_ ≠ gb106) (fun k_ => some k_ = (.slice Ao10 t107.length co10 : Value).ownBlock) rfl rfl ?aP (fun k_ hk_ => ((Kd.R_mono (ok' := fun k_ => ((fun k_ => k_ ≠ gb106)) k_ ∧ some k_ ≠ (u3 : Value).ownBlock) (Kd.R_types (Kd.R_apart' (HO109.out) (Kd.S_typed HO_3.out) (by decide)) BK106.out (by decide)) (fun k_ hk => ⟨hk.2, hk.1.2⟩))).1 k_ hk_.symm) ?aF ?aO ?aB ?aS ?aL ?_; (case aP => exact k64_mkM _ _ _ (⟨(rd_T64 l0 x8_1).f0, (rd_T64 l0 x8_1).f1, t107⟩ : S64) (Kd.R_mono (Kd.R_tight rfl (Kd.R_mono (ok' := fun k_ => ((fun k_ => k_ ≠ gb106)) k_ ∧ some k_ ≠ (u3 : Value).ownBlock) (Kd.R_types (Kd.R_apart' (HO109.out) (Kd.S_typed HO_3.out) (by decide)) BK106.out (by decide)) (fun k_ hk => ⟨hk.2, hk.1.2⟩))) (fun _ h_ => h_))); (case aB => exact (by repeat (first | (with_reducible first | exact HB.out | apply bal | apply pbd | apply bdr | refine below_set ?_ GE106.out) | exact HB.out))); (case aF => exact (fun k_ hk => Kd.freshB (g := gb106) (o := .cells #[.string ((rd_T64 l0 x8_1).f0), .int .i64 ((rd_T64 l0 x8_1).f1), .slice Ao10 t107.length co10] 64 (0, 0)) (by (with_reducible repeat (first | refine bkd ?_ _ | refine blk_drew ?_ | refine bka ?_ _)); exact BK106.out) k_ hk)); (case aO => exact (by (with_reducible repeat (first | apply Kd.S_alloc | apply Kd.S_drewN | apply Kd.S_drew)); exact Kd.S_mono HO_3.out (fun k_ hk => ⟨hk.2, fun e_ => hk.1 e_⟩))); (case aS => exact (below_size (by repeat (first | (with_reducible first | exact HB.out | apply bal | apply pbd | apply bdr | refine below_set ?_ GE106.out) | exact HB.out)))); (case aL => have := LMc6.out; omega); intro v111 w14 ho hb hg hat; rw [← Ny110.out] at ho; have n0_ := amk (blk_grown (g := gb106) (o := .cells #[.string ((rd_T64 l0 x8_1).f0), .int .i64 ((rd_T64 l0 x8_1).f1), .slice Ao10 t107.length co10] 64 (0, 0)) (by (with_reducible repeat (first | refine bkd ?_ _ | refine blk_drew ?_ | refine bka ?_ _)); exact BK106.out) hg (Kd.S_away HO_3.out (fun _ hk => hk.2))); have n1_ := amk (hb); have n2_ := amk (ho); clear BK106; clear HB; clear HO_3; clear HO109; have BK106 := n0_; have HB := n1_; have HO112 := n2_; clear n0_ n1_ n2_; clear ho hb hg hat))
              go_roundg k1
              case measure => have := HK1.out; omega
              case rel => exact ⟨(y110), (wrap64 (x8_1 + 1)), (by first | rfl | (simp; done) | (simp [*]; done)), H', ⟨by have := HK1.out; omega⟩, ⟨by (with_reducible repeat (first | apply Kd.S_alloc | apply Kd.S_drewN | apply Kd.S_drew)); exact Kd.S_mono HO112.out (fun _ hk => trivial)⟩, ⟨by repeat (first | (with_reducible first | exact HB.out | apply bal | apply pbd | apply bdr | refine below_set ?_ GE106.out) | exact HB.out)⟩⟩
            · rw [if_neg c6] at H
              exact absurd H (by simp)
          · rw [if_neg c4] at H
            exact absurd H (by simp)
        · rw [if_neg c3] at H
          exact absurd H (by simp)
      · rw [if_neg c2] at H
        have c2b0 : decide (x8_1 < (l0.length : Int)) = false := decide_eq_false c2
        clear c2
        obtain rfl := Option.some.inj H
        go_wp2
        go_ret
        exact ⟨_, by first | rfl | (simp [errW_none, errW_some] <;> rfl) | (simp [*, errW_none, errW_some] <;> rfl), by (with_reducible repeat (first | apply Kd.S_alloc | apply Kd.S_drewN | apply Kd.S_drew)); exact HO_3.out, by repeat (first | (with_reducible first | exact HB.out | apply bal | apply pbd | apply bdr) | exact HB.out)⟩

def api_Type_104.f (l0 : List Int) : Option (List Int) := if l0.length < 140737488355328 then some l0 else none
set_option maxHeartbeats 800000 in
set_option maxRecDepth 100000 in
theorem api_Type_104.calls (A0 : Option Addr) (c0 : Nat) (l0 : List Int) (r : List Int) (w : World) (hr0 : Kd.C (Kd.int .u8) w A0 l0.length l0) (hc0 : l0.length ≤ c0) (h : api_Type_104.f l0 = some r) :
    Calls Try.prog 104 #[.slice A0 l0.length c0] w fun e w' => ∃ v0_ : Value, e = .returned v0_ ∧ Kd.R (Kd.int .u8) 45 w' w.heap.size (fun _ => True) v0_ r ∧ Below w.heap.size w w' := by
  obtain ⟨hlim, rfl⟩ : l0.length < 140737488355328 ∧ r = l0 := by
    unfold api_Type_104.f at h
    split at h
    · rename_i h9
      exact ⟨h9, (Option.some.inj h).symm⟩
    · cases h
  have hnil := Lib.run_eql_slice_nil (P := Try.prog) (h := Try.underlying44)
  have HR := amk hr0
  have HL := amk hlim
  cases A0 with
  | none =>
    have e0 : r = [] := by
      rcases Nat.eq_zero_or_pos r.length with h0 | h0
      · exact List.length_eq_zero_iff.1 h0
      · obtain ⟨ad, e, _⟩ := hr0.2.2 h0
        cases e
    have E0 := amk e0
    clear h hr0 hlim e0
    go_enter Try.func104, Try.ntmps104
    go_wp2
    go_ret
    refine ⟨_, rfl, ?_, Below.refl _ _⟩
    rw [E0.out]
    exact Kd.R_nil _ _ _ _ _
  | some ad =>
    clear h hr0 hlim
    go_enter Try.func104, Try.ntmps104
    go_wp2_with (first | ((with_reducible refine gate_dst (N := 5) rfl ?_); refine Kd.R_lit (Kd.int .u8) _ 45 ?hg (N := 5) ?hd (xs := ([] : List Int)) (inner := []) (ok := fun _ => True) (okp := fun _ => True) ?hr ?hp (fun _ hk => hk) trivial (Below.refl _ _) (Nat.le_refl _) (by simp) ?_; (case hd => rfl); (case hg => rfl); (case hr => first | (go_simp; done) | (go_simp; rfl)); (case hp => exact (Reps.none _ _)); intro v1 w1 ho1 hb1 _ _; have n1 := amk ho1; have n2 := amk hb1; clear ho1 hb1; obtain ⟨A1, c1, e1⟩ := Kd.R_slice n1.out; subst e1) | ((with_reducible refine gate_builtin (b := .append) (xs := #[.tmp 5, .tmp 6]) rfl ?_); at_builtin; refine Kd.R_append_rows (Kd.int .u8) (w0 := w) w.heap.size rfl (.tmp 5) (.tmp 6) 44 45 (.int .u8 0) 1 rfl Try.underlying44 info45 rfl (by decide) (by omega) (.slice A1 (([] : List Int)).length c1) ([] : List Int) r _ _ _ (fun _ => True) (fun _ => False) rfl rfl ?aO ?aR (fun _ _ h => h) (fun _ h => h.elim) ?aF ?aB ?aS ?aL ?_; (case aR => exact Kd.C_below HR.out n2.out); (case aB => exact n2.out); (case aF => exact (fun _ _ => trivial)); (case aO => exact n1.out); (case aS => exact n2.out.size); (case aL => have h9 := HL.out; simp only [List.length_nil]; omega); intro v2 w2 ho2 hb2 _ _; have n3 := amk ho2; have n4 := amk hb2; clear ho2 hb2))
    go_ret
    exact ⟨_, rfl, n3.out, n4.out⟩

def provisoplain_Sig.f (l0_0 : List Int) (a0_1 : Int) : Option (List Int × Int) := (api_Type_104.f l0_0).bind fun t115 => (some (t115, a0_1))
set_option maxHeartbeats 8000000 in
set_option maxRecDepth 100000 in
theorem provisoplain_Sig.calls (A0_0 : Option Addr) (c0_0 : Nat) (l0_0 : List Int) (a0_1 : Int) (r1 : List Int) (r2 : Int) (w : World) (hr0_0 : Kd.C (Kd.int .u8) w A0_0 l0_0.length l0_0) (hc0_0 : l0_0.length ≤ c0_0) (h : provisoplain_Sig.f l0_0 a0_1 = some (r1, r2)) :
    Calls Try.prog 60 #[.agg #[.slice A0_0 l0_0.length c0_0, .int .u8 a0_1]] w fun e w' => ∃ v0_ : Value, e = .returned (.agg #[v0_, .int .u8 r2]) ∧ Kd.R (Kd.int .u8) 45 w' w.heap.size (fun _ => True) v0_ r1 ∧ Below w.heap.size w w' := by
  have hu47 := Try.underlying47
  have HR0_0 := amk hr0_0
  have HC0_0 := amk hc0_0
  clear hr0_0 hc0_0
  have HB := amk (Below.refl w.heap.size w)
  have H : ((api_Type_104.f l0_0).bind fun t115 => (some (t115, a0_1))) = some (r1, r2) := h
  clear h
  replace H := Option.bind_eq_some_iff.mp H
  obtain ⟨t115, A20, H⟩ := H
  replace H : (some (t115, a0_1)) = some (r1, r2) := H
  have A2 := amk A20
  clear A20
  simp only [Option.some.injEq, Prod.mk.injEq] at H
  obtain ⟨rfl, rfl⟩ := H
  go_enter Try.func60, Try.ntmps60
  go_wp2_with (first | ((with_reducible refine gate_dst (N := 1) rfl ?_); refine box_event ?hg (N := 1) ?hd (cs := #[.slice A0_0 l0_0.length c0_0, .int .u8 a0_1]) (t := 47) ?hr ?_; (case hd => rfl); (case hg => rfl); (case hr => first | (go_simp; done) | (go_simp; rfl)); intro gb113 hg w3 hbox hb; have n0_ := amk (below_step (by repeat (first | (with_reducible first | exact HB.out | apply bal | apply pbd | apply bdr) | exact HB.out)) hb); have n1_ := amk (hbox); have n2_ := amk ((by rw [hg]; exact (below_size (by repeat (first | (with_reducible first | exact HB.out | apply bal | apply pbd | apply bdr) | exact HB.out))) : w.heap.size ≤ gb113)); have n3_ := amk ((by rw [hg]; exact (below_size (by repeat (first | (with_reducible first | exact HB.out | apply bal | apply pbd | apply bdr) | exact HB.out))) : w.heap.size ≤ gb113)); clear HB; have HB := n0_; have BK113 := n1_; have GW113 := n2_; have GE113 := n3_; clear n0_ n1_ n2_ n3_; clear hb hbox hg) | ((with_reducible refine gate_dst (N := 2) rfl ?_); refine box_event ?hg (N := 2) ?hd (cs := #[.slice none 0 0, .int .u8 0]) (t := 47) ?hr ?_; (case hd => rfl); (case hg => rfl); (case hr => first | (go_simp; done) | (go_simp; rfl)); intro gb114 hg w4 hbox hb; have n0_ := amk (blk_below (g := gb113) (o := .cells #[.slice A0_0 l0_0.length c0_0, .int .u8 a0_1] 47 (0, 0)) (by (with_reducible repeat (first | refine bkd ?_ _ | refine blk_drew ?_ | refine bka ?_ _)); exact BK113.out) hb); have n1_ := amk (below_step (by repeat (first | (with_reducible first | exact HB.out | apply bal | apply pbd | apply bdr | refine below_set ?_ GE113.out) | exact HB.out)) hb); have n2_ := amk (hbox); have n3_ := amk ((by rw [hg]; exact (below_size (by repeat (first | (with_reducible first | exact HB.out | apply bal | apply pbd | apply bdr | refine below_set ?_ GE113.out) | exact HB.out))) : w.heap.size ≤ gb114)); have n4_ := amk ((by rw [hg]; exact (below_size (by repeat (first | (with_reducible first | exact HB.out | apply bal | apply pbd | apply bdr | refine below_set ?_ GE113.out) | exact HB.out))) : w.heap.size ≤ gb114)); have n5_ := amk ((by rw [hg]; exact Nat.ne_of_lt (blk_lt (g := gb113) (o := .cells #[.slice A0_0 l0_0.length c0_0, .int .u8 a0_1] 47 (0, 0)) (by (with_reducible repeat (first | refine bkd ?_ _ | refine blk_drew ?_ | refine bka ?_ _)); exact BK113.out)) : gb113 ≠ gb114)); have n6_ := amk ((by rw [hg]; exact Nat.ne_of_gt (blk_lt (g := gb113) (o := .cells #[.slice A0_0 l0_0.length c0_0, .int .u8 a0_1] 47 (0, 0)) (by (with_reducible repeat (first | refine bkd ?_ _ | refine blk_drew ?_ | refine bka ?_ _)); exact BK113.out)) : gb114 ≠ gb113)); clear BK113; clear HB; have BK113 := n0_; have HB := n1_; have BK114 := n2_; have GW114 := n3_; have GE114 := n4_; have NB113_114 := n5_; have NB114_113 := n6_; clear n0_ n1_ n2_ n3_ n4_ n5_ n6_; clear hb hbox hg; have hnb5 := NB113_114.out; have hnc5 := NB114_113.out; have hcz6_0 : w4.cell? ⟨gb113, 0, none⟩ = some (.slice A0_0 l0_0.length c0_0) := (blk_cell BK113.out 0).trans rfl; have hcz6_1 : w4.cell? ⟨gb113, 1, none⟩ = some (.int .u8 a0_1) := (blk_cell BK113.out 1).trans rfl; have hfz6_0 := bkf BK113.out 0; have hfz6_1 := bkf BK113.out 1) | ((with_reducible refine gate_callee (f := 104) rfl ?_); refine goesL_ (some 5) rfl rfl Try.func104 (by kernel_rfl) rfl #[.slice A0_0 l0_0.length c0_0] rfl (by (try simp only [List.map_toArray, List.map_cons, List.map_nil]); first | done | rfl | (simp only [List.length_drop, List.length_take]; rfl)) ?_; (with_reducible refine (api_Type_104.calls _ _ l0_0 t115 _ ?side1 ?side2 A2.out).mono ?_); (case side1 => repeat (first | exact (Kd.C_below HR0_0.out HB.out) | (with_reducible refine Kd.C_alloc ?_ _) | (with_reducible refine Kd.C_drewN ?_ _) | (with_reducible refine Kd.C_drew ?_))); (case side2 => exact HC0_0.out); rintro e w7 ⟨v116, rfl, ho0, hb⟩; refine ⟨_, rfl, ?_⟩; have n0_ := amk (Kd.R_lower ho0 (below_size (by repeat (first | (with_reducible first | exact HB.out | apply bal | apply pbd | apply bdr | refine below_set ?_ GE113.out | refine below_set ?_ GE114.out) | exact HB.out)))); have n1_ := amk (blk_below (g := gb113) (o := .cells #[.slice A0_0 l0_0.length c0_0, .int .u8 a0_1] 47 (0, 0)) (by (with_reducible repeat (first | refine bkd ?_ _ | refine blk_drew ?_ | refine bka ?_ _)); exact BK113.out) hb); have n2_ := amk (blk_below (g := gb114) (o := .cells #[.slice none 0 0, .int .u8 0] 47 (0, 0)) (by (with_reducible repeat (first | refine bkd ?_ _ | refine blk_drew ?_ | refine bka ?_ _)); exact BK114.out) hb); have n3_ := amk (below_step (by repeat (first | (with_reducible first | exact HB.out | apply bal | apply pbd | apply bdr | refine below_set ?_ GE113.out | refine below_set ?_ GE114.out) | exact HB.out)) hb); clear BK113; clear BK114; clear HB; have HO117 := n0_; have BK113 := n1_; have BK114 := n2_; have HB := n3_; clear n0_ n1_ n2_ n3_; (try clear hb); (try clear hb2); (try clear hk); (try clear hi); (try clear ho0); obtain ⟨Ao8, co8, eo8⟩ := Kd.R_slice HO117.out; subst eo8; have hcz9_0 : w7.cell? ⟨gb113, 0, none⟩ = some (.slice A0_0 l0_0.length c0_0) := (blk_cell BK113.out 0).trans rfl; have hcz9_1 : w7.cell? ⟨gb113, 1, none⟩ = some (.int .u8 a0_1) := (blk_cell BK113.out 1).trans rfl; have hfz9_0 := bkf BK113.out 0; have hfz9_1 := bkf BK113.out 1; have hcz10_0 : w7.cell? ⟨gb114, 0, none⟩ = some (.slice none 0 0) := (blk_cell BK114.out 0).trans rfl; have hcz10_1 : w7.cell? ⟨gb114, 1, none⟩ = some (.int .u8 0) := (blk_cell BK114.out 1).trans rfl; have hfz10_0 := bkf BK114.out 0; have hfz10_1 := bkf BK114.out 1))
  refine bodyPost_ret (results_cell_row rfl _ _ gb114 47 #[.slice Ao8 t115.length co8, .int .u8 a0_1] (0, 0) _ rfl (by (with_reducible repeat (first | refine bkd ?_ _ | refine blk_drew ?_ | refine bka ?_ _)); refine blk_put (cs := #[.slice Ao8 t115.length co8, .int .u8 0]) ?_ 1 _ rfl; (with_reducible repeat (first | refine bkd ?_ _ | refine blk_drew ?_ | refine bka ?_ _)); refine blk_put (cs := #[.slice none 0 0, .int .u8 0]) ?_ 0 _ rfl; (with_reducible repeat (first | refine bkd ?_ _ | refine blk_drew ?_ | refine bka ?_ _)); refine blk_far ?_ NB114_113.out _; (with_reducible repeat (first | refine bkd ?_ _ | refine blk_drew ?_ | refine bka ?_ _)); exact BK114.out) Try.underlying47 rfl (by kernel_rfl)) rfl ?_
  exact ⟨_, by first | rfl | (simp [errW_none, errW_some] <;> rfl) | (simp [*, errW_none, errW_some] <;> rfl), by (with_reducible repeat (first | apply Kd.R_alloc | apply Kd.R_drewN | apply Kd.R_drew)); exact Kd.R_mono (Kd.R_far (p := ⟨gb114, 1, none⟩) (Kd.R_far (p := ⟨gb114, 0, none⟩) (Kd.R_far (p := ⟨gb113, 0, none⟩) (Kd.R_types (Kd.R_types HO117.out BK113.out (by decide)) BK114.out (by decide)) (fun _ hk => hk.1.2) (.slice Ao8 t115.length co8)) (fun _ hk => hk.2) (.slice Ao8 t115.length co8)) (fun _ hk => hk.2) (.int .u8 a0_1)) (fun _ hk => trivial), by repeat (first | (with_reducible first | exact HB.out | apply bal | apply pbd | apply bdr | refine below_set ?_ GE113.out | refine below_set ?_ GE114.out) | exact HB.out)⟩

def provisoplain_Func.f (a0_0 : ByteArray) (l0_1 : List Int) (a0_2 : Int) (a0_3 : Int) (l0_4 : List Int) : Option (ByteArray × List Int × Int × Int × List Int) := (provisoplain_Sig.f l0_1 a0_2).bind fun bt120 => ((slices_Clone_byte_byte.f l0_4).bind fun t124 => (some (a0_0, bt120.1, bt120.2, a0_3, t124)))
set_option maxHeartbeats 8000000 in
set_option maxRecDepth 100000 in
theorem provisoplain_Func.calls (a0_0 : ByteArray) (A0_1 : Option Addr) (c0_1 : Nat) (l0_1 : List Int) (a0_2 : Int) (a0_3 : Int) (A0_4 : Option Addr) (c0_4 : Nat) (l0_4 : List Int) (r1 : ByteArray) (r2 : List Int) (r3 : Int) (r4 : Int) (r5 : List Int) (w : World) (hr0_1 : Kd.C (Kd.int .u8) w A0_1 l0_1.length l0_1) (hc0_1 : l0_1.length ≤ c0_1) (hr0_4 : Kd.C (Kd.int .u8) w A0_4 l0_4.length l0_4) (hc0_4 : l0_4.length ≤ c0_4) (h : provisoplain_Func.f a0_0 l0_1 a0_2 a0_3 l0_4 = some (r1, r2, r3, r4, r5)) :
    Calls Try.prog 29 #[.agg #[.string a0_0, .slice A0_1 l0_1.length c0_1, .int .u8 a0_2, .int .i64 a0_3, .slice A0_4 l0_4.length c0_4]] w fun e w' => ∃ v1_ v4_ : Value, e = .returned (.agg #[.string r1, v1_, .int .u8 r3, .int .i64 r4, v4_]) ∧ Kd.R (Kd.int .u8) 45 w' w.heap.size (fun _ => True) v1_ r2 ∧ Kd.R (Kd.int .u8) 5 w' w.heap.size (fun _ => True) v4_ r5 ∧ Below w.heap.size w w' := by
  have hu49 := Try.underlying49
  have hu47 := Try.underlying47
  have HR0_1 := amk hr0_1
  have HC0_1 := amk hc0_1
  clear hr0_1 hc0_1
  have HR0_4 := amk hr0_4
  have HC0_4 := amk hc0_4
  clear hr0_4 hc0_4
  have HB := amk (Below.refl w.heap.size w)
  have H : ((provisoplain_Sig.f l0_1 a0_2).bind fun bt120 => ((slices_Clone_byte_byte.f l0_4).bind fun t124 => (some (a0_0, bt120.1, bt120.2, a0_3, t124)))) = some (r1, r2, r3, r4, r5) := h
  clear h
  replace H := Option.bind_eq_some_iff.mp H
  obtain ⟨⟨t120, t123⟩, A20, H⟩ := H
  replace H : ((slices_Clone_byte_byte.f l0_4).bind fun t124 => (some (a0_0, t120, t123, a0_3, t124))) = some (r1, r2, r3, r4, r5) := H
  have A2 := amk A20
  clear A20
  replace H := Option.bind_eq_some_iff.mp H
  obtain ⟨t124, A30, H⟩ := H
  replace H : (some (a0_0, t120, t123, a0_3, t124)) = some (r1, r2, r3, r4, r5) := H
  have A3 := amk A30
  clear A30
  simp only [Option.some.injEq, Prod.mk.injEq] at H
  obtain ⟨rfl, rfl, rfl, rfl, rfl⟩ := H
  go_enter Try.func29, Try.ntmps29
  go_wp2_with (first | ((with_reducible refine gate_dst (N := 1) rfl ?_); refine box_event ?hg (N := 1) ?hd (cs := #[.string a0_0, .slice A0_1 l0_1.length c0_1, .int .u8 a0_2, .int .i64 a0_3, .slice A0_4 l0_4.length c0_4]) (t := 49) ?hr ?_; (case hd => rfl); (case hg => rfl); (case hr => first | (go_simp; done) | (go_simp; rfl)); intro gb118 hg w4 hbox hb; have n0_ := amk (below_step (by repeat (first | (with_reducible first | exact HB.out | apply bal | apply pbd | apply bdr) | exact HB.out)) hb); have n1_ := amk (hbox); have n2_ := amk ((by rw [hg]; exact (below_size (by repeat (first | (with_reducible first | exact HB.out | apply bal | apply pbd | apply bdr) | exact HB.out))) : w.heap.size ≤ gb118)); have n3_ := amk ((by rw [hg]; exact (below_size (by repeat (first | (with_reducible first | exact HB.out | apply bal | apply pbd | apply bdr) | exact HB.out))) : w.heap.size ≤ gb118)); clear HB; have HB := n0_; have BK118 := n1_; have GW118 := n2_; have GE118 := n3_; clear n0_ n1_ n2_ n3_; clear hb hbox hg) | ((with_reducible refine gate_dst (N := 2) rfl ?_); refine box_event ?hg (N := 2) ?hd (cs := #[.string (⟨#[]⟩ : ByteArray), .slice none 0 0, .int .u8 0, .int .i64 0, .slice none 0 0]) (t := 49) ?hr ?_; (case hd => rfl); (case hg => rfl); (case hr => first | (go_simp; done) | (go_simp; rfl)); intro gb119 hg w5 hbox hb; have n0_ := amk (blk_below (g := gb118) (o := .cells #[.string a0_0, .slice A0_1 l0_1.length c0_1, .int .u8 a0_2, .int .i64 a0_3, .slice A0_4 l0_4.length c0_4] 49 (0, 0)) (by (with_reducible repeat (first | refine bkd ?_ _ | refine blk_drew ?_ | refine bka ?_ _)); exact BK118.out) hb); have n1_ := amk (below_step (by repeat (first | (with_reducible first | exact HB.out | apply bal | apply pbd | apply bdr | refine below_set ?_ GE118.out) | exact HB.out)) hb); have n2_ := amk (hbox); have n3_ := amk ((by rw [hg]; exact (below_size (by repeat (first | (with_reducible first | exact HB.out | apply bal | apply pbd | apply bdr | refine below_set ?_ GE118.out) | exact HB.out))) : w.heap.size ≤ gb119)); have n4_ := amk ((by rw [hg]; exact (below_size (by repeat (first | (with_reducible first | exact HB.out | apply bal | apply pbd | apply bdr | refine below_set ?_ GE118.out) | exact HB.out))) : w.heap.size ≤ gb119)); have n5_ := amk ((by rw [hg]; exact Nat.ne_of_lt (blk_lt (g := gb118) (o := .cells #[.string a0_0, .slice A0_1 l0_1.length c0_1, .int .u8 a0_2, .int .i64 a0_3, .slice A0_4 l0_4.length c0_4] 49 (0, 0)) (by (with_reducible repeat (first | refine bkd ?_ _ | refine blk_drew ?_ | refine bka ?_ _)); exact BK118.out)) : gb118 ≠ gb119)); have n6_ := amk ((by rw [hg]; exact Nat.ne_of_gt (blk_lt (g := gb118) (o := .cells #[.string a0_0, .slice A0_1 l0_1.length c0_1, .int .u8 a0_2, .int .i64 a0_3, .slice A0_4 l0_4.length c0_4] 49 (0, 0)) (by (with_reducible repeat (first | refine bkd ?_ _ | refine blk_drew ?_ | refine bka ?_ _)); exact BK118.out)) : gb119 ≠ gb118)); clear BK118; clear HB; have BK118 := n0_; have HB := n1_; have BK119 := n2_; have GW119 := n3_; have GE119 := n4_; have NB118_119 := n5_; have NB119_118 := n6_; clear n0_ n1_ n2_ n3_ n4_ n5_ n6_; clear hb hbox hg; have hnb6 := NB118_119.out; have hnc6 := NB119_118.out; have hcz7_0 : w5.cell? ⟨gb118, 0, none⟩ = some (.string a0_0) := (blk_cell BK118.out 0).trans rfl; have hcz7_1 : w5.cell? ⟨gb118, 1, none⟩ = some (.slice A0_1 l0_1.length c0_1) := (blk_cell BK118.out 1).trans rfl; have hcz7_2 : w5.cell? ⟨gb118, 2, none⟩ = some (.int .u8 a0_2) := (blk_cell BK118.out 2).trans rfl; have hcz7_3 : w5.cell? ⟨gb118, 3, none⟩ = some (.int .i64 a0_3) := (blk_cell BK118.out 3).trans rfl; have hcz7_4 : w5.cell? ⟨gb118, 4, none⟩ = some (.slice A0_4 l0_4.length c0_4) := (blk_cell BK118.out 4).trans rfl; have hfz7_0 := bkf BK118.out 0; have hfz7_1 := bkf BK118.out 1; have hfz7_2 := bkf BK118.out 2; have hfz7_3 := bkf BK118.out 3; have hfz7_4 := bkf BK118.out 4) | ((with_reducible refine gate_callee (f := 60) rfl ?_); refine goesL_ (some 5) rfl rfl Try.func60 (by kernel_rfl) rfl #[.agg #[.slice A0_1 l0_1.length c0_1, .int .u8 a0_2]] rfl (by (try simp only [List.map_toArray, List.map_cons, List.map_nil]); first | done | rfl | (simp only [List.length_drop, List.length_take]; rfl)) ?_; (with_reducible refine (provisoplain_Sig.calls _ _ l0_1 a0_2 t120 t123 _ ?side1 ?side2 A2.out).mono ?_); (case side1 => repeat (first | exact (Kd.C_below HR0_1.out HB.out) | (with_reducible refine Kd.C_alloc ?_ _) | (with_reducible refine Kd.C_drewN ?_ _) | (with_reducible refine Kd.C_drew ?_))); (case side2 => exact HC0_1.out); rintro e w8 ⟨v121, rfl, ho0, hb⟩; refine ⟨_, rfl, ?_⟩; have n0_ := amk (Kd.R_lower ho0 (below_size (by repeat (first | (with_reducible first | exact HB.out | apply bal | apply pbd | apply bdr | refine below_set ?_ GE118.out | refine below_set ?_ GE119.out) | exact HB.out)))); have n1_ := amk (blk_below (g := gb118) (o := .cells #[.string a0_0, .slice A0_1 l0_1.length c0_1, .int .u8 a0_2, .int .i64 a0_3, .slice A0_4 l0_4.length c0_4] 49 (0, 0)) (by (with_reducible repeat (first | refine bkd ?_ _ | refine blk_drew ?_ | refine bka ?_ _)); exact BK118.out) hb); have n2_ := amk (blk_below (g := gb119) (o := .cells #[.string (⟨#[]⟩ : ByteArray), .slice none 0 0, .int .u8 0, .int .i64 0, .slice none 0 0] 49 (0, 0)) (by (with_reducible repeat (first | refine bkd ?_ _ | refine blk_drew ?_ | refine bka ?_ _)); exact BK119.out) hb); have n3_ := amk (below_step (by repeat (first | (with_reducible first | exact HB.out | apply bal | apply pbd | apply bdr | refine below_set ?_ GE118.out | refine below_set ?_ GE119.out) | exact HB.out)) hb); clear BK118; clear BK119; clear HB; have HO122 := n0_; have BK118 := n1_; have BK119 := n2_; have HB := n3_; clear n0_ n1_ n2_ n3_; (try clear hb); (try clear hb2); (try clear hk); (try clear hi); (try clear ho0); obtain ⟨Ao9, co9, eo9⟩ := Kd.R_slice HO122.out; subst eo9; have hcz10_0 : w8.cell? ⟨gb118, 0, none⟩ = some (.string a0_0) := (blk_cell BK118.out 0).trans rfl; have hcz10_1 : w8.cell? ⟨gb118, 1, none⟩ = some (.slice A0_1 l0_1.length c0_1) := (blk_cell BK118.out 1).trans rfl; have hcz10_2 : w8.cell? ⟨gb118, 2, none⟩ = some (.int .u8 a0_2) := (blk_cell BK118.out 2).trans rfl; have hcz10_3 : w8.cell? ⟨gb118, 3, none⟩ = some (.int .i64 a0_3) := (blk_cell BK118.out 3).trans rfl; have hcz10_4 : w8.cell? ⟨gb118, 4, none⟩ = some (.slice A0_4 l0_4.length c0_4) := (blk_cell BK118.out 4).trans rfl; have hfz10_0 := bkf BK118.out 0; have hfz10_1 := bkf BK118.out 1; have hfz10_2 := bkf BK118.out 2; have hfz10_3 := bkf BK118.out 3; have hfz10_4 := bkf BK118.out 4) | ((with_reducible refine gate_callee (f := 25) rfl ?_); refine goesL_ (some 9) rfl rfl Try.func25 (by kernel_rfl) rfl #[.slice A0_4 l0_4.length c0_4] rfl (by (try simp only [List.map_toArray, List.map_cons, List.map_nil]); first | done | rfl | (simp only [List.length_drop, List.length_take]; rfl)) ?_; (with_reducible refine (slices_Clone_byte_byte.calls _ _ l0_4 t124 _ ?side1 ?side2 A3.out).mono ?_); (case side1 => exact Kd.C_below HR0_4.out (by repeat (first | (with_reducible first | exact HB.out | apply bal | apply pbd | apply bdr | refine below_set ?_ GE118.out | refine below_set ?_ GE119.out) | exact HB.out))); (case side2 => exact HC0_4.out); rintro e w11 ⟨v125, rfl, ho0, hb⟩; refine ⟨_, rfl, ?_⟩; have n0_ := amk (Kd.R_below (by (with_reducible repeat (first | apply Kd.R_alloc | apply Kd.R_drewN | apply Kd.R_drew)); exact (Kd.R_mono (Kd.R_far (p := ⟨gb118, 2, none⟩) (Kd.R_far (p := ⟨gb118, 1, none⟩) (Kd.R_types HO122.out BK118.out (by decide)) (fun _ hk => hk.2) (.slice Ao9 t120.length co9)) (fun _ hk => hk.2) (.int .u8 t123)) (fun _ h_ => h_.1))) hb); have n1_ := amk (Kd.R_lower ho0 (below_size (by repeat (first | (with_reducible first | exact HB.out | apply bal | apply pbd | apply bdr | refine below_set ?_ GE118.out | refine below_set ?_ GE119.out) | exact HB.out)))); have n2_ := amk (blk_below (g := gb118) (o := .cells #[.string a0_0, .slice Ao9 t120.length co9, .int .u8 t123, .int .i64 a0_3, .slice A0_4 l0_4.length c0_4] 49 (0, 0)) (by (with_reducible repeat (first | refine bkd ?_ _ | refine blk_drew ?_ | refine bka ?_ _)); refine blk_put (cs := #[.string a0_0, .slice Ao9 t120.length co9, .int .u8 a0_2, .int .i64 a0_3, .slice A0_4 l0_4.length c0_4]) ?_ 2 _ rfl; (with_reducible repeat (first | refine bkd ?_ _ | refine blk_drew ?_ | refine bka ?_ _)); refine blk_put (cs := #[.string a0_0, .slice A0_1 l0_1.length c0_1, .int .u8 a0_2, .int .i64 a0_3, .slice A0_4 l0_4.length c0_4]) ?_ 1 _ rfl; (with_reducible repeat (first | refine bkd ?_ _ | refine blk_drew ?_ | refine bka ?_ _)); exact BK118.out) hb); have n3_ := amk (blk_below (g := gb119) (o := .cells #[.string (⟨#[]⟩ : ByteArray), .slice none 0 0, .int .u8 0, .int .i64 0, .slice none 0 0] 49 (0, 0)) (by (with_reducible repeat (first | refine bkd ?_ _ | refine blk_drew ?_ | refine bka ?_ _)); refine blk_far ?_ NB119_118.out _; (with_reducible repeat (first | refine bkd ?_ _ | refine blk_drew ?_ | refine bka ?_ _)); refine blk_far ?_ NB119_118.out _; (with_reducible repeat (first | refine bkd ?_ _ | refine blk_drew ?_ | refine bka ?_ _)); exact BK119.out) hb); have n4_ := amk (below_step (by repeat (first | (with_reducible first | exact HB.out | apply bal | apply pbd | apply bdr | refine below_set ?_ GE118.out | refine below_set ?_ GE119.out) | exact HB.out)) hb); clear HO122; clear BK118; clear BK119; clear HB; have HO122 := n0_; have HO126 := n1_; have BK118 := n2_; have BK119 := n3_; have HB := n4_; clear n0_ n1_ n2_ n3_ n4_; (try clear hb); (try clear hb2); (try clear hk); (try clear hi); (try clear ho0); obtain ⟨Ao12, co12, eo12⟩ := Kd.R_slice HO126.out; subst eo12; have hcz13_0 : w11.cell? ⟨gb118, 0, none⟩ = some (.string a0_0) := (blk_cell BK118.out 0).trans rfl; have hcz13_1 : w11.cell? ⟨gb118, 1, none⟩ = some (.slice Ao9 t120.length co9) := (blk_cell BK118.out 1).trans rfl; have hcz13_2 : w11.cell? ⟨gb118, 2, none⟩ = some (.int .u8 t123) := (blk_cell BK118.out 2).trans rfl; have hcz13_3 : w11.cell? ⟨gb118, 3, none⟩ = some (.int .i64 a0_3) := (blk_cell BK118.out 3).trans rfl; have hcz13_4 : w11.cell? ⟨gb118, 4, none⟩ = some (.slice A0_4 l0_4.length c0_4) := (blk_cell BK118.out 4).trans rfl; have hfz13_0 := bkf BK118.out 0; have hfz13_1 := bkf BK118.out 1; have hfz13_2 := bkf BK118.out 2; have hfz13_3 := bkf BK118.out 3; have hfz13_4 := bkf BK118.out 4; have hcz14_0 : w11.cell? ⟨gb119, 0, none⟩ = some (.string (⟨#[]⟩ : ByteArray)) := (blk_cell BK119.out 0).trans rfl; have hcz14_1 : w11.cell? ⟨gb119, 1, none⟩ = some (.slice none 0 0) := (blk_cell BK119.out 1).trans rfl; have hcz14_2 : w11.cell? ⟨gb119, 2, none⟩ = some (.int .u8 0) := (blk_cell BK119.out 2).trans rfl; have hcz14_3 : w11.cell? ⟨gb119, 3, none⟩ = some (.int .i64 0) := (blk_cell BK119.out 3).trans rfl; have hcz14_4 : w11.cell? ⟨gb119, 4, none⟩ = some (.slice none 0 0) := (blk_cell BK119.out 4).trans rfl; have hfz14_0 := bkf BK119.out 0; have hfz14_1 := bkf BK119.out 1; have hfz14_2 := bkf BK119.out 2; have hfz14_3 := bkf BK119.out 3; have hfz14_4 := bkf BK119.out 4))
  refine bodyPost_ret (results_cell_row rfl _ _ gb119 49 #[.string a0_0, .slice Ao9 t120.length co9, .int .u8 t123, .int .i64 a0_3, .slice Ao12 t124.length co12] (0, 0) _ rfl (by (with_reducible repeat (first | refine bkd ?_ _ | refine blk_drew ?_ | refine bka ?_ _)); refine blk_put (cs := #[.string a0_0, .slice Ao9 t120.length co9, .int .u8 t123, .int .i64 a0_3, .slice none 0 0]) ?_ 4 _ rfl; (with_reducible repeat (first | refine bkd ?_ _ | refine blk_drew ?_ | refine bka ?_ _)); refine blk_put (cs := #[.string a0_0, .slice Ao9 t120.length co9, .int .u8 t123, .int .i64 0, .slice none 0 0]) ?_ 3 _ rfl; (with_reducible repeat (first | refine bkd ?_ _ | refine blk_drew ?_ | refine bka ?_ _)); refine blk_put (cs := #[.string a0_0, .slice Ao9 t120.length co9, .int .u8 0, .int .i64 0, .slice none 0 0]) ?_ 2 _ rfl; (with_reducible repeat (first | refine bkd ?_ _ | refine blk_drew ?_ | refine bka ?_ _)); refine blk_put (cs := #[.string a0_0, .slice none 0 0, .int .u8 0, .int .i64 0, .slice none 0 0]) ?_ 1 _ rfl; (with_reducible repeat (first | refine bkd ?_ _ | refine blk_drew ?_ | refine bka ?_ _)); refine blk_put (cs := #[.string (⟨#[]⟩ : ByteArray), .slice none 0 0, .int .u8 0, .int .i64 0, .slice none 0 0]) ?_ 0 _ rfl; (with_reducible repeat (first | refine bkd ?_ _ | refine blk_drew ?_ | refine bka ?_ _)); refine blk_far ?_ NB119_118.out _; (with_reducible repeat (first | refine bkd ?_ _ | refine blk_drew ?_ | refine bka ?_ _)); exact BK119.out) Try.underlying49 rfl (by kernel_rfl)) rfl ?_
  exact ⟨_, _, by first | rfl | (simp [errW_none, errW_some] <;> rfl) | (simp [*, errW_none, errW_some] <;> rfl), by (with_reducible repeat (first | apply Kd.R_alloc | apply Kd.R_drewN | apply Kd.R_drew)); exact Kd.R_mono (Kd.R_far (p := ⟨gb119, 4, none⟩) (Kd.R_far (p := ⟨gb119, 3, none⟩) (Kd.R_far (p := ⟨gb119, 2, none⟩) (Kd.R_far (p := ⟨gb119, 1, none⟩) (Kd.R_far (p := ⟨gb119, 0, none⟩) (Kd.R_far (p := ⟨gb118, 4, none⟩) (Kd.R_types (Kd.R_types HO122.out BK118.out (by decide)) BK119.out (by decide)) (fun _ hk => hk.1.2) (.slice Ao12 t124.length co12)) (fun _ hk => hk.2) (.string a0_0)) (fun _ hk => hk.2) (.slice Ao9 t120.length co9)) (fun _ hk => hk.2) (.int .u8 t123)) (fun _ hk => hk.2) (.int .i64 a0_3)) (fun _ hk => hk.2) (.slice Ao12 t124.length co12)) (fun _ hk => trivial), by (with_reducible repeat (first | apply Kd.R_alloc | apply Kd.R_drewN | apply Kd.R_drew)); exact Kd.R_mono (Kd.R_far (p := ⟨gb119, 4, none⟩) (Kd.R_far (p := ⟨gb119, 3, none⟩) (Kd.R_far (p := ⟨gb119, 2, none⟩) (Kd.R_far (p := ⟨gb119, 1, none⟩) (Kd.R_far (p := ⟨gb119, 0, none⟩) (Kd.R_far (p := ⟨gb118, 4, none⟩) (Kd.R_types (Kd.R_types HO126.out BK118.out (by decide)) BK119.out (by decide)) (fun _ hk => hk.1.2) (.slice Ao12 t124.length co12)) (fun _ hk => hk.2) (.string a0_0)) (fun _ hk => hk.2) (.slice Ao9 t120.length co9)) (fun _ hk => hk.2) (.int .u8 t123)) (fun _ hk => hk.2) (.int .i64 a0_3)) (fun _ hk => hk.2) (.slice Ao12 t124.length co12)) (fun _ hk => trivial), by repeat (first | (with_reducible first | exact HB.out | apply bal | apply pbd | apply bdr | refine below_set ?_ GE118.out | refine below_set ?_ GE119.out) | exact HB.out)⟩

end Go.Proofs.Ytdlmcjchnoeebaa.P

end

section
namespace Go.Proofs.Ytdlmcjchnoeebaa.P
open Go.RowKit Go.Proofs.YtdlmcjchnoeebaaW.PrintWords Go.Proofs.YtdlmcjchnoeebaaW.PrintLast Go.Proofs.YtdlmcjchnoeebaaW.PrintMore
attribute [local go_sem] max2_int min2_int max_two min_two max_three min_three max_four min_four   -- for this text's walks alone
set_option linter.unusedVariables false
set_option linter.unusedSimpArgs false

mutual
def provisoplain_Module.l0 : Nat → List (S49) → Int → Int → ByteArray → List (S64) → List (S49) → List (List Int) → ByteArray → List (S64) → List (S49) → Option (ByteArray × (List (S64)) × (List (S49)) × (List (List Int)))
  | 0, _, _, _, _, _, _, _, _, _, _ => none
  | k + 1, x15, x16, x17, x128000, x128001, x128002, x128003, x133000, x133001, x133002 => if x17 < x16 then (if 0 ≤ x17 then (if x17 < (x15.length : Int) then ((provisoplain_Func.f ((rd_T49 x15 x17).f0) ((rd_T49 x15 x17).f1.f0) ((rd_T49 x15 x17).f1.f1) ((rd_T49 x15 x17).f2) ((rd_T49 x15 x17).f3)).bind fun bt135 => (if x133002.length < 1759218604441 then (provisoplain_Module.l0 k x15 x16 (wrap64 (x17 + 1)) x128000 x128001 x128002 x128003 x133000 x133001 (x133002 ++ [(⟨bt135.1, (⟨bt135.2.1, bt135.2.2.1⟩ : S47), bt135.2.2.2.1, bt135.2.2.2.2⟩ : S49)])) else (none))) else (none)) else (none)) else (provisoplain_Module.l1 k x128003 (x128003.length : Int) 0 x133000 x133001 x133002 ([] : List (List Int)))
def provisoplain_Module.l1 : Nat → List (List Int) → Int → Int → ByteArray → List (S64) → List (S49) → List (List Int) → Option (ByteArray × (List (S64)) × (List (S49)) × (List (List Int)))
  | 0, _, _, _, _, _, _, _ => none
  | k + 1, x30, x31, x32, x133000, x133001, x133002, x133003 => if x32 < x31 then (if 0 ≤ x32 then (if x32 < (x30.length : Int) then ((slices_Clone_byte_byte.f (rd_L8 x30 x32)).bind fun t148 => (if x133003.length < 5864062014805 then (provisoplain_Module.l1 k x30 x31 (wrap64 (x32 + 1)) x133000 x133001 x133002 (x133003 ++ [t148])) else (none))) else (none)) else (none)) else (some (x133000, x133001, x133002, x133003))
end
def provisoplain_Module.f (k : Nat) (a0_0 : ByteArray) (l0_1 : List (S64)) (l0_2 : List (S49)) (l0_3 : List (List Int)) : Option (ByteArray × (List (S64)) × (List (S49)) × (List (List Int))) := (provisoplain_Classes.f k l0_1).bind fun t129 => (provisoplain_Module.l0 k l0_2 (l0_2.length : Int) 0 a0_0 l0_1 l0_2 l0_3 a0_0 t129 ([] : List (S49)))
def provisoplain_Module.T1 : Bool × List (List Nat × List Nat) := (true, [([], []), ([0], [0]), ([], []), ([2], [2]), ([3], [3]), ([1, 4], [1, 4]), ([], []), ([6, 5, 4, 0, 1, 2, 3, 4, 5, 6], [5, 6])])
def provisoplain_Module.B1 : List Nat := [0, 1, 0, 4, 12, 31, 0, 127]
theorem provisoplain_Module.tab1 : rtab .any (opsOf Try.f12 1) = provisoplain_Module.T1 := by kernel_rfl
theorem provisoplain_Module.bits1 : waitsOk provisoplain_Module.T1.2 provisoplain_Module.B1 = true := by kernel_rfl
def provisoplain_Module.T5 : Bool × List (List Nat × List Nat) := (true, [([], []), ([0], [0]), ([], []), ([2], [2]), ([3], [3]), ([1, 4, 3], [1, 4]), ([0, 1, 2, 3, 4, 5], []), ([6, 5, 5, 0, 1, 2, 3, 4, 5], [5, 6])])
def provisoplain_Module.B5 : List Nat := [0, 1, 0, 4, 12, 31, 63, 127]
theorem provisoplain_Module.tab5 : rtab .any (opsOf Try.f12 5) = provisoplain_Module.T5 := by kernel_rfl
theorem provisoplain_Module.bits5 : waitsOk provisoplain_Module.T5.2 provisoplain_Module.B5 = true := by kernel_rfl
def provisoplain_Module.T10 : Bool × List (List Nat × List Nat) := (true, [([], []), ([0], [0]), ([], []), ([2], [2]), ([3], [3]), ([1, 4, 3], [1, 4]), ([0, 1, 2, 3, 4, 5], []), ([6, 5, 5, 0, 1, 2, 3, 4, 5], [5, 6])])
def provisoplain_Module.B10 : List Nat := [0, 1, 0, 4, 12, 31, 63, 127]
theorem provisoplain_Module.tab10 : rtab .any (opsOf Try.f12 10) = provisoplain_Module.T10 := by kernel_rfl
theorem provisoplain_Module.bits10 : waitsOk provisoplain_Module.T10.2 provisoplain_Module.B10 = true := by kernel_rfl
set_option maxHeartbeats 8000000 in
set_option maxRecDepth 100000 in
theorem provisoplain_Module.calls (k : Nat) (a0_0 : ByteArray) (A0_1 : Option Addr) (c0_1 : Nat) (l0_1 : List (S64)) (A0_2 : Option Addr) (c0_2 : Nat) (l0_2 : List (S49)) (A0_3 : Option Addr) (c0_3 : Nat) (l0_3 : List (List Int)) (r1 : ByteArray) (r2 : List (S64)) (r3 : List (S49)) (r4 : List (List Int)) (w : World) (hr0_1 : Kd.C k64 w A0_1 l0_1.length l0_1) (hc0_1 : l0_1.length ≤ c0_1) (hr0_2 : Kd.C k49 w A0_2 l0_2.length l0_2) (hc0_2 : l0_2.length ≤ c0_2) (hr0_3 : Kd.C (Kd.slice 5 (Kd.int .u8)) w A0_3 l0_3.length l0_3) (hc0_3 : l0_3.length ≤ c0_3) (h : provisoplain_Module.f k a0_0 l0_1 l0_2 l0_3 = some (r1, r2, r3, r4)) :
    Calls Try.prog 12 #[.agg #[.string a0_0, .slice A0_1 l0_1.length c0_1, .slice A0_2 l0_2.length c0_2, .slice A0_3 l0_3.length c0_3]] w fun e w' => ∃ v1_ v2_ v3_ : Value, e = .returned (.agg #[.string r1, v1_, v2_, v3_]) ∧ Kd.S k64 64 w' w.heap.size (fun _ => True) v1_ r2 ∧ Kd.S k49 49 w' w.heap.size (fun _ => True) v2_ r3 ∧ Kd.S (Kd.slice 5 (Kd.int .u8)) 36 w' w.heap.size (fun _ => True) v3_ r4 ∧ Below w.heap.size w w' := by
  have hu26 := Try.underlying26
  have hu49 := Try.underlying49
  have HR0_1 := amk hr0_1
  have HC0_1 := amk hc0_1
  clear hr0_1 hc0_1
  have HR0_2 := amk hr0_2
  have HC0_2 := amk hc0_2
  clear hr0_2 hc0_2
  have HR0_3 := amk hr0_3
  have HC0_3 := amk hc0_3
  clear hr0_3 hc0_3
  have HB := amk (Below.refl w.heap.size w)
  have H : ((provisoplain_Classes.f k l0_1).bind fun t129 => (provisoplain_Module.l0 k l0_2 (l0_2.length : Int) 0 a0_0 l0_1 l0_2 l0_3 a0_0 t129 ([] : List (S49)))) = some (r1, r2, r3, r4) := h
  clear h
  replace H := Option.bind_eq_some_iff.mp H
  obtain ⟨t129, A20, H⟩ := H
  replace H : (provisoplain_Module.l0 k l0_2 (l0_2.length : Int) 0 a0_0 l0_1 l0_2 l0_3 a0_0 t129 ([] : List (S49))) = some (r1, r2, r3, r4) := H
  have A2 := amk A20
  clear A20
  have H' := amk H
  clear H
  go_enter Try.func12, Try.ntmps12
  try go_wp2_with (first | ((with_reducible refine gate_dst (N := 1) rfl ?_); refine box_event ?hg (N := 1) ?hd (cs := #[.string a0_0, .slice A0_1 l0_1.length c0_1, .slice A0_2 l0_2.length c0_2, .slice A0_3 l0_3.length c0_3]) (t := 26) ?hr ?_; (case hd => rfl); (case hg => rfl); (case hr => first | (go_simp; done) | (go_simp; rfl)); intro gb127 hg w3 hbox hb; have n0_ := amk (below_step (by repeat (first | (with_reducible first | exact HB.out | apply bal | apply pbd | apply bdr) | exact HB.out)) hb); have n1_ := amk (hbox); have n2_ := amk ((by rw [hg]; exact (below_size (by repeat (first | (with_reducible first | exact HB.out | apply bal | apply pbd | apply bdr) | exact HB.out))) : w.heap.size ≤ gb127)); have n3_ := amk ((by rw [hg]; exact (below_size (by repeat (first | (with_reducible first | exact HB.out | apply bal | apply pbd | apply bdr) | exact HB.out))) : w.heap.size ≤ gb127)); clear HB; have HB := n0_; have BK127 := n1_; have GW127 := n2_; have GE127 := n3_; clear n0_ n1_ n2_ n3_; clear hb hbox hg) | ((with_reducible refine gate_dst (N := 2) rfl ?_); refine box_event ?hg (N := 2) ?hd (cs := #[.string (⟨#[]⟩ : ByteArray), .slice none 0 0, .slice none 0 0, .slice none 0 0]) (t := 26) ?hr ?_; (case hd => rfl); (case hg => rfl); (case hr => first | (go_simp; done) | (go_simp; rfl)); intro gb128 hg w4 hbox hb; have n0_ := amk (blk_below (g := gb127) (o := .cells #[.string a0_0, .slice A0_1 l0_1.length c0_1, .slice A0_2 l0_2.length c0_2, .slice A0_3 l0_3.length c0_3] 26 (0, 0)) (by (with_reducible repeat (first | refine bkd ?_ _ | refine blk_drew ?_ | refine bka ?_ _)); exact BK127.out) hb); have n1_ := amk (below_step (by repeat (first | (with_reducible first | exact HB.out | apply bal | apply pbd | apply bdr | refine below_set ?_ GE127.out) | exact HB.out)) hb); have n2_ := amk (hbox); have n3_ := amk ((by rw [hg]; exact (below_size (by repeat (first | (with_reducible first | exact HB.out | apply bal | apply pbd | apply bdr | refine below_set ?_ GE127.out) | exact HB.out))) : w.heap.size ≤ gb128)); have n4_ := amk ((by rw [hg]; exact (below_size (by repeat (first | (with_reducible first | exact HB.out | apply bal | apply pbd | apply bdr | refine below_set ?_ GE127.out) | exact HB.out))) : w.heap.size ≤ gb128)); have n5_ := amk ((by rw [hg]; exact Nat.ne_of_lt (blk_lt (g := gb127) (o := .cells #[.string a0_0, .slice A0_1 l0_1.length c0_1, .slice A0_2 l0_2.length c0_2, .slice A0_3 l0_3.length c0_3] 26 (0, 0)) (by (with_reducible repeat (first | refine bkd ?_ _ | refine blk_drew ?_ | refine bka ?_ _)); exact BK127.out)) : gb127 ≠ gb128)); have n6_ := amk ((by rw [hg]; exact Nat.ne_of_gt (blk_lt (g := gb127) (o := .cells #[.string a0_0, .slice A0_1 l0_1.length c0_1, .slice A0_2 l0_2.length c0_2, .slice A0_3 l0_3.length c0_3] 26 (0, 0)) (by (with_reducible repeat (first | refine bkd ?_ _ | refine blk_drew ?_ | refine bka ?_ _)); exact BK127.out)) : gb128 ≠ gb127)); clear BK127; clear HB; have BK127 := n0_; have HB := n1_; have BK128 := n2_; have GW128 := n3_; have GE128 := n4_; have NB127_128 := n5_; have NB128_127 := n6_; clear n0_ n1_ n2_ n3_ n4_ n5_ n6_; clear hb hbox hg))
  have n0_ := amk (blk_drew BK127.out)
  have n1_ := amk (blk_drew BK128.out)
  have n2_ := amk (bdr HB.out)
  clear BK127
  clear BK128
  clear HB
  have BK127 := n0_
  have BK128 := n1_
  have HB := n2_
  clear n0_ n1_ n2_
  refine start_ (n := 8) (S := fun w' => w'.cell? ⟨gb127, 0, none⟩ = some (.string a0_0) ∧ w'.cell? ⟨gb127, 1, none⟩ = some (.slice A0_1 l0_1.length c0_1) ∧ w'.cell? ⟨gb127, 2, none⟩ = some (.slice A0_2 l0_2.length c0_2) ∧ w'.cell? ⟨gb127, 3, none⟩ = some (.slice A0_3 l0_3.length c0_3)) (ds := []) #[false, false, false, false, false, false, false, false] (by kernel_rfl) rfl rfl ⟨(blk_cell BK127.out 0).trans rfl, (blk_cell BK127.out 1).trans rfl, (blk_cell BK127.out 2).trans rfl, (blk_cell BK127.out 3).trans rfl⟩ (fun hHeld => ?_); refine with_tabW provisoplain_Module.tab1 provisoplain_Module.bits1 (fun HT_ HW_ => ?_)
  generalize w4.drew = w5 at BK127 BK128 HB hHeld ⊢
  refine pure_ (i := 0) (N := some 8) (v := ?_) (a' := ?_) #[true, false, false, false, false, false, false, false] rfl rfl (any_of HT_.out (by kernel_rfl)) (fun _ _ _ h => h) (Or.inl ⟨by rfl, ?_⟩) ?_ ?_
  rotate_left
  · intro w'
    go_simp
    with_reducible rfl
  rotate_left
  · simp only [Act.put, sia, scz, scs, i64_w, i32_w]
    rfl
  refine pure_ (i := 2) (N := some 10) (v := ?_) (a' := ?_) #[true, false, true, false, false, false, false, false] rfl rfl (any_of HT_.out (by kernel_rfl)) (fun _ _ _ h => h) (Or.inl ⟨by rfl, ?_⟩) ?_ ?_
  rotate_left
  · intro w'
    go_simp
    with_reducible rfl
  rotate_left
  · simp only [Act.put, sia, scz, scs, i64_w, i32_w]
    rfl
  refine take_ (i := 1) (N := some 9) (v := ?_) (a' := ?_) #[true, true, true, false, false, false, false, false] rfl rfl (take_ofW HT_.out HW_.out (by kernel_rfl)) (fun _ _ _ h => h) (Or.inl ⟨by rfl, ?_⟩) hHeld ?_ ?_
  rotate_left
  · rintro w' ⟨s0, s1, s2, s3⟩
    go_simp
    with_reducible rfl
  rotate_left
  · simp only [Act.put, sia, scz, scs, i64_w, i32_w]
    rfl
  refine take_ (i := 3) (N := some 11) (v := ?_) (a' := ?_) #[true, true, true, true, false, false, false, false] rfl rfl (take_ofW HT_.out HW_.out (by kernel_rfl)) (fun _ _ _ h => h) (Or.inl ⟨by rfl, ?_⟩) hHeld ?_ ?_
  rotate_left
  · rintro w' ⟨s0, s1, s2, s3⟩
    go_simp
    with_reducible rfl
  rotate_left
  · simp only [Act.put, sia, scz, scs, i64_w, i32_w]
    rfl
  refine join_ (σ := Value × Nat) 1 #[true, true, true, true, true, true, true, false] (fun s_ => [(12, s_.1), (3, .pointer (some ⟨s_.2, 0, none⟩)), (13, .agg #[.string a0_0, s_.1, .slice none 0 0, .slice none 0 0])]) (fun s_ w' => (w'.cell? ⟨gb127, 0, none⟩ = some (.string a0_0) ∧ w'.cell? ⟨gb127, 1, none⟩ = some (.slice A0_1 l0_1.length c0_1) ∧ w'.cell? ⟨gb127, 2, none⟩ = some (.slice A0_2 l0_2.length c0_2) ∧ w'.cell? ⟨gb127, 3, none⟩ = some (.slice A0_3 l0_3.length c0_3)) ∧ (Kd.S k64 64 w' w.heap.size (fun _ => True) s_.1 t129) ∧ (w'.heap[gb127]? = some (.cells #[.string a0_0, .slice A0_1 l0_1.length c0_1, .slice A0_2 l0_2.length c0_2, .slice A0_3 l0_3.length c0_3] 26 (0, 0))) ∧ (w'.heap[gb128]? = some (.cells #[.string (⟨#[]⟩ : ByteArray), .slice none 0 0, .slice none 0 0, .slice none 0 0] 26 (0, 0))) ∧ (w'.heap[s_.2]? = some (.cells #[.string (⟨#[]⟩ : ByteArray), .slice none 0 0, .slice none 0 0, .slice none 0 0] 26 (0, 0))) ∧ (w.heap.size ≤ s_.2) ∧ (w.heap.size ≤ s_.2) ∧ (gb127 ≠ s_.2) ∧ (s_.2 ≠ gb127) ∧ (gb128 ≠ s_.2) ∧ (s_.2 ≠ gb128) ∧ (Below w.heap.size w w')) ?_ ?_
  rotate_left
  · intro hCont
    refine two_ (i := 4) (j := 6) (Ni := some 12) (Nj := some 3) #[true, true, true, true, true, false, false, false] #[true, true, true, true, false, false, true, false] rfl rfl rfl rfl (two_of HT_.out (by kernel_rfl)) (by decide) (by decide) (fun K hK => ?_) (fun K hK => ?_)
    · skip
      refine goes_ Try.func28 (by kernel_rfl) rfl #[.slice A0_1 l0_1.length c0_1] (by rfl) rfl rfl (by (try simp only [List.map_toArray, List.map_cons, List.map_nil]); first | done | rfl | (simp only [List.length_drop, List.length_take]; rfl)) ?_
      with_reducible refine (provisoplain_Classes.calls k _ _ l0_1 t129 _ ?side1 ?side2 A2.out).mono ?_
      (case side1 => repeat (first | exact (Kd.C_below HR0_1.out HB.out) | (with_reducible refine Kd.C_alloc ?_ _) | (with_reducible refine Kd.C_drewN ?_ _) | (with_reducible refine Kd.C_drew ?_)))
      (case side2 => exact HC0_1.out)
      rintro e w6 ⟨v130, rfl, ho0, hb⟩
      refine ⟨_, rfl, ?_⟩
      have n0_ := amk (Kd.S_lower ho0 (below_size (by repeat (first | (with_reducible first | exact HB.out | apply bal | apply pbd | apply bdr | refine below_set ?_ GE127.out | refine below_set ?_ GE128.out) | exact HB.out))))
      have n1_ := amk (blk_below (g := gb127) (o := .cells #[.string a0_0, .slice A0_1 l0_1.length c0_1, .slice A0_2 l0_2.length c0_2, .slice A0_3 l0_3.length c0_3] 26 (0, 0)) (by (with_reducible repeat (first | refine bkd ?_ _ | refine blk_drew ?_ | refine bka ?_ _)); exact BK127.out) hb)
      have n2_ := amk (blk_below (g := gb128) (o := .cells #[.string (⟨#[]⟩ : ByteArray), .slice none 0 0, .slice none 0 0, .slice none 0 0] 26 (0, 0)) (by (with_reducible repeat (first | refine bkd ?_ _ | refine blk_drew ?_ | refine bka ?_ _)); exact BK128.out) hb)
      have n3_ := amk (below_step (by repeat (first | (with_reducible first | exact HB.out | apply bal | apply pbd | apply bdr | refine below_set ?_ GE127.out | refine below_set ?_ GE128.out) | exact HB.out)) hb)
      clear BK127
      clear BK128
      clear HB
      have HO131 := n0_
      have BK127 := n1_
      have BK128 := n2_
      have HB := n3_
      clear n0_ n1_ n2_ n3_
      (try clear hb)
      (try clear hb2)
      (try clear hk)
      (try clear hi)
      (try clear ho0)
      obtain ⟨Ao7, co7, eo7⟩ := Kd.S_slice HO131.out
      (first | subst eo7 | (injection eo7 with f1_ f2_ f3_; have f4_ := f1_.symm; have f5_ := f3_.symm; clear f1_ f2_ f3_; subst f4_; subst f5_))
      refine hK.out _ _ ⟨(blk_cell BK127.out 0).trans rfl, (blk_cell BK127.out 1).trans rfl, (blk_cell BK127.out 2).trans rfl, (blk_cell BK127.out 3).trans rfl⟩ (fun hHeld => ?_)
      clear hK K
      refine norm_ (a' := ?_) ?_ ?_
      rotate_left
      · show Act.put _ (some 12) _ = _
        simp only [Act.put, sia, scz, scs, i64_w, i32_w]
        rfl
      refine pure_ (i := 5) (N := some 13) (v := ?_) (a' := ?_) #[true, true, true, true, true, true, false, false] rfl rfl (any_of HT_.out (by kernel_rfl)) (fun _ _ _ h => h) (Or.inl ⟨by rfl, ?_⟩) ?_ ?_
      rotate_left
      · intro w'
        go_simp
        with_reducible rfl
      rotate_left
      · simp only [Act.put, sia, scz, scs, i64_w, i32_w]
        rfl
      refine one_ (i := 6) (N := some 3) #[true, true, true, true, true, true, true, false] rfl rfl (one_of HT_.out (by kernel_rfl)) (by decide) (fun K hK => ?_)
      refine box_step ?hg (N := 3) ?hd (cs := #[.string (⟨#[]⟩ : ByteArray), .slice none 0 0, .slice none 0 0, .slice none 0 0]) (t := 26) ?hr ?_; (case hd => rfl); (case hg => rfl); (case hr => first | (go_simp; done) | (go_simp; rfl))
      intro gb132 hg w8 hbox hb
      have n0_ := amk (Kd.S_below (by (with_reducible repeat (first | apply Kd.S_alloc | apply Kd.S_drewN | apply Kd.S_drew)); exact HO131.out) hb)
      have n1_ := amk (blk_below (g := gb127) (o := .cells #[.string a0_0, .slice A0_1 l0_1.length c0_1, .slice A0_2 l0_2.length c0_2, .slice A0_3 l0_3.length c0_3] 26 (0, 0)) (by (with_reducible repeat (first | refine bkd ?_ _ | refine blk_drew ?_ | refine bka ?_ _)); exact BK127.out) hb)
      have n2_ := amk (blk_below (g := gb128) (o := .cells #[.string (⟨#[]⟩ : ByteArray), .slice none 0 0, .slice none 0 0, .slice none 0 0] 26 (0, 0)) (by (with_reducible repeat (first | refine bkd ?_ _ | refine blk_drew ?_ | refine bka ?_ _)); exact BK128.out) hb)
      have n3_ := amk (below_step (by repeat (first | (with_reducible first | exact HB.out | apply bal | apply pbd | apply bdr | refine below_set ?_ GE127.out | refine below_set ?_ GE128.out) | exact HB.out)) hb)
      have n4_ := amk (hbox)
      have n5_ := amk ((by rw [hg]; exact (below_size (by repeat (first | (with_reducible first | exact HB.out | apply bal | apply pbd | apply bdr | refine below_set ?_ GE127.out | refine below_set ?_ GE128.out) | exact HB.out))) : w.heap.size ≤ gb132))
      have n6_ := amk ((by rw [hg]; exact (below_size (by repeat (first | (with_reducible first | exact HB.out | apply bal | apply pbd | apply bdr | refine below_set ?_ GE127.out | refine below_set ?_ GE128.out) | exact HB.out))) : w.heap.size ≤ gb132))
      have n7_ := amk ((by rw [hg]; exact Nat.ne_of_lt (blk_lt (g := gb127) (o := .cells #[.string a0_0, .slice A0_1 l0_1.length c0_1, .slice A0_2 l0_2.length c0_2, .slice A0_3 l0_3.length c0_3] 26 (0, 0)) (by (with_reducible repeat (first | refine bkd ?_ _ | refine blk_drew ?_ | refine bka ?_ _)); exact BK127.out)) : gb127 ≠ gb132))
      have n8_ := amk ((by rw [hg]; exact Nat.ne_of_gt (blk_lt (g := gb127) (o := .cells #[.string a0_0, .slice A0_1 l0_1.length c0_1, .slice A0_2 l0_2.length c0_2, .slice A0_3 l0_3.length c0_3] 26 (0, 0)) (by (with_reducible repeat (first | refine bkd ?_ _ | refine blk_drew ?_ | refine bka ?_ _)); exact BK127.out)) : gb132 ≠ gb127))
      have n9_ := amk ((by rw [hg]; exact Nat.ne_of_lt (blk_lt (g := gb128) (o := .cells #[.string (⟨#[]⟩ : ByteArray), .slice none 0 0, .slice none 0 0, .slice none 0 0] 26 (0, 0)) (by (with_reducible repeat (first | refine bkd ?_ _ | refine blk_drew ?_ | refine bka ?_ _)); exact BK128.out)) : gb128 ≠ gb132))
      have n10_ := amk ((by rw [hg]; exact Nat.ne_of_gt (blk_lt (g := gb128) (o := .cells #[.string (⟨#[]⟩ : ByteArray), .slice none 0 0, .slice none 0 0, .slice none 0 0] 26 (0, 0)) (by (with_reducible repeat (first | refine bkd ?_ _ | refine blk_drew ?_ | refine bka ?_ _)); exact BK128.out)) : gb132 ≠ gb128))
      clear HO131
      clear BK127
      clear BK128
      clear HB
      have HO131 := n0_
      have BK127 := n1_
      have BK128 := n2_
      have HB := n3_
      have BK132 := n4_
      have GW132 := n5_
      have GE132 := n6_
      have NB127_132 := n7_
      have NB132_127 := n8_
      have NB128_132 := n9_
      have NB132_128 := n10_
      clear n0_ n1_ n2_ n3_ n4_ n5_ n6_ n7_ n8_ n9_ n10_
      clear hb hbox hg
      refine hK.out _ _ ⟨(blk_cell BK127.out 0).trans rfl, (blk_cell BK127.out 1).trans rfl, (blk_cell BK127.out 2).trans rfl, (blk_cell BK127.out 3).trans rfl⟩ (fun hHeld => ?_)
      clear hK K
      refine norm_ (a' := ?_) ?_ ?_
      rotate_left
      · show Act.put _ (some 3) _ = _
        simp only [Act.put, sia, scz, scs, i64_w, i32_w]
        rfl
      exact norm_ (by simp only [putAll, Act.put, sia, scz, scs]) (hCont (.slice Ao7 t129.length co7, gb132) _ ⟨hHeld, (by (with_reducible repeat (first | apply Kd.S_alloc | apply Kd.S_drewN | apply Kd.S_drew)); exact HO131.out), (by (with_reducible repeat (first | refine bkd ?_ _ | refine blk_drew ?_ | refine bka ?_ _)); exact BK127.out), (by (with_reducible repeat (first | refine bkd ?_ _ | refine blk_drew ?_ | refine bka ?_ _)); exact BK128.out), (by (with_reducible repeat (first | refine bkd ?_ _ | refine blk_drew ?_ | refine bka ?_ _)); exact BK132.out), GW132.out, GE132.out, NB127_132.out, NB132_127.out, NB128_132.out, NB132_128.out, (by repeat (first | (with_reducible first | exact HB.out | apply bal | apply pbd | apply bdr | refine below_set ?_ GE127.out | refine below_set ?_ GE128.out | refine below_set ?_ GE132.out) | exact HB.out))⟩)
    · skip
      refine box_step ?hg (N := 3) ?hd (cs := #[.string (⟨#[]⟩ : ByteArray), .slice none 0 0, .slice none 0 0, .slice none 0 0]) (t := 26) ?hr ?_; (case hd => rfl); (case hg => rfl); (case hr => first | (go_simp; done) | (go_simp; rfl))
      intro gb132 hg w6 hbox hb
      have n0_ := amk (blk_below (g := gb127) (o := .cells #[.string a0_0, .slice A0_1 l0_1.length c0_1, .slice A0_2 l0_2.length c0_2, .slice A0_3 l0_3.length c0_3] 26 (0, 0)) (by (with_reducible repeat (first | refine bkd ?_ _ | refine blk_drew ?_ | refine bka ?_ _)); exact BK127.out) hb)
      have n1_ := amk (blk_below (g := gb128) (o := .cells #[.string (⟨#[]⟩ : ByteArray), .slice none 0 0, .slice none 0 0, .slice none 0 0] 26 (0, 0)) (by (with_reducible repeat (first | refine bkd ?_ _ | refine blk_drew ?_ | refine bka ?_ _)); exact BK128.out) hb)
      have n2_ := amk (below_step (by repeat (first | (with_reducible first | exact HB.out | apply bal | apply pbd | apply bdr | refine below_set ?_ GE127.out | refine below_set ?_ GE128.out) | exact HB.out)) hb)
      have n3_ := amk (hbox)
      have n4_ := amk ((by rw [hg]; exact (below_size (by repeat (first | (with_reducible first | exact HB.out | apply bal | apply pbd | apply bdr | refine below_set ?_ GE127.out | refine below_set ?_ GE128.out) | exact HB.out))) : w.heap.size ≤ gb132))
      have n5_ := amk ((by rw [hg]; exact (below_size (by repeat (first | (with_reducible first | exact HB.out | apply bal | apply pbd | apply bdr | refine below_set ?_ GE127.out | refine below_set ?_ GE128.out) | exact HB.out))) : w.heap.size ≤ gb132))
      have n6_ := amk ((by rw [hg]; exact Nat.ne_of_lt (blk_lt (g := gb127) (o := .cells #[.string a0_0, .slice A0_1 l0_1.length c0_1, .slice A0_2 l0_2.length c0_2, .slice A0_3 l0_3.length c0_3] 26 (0, 0)) (by (with_reducible repeat (first | refine bkd ?_ _ | refine blk_drew ?_ | refine bka ?_ _)); exact BK127.out)) : gb127 ≠ gb132))
      have n7_ := amk ((by rw [hg]; exact Nat.ne_of_gt (blk_lt (g := gb127) (o := .cells #[.string a0_0, .slice A0_1 l0_1.length c0_1, .slice A0_2 l0_2.length c0_2, .slice A0_3 l0_3.length c0_3] 26 (0, 0)) (by (with_reducible repeat (first | refine bkd ?_ _ | refine blk_drew ?_ | refine bka ?_ _)); exact BK127.out)) : gb132 ≠ gb127))
      have n8_ := amk ((by rw [hg]; exact Nat.ne_of_lt (blk_lt (g := gb128) (o := .cells #[.string (⟨#[]⟩ : ByteArray), .slice none 0 0, .slice none 0 0, .slice none 0 0] 26 (0, 0)) (by (with_reducible repeat (first | refine bkd ?_ _ | refine blk_drew ?_ | refine bka ?_ _)); exact BK128.out)) : gb128 ≠ gb132))
      have n9_ := amk ((by rw [hg]; exact Nat.ne_of_gt (blk_lt (g := gb128) (o := .cells #[.string (⟨#[]⟩ : ByteArray), .slice none 0 0, .slice none 0 0, .slice none 0 0] 26 (0, 0)) (by (with_reducible repeat (first | refine bkd ?_ _ | refine blk_drew ?_ | refine bka ?_ _)); exact BK128.out)) : gb132 ≠ gb128))
      clear BK127
      clear BK128
      clear HB
      have BK127 := n0_
      have BK128 := n1_
      have HB := n2_
      have BK132 := n3_
      have GW132 := n4_
      have GE132 := n5_
      have NB127_132 := n6_
      have NB132_127 := n7_
      have NB128_132 := n8_
      have NB132_128 := n9_
      clear n0_ n1_ n2_ n3_ n4_ n5_ n6_ n7_ n8_ n9_
      clear hb hbox hg
      refine hK.out _ _ ⟨(blk_cell BK127.out 0).trans rfl, (blk_cell BK127.out 1).trans rfl, (blk_cell BK127.out 2).trans rfl, (blk_cell BK127.out 3).trans rfl⟩ (fun hHeld => ?_)
      clear hK K
      refine norm_ (a' := ?_) ?_ ?_
      rotate_left
      · show Act.put _ (some 3) _ = _
        simp only [Act.put, sia, scz, scs, i64_w, i32_w]
        rfl
      refine one_ (i := 4) (N := some 12) #[true, true, true, true, true, false, true, false] rfl rfl (one_of HT_.out (by kernel_rfl)) (by decide) (fun K hK => ?_)
      refine goes_ Try.func28 (by kernel_rfl) rfl #[.slice A0_1 l0_1.length c0_1] (by rfl) rfl rfl (by (try simp only [List.map_toArray, List.map_cons, List.map_nil]); first | done | rfl | (simp only [List.length_drop, List.length_take]; rfl)) ?_
      with_reducible refine (provisoplain_Classes.calls k _ _ l0_1 t129 _ ?side1 ?side2 A2.out).mono ?_
      (case side1 => repeat (first | exact (Kd.C_below HR0_1.out HB.out) | (with_reducible refine Kd.C_alloc ?_ _) | (with_reducible refine Kd.C_drewN ?_ _) | (with_reducible refine Kd.C_drew ?_)))
      (case side2 => exact HC0_1.out)
      rintro e w7 ⟨v130, rfl, ho0, hb⟩
      refine ⟨_, rfl, ?_⟩
      have n0_ := amk (Kd.S_lower ho0 (below_size (by repeat (first | (with_reducible first | exact HB.out | apply bal | apply pbd | apply bdr | refine below_set ?_ GE127.out | refine below_set ?_ GE128.out | refine below_set ?_ GE132.out) | exact HB.out))))
      have n1_ := amk (blk_below (g := gb127) (o := .cells #[.string a0_0, .slice A0_1 l0_1.length c0_1, .slice A0_2 l0_2.length c0_2, .slice A0_3 l0_3.length c0_3] 26 (0, 0)) (by (with_reducible repeat (first | refine bkd ?_ _ | refine blk_drew ?_ | refine bka ?_ _)); exact BK127.out) hb)
      have n2_ := amk (blk_below (g := gb128) (o := .cells #[.string (⟨#[]⟩ : ByteArray), .slice none 0 0, .slice none 0 0, .slice none 0 0] 26 (0, 0)) (by (with_reducible repeat (first | refine bkd ?_ _ | refine blk_drew ?_ | refine bka ?_ _)); exact BK128.out) hb)
      have n3_ := amk (blk_below (g := gb132) (o := .cells #[.string (⟨#[]⟩ : ByteArray), .slice none 0 0, .slice none 0 0, .slice none 0 0] 26 (0, 0)) (by (with_reducible repeat (first | refine bkd ?_ _ | refine blk_drew ?_ | refine bka ?_ _)); exact BK132.out) hb)
      have n4_ := amk (below_step (by repeat (first | (with_reducible first | exact HB.out | apply bal | apply pbd | apply bdr | refine below_set ?_ GE127.out | refine below_set ?_ GE128.out | refine below_set ?_ GE132.out) | exact HB.out)) hb)
      clear BK127
      clear BK128
      clear BK132
      clear HB
      have HO131 := n0_
      have BK127 := n1_
      have BK128 := n2_
      have BK132 := n3_
      have HB := n4_
      clear n0_ n1_ n2_ n3_ n4_
      (try clear hb)
      (try clear hb2)
      (try clear hk)
      (try clear hi)
      (try clear ho0)
      obtain ⟨Ao8, co8, eo8⟩ := Kd.S_slice HO131.out
      (first | subst eo8 | (injection eo8 with f1_ f2_ f3_; have f4_ := f1_.symm; have f5_ := f3_.symm; clear f1_ f2_ f3_; subst f4_; subst f5_))
      refine hK.out _ _ ⟨(blk_cell BK127.out 0).trans rfl, (blk_cell BK127.out 1).trans rfl, (blk_cell BK127.out 2).trans rfl, (blk_cell BK127.out 3).trans rfl⟩ (fun hHeld => ?_)
      clear hK K
      refine norm_ (a' := ?_) ?_ ?_
      rotate_left
      · show Act.put _ (some 12) _ = _
        simp only [Act.put, sia, scz, scs, i64_w, i32_w]
        rfl
      refine pure_ (i := 5) (N := some 13) (v := ?_) (a' := ?_) #[true, true, true, true, true, true, true, false] rfl rfl (any_of HT_.out (by kernel_rfl)) (fun _ _ _ h => h) (Or.inl ⟨by rfl, ?_⟩) ?_ ?_
      rotate_left
      · intro w'
        go_simp
        with_reducible rfl
      rotate_left
      · simp only [Act.put, sia, scz, scs, i64_w, i32_w]
        rfl
      exact norm_ (by simp only [putAll, Act.put, sia, scz, scs]) (hCont (.slice Ao8 t129.length co8, gb132) _ ⟨hHeld, (by (with_reducible repeat (first | apply Kd.S_alloc | apply Kd.S_drewN | apply Kd.S_drew)); exact HO131.out), (by (with_reducible repeat (first | refine bkd ?_ _ | refine blk_drew ?_ | refine bka ?_ _)); exact BK127.out), (by (with_reducible repeat (first | refine bkd ?_ _ | refine blk_drew ?_ | refine bka ?_ _)); exact BK128.out), (by (with_reducible repeat (first | refine bkd ?_ _ | refine blk_drew ?_ | refine bka ?_ _)); exact BK132.out), GW132.out, GE132.out, NB127_132.out, NB132_127.out, NB128_132.out, NB132_128.out, (by repeat (first | (with_reducible first | exact HB.out | apply bal | apply pbd | apply bdr | refine below_set ?_ GE127.out | refine below_set ?_ GE128.out | refine below_set ?_ GE132.out) | exact HB.out))⟩)
  rintro ⟨v130, gb132⟩ w9 ⟨hS_, h0_, h1_, h2_, h3_, h4_, h5_, h6_, h7_, h8_, h9_, h10_⟩
  have n0_ : Aside0 (Kd.S k64 64 w9 w.heap.size (fun _ => True) v130 t129) := ⟨h0_⟩
  have n1_ : Aside0 (w9.heap[gb127]? = some (.cells #[.string a0_0, .slice A0_1 l0_1.length c0_1, .slice A0_2 l0_2.length c0_2, .slice A0_3 l0_3.length c0_3] 26 (0, 0))) := ⟨h1_⟩
  have n2_ : Aside0 (w9.heap[gb128]? = some (.cells #[.string (⟨#[]⟩ : ByteArray), .slice none 0 0, .slice none 0 0, .slice none 0 0] 26 (0, 0))) := ⟨h2_⟩
  have n3_ : Aside0 (w9.heap[gb132]? = some (.cells #[.string (⟨#[]⟩ : ByteArray), .slice none 0 0, .slice none 0 0, .slice none 0 0] 26 (0, 0))) := ⟨h3_⟩
  have n4_ : Aside0 (w.heap.size ≤ gb132) := ⟨h4_⟩
  have n5_ : Aside0 (w.heap.size ≤ gb132) := ⟨h5_⟩
  have n6_ : Aside0 (gb127 ≠ gb132) := ⟨h6_⟩
  have n7_ : Aside0 (gb132 ≠ gb127) := ⟨h7_⟩
  have n8_ : Aside0 (gb128 ≠ gb132) := ⟨h8_⟩
  have n9_ : Aside0 (gb132 ≠ gb128) := ⟨h9_⟩
  have n10_ : Aside0 (Below w.heap.size w w9) := ⟨h10_⟩
  clear BK127
  clear BK128
  clear HB
  clear h0_ h1_ h2_ h3_ h4_ h5_ h6_ h7_ h8_ h9_ h10_
  have HO131 := n0_
  have BK127 := n1_
  have BK128 := n2_
  have BK132 := n3_
  have GW132 := n4_
  have GE132 := n5_
  have NB127_132 := n6_
  have NB132_127 := n7_
  have NB128_132 := n8_
  have NB132_128 := n9_
  have HB := n10_
  clear n0_ n1_ n2_ n3_ n4_ n5_ n6_ n7_ n8_ n9_ n10_
  have hHeld : w9.cell? ⟨gb127, 0, none⟩ = some (.string a0_0) ∧ w9.cell? ⟨gb127, 1, none⟩ = some (.slice A0_1 l0_1.length c0_1) ∧ w9.cell? ⟨gb127, 2, none⟩ = some (.slice A0_2 l0_2.length c0_2) ∧ w9.cell? ⟨gb127, 3, none⟩ = some (.slice A0_3 l0_3.length c0_3) := hS_
  obtain ⟨Ao10, co10, eo10⟩ := Kd.S_slice HO131.out
  (first | subst eo10 | (injection eo10 with f1_ f2_ f3_; have f4_ := f1_.symm; have f5_ := f3_.symm; clear f1_ f2_ f3_; subst f4_; subst f5_))
  refine norm_ (a' := ?_) ?_ ?_
  rotate_left
  · simp only [putAll, Act.put, sia, scz, scs]
    rfl
  refine one_ (i := 7) (N := none) #[true, true, true, true, true, true, true, true] rfl rfl (one_of HT_.out (by kernel_rfl)) (by decide) (fun K hK => ?_)
  have hs11 : w9.cell? ⟨gb132, 0, none⟩ = some (.string (⟨#[]⟩ : ByteArray)) := (blk_cell BK132.out 0).trans rfl
  have hfs11 := bkf BK132.out 0
  have hns11_0 := NB127_132.out
  have hns11_1 := NB128_132.out
  have hms11_0 := NB132_127.out
  have hms11_1 := NB132_128.out
  have hs12 : w9.cell? ⟨gb132, 1, none⟩ = some (.slice none 0 0) := (blk_cell BK132.out 1).trans rfl
  have hfs12 := bkf BK132.out 1
  have hns12_0 := NB127_132.out
  have hns12_1 := NB128_132.out
  have hms12_0 := NB132_127.out
  have hms12_1 := NB132_128.out
  have hs13 : w9.cell? ⟨gb132, 2, none⟩ = some (.slice none 0 0) := (blk_cell BK132.out 2).trans rfl
  have hfs13 := bkf BK132.out 2
  have hns13_0 := NB127_132.out
  have hns13_1 := NB128_132.out
  have hms13_0 := NB132_127.out
  have hms13_1 := NB132_128.out
  have hs14 : w9.cell? ⟨gb132, 3, none⟩ = some (.slice none 0 0) := (blk_cell BK132.out 3).trans rfl
  have hfs14 := bkf BK132.out 3
  have hns14_0 := NB127_132.out
  have hns14_1 := NB128_132.out
  have hms14_0 := NB132_127.out
  have hms14_1 := NB132_128.out
  refine skip_ (w1 := ?_) (by rfl) rfl ?_ ?_
  rotate_left
  · go_simp
    rfl
  refine hK.out _ _ ⟨((cell_far (p := ⟨gb132, _, none⟩) NB127_132.out _).trans (((cell_far (p := ⟨gb132, _, none⟩) NB127_132.out _).trans (((cell_far (p := ⟨gb132, _, none⟩) NB127_132.out _).trans (((cell_far (p := ⟨gb132, _, none⟩) NB127_132.out _).trans (hHeld.1)))))))), ((cell_far (p := ⟨gb132, _, none⟩) NB127_132.out _).trans (((cell_far (p := ⟨gb132, _, none⟩) NB127_132.out _).trans (((cell_far (p := ⟨gb132, _, none⟩) NB127_132.out _).trans (((cell_far (p := ⟨gb132, _, none⟩) NB127_132.out _).trans (hHeld.2.1)))))))), ((cell_far (p := ⟨gb132, _, none⟩) NB127_132.out _).trans (((cell_far (p := ⟨gb132, _, none⟩) NB127_132.out _).trans (((cell_far (p := ⟨gb132, _, none⟩) NB127_132.out _).trans (((cell_far (p := ⟨gb132, _, none⟩) NB127_132.out _).trans (hHeld.2.2.1)))))))), ((cell_far (p := ⟨gb132, _, none⟩) NB127_132.out _).trans (((cell_far (p := ⟨gb132, _, none⟩) NB127_132.out _).trans (((cell_far (p := ⟨gb132, _, none⟩) NB127_132.out _).trans (((cell_far (p := ⟨gb132, _, none⟩) NB127_132.out _).trans (hHeld.2.2.2))))))))⟩ (fun hHeld => ?_)
  clear hK K
  refine done_ (done_of HT_.out (by kernel_rfl)) ?_
  have hnb15 := NB127_128.out
  have hnc15 := NB128_127.out
  have hnb16 := NB127_132.out
  have hnc16 := NB132_127.out
  have hcz17_0 : w9.cell? ⟨gb127, 0, none⟩ = some (.string a0_0) := (blk_cell BK127.out 0).trans rfl
  have hcz17_1 : w9.cell? ⟨gb127, 1, none⟩ = some (.slice A0_1 l0_1.length c0_1) := (blk_cell BK127.out 1).trans rfl
  have hcz17_2 : w9.cell? ⟨gb127, 2, none⟩ = some (.slice A0_2 l0_2.length c0_2) := (blk_cell BK127.out 2).trans rfl
  have hcz17_3 : w9.cell? ⟨gb127, 3, none⟩ = some (.slice A0_3 l0_3.length c0_3) := (blk_cell BK127.out 3).trans rfl
  have hfz17_0 := bkf BK127.out 0
  have hfz17_1 := bkf BK127.out 1
  have hfz17_2 := bkf BK127.out 2
  have hfz17_3 := bkf BK127.out 3
  try go_wp2
  go_loopg [17] k (fun kq v17 w' => ∃ (x17_1 : Int) (x133002_1 : List (S49)) (u133002 : Value), v17 = .int .i64 x17_1 ∧ Aside0 (provisoplain_Module.l0 kq l0_2 (l0_2.length : Int) x17_1 a0_0 l0_1 l0_2 l0_3 a0_0 t129 x133002_1 = some (r1, r2, r3, r4)) ∧ Aside0 (kq ≤ k) ∧ Aside0 (Kd.S k64 64 w' w.heap.size (fun _ => True) (.slice Ao10 t129.length co10) t129) ∧ Aside0 (Kd.S k49 49 w' w.heap.size (fun _ => True) u133002 x133002_1) ∧ Aside0 (w'.heap[gb127]? = some (.cells #[.string a0_0, (.slice A0_1 l0_1.length c0_1), (.slice A0_2 l0_2.length c0_2), (.slice A0_3 l0_3.length c0_3)] 26 (0, 0))) ∧ Aside0 (w'.heap[gb128]? = some (.cells #[.string (⟨#[]⟩ : ByteArray), (.slice none 0 0), (.slice none 0 0), (.slice none 0 0)] 26 (0, 0))) ∧ Aside0 (w'.heap[gb132]? = some (.cells #[.string a0_0, (.slice Ao10 t129.length co10), u133002, (.slice none 0 0)] 26 (0, 0))) ∧ Aside0 (Below w.heap.size w w'))
  case atStart => exact ⟨(0), (([] : List (S49))), (.slice none 0 0), (by first | rfl | (simp; done) | (simp [*]; done)), H', ⟨Nat.le_refl _⟩, ⟨by (with_reducible repeat (first | apply Kd.S_alloc | apply Kd.S_drewN | apply Kd.S_drew)); exact Kd.S_mono (Kd.S_far (p := ⟨gb132, 3, none⟩) (Kd.S_far (p := ⟨gb132, 2, none⟩) (Kd.S_far (p := ⟨gb132, 1, none⟩) (Kd.S_far (p := ⟨gb132, 0, none⟩) (Kd.S_types HO131.out BK132.out (by decide)) (fun _ hk => hk.2) (.string a0_0)) (fun _ hk => hk.2) (.slice Ao10 t129.length co10)) (fun _ hk => hk.2) (.slice none 0 0)) (fun _ hk => hk.2) (.slice none 0 0)) (fun _ hk => trivial)⟩, ⟨by first | exact Kd.S_nil _ _ _ _ _ | exact Kd.N_nil _ _ _ _ _ | exact Kd.V_nil _ _ _ _ _ | exact Kd.Q_nil _ _ _ _ _ | exact Kd.R_nil _ _ _ _ _⟩, ⟨by (with_reducible repeat (first | refine bkd ?_ _ | refine blk_drew ?_ | refine bka ?_ _)); refine blk_far ?_ NB127_132.out _; (with_reducible repeat (first | refine bkd ?_ _ | refine blk_drew ?_ | refine bka ?_ _)); refine blk_far ?_ NB127_132.out _; (with_reducible repeat (first | refine bkd ?_ _ | refine blk_drew ?_ | refine bka ?_ _)); refine blk_far ?_ NB127_132.out _; (with_reducible repeat (first | refine bkd ?_ _ | refine blk_drew ?_ | refine bka ?_ _)); refine blk_far ?_ NB127_132.out _; (with_reducible repeat (first | refine bkd ?_ _ | refine blk_drew ?_ | refine bka ?_ _)); exact BK127.out⟩, ⟨by (with_reducible repeat (first | refine bkd ?_ _ | refine blk_drew ?_ | refine bka ?_ _)); refine blk_far ?_ NB128_132.out _; (with_reducible repeat (first | refine bkd ?_ _ | refine blk_drew ?_ | refine bka ?_ _)); refine blk_far ?_ NB128_132.out _; (with_reducible repeat (first | refine bkd ?_ _ | refine blk_drew ?_ | refine bka ?_ _)); refine blk_far ?_ NB128_132.out _; (with_reducible repeat (first | refine bkd ?_ _ | refine blk_drew ?_ | refine bka ?_ _)); refine blk_far ?_ NB128_132.out _; (with_reducible repeat (first | refine bkd ?_ _ | refine blk_drew ?_ | refine bka ?_ _)); exact BK128.out⟩, ⟨by (with_reducible repeat (first | refine bkd ?_ _ | refine blk_drew ?_ | refine bka ?_ _)); refine blk_put (cs := #[.string a0_0, .slice Ao10 t129.length co10, .slice none 0 0, .slice none 0 0]) ?_ 3 _ rfl; (with_reducible repeat (first | refine bkd ?_ _ | refine blk_drew ?_ | refine bka ?_ _)); refine blk_put (cs := #[.string a0_0, .slice Ao10 t129.length co10, .slice none 0 0, .slice none 0 0]) ?_ 2 _ rfl; (with_reducible repeat (first | refine bkd ?_ _ | refine blk_drew ?_ | refine bka ?_ _)); refine blk_put (cs := #[.string a0_0, .slice none 0 0, .slice none 0 0, .slice none 0 0]) ?_ 1 _ rfl; (with_reducible repeat (first | refine bkd ?_ _ | refine blk_drew ?_ | refine bka ?_ _)); refine blk_put (cs := #[.string (⟨#[]⟩ : ByteArray), .slice none 0 0, .slice none 0 0, .slice none 0 0]) ?_ 0 _ rfl; (with_reducible repeat (first | refine bkd ?_ _ | refine blk_drew ?_ | refine bka ?_ _)); exact BK132.out⟩, ⟨by repeat (first | (with_reducible first | exact HB.out | apply bal | apply pbd | apply bdr | refine below_set ?_ GE127.out | refine below_set ?_ GE128.out | refine below_set ?_ GE132.out) | exact HB.out)⟩⟩
  case round =>
    clear H'
    try clear c1
    try clear c2
    try clear p2
    try clear c12
    try clear c15
    try clear c16
    try clear hcz17_0
    try clear hcz17_1
    try clear hcz17_2
    try clear hcz17_3
    try clear hfz17_0
    try clear hfz17_1
    try clear hfz17_2
    try clear hfz17_3
    obtain ⟨x17_1, x133002_1, u133002, rfl, HA, HK1, HO_133001, HO_133002, BK127, BK128, BK132, HB⟩ := hrel
    cases gk with
    | zero => exact absurd HA.out (by simp [provisoplain_Module.l0])
    | succ k1 =>
      have H := HA.out
      clear HA
      simp only [provisoplain_Module.l0] at H
      by_cases c18 : x17_1 < (l0_2.length : Int)
      · rw [if_pos c18] at H
        have c18b0 : decide (x17_1 < (l0_2.length : Int)) = true := decide_eq_true c18
        clear c18
        by_cases c19 : 0 ≤ x17_1
        · rw [if_pos c19] at H
          have c19b0 : decide (0 ≤ x17_1) = true := decide_eq_true c19
          clear c19
          by_cases c20 : x17_1 < (l0_2.length : Int)
          · rw [if_pos c20] at H
            have c20b0 : decide (x17_1 < (l0_2.length : Int)) = true := decide_eq_true c20
            clear c20
            replace H := Option.bind_eq_some_iff.mp H
            obtain ⟨⟨t135, t136, t139, t140, t141⟩, A210, H⟩ := H
            replace H : (if x133002_1.length < 1759218604441 then (provisoplain_Module.l0 k1 l0_2 (l0_2.length : Int) (wrap64 (x17_1 + 1)) a0_0 l0_1 l0_2 l0_3 a0_0 t129 (x133002_1 ++ [(⟨t135, (⟨t136, t139⟩ : S47), t140, t141⟩ : S49)])) else (none)) = some (r1, r2, r3, r4) := H
            have A21 := amk A210
            clear A210
            by_cases c22 : x133002_1.length < 1759218604441
            · rw [if_pos c22] at H
              have LMc22 := amk c22
              clear c22
              obtain ⟨y144, hy144⟩ : ∃ y_ : List (S49), y_ = (x133002_1 ++ [(⟨t135, (⟨t136, t139⟩ : S47), t140, t141⟩ : S49)]) := ⟨_, rfl⟩
              replace H : (provisoplain_Module.l0 k1 l0_2 (l0_2.length : Int) (wrap64 (x17_1 + 1)) a0_0 l0_1 l0_2 l0_3 a0_0 t129 y144) = some (r1, r2, r3, r4) := by first | (rw [hy144]; with_reducible exact H) | (have H2_ := (Option.bind_some _ _).symm.trans H; rw [hy144]; with_reducible exact H2_) | (have H2_ := (Option.bind_some _ _).symm.trans H; with_reducible exact H2_) | with_reducible exact H | (rw [hy144]; exact H) | exact H
              have Ny144 := amk hy144
              clear hy144
              have H' := amk H
              clear H
              have p133 : 0 ≤ (x17_1 : Int) := of_decide_eq_true (by first | (with_reducible assumption) | assumption)
              have q133 : x17_1 < (l0_2.length : Int) := of_decide_eq_true (by first | (with_reducible assumption) | assumption)
              obtain ⟨ad133, A133_1, c133_1, A133_4, c133_4, e133, hx133_0, hx133_1, hx133_2, hx133_3, hx133_4, hl133_1, hi133_1, hl133_4, hi133_4⟩ := at_T49 HR0_2.out x17_1 p133 q133
              cases e133
              replace hx133_0 := (HB.out.cell (blc w _ hx133_0)).trans hx133_0
              replace hx133_1 := (HB.out.cell (blc w _ hx133_1)).trans hx133_1
              replace hx133_2 := (HB.out.cell (blc w _ hx133_2)).trans hx133_2
              replace hx133_3 := (HB.out.cell (blc w _ hx133_3)).trans hx133_3
              replace hx133_4 := (HB.out.cell (blc w _ hx133_4)).trans hx133_4
              have HR133_1 := amk hi133_1
              have HC133_1 := amk hl133_1
              clear hi133_1 hl133_1
              have HR133_4 := amk hi133_4
              have HC133_4 := amk hl133_4
              clear hi133_4 hl133_4
              replace p133 := eq_true p133
              replace q133 := eq_true q133
              try go_wp2_with (first | ((with_reducible refine gate_dst (N := 5) rfl ?_); refine box_event ?hg (N := 5) ?hd (cs := #[.string (⟨#[]⟩ : ByteArray), .slice none 0 0, .int .u8 0, .int .i64 0, .slice none 0 0]) (t := 49) ?hr ?_; (case hd => rfl); (case hg => rfl); (case hr => first | (go_simp; done) | (go_simp; rfl)); intro gb134 hg w23 hbox hb; have n0_ := amk (Kd.S_below (by (with_reducible repeat (first | apply Kd.S_alloc | apply Kd.S_drewN | apply Kd.S_drew)); exact HO_133001.out) hb); have n1_ := amk (Kd.S_below (Kd.S_elderB (by (with_reducible repeat (first | apply Kd.S_alloc | apply Kd.S_drewN | apply Kd.S_drew)); exact HO_133002.out) gb134 (Nat.le_of_eq hg.symm)) hb); have n2_ := amk (blk_below (g := gb127) (o := .cells #[.string a0_0, .slice A0_1 l0_1.length c0_1, .slice (some ad133) l0_2.length c0_2, .slice A0_3 l0_3.length c0_3] 26 (0, 0)) (by (with_reducible repeat (first | refine bkd ?_ _ | refine blk_drew ?_ | refine bka ?_ _)); exact BK127.out) hb); have n3_ := amk (blk_below (g := gb128) (o := .cells #[.string (⟨#[]⟩ : ByteArray), .slice none 0 0, .slice none 0 0, .slice none 0 0] 26 (0, 0)) (by (with_reducible repeat (first | refine bkd ?_ _ | refine blk_drew ?_ | refine bka ?_ _)); exact BK128.out) hb); have n4_ := amk (blk_below (g := gb132) (o := .cells #[.string a0_0, .slice Ao10 t129.length co10, u133002, .slice none 0 0] 26 (0, 0)) (by (with_reducible repeat (first | refine bkd ?_ _ | refine blk_drew ?_ | refine bka ?_ _)); exact BK132.out) hb); have n5_ := amk (below_step (by repeat (first | (with_reducible first | exact HB.out | apply bal | apply pbd | apply bdr | refine below_set ?_ GE127.out | refine below_set ?_ GE128.out | refine below_set ?_ GE132.out) | exact HB.out)) hb); have n6_ := amk (hbox); have n7_ := amk ((by rw [hg]; exact (below_size (by repeat (first | (with_reducible first | exact HB.out | apply bal | apply pbd | apply bdr | refine below_set ?_ GE127.out | refine below_set ?_ GE128.out | refine below_set ?_ GE132.out) | exact HB.out))) : w.heap.size ≤ gb134)); have n8_ := amk ((by rw [hg]; exact (below_size (by repeat (first | (with_reducible first | exact HB.out | apply bal | apply pbd | apply bdr | refine below_set ?_ GE127.out | refine below_set ?_ GE128.out | refine below_set ?_ GE132.out) | exact HB.out))) : w.heap.size ≤ gb134)); have n9_ := amk ((by rw [hg]; exact Nat.ne_of_lt (blk_lt (g := gb127) (o := .cells #[.string a0_0, .slice A0_1 l0_1.length c0_1, .slice (some ad133) l0_2.length c0_2, .slice A0_3 l0_3.length c0_3] 26 (0, 0)) (by (with_reducible repeat (first | refine bkd ?_ _ | refine blk_drew ?_ | refine bka ?_ _)); exact BK127.out)) : gb127 ≠ gb134)); have n10_ := amk ((by rw [hg]; exact Nat.ne_of_gt (blk_lt (g := gb127) (o := .cells #[.string a0_0, .slice A0_1 l0_1.length c0_1, .slice (some ad133) l0_2.length c0_2, .slice A0_3 l0_3.length c0_3] 26 (0, 0)) (by (with_reducible repeat (first | refine bkd ?_ _ | refine blk_drew ?_ | refine bka ?_ _)); exact BK127.out)) : gb134 ≠ gb127)); have n11_ := amk ((by rw [hg]; exact Nat.ne_of_lt (blk_lt (g := gb128) (o := .cells #[.string (⟨#[]⟩ : ByteArray), .slice none 0 0, .slice none 0 0, .slice none 0 0] 26 (0, 0)) (by (with_reducible repeat (first | refine bkd ?_ _ | refine blk_drew ?_ | refine bka ?_ _)); exact BK128.out)) : gb128 ≠ gb134)); have n12_ := amk ((by rw [hg]; exact Nat.ne_of_gt (blk_lt (g := gb128) (o := .cells #[.string (⟨#[]⟩ : ByteArray), .slice none 0 0, .slice none 0 0, .slice none 0 0] 26 (0, 0)) (by (with_reducible repeat (first | refine bkd ?_ _ | refine blk_drew ?_ | refine bka ?_ _)); exact BK128.out)) : gb134 ≠ gb128)); have n13_ := amk ((by rw [hg]; exact Nat.ne_of_lt (blk_lt (g := gb132) (o := .cells #[.string a0_0, .slice Ao10 t129.length co10, u133002, .slice none 0 0] 26 (0, 0)) (by (with_reducible repeat (first | refine bkd ?_ _ | refine blk_drew ?_ | refine bka ?_ _)); exact BK132.out)) : gb132 ≠ gb134)); have n14_ := amk ((by rw [hg]; exact Nat.ne_of_gt (blk_lt (g := gb132) (o := .cells #[.string a0_0, .slice Ao10 t129.length co10, u133002, .slice none 0 0] 26 (0, 0)) (by (with_reducible repeat (first | refine bkd ?_ _ | refine blk_drew ?_ | refine bka ?_ _)); exact BK132.out)) : gb134 ≠ gb132)); clear HO_133001; clear HO_133002; clear BK127; clear BK128; clear BK132; clear HB; have HO_133001 := n0_; have HO_133002 := n1_; have BK127 := n2_; have BK128 := n3_; have BK132 := n4_; have HB := n5_; have BK134 := n6_; have GW134 := n7_; have GE134 := n8_; have NB127_134 := n9_; have NB134_127 := n10_; have NB128_134 := n11_; have NB134_128 := n12_; have NB132_134 := n13_; have NB134_132 := n14_; clear n0_ n1_ n2_ n3_ n4_ n5_ n6_ n7_ n8_ n9_ n10_ n11_ n12_ n13_ n14_; clear hb hbox hg; have hnb24 := NB134_127.out; have hnc24 := NB127_134.out; have hnb25 := NB134_128.out; have hnc25 := NB128_134.out; have hnb26 := NB134_132.out; have hnc26 := NB132_134.out; have hcz27_0 : w23.cell? ⟨gb134, 0, none⟩ = some (.string (⟨#[]⟩ : ByteArray)) := (blk_cell BK134.out 0).trans rfl; have hcz27_1 : w23.cell? ⟨gb134, 1, none⟩ = some (.slice none 0 0) := (blk_cell BK134.out 1).trans rfl; have hcz27_2 : w23.cell? ⟨gb134, 2, none⟩ = some (.int .u8 0) := (blk_cell BK134.out 2).trans rfl; have hcz27_3 : w23.cell? ⟨gb134, 3, none⟩ = some (.int .i64 0) := (blk_cell BK134.out 3).trans rfl; have hcz27_4 : w23.cell? ⟨gb134, 4, none⟩ = some (.slice none 0 0) := (blk_cell BK134.out 4).trans rfl; have hfz27_0 := bkf BK134.out 0; have hfz27_1 := bkf BK134.out 1; have hfz27_2 := bkf BK134.out 2; have hfz27_3 := bkf BK134.out 3; have hfz27_4 := bkf BK134.out 4))
              have n0_ : Aside0 (Kd.S k64 64 (((((w23.setCell ⟨gb134, 0, none⟩ (.string ((rd_T49 l0_2 x17_1).f0))).setCell ⟨gb134, 1, none⟩ (.slice A133_1 ((rd_T49 l0_2 x17_1).f1.f0).length c133_1)).setCell ⟨gb134, 2, none⟩ (.int .u8 ((rd_T49 l0_2 x17_1).f1.f1))).setCell ⟨gb134, 3, none⟩ (.int .i64 ((rd_T49 l0_2 x17_1).f2))).setCell ⟨gb134, 4, none⟩ (.slice A133_4 ((rd_T49 l0_2 x17_1).f3).length c133_4)) w.heap.size (fun _ => True) (.slice Ao10 t129.length co10) t129) := ⟨by (with_reducible repeat (first | apply Kd.S_alloc | apply Kd.S_drewN | apply Kd.S_drew)); exact Kd.S_mono (Kd.S_far (p := ⟨gb134, 4, none⟩) (Kd.S_far (p := ⟨gb134, 3, none⟩) (Kd.S_far (p := ⟨gb134, 2, none⟩) (Kd.S_far (p := ⟨gb134, 1, none⟩) (Kd.S_far (p := ⟨gb134, 0, none⟩) (Kd.S_types HO_133001.out BK134.out (by decide)) (fun _ hk => hk.2) (.string ((rd_T49 l0_2 x17_1).f0))) (fun _ hk => hk.2) (.slice A133_1 ((rd_T49 l0_2 x17_1).f1.f0).length c133_1)) (fun _ hk => hk.2) (.int .u8 ((rd_T49 l0_2 x17_1).f1.f1))) (fun _ hk => hk.2) (.int .i64 ((rd_T49 l0_2 x17_1).f2))) (fun _ hk => hk.2) (.slice A133_4 ((rd_T49 l0_2 x17_1).f3).length c133_4)) (fun _ hk => trivial)⟩
              have n1_ : Aside0 (Kd.S k49 49 (((((w23.setCell ⟨gb134, 0, none⟩ (.string ((rd_T49 l0_2 x17_1).f0))).setCell ⟨gb134, 1, none⟩ (.slice A133_1 ((rd_T49 l0_2 x17_1).f1.f0).length c133_1)).setCell ⟨gb134, 2, none⟩ (.int .u8 ((rd_T49 l0_2 x17_1).f1.f1))).setCell ⟨gb134, 3, none⟩ (.int .i64 ((rd_T49 l0_2 x17_1).f2))).setCell ⟨gb134, 4, none⟩ (.slice A133_4 ((rd_T49 l0_2 x17_1).f3).length c133_4)) w.heap.size (fun k_ => k_ ≠ gb134) u133002 x133002_1) := ⟨by (with_reducible repeat (first | apply Kd.S_alloc | apply Kd.S_drewN | apply Kd.S_drew)); exact Kd.S_mono (Kd.S_far (p := ⟨gb134, 4, none⟩) (Kd.S_far (p := ⟨gb134, 3, none⟩) (Kd.S_far (p := ⟨gb134, 2, none⟩) (Kd.S_far (p := ⟨gb134, 1, none⟩) (Kd.S_far (p := ⟨gb134, 0, none⟩) (Kd.S_mono HO_133002.out (fun k_ hk => (⟨hk, hk.2⟩ : _ ∧ k_ ≠ gb134))) (fun _ hk => hk.2) (.string ((rd_T49 l0_2 x17_1).f0))) (fun _ hk => hk.2) (.slice A133_1 ((rd_T49 l0_2 x17_1).f1.f0).length c133_1)) (fun _ hk => hk.2) (.int .u8 ((rd_T49 l0_2 x17_1).f1.f1))) (fun _ hk => hk.2) (.int .i64 ((rd_T49 l0_2 x17_1).f2))) (fun _ hk => hk.2) (.slice A133_4 ((rd_T49 l0_2 x17_1).f3).length c133_4)) (fun _ hk => hk.1.2)⟩
              have n2_ : Aside0 ((((((w23.setCell ⟨gb134, 0, none⟩ (.string ((rd_T49 l0_2 x17_1).f0))).setCell ⟨gb134, 1, none⟩ (.slice A133_1 ((rd_T49 l0_2 x17_1).f1.f0).length c133_1)).setCell ⟨gb134, 2, none⟩ (.int .u8 ((rd_T49 l0_2 x17_1).f1.f1))).setCell ⟨gb134, 3, none⟩ (.int .i64 ((rd_T49 l0_2 x17_1).f2))).setCell ⟨gb134, 4, none⟩ (.slice A133_4 ((rd_T49 l0_2 x17_1).f3).length c133_4)).heap[gb127]? = some (.cells #[.string a0_0, .slice A0_1 l0_1.length c0_1, .slice (some ad133) l0_2.length c0_2, .slice A0_3 l0_3.length c0_3] 26 (0, 0))) := ⟨by (with_reducible repeat (first | refine bkd ?_ _ | refine blk_drew ?_ | refine bka ?_ _)); refine blk_far ?_ NB127_134.out _; (with_reducible repeat (first | refine bkd ?_ _ | refine blk_drew ?_ | refine bka ?_ _)); refine blk_far ?_ NB127_134.out _; (with_reducible repeat (first | refine bkd ?_ _ | refine blk_drew ?_ | refine bka ?_ _)); refine blk_far ?_ NB127_134.out _; (with_reducible repeat (first | refine bkd ?_ _ | refine blk_drew ?_ | refine bka ?_ _)); refine blk_far ?_ NB127_134.out _; (with_reducible repeat (first | refine bkd ?_ _ | refine blk_drew ?_ | refine bka ?_ _)); refine blk_far ?_ NB127_134.out _; (with_reducible repeat (first | refine bkd ?_ _ | refine blk_drew ?_ | refine bka ?_ _)); exact BK127.out⟩
              have n3_ : Aside0 ((((((w23.setCell ⟨gb134, 0, none⟩ (.string ((rd_T49 l0_2 x17_1).f0))).setCell ⟨gb134, 1, none⟩ (.slice A133_1 ((rd_T49 l0_2 x17_1).f1.f0).length c133_1)).setCell ⟨gb134, 2, none⟩ (.int .u8 ((rd_T49 l0_2 x17_1).f1.f1))).setCell ⟨gb134, 3, none⟩ (.int .i64 ((rd_T49 l0_2 x17_1).f2))).setCell ⟨gb134, 4, none⟩ (.slice A133_4 ((rd_T49 l0_2 x17_1).f3).length c133_4)).heap[gb128]? = some (.cells #[.string (⟨#[]⟩ : ByteArray), .slice none 0 0, .slice none 0 0, .slice none 0 0] 26 (0, 0))) := ⟨by (with_reducible repeat (first | refine bkd ?_ _ | refine blk_drew ?_ | refine bka ?_ _)); refine blk_far ?_ NB128_134.out _; (with_reducible repeat (first | refine bkd ?_ _ | refine blk_drew ?_ | refine bka ?_ _)); refine blk_far ?_ NB128_134.out _; (with_reducible repeat (first | refine bkd ?_ _ | refine blk_drew ?_ | refine bka ?_ _)); refine blk_far ?_ NB128_134.out _; (with_reducible repeat (first | refine bkd ?_ _ | refine blk_drew ?_ | refine bka ?_ _)); refine blk_far ?_ NB128_134.out _; (with_reducible repeat (first | refine bkd ?_ _ | refine blk_drew ?_ | refine bka ?_ _)); refine blk_far ?_ NB128_134.out _; (with_reducible repeat (first | refine bkd ?_ _ | refine blk_drew ?_ | refine bka ?_ _)); exact BK128.out⟩
              have n4_ : Aside0 ((((((w23.setCell ⟨gb134, 0, none⟩ (.string ((rd_T49 l0_2 x17_1).f0))).setCell ⟨gb134, 1, none⟩ (.slice A133_1 ((rd_T49 l0_2 x17_1).f1.f0).length c133_1)).setCell ⟨gb134, 2, none⟩ (.int .u8 ((rd_T49 l0_2 x17_1).f1.f1))).setCell ⟨gb134, 3, none⟩ (.int .i64 ((rd_T49 l0_2 x17_1).f2))).setCell ⟨gb134, 4, none⟩ (.slice A133_4 ((rd_T49 l0_2 x17_1).f3).length c133_4)).heap[gb132]? = some (.cells #[.string a0_0, .slice Ao10 t129.length co10, u133002, .slice none 0 0] 26 (0, 0))) := ⟨by (with_reducible repeat (first | refine bkd ?_ _ | refine blk_drew ?_ | refine bka ?_ _)); refine blk_far ?_ NB132_134.out _; (with_reducible repeat (first | refine bkd ?_ _ | refine blk_drew ?_ | refine bka ?_ _)); refine blk_far ?_ NB132_134.out _; (with_reducible repeat (first | refine bkd ?_ _ | refine blk_drew ?_ | refine bka ?_ _)); refine blk_far ?_ NB132_134.out _; (with_reducible repeat (first | refine bkd ?_ _ | refine blk_drew ?_ | refine bka ?_ _)); refine blk_far ?_ NB132_134.out _; (with_reducible repeat (first | refine bkd ?_ _ | refine blk_drew ?_ | refine bka ?_ _)); refine blk_far ?_ NB132_134.out _; (with_reducible repeat (first | refine bkd ?_ _ | refine blk_drew ?_ | refine bka ?_ _)); exact BK132.out⟩
              have n5_ : Aside0 ((((((w23.setCell ⟨gb134, 0, none⟩ (.string ((rd_T49 l0_2 x17_1).f0))).setCell ⟨gb134, 1, none⟩ (.slice A133_1 ((rd_T49 l0_2 x17_1).f1.f0).length c133_1)).setCell ⟨gb134, 2, none⟩ (.int .u8 ((rd_T49 l0_2 x17_1).f1.f1))).setCell ⟨gb134, 3, none⟩ (.int .i64 ((rd_T49 l0_2 x17_1).f2))).setCell ⟨gb134, 4, none⟩ (.slice A133_4 ((rd_T49 l0_2 x17_1).f3).length c133_4)).heap[gb134]? = some (.cells #[.string ((rd_T49 l0_2 x17_1).f0), .slice A133_1 ((rd_T49 l0_2 x17_1).f1.f0).length c133_1, .int .u8 ((rd_T49 l0_2 x17_1).f1.f1), .int .i64 ((rd_T49 l0_2 x17_1).f2), .slice A133_4 ((rd_T49 l0_2 x17_1).f3).length c133_4] 49 (0, 0))) := ⟨by (with_reducible repeat (first | refine bkd ?_ _ | refine blk_drew ?_ | refine bka ?_ _)); refine blk_put (cs := #[.string ((rd_T49 l0_2 x17_1).f0), .slice A133_1 ((rd_T49 l0_2 x17_1).f1.f0).length c133_1, .int .u8 ((rd_T49 l0_2 x17_1).f1.f1), .int .i64 ((rd_T49 l0_2 x17_1).f2), .slice none 0 0]) ?_ 4 _ rfl; (with_reducible repeat (first | refine bkd ?_ _ | refine blk_drew ?_ | refine bka ?_ _)); refine blk_put (cs := #[.string ((rd_T49 l0_2 x17_1).f0), .slice A133_1 ((rd_T49 l0_2 x17_1).f1.f0).length c133_1, .int .u8 ((rd_T49 l0_2 x17_1).f1.f1), .int .i64 0, .slice none 0 0]) ?_ 3 _ rfl; (with_reducible repeat (first | refine bkd ?_ _ | refine blk_drew ?_ | refine bka ?_ _)); refine blk_put (cs := #[.string ((rd_T49 l0_2 x17_1).f0), .slice A133_1 ((rd_T49 l0_2 x17_1).f1.f0).length c133_1, .int .u8 0, .int .i64 0, .slice none 0 0]) ?_ 2 _ rfl; (with_reducible repeat (first | refine bkd ?_ _ | refine blk_drew ?_ | refine bka ?_ _)); refine blk_put (cs := #[.string ((rd_T49 l0_2 x17_1).f0), .slice none 0 0, .int .u8 0, .int .i64 0, .slice none 0 0]) ?_ 1 _ rfl; (with_reducible repeat (first | refine bkd ?_ _ | refine blk_drew ?_ | refine bka ?_ _)); refine blk_put (cs := #[.string (⟨#[]⟩ : ByteArray), .slice none 0 0, .int .u8 0, .int .i64 0, .slice none 0 0]) ?_ 0 _ rfl; (with_reducible repeat (first | refine bkd ?_ _ | refine blk_drew ?_ | refine bka ?_ _)); exact BK134.out⟩
              have n6_ : Aside0 (Below w.heap.size w (((((w23.setCell ⟨gb134, 0, none⟩ (.string ((rd_T49 l0_2 x17_1).f0))).setCell ⟨gb134, 1, none⟩ (.slice A133_1 ((rd_T49 l0_2 x17_1).f1.f0).length c133_1)).setCell ⟨gb134, 2, none⟩ (.int .u8 ((rd_T49 l0_2 x17_1).f1.f1))).setCell ⟨gb134, 3, none⟩ (.int .i64 ((rd_T49 l0_2 x17_1).f2))).setCell ⟨gb134, 4, none⟩ (.slice A133_4 ((rd_T49 l0_2 x17_1).f3).length c133_4))) := ⟨by repeat (first | (with_reducible first | exact HB.out | apply bal | apply pbd | apply bdr | refine below_set ?_ GE127.out | refine below_set ?_ GE128.out | refine below_set ?_ GE132.out | refine below_set ?_ GE134.out) | exact HB.out)⟩
              (try clear HO_133001)
              (try clear HO_133002)
              (try clear BK127)
              (try clear BK128)
              (try clear BK132)
              (try clear BK134)
              (try clear HB)
              generalize (((((w23.setCell ⟨gb134, 0, none⟩ (.string ((rd_T49 l0_2 x17_1).f0))).setCell ⟨gb134, 1, none⟩ (.slice A133_1 ((rd_T49 l0_2 x17_1).f1.f0).length c133_1)).setCell ⟨gb134, 2, none⟩ (.int .u8 ((rd_T49 l0_2 x17_1).f1.f1))).setCell ⟨gb134, 3, none⟩ (.int .i64 ((rd_T49 l0_2 x17_1).f2))).setCell ⟨gb134, 4, none⟩ (.slice A133_4 ((rd_T49 l0_2 x17_1).f3).length c133_4)) = w28 at n0_ n1_ n2_ n3_ n4_ n5_ n6_ ⊢
              have HO_133001 := n0_
              have HO_133002 := n1_
              have BK127 := n2_
              have BK128 := n3_
              have BK132 := n4_
              have BK134 := n5_
              have HB := n6_
              clear n0_ n1_ n2_ n3_ n4_ n5_ n6_
              have n0_ := amk (Kd.S_drew HO_133001.out)
              have n1_ := amk (Kd.S_drew HO_133002.out)
              have n2_ := amk (blk_drew BK127.out)
              have n3_ := amk (blk_drew BK128.out)
              have n4_ := amk (blk_drew BK132.out)
              have n5_ := amk (blk_drew BK134.out)
              have n6_ := amk (bdr HB.out)
              clear HO_133001
              clear HO_133002
              clear BK127
              clear BK128
              clear BK132
              clear BK134
              clear HB
              have HO_133001 := n0_
              have HO_133002 := n1_
              have BK127 := n2_
              have BK128 := n3_
              have BK132 := n4_
              have BK134 := n5_
              have HB := n6_
              clear n0_ n1_ n2_ n3_ n4_ n5_ n6_
              refine start_ (n := 8) (S := fun w' => w'.cell? ⟨gb132, 0, none⟩ = some (.string a0_0) ∧ w'.cell? ⟨gb132, 1, none⟩ = some (.slice Ao10 t129.length co10) ∧ w'.cell? ⟨gb132, 2, none⟩ = some (u133002) ∧ w'.cell? ⟨gb132, 3, none⟩ = some (.slice none 0 0) ∧ w'.cell? ⟨gb134, 0, none⟩ = some (.string ((rd_T49 l0_2 x17_1).f0)) ∧ w'.cell? ⟨gb134, 1, none⟩ = some (.slice A133_1 ((rd_T49 l0_2 x17_1).f1.f0).length c133_1) ∧ w'.cell? ⟨gb134, 2, none⟩ = some (.int .u8 ((rd_T49 l0_2 x17_1).f1.f1)) ∧ w'.cell? ⟨gb134, 3, none⟩ = some (.int .i64 ((rd_T49 l0_2 x17_1).f2)) ∧ w'.cell? ⟨gb134, 4, none⟩ = some (.slice A133_4 ((rd_T49 l0_2 x17_1).f3).length c133_4)) (ds := [7]) #[false, false, false, false, false, false, false, false] (by kernel_rfl) rfl rfl ⟨(blk_cell BK132.out 0).trans rfl, (blk_cell BK132.out 1).trans rfl, (blk_cell BK132.out 2).trans rfl, (blk_cell BK132.out 3).trans rfl, (blk_cell BK134.out 0).trans rfl, (blk_cell BK134.out 1).trans rfl, (blk_cell BK134.out 2).trans rfl, (blk_cell BK134.out 3).trans rfl, (blk_cell BK134.out 4).trans rfl⟩ (fun hHeld => ?_); refine with_tabW provisoplain_Module.tab5 provisoplain_Module.bits5 (fun HT_ HW_ => ?_)
              generalize w28.drew = w29 at HO_133001 HO_133002 BK127 BK128 BK132 BK134 HB hHeld ⊢
              refine pure_ (i := 0) (N := some 21) (v := ?_) (a' := ?_) #[true, false, false, false, false, false, false, false] rfl rfl (any_of HT_.out (by kernel_rfl)) (fun _ _ _ h => h) (Or.inl ⟨by rfl, ?_⟩) ?_ ?_
              rotate_left
              · intro w'
                go_simp
                with_reducible rfl
              rotate_left
              · simp only [Act.put, sia, scz, scs, i64_w, i32_w]
                rfl
              refine take_ (i := 1) (N := some 22) (v := ?_) (a' := ?_) #[true, true, false, false, false, false, false, false] rfl rfl (take_ofW HT_.out HW_.out (by kernel_rfl)) (fun _ _ _ h => h) (Or.inl ⟨by rfl, ?_⟩) hHeld ?_ ?_
              rotate_left
              · rintro w' ⟨s0, s1, s2, s3, s4, s5, s6, s7, s8⟩
                go_simp
                with_reducible rfl
              rotate_left
              · simp only [Act.put, sia, scz, scs, i64_w, i32_w]
                rfl
              refine take_ (i := 2) (N := some 23) (v := ?_) (a' := ?_) #[true, true, true, false, false, false, false, false] rfl rfl (take_ofW HT_.out HW_.out (by kernel_rfl)) (fun _ _ _ h => h) (Or.inl ⟨by rfl, ?_⟩) hHeld ?_ ?_
              rotate_left
              · rintro w' ⟨s0, s1, s2, s3, s4, s5, s6, s7, s8⟩
                go_simp
                with_reducible rfl
              rotate_left
              · simp only [Act.put, sia, scz, scs, i64_w, i32_w]
                rfl
              refine one_ (i := 3) (N := some 24) #[true, true, true, true, false, false, false, false] rfl rfl (one_of HT_.out (by kernel_rfl)) (by decide) (fun K hK => ?_)
              refine goes_ Try.func29 (by kernel_rfl) rfl #[.agg #[.string ((rd_T49 l0_2 x17_1).f0), .slice A133_1 ((rd_T49 l0_2 x17_1).f1.f0).length c133_1, .int .u8 ((rd_T49 l0_2 x17_1).f1.f1), .int .i64 ((rd_T49 l0_2 x17_1).f2), .slice A133_4 ((rd_T49 l0_2 x17_1).f3).length c133_4]] (by rfl) rfl rfl (by (try simp only [List.map_toArray, List.map_cons, List.map_nil]); first | done | rfl | (simp only [List.length_drop, List.length_take]; rfl)) ?_
              with_reducible refine (provisoplain_Func.calls ((rd_T49 l0_2 x17_1).f0) _ _ ((rd_T49 l0_2 x17_1).f1.f0) ((rd_T49 l0_2 x17_1).f1.f1) ((rd_T49 l0_2 x17_1).f2) _ _ ((rd_T49 l0_2 x17_1).f3) t135 t136 t139 t140 t141 _ ?side1 ?side2 ?side3 ?side4 A21.out).mono ?_
              (case side1 => repeat (first | exact (Kd.C_below HR133_1.out HB.out) | (with_reducible refine Kd.C_alloc ?_ _) | (with_reducible refine Kd.C_drewN ?_ _) | (with_reducible refine Kd.C_drew ?_)))
              (case side2 => exact HC133_1.out)
              (case side3 => repeat (first | exact (Kd.C_below HR133_4.out HB.out) | (with_reducible refine Kd.C_alloc ?_ _) | (with_reducible refine Kd.C_drewN ?_ _) | (with_reducible refine Kd.C_drew ?_)))
              (case side4 => exact HC133_4.out)
              rintro e w30 ⟨v137, v142, rfl, ho0, ho1, hb⟩
              refine ⟨_, rfl, ?_⟩
              have n0_ := amk (Kd.S_below (by (with_reducible repeat (first | apply Kd.S_alloc | apply Kd.S_drewN | apply Kd.S_drew)); exact HO_133001.out) hb)
              have n1_ := amk (Kd.S_mono (Kd.S_told (Kd.S_told (Kd.S_old (by (with_reducible repeat (first | apply Kd.S_alloc | apply Kd.S_drewN | apply Kd.S_drew)); exact HO_133002.out) hb) (Kd.R_base ho0)) (Kd.R_base ho1)) (fun _ h_ => h_.1))
              have n2_ := amk (Kd.R_lower ho0 (below_size (by repeat (first | (with_reducible first | exact HB.out | apply bal | apply pbd | apply bdr | refine below_set ?_ GE127.out | refine below_set ?_ GE128.out | refine below_set ?_ GE132.out | refine below_set ?_ GE134.out) | exact HB.out))))
              have n3_ := amk (Kd.R_lower ho1 (below_size (by repeat (first | (with_reducible first | exact HB.out | apply bal | apply pbd | apply bdr | refine below_set ?_ GE127.out | refine below_set ?_ GE128.out | refine below_set ?_ GE132.out | refine below_set ?_ GE134.out) | exact HB.out))))
              have n4_ := amk (blk_below (g := gb127) (o := .cells #[.string a0_0, .slice A0_1 l0_1.length c0_1, .slice (some ad133) l0_2.length c0_2, .slice A0_3 l0_3.length c0_3] 26 (0, 0)) (by (with_reducible repeat (first | refine bkd ?_ _ | refine blk_drew ?_ | refine bka ?_ _)); exact BK127.out) hb)
              have n5_ := amk (blk_below (g := gb128) (o := .cells #[.string (⟨#[]⟩ : ByteArray), .slice none 0 0, .slice none 0 0, .slice none 0 0] 26 (0, 0)) (by (with_reducible repeat (first | refine bkd ?_ _ | refine blk_drew ?_ | refine bka ?_ _)); exact BK128.out) hb)
              have n6_ := amk (blk_below (g := gb132) (o := .cells #[.string a0_0, .slice Ao10 t129.length co10, u133002, .slice none 0 0] 26 (0, 0)) (by (with_reducible repeat (first | refine bkd ?_ _ | refine blk_drew ?_ | refine bka ?_ _)); exact BK132.out) hb)
              have n7_ := amk (blk_below (g := gb134) (o := .cells #[.string ((rd_T49 l0_2 x17_1).f0), .slice A133_1 ((rd_T49 l0_2 x17_1).f1.f0).length c133_1, .int .u8 ((rd_T49 l0_2 x17_1).f1.f1), .int .i64 ((rd_T49 l0_2 x17_1).f2), .slice A133_4 ((rd_T49 l0_2 x17_1).f3).length c133_4] 49 (0, 0)) (by (with_reducible repeat (first | refine bkd ?_ _ | refine blk_drew ?_ | refine bka ?_ _)); exact BK134.out) hb)
              have n8_ := amk (below_step (by repeat (first | (with_reducible first | exact HB.out | apply bal | apply pbd | apply bdr | refine below_set ?_ GE127.out | refine below_set ?_ GE128.out | refine below_set ?_ GE132.out | refine below_set ?_ GE134.out) | exact HB.out)) hb)
              clear HO_133001
              clear HO_133002
              clear BK127
              clear BK128
              clear BK132
              clear BK134
              clear HB
              have HO_133001 := n0_
              have HO_133002 := n1_
              have HO138 := n2_
              have HO143 := n3_
              have BK127 := n4_
              have BK128 := n5_
              have BK132 := n6_
              have BK134 := n7_
              have HB := n8_
              clear n0_ n1_ n2_ n3_ n4_ n5_ n6_ n7_ n8_
              (try clear hb)
              (try clear hb2)
              (try clear hk)
              (try clear hi)
              (try clear ho0)
              (try clear ho1)
              obtain ⟨Ao32, co32, eo32⟩ := Kd.R_slice HO138.out
              (first | subst eo32 | (injection eo32 with f1_ f2_ f3_; have f4_ := f1_.symm; have f5_ := f3_.symm; clear f1_ f2_ f3_; subst f4_; subst f5_))
              obtain ⟨Ao33, co33, eo33⟩ := Kd.R_slice HO143.out
              (first | subst eo33 | (injection eo33 with f1_ f2_ f3_; have f4_ := f1_.symm; have f5_ := f3_.symm; clear f1_ f2_ f3_; subst f4_; subst f5_))
              refine hK.out _ _ ⟨(blk_cell BK132.out 0).trans rfl, (blk_cell BK132.out 1).trans rfl, (blk_cell BK132.out 2).trans rfl, (blk_cell BK132.out 3).trans rfl, (blk_cell BK134.out 0).trans rfl, (blk_cell BK134.out 1).trans rfl, (blk_cell BK134.out 2).trans rfl, (blk_cell BK134.out 3).trans rfl, (blk_cell BK134.out 4).trans rfl⟩ (fun hHeld => ?_)
              clear hK K
              refine norm_ (a' := ?_) ?_ ?_
              rotate_left
              · show Act.put _ (some 24) _ = _
                simp only [Act.put, sia, scz, scs, i64_w, i32_w]
                rfl
              refine one_ (i := 4) (N := some 25) #[true, true, true, true, true, false, false, false] rfl rfl (one_of HT_.out (by kernel_rfl)) (by decide) (fun K hK => ?_)
              refine value_ (w1 := ?_) (v := ?_) (by rfl) rfl ?_ ?_
              rotate_left 2
              · go_simp
                constructor
                · rfl
                · rfl
              refine hK.out _ _ ⟨(blk_cell (bka BK132.out _) 0).trans rfl, (blk_cell (bka BK132.out _) 1).trans rfl, (blk_cell (bka BK132.out _) 2).trans rfl, (blk_cell (bka BK132.out _) 3).trans rfl, (blk_cell (bka BK134.out _) 0).trans rfl, (blk_cell (bka BK134.out _) 1).trans rfl, (blk_cell (bka BK134.out _) 2).trans rfl, (blk_cell (bka BK134.out _) 3).trans rfl, (blk_cell (bka BK134.out _) 4).trans rfl⟩ (fun hHeld => ?_)
              clear hK K
              refine norm_ (a' := ?_) ?_ ?_
              rotate_left
              · show Act.put _ (some 25) _ = _
                simp only [Act.put, sia, scz, scs, i64_w, i32_w]
                rfl
              refine one_ (i := 5) (N := some 26) #[true, true, true, true, true, true, false, false] rfl rfl (one_of HT_.out (by kernel_rfl)) (by decide) (fun K hK => ?_)
              refine Kd.S_append_step k49 (w0 := w) w.heap.size (by rfl) (.tmp 22) (.tmp 25) 23 49 (.agg #[(.string ⟨#[]⟩), (.slice none 0 0), (.int .u8 0), (.int .i64 0), (.slice none 0 0)]) 80 rfl Try.underlying23 info49 rfl (by decide) (by omega) u133002 x133002_1 (⟨t135, (⟨t136, t139⟩ : S47), t140, t141⟩ : S49) [.string t135, .slice Ao32 t136.length co32, .int .u8 t139, .int .i64 t140, .slice Ao33 t141.length co33] (fun k_ => k_ ≠ gb134) (fun k_ => some k_ = (.slice Ao32 t136.length co32 : Value).ownBlock ∨ some k_ = (.slice Ao33 t141.length co33 : Value).ownBlock) rfl rfl ?aP (fun k_ hk_ => hk_.elim (fun h_ => ((Kd.R_mono (ok' := fun k_ => ((fun k_ => k_ ≠ gb134)) k_ ∧ some k_ ≠ (u133002 : Value).ownBlock) (Kd.R_types (Kd.R_apart' (HO138.out) (Kd.S_typed HO_133002.out) (by decide)) BK134.out (by decide)) (fun k_ hk => ⟨hk.2, hk.1.2⟩))).1 k_ h_.symm) (fun h_ => ((Kd.R_mono (ok' := fun k_ => ((fun k_ => k_ ≠ gb134)) k_ ∧ some k_ ≠ (u133002 : Value).ownBlock) (Kd.R_types (Kd.R_apart' (HO143.out) (Kd.S_typed HO_133002.out) (by decide)) BK134.out (by decide)) (fun k_ hk => ⟨hk.2, hk.1.2⟩))).1 k_ h_.symm)) ?aF ?aO ?aB ?aS ?aL ?_
              (case aP => exact k49_mkM _ _ _ (⟨t135, (⟨t136, t139⟩ : S47), t140, t141⟩ : S49) (Kd.R_mono (Kd.R_tight rfl (Kd.R_mono (ok' := fun k_ => ((fun k_ => k_ ≠ gb134)) k_ ∧ some k_ ≠ (u133002 : Value).ownBlock) (Kd.R_types (Kd.R_apart' (HO138.out) (Kd.S_typed HO_133002.out) (by decide)) BK134.out (by decide)) (fun k_ hk => ⟨hk.2, hk.1.2⟩))) (fun _ h_ => Or.inl h_)) (Kd.R_mono (Kd.R_tight rfl (Kd.R_mono (ok' := fun k_ => ((fun k_ => k_ ≠ gb134)) k_ ∧ some k_ ≠ (u133002 : Value).ownBlock) (Kd.R_types (Kd.R_apart' (HO143.out) (Kd.S_typed HO_133002.out) (by decide)) BK134.out (by decide)) (fun k_ hk => ⟨hk.2, hk.1.2⟩))) (fun _ h_ => Or.inr (h_))))
              (case aB => exact (by repeat (first | (with_reducible first | exact HB.out | apply bal | apply pbd | apply bdr | refine below_set ?_ GE127.out | refine below_set ?_ GE128.out | refine below_set ?_ GE132.out | refine below_set ?_ GE134.out) | exact HB.out)))
              (case aF => exact (fun k_ hk => Kd.freshB (g := gb134) (o := .cells #[.string ((rd_T49 l0_2 x17_1).f0), .slice A133_1 ((rd_T49 l0_2 x17_1).f1.f0).length c133_1, .int .u8 ((rd_T49 l0_2 x17_1).f1.f1), .int .i64 ((rd_T49 l0_2 x17_1).f2), .slice A133_4 ((rd_T49 l0_2 x17_1).f3).length c133_4] 49 (0, 0)) (by (with_reducible repeat (first | refine bkd ?_ _ | refine blk_drew ?_ | refine bka ?_ _)); exact BK134.out) k_ hk))
              (case aO => exact (by (with_reducible repeat (first | apply Kd.S_alloc | apply Kd.S_drewN | apply Kd.S_drew)); exact Kd.S_mono HO_133002.out (fun k_ hk => ⟨hk.1.1, fun e_ => e_.elim (fun h_ => hk.1.2 h_) (fun h_ => hk.2 h_)⟩)))
              (case aS => exact (below_size (by repeat (first | (with_reducible first | exact HB.out | apply bal | apply pbd | apply bdr | refine below_set ?_ GE127.out | refine below_set ?_ GE128.out | refine below_set ?_ GE132.out | refine below_set ?_ GE134.out) | exact HB.out))))
              (case aL => have := LMc22.out; omega)
              intro v145 w31 ho hb hg hat
              rw [← Ny144.out] at ho
              have n0_ := amk (Kd.S_over' (by (with_reducible repeat (first | apply Kd.S_alloc | apply Kd.S_drewN | apply Kd.S_drew)); exact HO_133001.out) (Kd.S_typed (by (with_reducible repeat (first | apply Kd.S_alloc | apply Kd.S_drewN | apply Kd.S_drew)); exact HO_133002.out)) (by decide) hg)
              have n1_ := amk (blk_grown (g := gb127) (o := .cells #[.string a0_0, .slice A0_1 l0_1.length c0_1, .slice (some ad133) l0_2.length c0_2, .slice A0_3 l0_3.length c0_3] 26 (0, 0)) (by (with_reducible repeat (first | refine bkd ?_ _ | refine blk_drew ?_ | refine bka ?_ _)); exact BK127.out) hg (Kd.S_ne HO_133002.out BK127.out (by decide)))
              have n2_ := amk (blk_grown (g := gb128) (o := .cells #[.string (⟨#[]⟩ : ByteArray), .slice none 0 0, .slice none 0 0, .slice none 0 0] 26 (0, 0)) (by (with_reducible repeat (first | refine bkd ?_ _ | refine blk_drew ?_ | refine bka ?_ _)); exact BK128.out) hg (Kd.S_ne HO_133002.out BK128.out (by decide)))
              have n3_ := amk (blk_grown (g := gb132) (o := .cells #[.string a0_0, .slice Ao10 t129.length co10, u133002, .slice none 0 0] 26 (0, 0)) (by (with_reducible repeat (first | refine bkd ?_ _ | refine blk_drew ?_ | refine bka ?_ _)); exact BK132.out) hg (Kd.S_ne HO_133002.out BK132.out (by decide)))
              have n4_ := amk (blk_grown (g := gb134) (o := .cells #[.string ((rd_T49 l0_2 x17_1).f0), .slice A133_1 ((rd_T49 l0_2 x17_1).f1.f0).length c133_1, .int .u8 ((rd_T49 l0_2 x17_1).f1.f1), .int .i64 ((rd_T49 l0_2 x17_1).f2), .slice A133_4 ((rd_T49 l0_2 x17_1).f3).length c133_4] 49 (0, 0)) (by (with_reducible repeat (first | refine bkd ?_ _ | refine blk_drew ?_ | refine bka ?_ _)); exact BK134.out) hg (Kd.S_away HO_133002.out (fun _ hk => hk.1.1)))
              have n5_ := amk (hb)
              have n6_ := amk (ho)
              clear HO_133001
              clear BK127
              clear BK128
              clear BK132
              clear BK134
              clear HB
              clear HO_133002
              clear HO138
              clear HO143
              have HO_133001 := n0_
              have BK127 := n1_
              have BK128 := n2_
              have BK132 := n3_
              have BK134 := n4_
              have HB := n5_
              have HO146 := n6_
              clear n0_ n1_ n2_ n3_ n4_ n5_ n6_
              clear ho hb hg hat
              obtain ⟨Ao34, co34, eo34⟩ := Kd.S_slice HO146.out
              (first | subst eo34 | (injection eo34 with f1_ f2_ f3_; have f4_ := f1_.symm; have f5_ := f3_.symm; clear f1_ f2_ f3_; subst f4_; subst f5_))
              refine hK.out _ _ ⟨(blk_cell BK132.out 0).trans rfl, (blk_cell BK132.out 1).trans rfl, (blk_cell BK132.out 2).trans rfl, (blk_cell BK132.out 3).trans rfl, (blk_cell BK134.out 0).trans rfl, (blk_cell BK134.out 1).trans rfl, (blk_cell BK134.out 2).trans rfl, (blk_cell BK134.out 3).trans rfl, (blk_cell BK134.out 4).trans rfl⟩ (fun hHeld => ?_)
              clear hK K
              refine norm_ (a' := ?_) ?_ ?_
              rotate_left
              · show Act.put _ (some 26) _ = _
                simp only [Act.put, sia, scz, scs, i64_w, i32_w]
                rfl
              refine pure_ (i := 6) (N := some 27) (v := ?_) (a' := ?_) #[true, true, true, true, true, true, true, false] rfl rfl (any_of HT_.out (by kernel_rfl)) (fun _ _ _ h => h) (Or.inl ⟨by rfl, ?_⟩) ?_ ?_
              rotate_left
              · intro w'
                go_simp
                with_reducible rfl
              rotate_left
              · simp only [Act.put, sia, scz, scs, i64_w, i32_w]
                rfl
              refine last_ (i := 7) (N := none) #[true, true, true, true, true, true, true, true] rfl rfl (one_of HT_.out (by kernel_rfl)) (by decide) (fun K hK => ?_)
              have hs35 : w31.cell? ⟨gb132, 2, none⟩ = some (u133002) := (blk_cell BK132.out 2).trans rfl
              have hfs35 := bkf BK132.out 2
              have hns35_0 := NB127_132.out
              have hns35_1 := NB128_132.out
              have hns35_3 := NB134_132.out
              have hms35_0 := NB132_127.out
              have hms35_1 := NB132_128.out
              have hms35_3 := NB132_134.out
              refine skip_ (w1 := ?_) (by rfl) rfl ?_ ?_
              rotate_left
              · go_simp
                rfl
              refine hK.out _ _ ?_
              clear hK K
              refine done_ (done_of HT_.out (by kernel_rfl)) ?_
              try go_wp2
              go_roundg k1
              case measure => have := HK1.out; omega
              case rel => exact ⟨(wrap64 (x17_1 + 1)), (y144), (.slice Ao34 y144.length co34), (by first | rfl | (simp; done) | (simp [*]; done)), H', ⟨by have := HK1.out; omega⟩, ⟨by (with_reducible repeat (first | apply Kd.S_alloc | apply Kd.S_drewN | apply Kd.S_drew)); exact Kd.S_mono (Kd.S_far (p := ⟨gb132, 2, none⟩) (Kd.S_types HO_133001.out BK132.out (by decide)) (fun _ hk => hk.2) (.slice Ao34 y144.length co34)) (fun _ hk => trivial)⟩, ⟨by (with_reducible repeat (first | apply Kd.S_alloc | apply Kd.S_drewN | apply Kd.S_drew)); exact Kd.S_mono (Kd.S_far (p := ⟨gb132, 2, none⟩) (Kd.S_types HO146.out BK132.out (by decide)) (fun _ hk => hk.2) (.slice Ao34 y144.length co34)) (fun _ hk => trivial)⟩, ⟨by (with_reducible repeat (first | refine bkd ?_ _ | refine blk_drew ?_ | refine bka ?_ _)); refine blk_far ?_ NB127_132.out _; (with_reducible repeat (first | refine bkd ?_ _ | refine blk_drew ?_ | refine bka ?_ _)); exact BK127.out⟩, ⟨by (with_reducible repeat (first | refine bkd ?_ _ | refine blk_drew ?_ | refine bka ?_ _)); refine blk_far ?_ NB128_132.out _; (with_reducible repeat (first | refine bkd ?_ _ | refine blk_drew ?_ | refine bka ?_ _)); exact BK128.out⟩, ⟨by (with_reducible repeat (first | refine bkd ?_ _ | refine blk_drew ?_ | refine bka ?_ _)); refine blk_put (cs := #[.string a0_0, .slice Ao10 t129.length co10, u133002, .slice none 0 0]) ?_ 2 _ rfl; (with_reducible repeat (first | refine bkd ?_ _ | refine blk_drew ?_ | refine bka ?_ _)); exact BK132.out⟩, ⟨by repeat (first | (with_reducible first | exact HB.out | apply bal | apply pbd | apply bdr | refine below_set ?_ GE127.out | refine below_set ?_ GE128.out | refine below_set ?_ GE132.out | refine below_set ?_ GE134.out) | exact HB.out)⟩⟩
            · rw [if_neg c22] at H
              exact absurd H (by simp)
          · rw [if_neg c20] at H
            exact absurd H (by simp)
        · rw [if_neg c19] at H
          exact absurd H (by simp)
      · rw [if_neg c18] at H
        have c18b0 : decide (x17_1 < (l0_2.length : Int)) = false := decide_eq_false c18
        clear c18
        have H' := amk H
        clear H
        have hnb36 := NB127_128.out
        have hnc36 := NB128_127.out
        have hnb37 := NB127_132.out
        have hnc37 := NB132_127.out
        have hcz38_0 : wr.cell? ⟨gb127, 0, none⟩ = some (.string a0_0) := (blk_cell BK127.out 0).trans rfl
        have hcz38_1 : wr.cell? ⟨gb127, 1, none⟩ = some (.slice A0_1 l0_1.length c0_1) := (blk_cell BK127.out 1).trans rfl
        have hcz38_2 : wr.cell? ⟨gb127, 2, none⟩ = some (.slice A0_2 l0_2.length c0_2) := (blk_cell BK127.out 2).trans rfl
        have hcz38_3 : wr.cell? ⟨gb127, 3, none⟩ = some (.slice A0_3 l0_3.length c0_3) := (blk_cell BK127.out 3).trans rfl
        have hfz38_0 := bkf BK127.out 0
        have hfz38_1 := bkf BK127.out 1
        have hfz38_2 := bkf BK127.out 2
        have hfz38_3 := bkf BK127.out 3
        go_wp2
        go_loopg [32] k1 (fun kq v32 w' => ∃ (x32_2 : Int) (x133003_2 : List (List Int)) (u133003 : Value), v32 = .int .i64 x32_2 ∧ Aside0 (provisoplain_Module.l1 kq l0_3 (l0_3.length : Int) x32_2 a0_0 t129 x133002_1 x133003_2 = some (r1, r2, r3, r4)) ∧ Aside0 (kq ≤ k1) ∧ Aside0 (Kd.S k64 64 w' w.heap.size (fun _ => True) (.slice Ao10 t129.length co10) t129) ∧ Aside0 (Kd.S k49 49 w' w.heap.size (fun _ => True) u133002 x133002_1) ∧ Aside0 (Kd.S (Kd.slice 5 (Kd.int .u8)) 36 w' w.heap.size (fun _ => True) u133003 x133003_2) ∧ Aside0 (w'.heap[gb127]? = some (.cells #[.string a0_0, (.slice A0_1 l0_1.length c0_1), (.slice A0_2 l0_2.length c0_2), (.slice A0_3 l0_3.length c0_3)] 26 (0, 0))) ∧ Aside0 (w'.heap[gb128]? = some (.cells #[.string (⟨#[]⟩ : ByteArray), (.slice none 0 0), (.slice none 0 0), (.slice none 0 0)] 26 (0, 0))) ∧ Aside0 (w'.heap[gb132]? = some (.cells #[.string a0_0, (.slice Ao10 t129.length co10), u133002, u133003] 26 (0, 0))) ∧ Aside0 (Below w.heap.size w w'))
        case atStart => exact ⟨(0), (([] : List (List Int))), (.slice none 0 0), (by first | rfl | (simp; done) | (simp [*]; done)), H', ⟨Nat.le_refl _⟩, ⟨by (with_reducible repeat (first | apply Kd.S_alloc | apply Kd.S_drewN | apply Kd.S_drew)); exact HO_133001.out⟩, ⟨by (with_reducible repeat (first | apply Kd.S_alloc | apply Kd.S_drewN | apply Kd.S_drew)); exact HO_133002.out⟩, ⟨by first | exact Kd.S_nil _ _ _ _ _ | exact Kd.N_nil _ _ _ _ _ | exact Kd.V_nil _ _ _ _ _ | exact Kd.Q_nil _ _ _ _ _ | exact Kd.R_nil _ _ _ _ _⟩, ⟨by (with_reducible repeat (first | refine bkd ?_ _ | refine blk_drew ?_ | refine bka ?_ _)); exact BK127.out⟩, ⟨by (with_reducible repeat (first | refine bkd ?_ _ | refine blk_drew ?_ | refine bka ?_ _)); exact BK128.out⟩, ⟨by (with_reducible repeat (first | refine bkd ?_ _ | refine blk_drew ?_ | refine bka ?_ _)); exact BK132.out⟩, ⟨by repeat (first | (with_reducible first | exact HB.out | apply bal | apply pbd | apply bdr | refine below_set ?_ GE127.out | refine below_set ?_ GE128.out | refine below_set ?_ GE132.out) | exact HB.out)⟩⟩
        case round =>
          clear H'
          try clear c1
          try clear p1
          try clear q1
          try clear hx1
          try clear c2
          try clear p2
          try clear c3
          try clear p6
          try clear c12
          try clear c13
          try clear p13
          try clear q13
          try clear hx13
          try clear c15
          try clear c16
          try clear c18
          try clear c18b0
          try clear c19
          try clear c19b0
          try clear c20
          try clear c20b0
          try clear c22
          try clear c24
          try clear c25
          try clear c26
          try clear c28
          try clear c29
          try clear c36
          try clear c37
          try clear hcz17_0
          try clear hcz17_1
          try clear hcz17_2
          try clear hcz17_3
          try clear hcz27_0
          try clear hcz27_1
          try clear hcz27_2
          try clear hcz27_3
          try clear hcz27_4
          try clear hcz38_0
          try clear hcz38_1
          try clear hcz38_2
          try clear hcz38_3
          try clear hfz17_0
          try clear hfz17_1
          try clear hfz17_2
          try clear hfz17_3
          try clear hfz27_0
          try clear hfz27_1
          try clear hfz27_2
          try clear hfz27_3
          try clear hfz27_4
          try clear hfz38_0
          try clear hfz38_1
          try clear hfz38_2
          try clear hfz38_3
          try clear hx133_0
          try clear hx133_1
          try clear hx133_2
          try clear hx133_3
          try clear hx133_4
          try clear p133
          try clear p2
          try clear q133
          obtain ⟨x32_2, x133003_2, u133003, rfl, HA, HK2, HO_133001, HO_133002, HO_133003, BK127, BK128, BK132, HB⟩ := hrel
          cases gk with
          | zero => exact absurd HA.out (by simp [provisoplain_Module.l1])
          | succ k2 =>
            have H := HA.out
            clear HA
            simp only [provisoplain_Module.l1] at H
            by_cases c39 : x32_2 < (l0_3.length : Int)
            · rw [if_pos c39] at H
              have c39b0 : decide (x32_2 < (l0_3.length : Int)) = true := decide_eq_true c39
              clear c39
              by_cases c40 : 0 ≤ x32_2
              · rw [if_pos c40] at H
                have c40b0 : decide (0 ≤ x32_2) = true := decide_eq_true c40
                clear c40
                by_cases c41 : x32_2 < (l0_3.length : Int)
                · rw [if_pos c41] at H
                  have c41b0 : decide (x32_2 < (l0_3.length : Int)) = true := decide_eq_true c41
                  clear c41
                  replace H := Option.bind_eq_some_iff.mp H
                  obtain ⟨t148, A420, H⟩ := H
                  replace H : (if x133003_2.length < 5864062014805 then (provisoplain_Module.l1 k2 l0_3 (l0_3.length : Int) (wrap64 (x32_2 + 1)) a0_0 t129 x133002_1 (x133003_2 ++ [t148])) else (none)) = some (r1, r2, r3, r4) := H
                  have A42 := amk A420
                  clear A420
                  by_cases c43 : x133003_2.length < 5864062014805
                  · rw [if_pos c43] at H
                    have LMc43 := amk c43
                    clear c43
                    obtain ⟨y151, hy151⟩ : ∃ y_ : List (List Int), y_ = (x133003_2 ++ [t148]) := ⟨_, rfl⟩
                    replace H : (provisoplain_Module.l1 k2 l0_3 (l0_3.length : Int) (wrap64 (x32_2 + 1)) a0_0 t129 x133002_1 y151) = some (r1, r2, r3, r4) := by first | (rw [hy151]; with_reducible exact H) | (have H2_ := (Option.bind_some _ _).symm.trans H; rw [hy151]; with_reducible exact H2_) | (have H2_ := (Option.bind_some _ _).symm.trans H; with_reducible exact H2_) | with_reducible exact H | (rw [hy151]; exact H) | exact H
                    have Ny151 := amk hy151
                    clear hy151
                    have H' := amk H
                    clear H
                    have p147 : 0 ≤ (x32_2 : Int) := of_decide_eq_true (by first | (with_reducible assumption) | assumption)
                    have q147 : x32_2 < (l0_3.length : Int) := of_decide_eq_true (by first | (with_reducible assumption) | assumption)
                    obtain ⟨ad147, A147_0, c147_0, e147, hx147_0, hl147_0, hi147_0⟩ := at_L8 HR0_3.out x32_2 p147 q147
                    cases e147
                    replace hx147_0 := (HB.out.cell (blc w _ hx147_0)).trans hx147_0
                    have HR147_0 := amk hi147_0
                    have HC147_0 := amk hl147_0
                    clear hi147_0 hl147_0
                    replace p147 := eq_true p147
                    replace q147 := eq_true q147
                    try go_wp2
                    have n0_ := amk (Kd.S_drew HO_133001.out)
                    have n1_ := amk (Kd.S_drew HO_133002.out)
                    have n2_ := amk (Kd.S_drew HO_133003.out)
                    have n3_ := amk (blk_drew BK127.out)
                    have n4_ := amk (blk_drew BK128.out)
                    have n5_ := amk (blk_drew BK132.out)
                    have n6_ := amk (bdr HB.out)
                    clear HO_133001
                    clear HO_133002
                    clear HO_133003
                    clear BK127
                    clear BK128
                    clear BK132
                    clear HB
                    have HO_133001 := n0_
                    have HO_133002 := n1_
                    have HO_133003 := n2_
                    have BK127 := n3_
                    have BK128 := n4_
                    have BK132 := n5_
                    have HB := n6_
                    clear n0_ n1_ n2_ n3_ n4_ n5_ n6_
                    refine start_ (n := 8) (S := fun w' => w'.cell? ⟨gb132, 0, none⟩ = some (.string a0_0) ∧ w'.cell? ⟨gb132, 1, none⟩ = some (.slice Ao10 t129.length co10) ∧ w'.cell? ⟨gb132, 2, none⟩ = some (u133002) ∧ w'.cell? ⟨gb132, 3, none⟩ = some (u133003)) (ds := [7]) #[false, false, false, false, false, false, false, false] (by kernel_rfl) rfl rfl ⟨(blk_cell BK132.out 0).trans rfl, (blk_cell BK132.out 1).trans rfl, (blk_cell BK132.out 2).trans rfl, (blk_cell BK132.out 3).trans rfl⟩ (fun hHeld => ?_); refine with_tabW provisoplain_Module.tab10 provisoplain_Module.bits10 (fun HT_ HW_ => ?_)
                    generalize wr.drew = w44 at HO_133001 HO_133002 HO_133003 BK127 BK128 BK132 HB hHeld ⊢
                    refine pure_ (i := 0) (N := some 36) (v := ?_) (a' := ?_) #[true, false, false, false, false, false, false, false] rfl rfl (any_of HT_.out (by kernel_rfl)) (fun _ _ _ h => h) (Or.inl ⟨by rfl, ?_⟩) ?_ ?_
                    rotate_left
                    · intro w'
                      go_simp
                      with_reducible rfl
                    rotate_left
                    · simp only [Act.put, sia, scz, scs, i64_w, i32_w]
                      rfl
                    refine pure_ (i := 2) (N := some 38) (v := ?_) (a' := ?_) #[true, false, true, false, false, false, false, false] rfl rfl (any_of HT_.out (by kernel_rfl)) (fun _ _ _ h => h) (Or.inl ⟨by rfl, ?_⟩) ?_ ?_
                    rotate_left
                    · intro w'
                      go_simp
                      with_reducible rfl
                    rotate_left
                    · simp only [Act.put, sia, scz, scs, i64_w, i32_w]
                      rfl
                    refine take_ (i := 1) (N := some 37) (v := ?_) (a' := ?_) #[true, true, true, false, false, false, false, false] rfl rfl (take_ofW HT_.out HW_.out (by kernel_rfl)) (fun _ _ _ h => h) (Or.inl ⟨by rfl, ?_⟩) hHeld ?_ ?_
                    rotate_left
                    · rintro w' ⟨s0, s1, s2, s3⟩
                      go_simp
                      with_reducible rfl
                    rotate_left
                    · simp only [Act.put, sia, scz, scs, i64_w, i32_w]
                      rfl
                    refine one_ (i := 3) (N := some 39) #[true, true, true, true, false, false, false, false] rfl rfl (one_of HT_.out (by kernel_rfl)) (by decide) (fun K hK => ?_)
                    refine goes_ Try.func25 (by kernel_rfl) rfl #[.slice A147_0 (rd_L8 l0_3 x32_2).length c147_0] (by rfl) rfl rfl (by (try simp only [List.map_toArray, List.map_cons, List.map_nil]); first | done | rfl | (simp only [List.length_drop, List.length_take]; rfl)) ?_
                    with_reducible refine (slices_Clone_byte_byte.calls _ _ (rd_L8 l0_3 x32_2) t148 _ ?side1 ?side2 A42.out).mono ?_
                    (case side1 => repeat (first | exact (Kd.C_below HR147_0.out HB.out) | (with_reducible refine Kd.C_alloc ?_ _) | (with_reducible refine Kd.C_drewN ?_ _) | (with_reducible refine Kd.C_drew ?_)))
                    (case side2 => exact HC147_0.out)
                    rintro e w45 ⟨v149, rfl, ho0, hb⟩
                    refine ⟨_, rfl, ?_⟩
                    have n0_ := amk (Kd.S_below (by (with_reducible repeat (first | apply Kd.S_alloc | apply Kd.S_drewN | apply Kd.S_drew)); exact HO_133001.out) hb)
                    have n1_ := amk (Kd.S_elder' (by (with_reducible repeat (first | apply Kd.S_alloc | apply Kd.S_drewN | apply Kd.S_drew)); exact HO_133002.out) (Kd.R_base ho0) hb)
                    have n2_ := amk (Kd.S_elder' (by (with_reducible repeat (first | apply Kd.S_alloc | apply Kd.S_drewN | apply Kd.S_drew)); exact HO_133003.out) (Kd.R_base ho0) hb)
                    have n3_ := amk (Kd.R_lower ho0 (below_size (by repeat (first | (with_reducible first | exact HB.out | apply bal | apply pbd | apply bdr | refine below_set ?_ GE127.out | refine below_set ?_ GE128.out | refine below_set ?_ GE132.out) | exact HB.out))))
                    have n4_ := amk (blk_below (g := gb127) (o := .cells #[.string a0_0, .slice A0_1 l0_1.length c0_1, .slice A0_2 l0_2.length c0_2, .slice (some ad147) l0_3.length c0_3] 26 (0, 0)) (by (with_reducible repeat (first | refine bkd ?_ _ | refine blk_drew ?_ | refine bka ?_ _)); exact BK127.out) hb)
                    have n5_ := amk (blk_below (g := gb128) (o := .cells #[.string (⟨#[]⟩ : ByteArray), .slice none 0 0, .slice none 0 0, .slice none 0 0] 26 (0, 0)) (by (with_reducible repeat (first | refine bkd ?_ _ | refine blk_drew ?_ | refine bka ?_ _)); exact BK128.out) hb)
                    have n6_ := amk (blk_below (g := gb132) (o := .cells #[.string a0_0, .slice Ao10 t129.length co10, u133002, u133003] 26 (0, 0)) (by (with_reducible repeat (first | refine bkd ?_ _ | refine blk_drew ?_ | refine bka ?_ _)); exact BK132.out) hb)
                    have n7_ := amk (below_step (by repeat (first | (with_reducible first | exact HB.out | apply bal | apply pbd | apply bdr | refine below_set ?_ GE127.out | refine below_set ?_ GE128.out | refine below_set ?_ GE132.out) | exact HB.out)) hb)
                    clear HO_133001
                    clear HO_133002
                    clear HO_133003
                    clear BK127
                    clear BK128
                    clear BK132
                    clear HB
                    have HO_133001 := n0_
                    have HO_133002 := n1_
                    have HO_133003 := n2_
                    have HO150 := n3_
                    have BK127 := n4_
                    have BK128 := n5_
                    have BK132 := n6_
                    have HB := n7_
                    clear n0_ n1_ n2_ n3_ n4_ n5_ n6_ n7_
                    (try clear hb)
                    (try clear hb2)
                    (try clear hk)
                    (try clear hi)
                    (try clear ho0)
                    obtain ⟨Ao47, co47, eo47⟩ := Kd.R_slice HO150.out
                    (first | subst eo47 | (injection eo47 with f1_ f2_ f3_; have f4_ := f1_.symm; have f5_ := f3_.symm; clear f1_ f2_ f3_; subst f4_; subst f5_))
                    refine hK.out _ _ ⟨(blk_cell BK132.out 0).trans rfl, (blk_cell BK132.out 1).trans rfl, (blk_cell BK132.out 2).trans rfl, (blk_cell BK132.out 3).trans rfl⟩ (fun hHeld => ?_)
                    clear hK K
                    refine norm_ (a' := ?_) ?_ ?_
                    rotate_left
                    · show Act.put _ (some 39) _ = _
                      simp only [Act.put, sia, scz, scs, i64_w, i32_w]
                      rfl
                    refine one_ (i := 4) (N := some 40) #[true, true, true, true, true, false, false, false] rfl rfl (one_of HT_.out (by kernel_rfl)) (by decide) (fun K hK => ?_)
                    refine value_ (w1 := ?_) (v := ?_) (by rfl) rfl ?_ ?_
                    rotate_left 2
                    · go_simp
                      constructor
                      · rfl
                      · rfl
                    refine hK.out _ _ ⟨(blk_cell (bka BK132.out _) 0).trans rfl, (blk_cell (bka BK132.out _) 1).trans rfl, (blk_cell (bka BK132.out _) 2).trans rfl, (blk_cell (bka BK132.out _) 3).trans rfl⟩ (fun hHeld => ?_)
                    clear hK K
                    refine norm_ (a' := ?_) ?_ ?_
                    rotate_left
                    · show Act.put _ (some 40) _ = _
                      simp only [Act.put, sia, scz, scs, i64_w, i32_w]
                      rfl
                    refine one_ (i := 5) (N := some 41) #[true, true, true, true, true, true, false, false] rfl rfl (one_of HT_.out (by kernel_rfl)) (by decide) (fun K hK => ?_)
                    refine Kd.S_append_step (Kd.slice 5 (Kd.int .u8)) (w0 := w) w.heap.size (by rfl) (.tmp 37) (.tmp 40) 24 36 (.slice none 0 0) 24 rfl Try.underlying24 info36 rfl (by decide) (by omega) u133003 x133003_2 t148 [.slice Ao47 t148.length co47] (fun _ => True) (fun k_ => some k_ = (.slice Ao47 t148.length co47 : Value).ownBlock) rfl rfl ?aP (fun k_ hk_ => ((Kd.R_mono (ok' := fun k_ => ((fun _ => True)) k_ ∧ some k_ ≠ (u133003 : Value).ownBlock) (Kd.R_apart' (HO150.out) (Kd.S_typed HO_133003.out) (by decide)) (fun k_ hk => ⟨trivial, hk.2⟩))).1 k_ hk_.symm) ?aF ?aO ?aB ?aS ?aL ?_
                    (case aP => exact Kd.M_row (Kd.R_mono (Kd.R_tight rfl (Kd.R_mono (ok' := fun k_ => ((fun _ => True)) k_ ∧ some k_ ≠ (u133003 : Value).ownBlock) (Kd.R_apart' (HO150.out) (Kd.S_typed HO_133003.out) (by decide)) (fun k_ hk => ⟨trivial, hk.2⟩))) (fun _ h_ => h_)))
                    (case aB => exact (by repeat (first | (with_reducible first | exact HB.out | apply bal | apply pbd | apply bdr | refine below_set ?_ GE127.out | refine below_set ?_ GE128.out | refine below_set ?_ GE132.out) | exact HB.out)))
                    (case aF => exact (fun _ _ => trivial))
                    (case aO => exact (by (with_reducible repeat (first | apply Kd.S_alloc | apply Kd.S_drewN | apply Kd.S_drew)); exact Kd.S_mono HO_133003.out (fun k_ hk => ⟨trivial, fun e_ => hk.2 e_⟩)))
                    (case aS => exact (below_size (by repeat (first | (with_reducible first | exact HB.out | apply bal | apply pbd | apply bdr | refine below_set ?_ GE127.out | refine below_set ?_ GE128.out | refine below_set ?_ GE132.out) | exact HB.out))))
                    (case aL => have := LMc43.out; omega)
                    intro v152 w46 ho hb hg hat
                    rw [← Ny151.out] at ho
                    have n0_ := amk (Kd.S_over' (by (with_reducible repeat (first | apply Kd.S_alloc | apply Kd.S_drewN | apply Kd.S_drew)); exact HO_133001.out) (Kd.S_typed (by (with_reducible repeat (first | apply Kd.S_alloc | apply Kd.S_drewN | apply Kd.S_drew)); exact HO_133003.out)) (by decide) hg)
                    have n1_ := amk (Kd.S_over' (by (with_reducible repeat (first | apply Kd.S_alloc | apply Kd.S_drewN | apply Kd.S_drew)); exact HO_133002.out) (Kd.S_typed (by (with_reducible repeat (first | apply Kd.S_alloc | apply Kd.S_drewN | apply Kd.S_drew)); exact HO_133003.out)) (by decide) hg)
                    have n2_ := amk (blk_grown (g := gb127) (o := .cells #[.string a0_0, .slice A0_1 l0_1.length c0_1, .slice A0_2 l0_2.length c0_2, .slice (some ad147) l0_3.length c0_3] 26 (0, 0)) (by (with_reducible repeat (first | refine bkd ?_ _ | refine blk_drew ?_ | refine bka ?_ _)); exact BK127.out) hg (Kd.S_ne HO_133003.out BK127.out (by decide)))
                    have n3_ := amk (blk_grown (g := gb128) (o := .cells #[.string (⟨#[]⟩ : ByteArray), .slice none 0 0, .slice none 0 0, .slice none 0 0] 26 (0, 0)) (by (with_reducible repeat (first | refine bkd ?_ _ | refine blk_drew ?_ | refine bka ?_ _)); exact BK128.out) hg (Kd.S_ne HO_133003.out BK128.out (by decide)))
                    have n4_ := amk (blk_grown (g := gb132) (o := .cells #[.string a0_0, .slice Ao10 t129.length co10, u133002, u133003] 26 (0, 0)) (by (with_reducible repeat (first | refine bkd ?_ _ | refine blk_drew ?_ | refine bka ?_ _)); exact BK132.out) hg (Kd.S_ne HO_133003.out BK132.out (by decide)))
                    have n5_ := amk (hb)
                    have n6_ := amk (ho)
                    clear HO_133001
                    clear HO_133002
                    clear BK127
                    clear BK128
                    clear BK132
                    clear HB
                    clear HO_133003
                    clear HO150
                    have HO_133001 := n0_
                    have HO_133002 := n1_
                    have BK127 := n2_
                    have BK128 := n3_
                    have BK132 := n4_
                    have HB := n5_
                    have HO153 := n6_
                    clear n0_ n1_ n2_ n3_ n4_ n5_ n6_
                    clear ho hb hg hat
                    obtain ⟨Ao48, co48, eo48⟩ := Kd.S_slice HO153.out
                    (first | subst eo48 | (injection eo48 with f1_ f2_ f3_; have f4_ := f1_.symm; have f5_ := f3_.symm; clear f1_ f2_ f3_; subst f4_; subst f5_))
                    refine hK.out _ _ ⟨(blk_cell BK132.out 0).trans rfl, (blk_cell BK132.out 1).trans rfl, (blk_cell BK132.out 2).trans rfl, (blk_cell BK132.out 3).trans rfl⟩ (fun hHeld => ?_)
                    clear hK K
                    refine norm_ (a' := ?_) ?_ ?_
                    rotate_left
                    · show Act.put _ (some 41) _ = _
                      simp only [Act.put, sia, scz, scs, i64_w, i32_w]
                      rfl
                    refine pure_ (i := 6) (N := some 42) (v := ?_) (a' := ?_) #[true, true, true, true, true, true, true, false] rfl rfl (any_of HT_.out (by kernel_rfl)) (fun _ _ _ h => h) (Or.inl ⟨by rfl, ?_⟩) ?_ ?_
                    rotate_left
                    · intro w'
                      go_simp
                      with_reducible rfl
                    rotate_left
                    · simp only [Act.put, sia, scz, scs, i64_w, i32_w]
                      rfl
                    refine last_ (i := 7) (N := none) #[true, true, true, true, true, true, true, true] rfl rfl (one_of HT_.out (by kernel_rfl)) (by decide) (fun K hK => ?_)
                    have hs49 : w46.cell? ⟨gb132, 3, none⟩ = some (u133003) := (blk_cell BK132.out 3).trans rfl
                    have hfs49 := bkf BK132.out 3
                    have hns49_0 := NB127_132.out
                    have hns49_1 := NB128_132.out
                    have hms49_0 := NB132_127.out
                    have hms49_1 := NB132_128.out
                    refine skip_ (w1 := ?_) (by rfl) rfl ?_ ?_
                    rotate_left
                    · go_simp
                      rfl
                    refine hK.out _ _ ?_
                    clear hK K
                    refine done_ (done_of HT_.out (by kernel_rfl)) ?_
                    try go_wp2
                    go_roundg k2
                    case measure => have := HK1.out; have := HK2.out; omega
                    case rel => exact ⟨(wrap64 (x32_2 + 1)), (y151), (.slice Ao48 y151.length co48), (by first | rfl | (simp; done) | (simp [*]; done)), H', ⟨by have := HK1.out; have := HK2.out; omega⟩, ⟨by (with_reducible repeat (first | apply Kd.S_alloc | apply Kd.S_drewN | apply Kd.S_drew)); exact Kd.S_mono (Kd.S_far (p := ⟨gb132, 3, none⟩) (Kd.S_types HO_133001.out BK132.out (by decide)) (fun _ hk => hk.2) (.slice Ao48 y151.length co48)) (fun _ hk => trivial)⟩, ⟨by (with_reducible repeat (first | apply Kd.S_alloc | apply Kd.S_drewN | apply Kd.S_drew)); exact Kd.S_mono (Kd.S_far (p := ⟨gb132, 3, none⟩) (Kd.S_types HO_133002.out BK132.out (by decide)) (fun _ hk => hk.2) (.slice Ao48 y151.length co48)) (fun _ hk => trivial)⟩, ⟨by (with_reducible repeat (first | apply Kd.S_alloc | apply Kd.S_drewN | apply Kd.S_drew)); exact Kd.S_mono (Kd.S_far (p := ⟨gb132, 3, none⟩) (Kd.S_types HO153.out BK132.out (by decide)) (fun _ hk => hk.2) (.slice Ao48 y151.length co48)) (fun _ hk => trivial)⟩, ⟨by (with_reducible repeat (first | refine bkd ?_ _ | refine blk_drew ?_ | refine bka ?_ _)); refine blk_far ?_ NB127_132.out _; (with_reducible repeat (first | refine bkd ?_ _ | refine blk_drew ?_ | refine bka ?_ _)); exact BK127.out⟩, ⟨by (with_reducible repeat (first | refine bkd ?_ _ | refine blk_drew ?_ | refine bka ?_ _)); refine blk_far ?_ NB128_132.out _; (with_reducible repeat (first | refine bkd ?_ _ | refine blk_drew ?_ | refine bka ?_ _)); exact BK128.out⟩, ⟨by (with_reducible repeat (first | refine bkd ?_ _ | refine blk_drew ?_ | refine bka ?_ _)); refine blk_put (cs := #[.string a0_0, .slice Ao10 t129.length co10, u133002, u133003]) ?_ 3 _ rfl; (with_reducible repeat (first | refine bkd ?_ _ | refine blk_drew ?_ | refine bka ?_ _)); exact BK132.out⟩, ⟨by repeat (first | (with_reducible first | exact HB.out | apply bal | apply pbd | apply bdr | refine below_set ?_ GE127.out | refine below_set ?_ GE128.out | refine below_set ?_ GE132.out) | exact HB.out)⟩⟩
                  · rw [if_neg c43] at H
                    exact absurd H (by simp)
                · rw [if_neg c41] at H
                  exact absurd H (by simp)
              · rw [if_neg c40] at H
                exact absurd H (by simp)
            · rw [if_neg c39] at H
              have c39b0 : decide (x32_2 < (l0_3.length : Int)) = false := decide_eq_false c39
              clear c39
              simp only [Option.some.injEq, Prod.mk.injEq] at H
              obtain ⟨rfl, rfl, rfl, rfl⟩ := H
              have hnb50 := NB132_127.out
              have hnc50 := NB127_132.out
              have hnb51 := NB132_128.out
              have hnc51 := NB128_132.out
              have hcz52_0 : wr.cell? ⟨gb132, 0, none⟩ = some (.string a0_0) := (blk_cell BK132.out 0).trans rfl
              have hcz52_1 : wr.cell? ⟨gb132, 1, none⟩ = some (.slice Ao10 t129.length co10) := (blk_cell BK132.out 1).trans rfl
              have hcz52_2 : wr.cell? ⟨gb132, 2, none⟩ = some (u133002) := (blk_cell BK132.out 2).trans rfl
              have hcz52_3 : wr.cell? ⟨gb132, 3, none⟩ = some (u133003) := (blk_cell BK132.out 3).trans rfl
              have hfz52_0 := bkf BK132.out 0
              have hfz52_1 := bkf BK132.out 1
              have hfz52_2 := bkf BK132.out 2
              have hfz52_3 := bkf BK132.out 3
              have hnb53 := NB128_127.out
              have hnc53 := NB127_128.out
              have hcz54_0 : wr.cell? ⟨gb128, 0, none⟩ = some (.string (⟨#[]⟩ : ByteArray)) := (blk_cell BK128.out 0).trans rfl
              have hcz54_1 : wr.cell? ⟨gb128, 1, none⟩ = some (.slice none 0 0) := (blk_cell BK128.out 1).trans rfl
              have hcz54_2 : wr.cell? ⟨gb128, 2, none⟩ = some (.slice none 0 0) := (blk_cell BK128.out 2).trans rfl
              have hcz54_3 : wr.cell? ⟨gb128, 3, none⟩ = some (.slice none 0 0) := (blk_cell BK128.out 3).trans rfl
              have hfz54_0 := bkf BK128.out 0
              have hfz54_1 := bkf BK128.out 1
              have hfz54_2 := bkf BK128.out 2
              have hfz54_3 := bkf BK128.out 3
              obtain ⟨Ao55, co55, eo55⟩ := Kd.S_slice HO_133002.out
              subst eo55
              obtain ⟨Ao56, co56, eo56⟩ := Kd.S_slice HO_133003.out
              subst eo56
              go_wp2
              refine bodyPost_ret (results_cell_row rfl _ _ gb128 26 #[.string a0_0, .slice Ao10 t129.length co10, .slice Ao55 x133002_1.length co55, .slice Ao56 x133003_2.length co56] (0, 0) _ rfl (by (with_reducible repeat (first | refine bkd ?_ _ | refine blk_drew ?_ | refine bka ?_ _)); refine blk_put (cs := #[.string a0_0, .slice Ao10 t129.length co10, .slice Ao55 x133002_1.length co55, .slice none 0 0]) ?_ 3 _ rfl; (with_reducible repeat (first | refine bkd ?_ _ | refine blk_drew ?_ | refine bka ?_ _)); refine blk_put (cs := #[.string a0_0, .slice Ao10 t129.length co10, .slice none 0 0, .slice none 0 0]) ?_ 2 _ rfl; (with_reducible repeat (first | refine bkd ?_ _ | refine blk_drew ?_ | refine bka ?_ _)); refine blk_put (cs := #[.string a0_0, .slice none 0 0, .slice none 0 0, .slice none 0 0]) ?_ 1 _ rfl; (with_reducible repeat (first | refine bkd ?_ _ | refine blk_drew ?_ | refine bka ?_ _)); refine blk_put (cs := #[.string (⟨#[]⟩ : ByteArray), .slice none 0 0, .slice none 0 0, .slice none 0 0]) ?_ 0 _ rfl; (with_reducible repeat (first | refine bkd ?_ _ | refine blk_drew ?_ | refine bka ?_ _)); exact BK128.out) Try.underlying26 rfl (by kernel_rfl)) rfl ?_
              exact ⟨_, _, _, by first | rfl | (simp [errW_none, errW_some] <;> rfl) | (simp [*, errW_none, errW_some] <;> rfl), by (with_reducible repeat (first | apply Kd.S_alloc | apply Kd.S_drewN | apply Kd.S_drew)); exact Kd.S_mono (Kd.S_far (p := ⟨gb128, 3, none⟩) (Kd.S_far (p := ⟨gb128, 2, none⟩) (Kd.S_far (p := ⟨gb128, 1, none⟩) (Kd.S_far (p := ⟨gb128, 0, none⟩) (Kd.S_types HO_133001.out BK128.out (by decide)) (fun _ hk => hk.2) (.string a0_0)) (fun _ hk => hk.2) (.slice Ao10 t129.length co10)) (fun _ hk => hk.2) (.slice Ao55 x133002_1.length co55)) (fun _ hk => hk.2) (.slice Ao56 x133003_2.length co56)) (fun _ hk => trivial), by (with_reducible repeat (first | apply Kd.S_alloc | apply Kd.S_drewN | apply Kd.S_drew)); exact Kd.S_mono (Kd.S_far (p := ⟨gb128, 3, none⟩) (Kd.S_far (p := ⟨gb128, 2, none⟩) (Kd.S_far (p := ⟨gb128, 1, none⟩) (Kd.S_far (p := ⟨gb128, 0, none⟩) (Kd.S_types HO_133002.out BK128.out (by decide)) (fun _ hk => hk.2) (.string a0_0)) (fun _ hk => hk.2) (.slice Ao10 t129.length co10)) (fun _ hk => hk.2) (.slice Ao55 x133002_1.length co55)) (fun _ hk => hk.2) (.slice Ao56 x133003_2.length co56)) (fun _ hk => trivial), by (with_reducible repeat (first | apply Kd.S_alloc | apply Kd.S_drewN | apply Kd.S_drew)); exact Kd.S_mono (Kd.S_far (p := ⟨gb128, 3, none⟩) (Kd.S_far (p := ⟨gb128, 2, none⟩) (Kd.S_far (p := ⟨gb128, 1, none⟩) (Kd.S_far (p := ⟨gb128, 0, none⟩) (Kd.S_types HO_133003.out BK128.out (by decide)) (fun _ hk => hk.2) (.string a0_0)) (fun _ hk => hk.2) (.slice Ao10 t129.length co10)) (fun _ hk => hk.2) (.slice Ao55 x133002_1.length co55)) (fun _ hk => hk.2) (.slice Ao56 x133003_2.length co56)) (fun _ hk => trivial), by repeat (first | (with_reducible first | exact HB.out | apply bal | apply pbd | apply bdr | refine below_set ?_ GE127.out | refine below_set ?_ GE128.out | refine below_set ?_ GE132.out) | exact HB.out)⟩

end Go.Proofs.Ytdlmcjchnoeebaa.P

end

section
namespace Go.Proofs.Ytdlmcjchnoeebaa.P
open Go.RowKit Go.Proofs.YtdlmcjchnoeebaaW.PrintWords Go.Proofs.YtdlmcjchnoeebaaW.PrintLast Go.Proofs.YtdlmcjchnoeebaaW.PrintMore
attribute [local go_sem] max2_int min2_int max_two min_two max_three min_three max_four min_four   -- for this text's walks alone
set_option linter.unusedVariables false
set_option linter.unusedSimpArgs false

theorem eqA99 (d : Nat) (w : World) (x0 y0 : ByteArray) (x1 y1 : Int) :
    (Op.equalIn (d + 2) 99 (.agg #[.string x0, .int .u8 x1]) (.agg #[.string y0, .int .u8 y1])).run Try.prog w = .ok (x0.toList == y0.toList && (x1 == y1)) w := by
  refine eqA_of Try.underlying99 (by kernel_rfl) ?_
  refine eqf_cons (by rfl) (by go_simp; rfl) (by go_simp; rfl) (by go_simp) ?_
  exact eqf_last (by rfl) (by go_simp; rfl) (by go_simp; rfl) (by go_simp)
end Go.Proofs.Ytdlmcjchnoeebaa.P

end

section
namespace Go.Proofs.Ytdlmcjchnoeebaa.P
open Go.RowKit Go.Proofs.YtdlmcjchnoeebaaW.PrintWords Go.Proofs.YtdlmcjchnoeebaaW.PrintLast Go.Proofs.YtdlmcjchnoeebaaW.PrintMore
attribute [local go_sem] max2_int min2_int max_two min_two max_three min_three max_four min_four   -- for this text's walks alone
set_option linter.unusedVariables false
set_option linter.unusedSimpArgs false

attribute [local go_sem high] eqA99
def slices_Equal_byte_byte.l0 : Nat → List Int → List Int → Int → Int → Option (Bool)
  | 0, _, _, _, _ => none
  | k + 1, x0, x1, x12, x13 => if x13 < x12 then (if 0 ≤ x13 then (if x13 < (x0.length : Int) then (if x13 < (x1.length : Int) then (if (rd x0 x13) = (rd x1 x13) then (slices_Equal_byte_byte.l0 k x0 x1 x12 (wrap64 (x13 + 1))) else (some false)) else (none)) else (none)) else (none)) else (some true)
def slices_Equal_byte_byte.f (k : Nat) (l0 : List Int) (l1 : List Int) : Option (Bool) := if (l0.length : Int) = (l1.length : Int) then (slices_Equal_byte_byte.l0 k l0 l1 (l0.length : Int) 0) else (some false)
set_option maxHeartbeats 8000000 in
set_option maxRecDepth 100000 in
theorem slices_Equal_byte_byte.calls (k : Nat) (A0 : Option Addr) (c0 : Nat) (l0 : List Int) (A1 : Option Addr) (c1 : Nat) (l1 : List Int) (r : Bool) (w : World) (hr0 : Kd.C (Kd.int .u8) w A0 l0.length l0) (hc0 : l0.length ≤ c0) (hr1 : Kd.C (Kd.int .u8) w A1 l1.length l1) (hc1 : l1.length ≤ c1) (h : slices_Equal_byte_byte.f k l0 l1 = some r) :
    Calls Try.prog 19 #[.slice A0 l0.length c0, .slice A1 l1.length c1] w fun e w' => e = .returned (.bool r) ∧ Drawn0 w w' := by
  have HR0 := amk hr0
  have HC0 := amk hc0
  clear hr0 hc0
  have HR1 := amk hr1
  have HC1 := amk hc1
  clear hr1 hc1
  have H : (if (l0.length : Int) = (l1.length : Int) then (slices_Equal_byte_byte.l0 k l0 l1 (l0.length : Int) 0) else (some false)) = some r := h
  clear h
  by_cases c3 : (l0.length : Int) = (l1.length : Int)
  · rw [if_pos c3] at H
    have c3b0 : ((l0.length : Int) == (l1.length : Int)) = true := beq_iff_eq.mpr c3
    have c3b1 : ((l0.length : Int) != (l1.length : Int)) = false := bne_eq_false_iff_eq.mpr c3
    have c3b2 : (l0.length == l1.length) = true := by first | simpa using c3 | (simp at c3 ⊢; omega)
    clear c3
    have H' := amk H
    clear H
    go_enter Try.func19, Try.ntmps19
    go_wp2
    repeat (go_quiet (fail); try go_wp2)
    go_loopg [13] k (fun kq v13 w' => ∃ (x13_1 : Int), v13 = .int .i64 x13_1 ∧ Aside0 (slices_Equal_byte_byte.l0 kq l0 l1 (l0.length : Int) x13_1 = some r) ∧ Aside0 (kq ≤ k) ∧ Drawn0 w w')
    case atStart => exact ⟨(0), (by first | rfl | (simp; done) | (simp [*]; done)), H', ⟨Nat.le_refl _⟩, by repeat (first | exact Drawn0.refl _ | apply Drawn0.step)⟩
    case round =>
      clear H'
      try clear c1
      try clear p2
      try clear c3
      try clear c3b0
      try clear c3b1
      try clear c3b2
      obtain ⟨x13_1, rfl, HA, HK1, ⟨m1, rfl⟩⟩ := hrel
      cases gk with
      | zero => exact absurd HA.out (by simp [slices_Equal_byte_byte.l0])
      | succ k1 =>
        have H := HA.out
        clear HA
        simp only [slices_Equal_byte_byte.l0] at H
        by_cases c4 : x13_1 < (l0.length : Int)
        · rw [if_pos c4] at H
          have c4b0 : decide (x13_1 < (l0.length : Int)) = true := decide_eq_true c4
          clear c4
          by_cases c5 : 0 ≤ x13_1
          · rw [if_pos c5] at H
            have c5b0 : decide (0 ≤ x13_1) = true := decide_eq_true c5
            clear c5
            by_cases c6 : x13_1 < (l0.length : Int)
            · rw [if_pos c6] at H
              have c6b0 : decide (x13_1 < (l0.length : Int)) = true := decide_eq_true c6
              clear c6
              by_cases c7 : x13_1 < (l1.length : Int)
              · rw [if_pos c7] at H
                have c7b0 : decide (x13_1 < (l1.length : Int)) = true := decide_eq_true c7
                clear c7
                by_cases c8 : (rd l0 x13_1) = (rd l1 x13_1)
                · rw [if_pos c8] at H
                  have c8b0 : ((rd l0 x13_1) == (rd l1 x13_1)) = true := beq_iff_eq.mpr c8
                  have c8b1 : ((rd l0 x13_1) != (rd l1 x13_1)) = false := bne_eq_false_iff_eq.mpr c8
                  clear c8
                  have H' := amk H
                  clear H
                  have p154 : 0 ≤ (x13_1 : Int) := of_decide_eq_true (by first | (with_reducible assumption) | assumption)
                  have q154 : x13_1 < (l0.length : Int) := of_decide_eq_true (by first | (with_reducible assumption) | assumption)
                  obtain ⟨ad154, e154, hx154_0⟩ := Kd.at_int HR0.out x13_1 p154 q154
                  cases e154
                  replace p154 := eq_true p154
                  replace q154 := eq_true q154
                  have p155 : 0 ≤ (x13_1 : Int) := of_decide_eq_true (by first | (with_reducible assumption) | assumption)
                  have q155 : x13_1 < (l1.length : Int) := of_decide_eq_true (by first | (with_reducible assumption) | assumption)
                  obtain ⟨ad155, e155, hx155_0⟩ := Kd.at_int HR1.out x13_1 p155 q155
                  cases e155
                  replace p155 := eq_true p155
                  replace q155 := eq_true q155
                  go_wp2
                  repeat (go_quiet (fail); try go_wp2)
                  go_roundg k1
                  case measure => have := HK1.out; omega
                  case rel => exact ⟨(wrap64 (x13_1 + 1)), (by first | rfl | (simp; done) | (simp [*]; done)), H', ⟨by have := HK1.out; omega⟩, by repeat (first | exact Drawn0.refl _ | apply Drawn0.step)⟩
                · rw [if_neg c8] at H
                  have c8b0 : ((rd l0 x13_1) == (rd l1 x13_1)) = false := beq_eq_false_iff_ne.mpr c8
                  have c8b1 : ((rd l0 x13_1) != (rd l1 x13_1)) = true := bne_iff_ne.mpr c8
                  obtain rfl := Option.some.inj H
                  have p154 : 0 ≤ (x13_1 : Int) := of_decide_eq_true (by first | (with_reducible assumption) | assumption)
                  have q154 : x13_1 < (l0.length : Int) := of_decide_eq_true (by first | (with_reducible assumption) | assumption)
                  obtain ⟨ad154, e154, hx154_0⟩ := Kd.at_int HR0.out x13_1 p154 q154
                  cases e154
                  replace p154 := eq_true p154
                  replace q154 := eq_true q154
                  have p155 : 0 ≤ (x13_1 : Int) := of_decide_eq_true (by first | (with_reducible assumption) | assumption)
                  have q155 : x13_1 < (l1.length : Int) := of_decide_eq_true (by first | (with_reducible assumption) | assumption)
                  obtain ⟨ad155, e155, hx155_0⟩ := Kd.at_int HR1.out x13_1 p155 q155
                  cases e155
                  replace p155 := eq_true p155
                  replace q155 := eq_true q155
                  go_wp2
                  repeat (go_quiet (fail); try go_wp2)
                  go_ret
                  exact ⟨by first | rfl | (simp; done) | (simp [*]; done), by repeat (first | exact Drawn0.refl _ | apply Drawn0.step)⟩
              · rw [if_neg c7] at H
                exact absurd H (by simp)
            · rw [if_neg c6] at H
              exact absurd H (by simp)
          · rw [if_neg c5] at H
            exact absurd H (by simp)
        · rw [if_neg c4] at H
          have c4b0 : decide (x13_1 < (l0.length : Int)) = false := decide_eq_false c4
          clear c4
          obtain rfl := Option.some.inj H
          go_wp2
          repeat (go_quiet (fail); try go_wp2)
          go_ret
          exact ⟨by first | rfl | (simp; done) | (simp [*]; done), by repeat (first | exact Drawn0.refl _ | apply Drawn0.step)⟩
  · rw [if_neg c3] at H
    have c3b0 : ((l0.length : Int) == (l1.length : Int)) = false := beq_eq_false_iff_ne.mpr c3
    have c3b1 : ((l0.length : Int) != (l1.length : Int)) = true := bne_iff_ne.mpr c3
    have c3b2 : (l0.length == l1.length) = false := by first | simpa using c3 | (simp at c3 ⊢; omega)
    obtain rfl := Option.some.inj H
    go_enter Try.func19, Try.ntmps19
    go_wp2
    repeat (go_quiet (fail); try go_wp2)
    go_ret
    exact ⟨by first | rfl | (simp; done) | (simp [*]; done), by repeat (first | exact Drawn0.refl _ | apply Drawn0.step)⟩


def api_Field_61.l0 : Nat → List (S99) → List (S99) → Int → Int → Option (Bool)
  | 0, _, _, _, _ => none
  | k + 1, x0, x1, x12, x13 => if x13 < x12 then (if 0 ≤ x13 then (if x13 < (x0.length : Int) then (if x13 < (x1.length : Int) then (if (!((((rd_T99 x0 x13).f0).toList) == (((rd_T99 x1 x13).f0).toList)) || (!(((rd_T99 x0 x13).f1) == ((rd_T99 x1 x13).f1)))) = true then (some false) else (api_Field_61.l0 k x0 x1 x12 (wrap64 (x13 + 1)))) else (none)) else (none)) else (none)) else (some true)
def api_Field_61.f (k : Nat) (l0 : List (S99)) (l1 : List (S99)) : Option (Bool) := if (l0.length : Int) = (l1.length : Int) then (api_Field_61.l0 k l0 l1 (l0.length : Int) 0) else (some false)
set_option maxHeartbeats 8000000 in
set_option maxRecDepth 100000 in
theorem api_Field_61.calls (k : Nat) (A0 : Option Addr) (c0 : Nat) (l0 : List (S99)) (A1 : Option Addr) (c1 : Nat) (l1 : List (S99)) (r : Bool) (w : World) (hr0 : Kd.C k99 w A0 l0.length l0) (hc0 : l0.length ≤ c0) (hr1 : Kd.C k99 w A1 l1.length l1) (hc1 : l1.length ≤ c1) (h : api_Field_61.f k l0 l1 = some r) :
    Calls Try.prog 61 #[.slice A0 l0.length c0, .slice A1 l1.length c1] w fun e w' => e = .returned (.bool r) ∧ Drawn0 w w' := by
  have hu99 := Try.underlying99
  have HR0 := amk hr0
  have HC0 := amk hc0
  clear hr0 hc0
  have HR1 := amk hr1
  have HC1 := amk hc1
  clear hr1 hc1
  have H : (if (l0.length : Int) = (l1.length : Int) then (api_Field_61.l0 k l0 l1 (l0.length : Int) 0) else (some false)) = some r := h
  clear h
  by_cases c3 : (l0.length : Int) = (l1.length : Int)
  · rw [if_pos c3] at H
    have c3b0 : ((l0.length : Int) == (l1.length : Int)) = true := beq_iff_eq.mpr c3
    have c3b1 : ((l0.length : Int) != (l1.length : Int)) = false := bne_eq_false_iff_eq.mpr c3
    have c3b2 : (l0.length == l1.length) = true := by first | simpa using c3 | (simp at c3 ⊢; omega)
    clear c3
    have H' := amk H
    clear H
    go_enter Try.func61, Try.ntmps61
    go_wp2
    repeat (go_quiet (fail); try go_wp2)
    go_loopg [13] k (fun kq v13 w' => ∃ (x13_1 : Int), v13 = .int .i64 x13_1 ∧ Aside0 (api_Field_61.l0 kq l0 l1 (l0.length : Int) x13_1 = some r) ∧ Aside0 (kq ≤ k) ∧ Drawn0 w w')
    case atStart => exact ⟨(0), (by first | rfl | (simp; done) | (simp [*]; done)), H', ⟨Nat.le_refl _⟩, by repeat (first | exact Drawn0.refl _ | apply Drawn0.step)⟩
    case round =>
      clear H'
      try clear c1
      try clear p2
      try clear c3
      try clear c3b0
      try clear c3b1
      try clear c3b2
      obtain ⟨x13_1, rfl, HA, HK1, ⟨m1, rfl⟩⟩ := hrel
      cases gk with
      | zero => exact absurd HA.out (by simp [api_Field_61.l0])
      | succ k1 =>
        have H := HA.out
        clear HA
        simp only [api_Field_61.l0] at H
        by_cases c4 : x13_1 < (l0.length : Int)
        · rw [if_pos c4] at H
          have c4b0 : decide (x13_1 < (l0.length : Int)) = true := decide_eq_true c4
          clear c4
          by_cases c5 : 0 ≤ x13_1
          · rw [if_pos c5] at H
            have c5b0 : decide (0 ≤ x13_1) = true := decide_eq_true c5
            clear c5
            by_cases c6 : x13_1 < (l0.length : Int)
            · rw [if_pos c6] at H
              have c6b0 : decide (x13_1 < (l0.length : Int)) = true := decide_eq_true c6
              clear c6
              by_cases c7 : x13_1 < (l1.length : Int)
              · rw [if_pos c7] at H
                have c7b0 : decide (x13_1 < (l1.length : Int)) = true := decide_eq_true c7
                clear c7
                by_cases c8 : (!((((rd_T99 l0 x13_1).f0).toList) == (((rd_T99 l1 x13_1).f0).toList)) || (!(((rd_T99 l0 x13_1).f1) == ((rd_T99 l1 x13_1).f1)))) = true
                · rw [if_pos c8] at H
                  have c8b0 : (!((((rd_T99 l0 x13_1).f0).toList) == (((rd_T99 l1 x13_1).f0).toList)) || (!(((rd_T99 l0 x13_1).f1) == ((rd_T99 l1 x13_1).f1)))) = true := c8
                  clear c8
                  obtain rfl := Option.some.inj H
                  have p156 : 0 ≤ (x13_1 : Int) := of_decide_eq_true (by first | (with_reducible assumption) | assumption)
                  have q156 : x13_1 < (l0.length : Int) := of_decide_eq_true (by first | (with_reducible assumption) | assumption)
                  obtain ⟨ad156, e156, hx156_0, hx156_1⟩ := at_T99 HR0.out x13_1 p156 q156
                  cases e156
                  replace p156 := eq_true p156
                  replace q156 := eq_true q156
                  have p157 : 0 ≤ (x13_1 : Int) := of_decide_eq_true (by first | (with_reducible assumption) | assumption)
                  have q157 : x13_1 < (l1.length : Int) := of_decide_eq_true (by first | (with_reducible assumption) | assumption)
                  obtain ⟨ad157, e157, hx157_0, hx157_1⟩ := at_T99 HR1.out x13_1 p157 q157
                  cases e157
                  replace p157 := eq_true p157
                  replace q157 := eq_true q157
                  go_wp2
                  repeat (go_quiet (fail); try go_wp2)
                  go_ret
                  exact ⟨by first | rfl | (simp; done) | (simp [*]; done), by repeat (first | exact Drawn0.refl _ | apply Drawn0.step)⟩
                · rw [if_neg c8] at H
                  have c8b0 : (!((((rd_T99 l0 x13_1).f0).toList) == (((rd_T99 l1 x13_1).f0).toList)) || (!(((rd_T99 l0 x13_1).f1) == ((rd_T99 l1 x13_1).f1)))) = false := by simpa using c8
                  clear c8
                  have H' := amk H
                  clear H
                  have p156 : 0 ≤ (x13_1 : Int) := of_decide_eq_true (by first | (with_reducible assumption) | assumption)
                  have q156 : x13_1 < (l0.length : Int) := of_decide_eq_true (by first | (with_reducible assumption) | assumption)
                  obtain ⟨ad156, e156, hx156_0, hx156_1⟩ := at_T99 HR0.out x13_1 p156 q156
                  cases e156
                  replace p156 := eq_true p156
                  replace q156 := eq_true q156
                  have p157 : 0 ≤ (x13_1 : Int) := of_decide_eq_true (by first | (with_reducible assumption) | assumption)
                  have q157 : x13_1 < (l1.length : Int) := of_decide_eq_true (by first | (with_reducible assumption) | assumption)
                  obtain ⟨ad157, e157, hx157_0, hx157_1⟩ := at_T99 HR1.out x13_1 p157 q157
                  cases e157
                  replace p157 := eq_true p157
                  replace q157 := eq_true q157
                  go_wp2
                  repeat (go_quiet (fail); try go_wp2)
                  go_roundg k1
                  case measure => have := HK1.out; omega
                  case rel => exact ⟨(wrap64 (x13_1 + 1)), (by first | rfl | (simp; done) | (simp [*]; done)), H', ⟨by have := HK1.out; omega⟩, by repeat (first | exact Drawn0.refl _ | apply Drawn0.step)⟩
              · rw [if_neg c7] at H
                exact absurd H (by simp)
            · rw [if_neg c6] at H
              exact absurd H (by simp)
          · rw [if_neg c5] at H
            exact absurd H (by simp)
        · rw [if_neg c4] at H
          have c4b0 : decide (x13_1 < (l0.length : Int)) = false := decide_eq_false c4
          clear c4
          obtain rfl := Option.some.inj H
          go_wp2
          repeat (go_quiet (fail); try go_wp2)
          go_ret
          exact ⟨by first | rfl | (simp; done) | (simp [*]; done), by repeat (first | exact Drawn0.refl _ | apply Drawn0.step)⟩
  · rw [if_neg c3] at H
    have c3b0 : ((l0.length : Int) == (l1.length : Int)) = false := beq_eq_false_iff_ne.mpr c3
    have c3b1 : ((l0.length : Int) != (l1.length : Int)) = true := bne_iff_ne.mpr c3
    have c3b2 : (l0.length == l1.length) = false := by first | simpa using c3 | (simp at c3 ⊢; omega)
    obtain rfl := Option.some.inj H
    go_enter Try.func61, Try.ntmps61
    go_wp2
    repeat (go_quiet (fail); try go_wp2)
    go_ret
    exact ⟨by first | rfl | (simp; done) | (simp [*]; done), by repeat (first | exact Drawn0.refl _ | apply Drawn0.step)⟩

def api_Type_62.l0 : Nat → List Int → List Int → Int → Int → Option (Bool)
  | 0, _, _, _, _ => none
  | k + 1, x0, x1, x12, x13 => if x13 < x12 then (if 0 ≤ x13 then (if x13 < (x0.length : Int) then (if x13 < (x1.length : Int) then (if (rd x0 x13) = (rd x1 x13) then (api_Type_62.l0 k x0 x1 x12 (wrap64 (x13 + 1))) else (some false)) else (none)) else (none)) else (none)) else (some true)
def api_Type_62.f (k : Nat) (l0 : List Int) (l1 : List Int) : Option (Bool) := if (l0.length : Int) = (l1.length : Int) then (api_Type_62.l0 k l0 l1 (l0.length : Int) 0) else (some false)
set_option maxHeartbeats 8000000 in
set_option maxRecDepth 100000 in
theorem api_Type_62.calls (k : Nat) (A0 : Option Addr) (c0 : Nat) (l0 : List Int) (A1 : Option Addr) (c1 : Nat) (l1 : List Int) (r : Bool) (w : World) (hr0 : Kd.C (Kd.int .u8) w A0 l0.length l0) (hc0 : l0.length ≤ c0) (hr1 : Kd.C (Kd.int .u8) w A1 l1.length l1) (hc1 : l1.length ≤ c1) (h : api_Type_62.f k l0 l1 = some r) :
    Calls Try.prog 62 #[.slice A0 l0.length c0, .slice A1 l1.length c1] w fun e w' => e = .returned (.bool r) ∧ Drawn0 w w' := by
  have HR0 := amk hr0
  have HC0 := amk hc0
  clear hr0 hc0
  have HR1 := amk hr1
  have HC1 := amk hc1
  clear hr1 hc1
  have H : (if (l0.length : Int) = (l1.length : Int) then (api_Type_62.l0 k l0 l1 (l0.length : Int) 0) else (some false)) = some r := h
  clear h
  by_cases c3 : (l0.length : Int) = (l1.length : Int)
  · rw [if_pos c3] at H
    have c3b0 : ((l0.length : Int) == (l1.length : Int)) = true := beq_iff_eq.mpr c3
    have c3b1 : ((l0.length : Int) != (l1.length : Int)) = false := bne_eq_false_iff_eq.mpr c3
    have c3b2 : (l0.length == l1.length) = true := by first | simpa using c3 | (simp at c3 ⊢; omega)
    clear c3
    have H' := amk H
    clear H
    go_enter Try.func62, Try.ntmps62
    go_wp2
    repeat (go_quiet (fail); try go_wp2)
    go_loopg [13] k (fun kq v13 w' => ∃ (x13_1 : Int), v13 = .int .i64 x13_1 ∧ Aside0 (api_Type_62.l0 kq l0 l1 (l0.length : Int) x13_1 = some r) ∧ Aside0 (kq ≤ k) ∧ Drawn0 w w')
    case atStart => exact ⟨(0), (by first | rfl | (simp; done) | (simp [*]; done)), H', ⟨Nat.le_refl _⟩, by repeat (first | exact Drawn0.refl _ | apply Drawn0.step)⟩
    case round =>
      clear H'
      try clear c1
      try clear p2
      try clear c3
      try clear c3b0
      try clear c3b1
      try clear c3b2
      obtain ⟨x13_1, rfl, HA, HK1, ⟨m1, rfl⟩⟩ := hrel
      cases gk with
      | zero => exact absurd HA.out (by simp [api_Type_62.l0])
      | succ k1 =>
        have H := HA.out
        clear HA
        simp only [api_Type_62.l0] at H
        by_cases c4 : x13_1 < (l0.length : Int)
        · rw [if_pos c4] at H
          have c4b0 : decide (x13_1 < (l0.length : Int)) = true := decide_eq_true c4
          clear c4
          by_cases c5 : 0 ≤ x13_1
          · rw [if_pos c5] at H
            have c5b0 : decide (0 ≤ x13_1) = true := decide_eq_true c5
            clear c5
            by_cases c6 : x13_1 < (l0.length : Int)
            · rw [if_pos c6] at H
              have c6b0 : decide (x13_1 < (l0.length : Int)) = true := decide_eq_true c6
              clear c6
              by_cases c7 : x13_1 < (l1.length : Int)
              · rw [if_pos c7] at H
                have c7b0 : decide (x13_1 < (l1.length : Int)) = true := decide_eq_true c7
                clear c7
                by_cases c8 : (rd l0 x13_1) = (rd l1 x13_1)
                · rw [if_pos c8] at H
                  have c8b0 : ((rd l0 x13_1) == (rd l1 x13_1)) = true := beq_iff_eq.mpr c8
                  have c8b1 : ((rd l0 x13_1) != (rd l1 x13_1)) = false := bne_eq_false_iff_eq.mpr c8
                  clear c8
                  have H' := amk H
                  clear H
                  have p161 : 0 ≤ (x13_1 : Int) := of_decide_eq_true (by first | (with_reducible assumption) | assumption)
                  have q161 : x13_1 < (l0.length : Int) := of_decide_eq_true (by first | (with_reducible assumption) | assumption)
                  obtain ⟨ad161, e161, hx161_0⟩ := Kd.at_int HR0.out x13_1 p161 q161
                  cases e161
                  replace p161 := eq_true p161
                  replace q161 := eq_true q161
                  have p162 : 0 ≤ (x13_1 : Int) := of_decide_eq_true (by first | (with_reducible assumption) | assumption)
                  have q162 : x13_1 < (l1.length : Int) := of_decide_eq_true (by first | (with_reducible assumption) | assumption)
                  obtain ⟨ad162, e162, hx162_0⟩ := Kd.at_int HR1.out x13_1 p162 q162
                  cases e162
                  replace p162 := eq_true p162
                  replace q162 := eq_true q162
                  go_wp2
                  repeat (go_quiet (fail); try go_wp2)
                  go_roundg k1
                  case measure => have := HK1.out; omega
                  case rel => exact ⟨(wrap64 (x13_1 + 1)), (by first | rfl | (simp; done) | (simp [*]; done)), H', ⟨by have := HK1.out; omega⟩, by repeat (first | exact Drawn0.refl _ | apply Drawn0.step)⟩
                · rw [if_neg c8] at H
                  have c8b0 : ((rd l0 x13_1) == (rd l1 x13_1)) = false := beq_eq_false_iff_ne.mpr c8
                  have c8b1 : ((rd l0 x13_1) != (rd l1 x13_1)) = true := bne_iff_ne.mpr c8
                  obtain rfl := Option.some.inj H
                  have p161 : 0 ≤ (x13_1 : Int) := of_decide_eq_true (by first | (with_reducible assumption) | assumption)
                  have q161 : x13_1 < (l0.length : Int) := of_decide_eq_true (by first | (with_reducible assumption) | assumption)
                  obtain ⟨ad161, e161, hx161_0⟩ := Kd.at_int HR0.out x13_1 p161 q161
                  cases e161
                  replace p161 := eq_true p161
                  replace q161 := eq_true q161
                  have p162 : 0 ≤ (x13_1 : Int) := of_decide_eq_true (by first | (with_reducible assumption) | assumption)
                  have q162 : x13_1 < (l1.length : Int) := of_decide_eq_true (by first | (with_reducible assumption) | assumption)
                  obtain ⟨ad162, e162, hx162_0⟩ := Kd.at_int HR1.out x13_1 p162 q162
                  cases e162
                  replace p162 := eq_true p162
                  replace q162 := eq_true q162
                  go_wp2
                  repeat (go_quiet (fail); try go_wp2)
                  go_ret
                  exact ⟨by first | rfl | (simp; done) | (simp [*]; done), by repeat (first | exact Drawn0.refl _ | apply Drawn0.step)⟩
              · rw [if_neg c7] at H
                exact absurd H (by simp)
            · rw [if_neg c6] at H
              exact absurd H (by simp)
          · rw [if_neg c5] at H
            exact absurd H (by simp)
        · rw [if_neg c4] at H
          have c4b0 : decide (x13_1 < (l0.length : Int)) = false := decide_eq_false c4
          clear c4
          obtain rfl := Option.some.inj H
          go_wp2
          repeat (go_quiet (fail); try go_wp2)
          go_ret
          exact ⟨by first | rfl | (simp; done) | (simp [*]; done), by repeat (first | exact Drawn0.refl _ | apply Drawn0.step)⟩
  · rw [if_neg c3] at H
    have c3b0 : ((l0.length : Int) == (l1.length : Int)) = false := beq_eq_false_iff_ne.mpr c3
    have c3b1 : ((l0.length : Int) != (l1.length : Int)) = true := bne_iff_ne.mpr c3
    have c3b2 : (l0.length == l1.length) = false := by first | simpa using c3 | (simp at c3 ⊢; omega)
    obtain rfl := Option.some.inj H
    go_enter Try.func62, Try.ntmps62
    go_wp2
    repeat (go_quiet (fail); try go_wp2)
    go_ret
    exact ⟨by first | rfl | (simp; done) | (simp [*]; done), by repeat (first | exact Drawn0.refl _ | apply Drawn0.step)⟩

end Go.Proofs.Ytdlmcjchnoeebaa.P

end

section
namespace Go.Proofs.Ytdlmcjchnoeebaa.P
open Go.RowKit Go.Proofs.YtdlmcjchnoeebaaW.PrintWords Go.Proofs.YtdlmcjchnoeebaaW.PrintLast Go.Proofs.YtdlmcjchnoeebaaW.PrintMore
attribute [local go_sem] max2_int min2_int max_two min_two max_three min_three max_four min_four   -- for this text's walks alone
set_option linter.unusedVariables false
set_option linter.unusedSimpArgs false

def provisoplain_SameClasses.l0 : Nat → List (S64) → List (S64) → Int → Int → Option (Bool)
  | 0, _, _, _, _ => none
  | k + 1, x0, x1, x12, x13 => if x13 < x12 then (if 0 ≤ x13 then (if x13 < (x0.length : Int) then (if x13 < (x1.length : Int) then (if ((rd_T64 x0 x13).f0).toList = ((rd_T64 x1 x13).f0).toList then (if ((rd_T64 x0 x13).f1) = ((rd_T64 x1 x13).f1) then ((api_Field_61.f k ((rd_T64 x0 x13).f2) ((rd_T64 x1 x13).f2)).bind fun t173 => (if t173 = true then (provisoplain_SameClasses.l0 k x0 x1 x12 (wrap64 (x13 + 1))) else (some false))) else (some false)) else (some false)) else (none)) else (none)) else (none)) else (some true)
def provisoplain_SameClasses.f (k : Nat) (l0 : List (S64)) (l1 : List (S64)) : Option (Bool) := if (l0.length : Int) = (l1.length : Int) then (provisoplain_SameClasses.l0 k l0 l1 (l0.length : Int) 0) else (some false)
def provisoplain_SameClasses.T6 : Bool × List (List Nat × List Nat) := (true, [([], []), ([], []), ([0, 1], [0, 1]), ([2], [2]), ([3], [3]), ([], []), ([], []), ([5, 6], [5, 6]), ([7], [7]), ([8], [8]), ([4, 9], [4, 9]), ([10], [10]), ([11], [11]), ([11], [11]), ([12, 13, 11], [11, 12, 13]), ([14, 11], [11, 14]), ([15, 11], [11, 15]), ([11], [11]), ([11], [11]), ([17, 18, 11], [11, 17, 18]), ([19, 11], [11, 19]), ([20, 11], [11, 20]), ([16, 21, 11], [11, 16, 21]), ([11, 22], [11, 22]), ([23, 11], [23]), ([24], [24]), ([24], [24]), ([25, 26, 24], [24, 25, 26]), ([27, 24], [24, 27]), ([28, 24], [24, 28]), ([24], [24]), ([24], [24]), ([30, 31, 24], [24, 30, 31]), ([32, 24], [24, 32]), ([33, 24], [24, 33]), ([29, 34, 24, 24], [24, 29, 34]), ([35, 24], [24, 35]), ([24, 36], [24, 36])])
def provisoplain_SameClasses.B6 : List Nat := [0, 0, 3, 7, 15, 0, 0, 96, 224, 480, 1023, 2047, 4095, 4095, 16383, 32767, 65535, 4095, 4095, 397311, 921599, 1970175, 4194303, 8388607, 16777215, 33554431, 33554431, 134217727, 268435455, 536870911, 33554431, 33554431, 3254779903, 7549747199, 16139681791, 34359738367, 68719476735, 137438953471]
theorem provisoplain_SameClasses.tab6 : rtab .any (opsOf Try.f35 6) = provisoplain_SameClasses.T6 := by kernel_rfl
theorem provisoplain_SameClasses.bits6 : waitsOk provisoplain_SameClasses.T6.2 provisoplain_SameClasses.B6 = true := by kernel_rfl
end Go.Proofs.Ytdlmcjchnoeebaa.P
end

