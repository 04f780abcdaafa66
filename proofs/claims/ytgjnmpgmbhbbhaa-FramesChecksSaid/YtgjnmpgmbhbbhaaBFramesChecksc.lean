/- Proved: the law FramesChecks holds for every input that the row lets in. No condition of ours. -/
import Derived.Test.YtgjnmpgmbhbbhaaBFramesChecksb
import Derived.Test.YtgjnmpgmbhbbhaaProg
import Derived.WalkSpells
import Derived.ChangeKeysEq
import Derived.Deep.MidRow
import Derived.Shelf.Strings.OnBuilder
section
namespace Go.Proofs.Ytgjnmpgmbhbbhaa.P
open Go.RowKit Go.Proofs.YtgjnmpgmbhbbhaaW.PrintWords Go.Proofs.YtgjnmpgmbhbbhaaW.PrintLast Go.Proofs.YtgjnmpgmbhbbhaaW.PrintMore
attribute [local go_sem] max2_int min2_int max_two min_two max_three min_three max_four min_four   -- for this text's walks alone
set_option linter.unusedVariables false
set_option linter.unusedSimpArgs false



def errW : Option Int → Value
  | none => .nilIface
  | some c => .iface 0 (.int .i64 c)
theorem errW_none : errW none = .nilIface := rfl
theorem errW_some (c : Int) : errW (some c) = .iface 0 (.int .i64 c) := rfl

theorem info3 : (Try.prog.info? 3).map (fun i => (i.zero, i.size, i.bytes)) = some (some (.int .i64 0), 1, 8) := by kernel_rfl
theorem info9 : (Try.prog.info? 9).map (fun i => (i.zero, i.size, i.bytes)) = some (some (.string ⟨#[]⟩), 1, 16) := by kernel_rfl
theorem info59 : (Try.prog.info? 59).map (fun i => (i.zero, i.size, i.bytes)) = some (some (.agg #[(.string ⟨#[]⟩), (.int .i64 0), (.slice none 0 0)]), 3, 48) := by kernel_rfl
theorem info62 : (Try.prog.info? 62).map (fun i => (i.zero, i.size, i.bytes)) = some (some (.agg #[(.string ⟨#[]⟩), (.int .u8 0)]), 2, 24) := by kernel_rfl
structure S62 where
  f0 : ByteArray
  f1 : Int
def z62 : S62 := ⟨(⟨#[]⟩ : ByteArray), (0 : Int)⟩
def k62 : Kd S62 := Kd.iso (Kd.pair Kd.string (Kd.int .u8)) (fun x : S62 => (x.f0, x.f1))
theorem k62_open {w : World} {x : S62} {cs : List Value} (h : k62.K w x cs) : cs = [.string x.f0, .int .u8 x.f1] := by
  obtain ⟨_, _, rfl, rfl, rfl⟩ := h
  exact rfl
def rd_T62 (xs : List S62) (i : Int) : S62 := xs.getD i.toNat z62
theorem at_T62 {w : World} {A : Option Addr} {n : Nat} {xs : List S62} (h : Kd.C k62 w A n xs) (i : Int) (h0 : 0 ≤ i) (h1 : i < n) : ∃ ad , A = some ad ∧ w.cell? (ad.add (i.toNat * 2)) = some (.string (rd_T62 xs i).f0) ∧ w.cell? ⟨(ad.add (i.toNat * 2)).block, (ad.add (i.toNat * 2)).off + 1, none⟩ = some (.int .u8 (rd_T62 xs i).f1) := by
  obtain ⟨ad, c, e, _, hK, hc0⟩ := Kd.C_get h z62 i h0 h1
  have hc : ∀ j u, c[j]? = some u → w.cell? (ad.add (i.toNat * 2 + j)) = some u := hc0
  obtain rfl := k62_open hK
  exact ⟨ad, e, hc 0 _ rfl, by rw [← add_field _ _ 1 (by omega)]; exact hc 1 _ rfl⟩

structure S59 where
  f0 : ByteArray
  f1 : Int
  f2 : (List S62)
def z59 : S59 := ⟨(⟨#[]⟩ : ByteArray), (0 : Int), ([] : List S62)⟩
def k59 : Kd S59 := Kd.iso (Kd.pair Kd.string (Kd.pair (Kd.int .i64) (Kd.slice 62 k62))) (fun x : S59 => (x.f0, x.f1, x.f2))
theorem k59_open {w : World} {x : S59} {cs : List Value} (h : k59.K w x cs) : ∃ A2 c2, cs = [.string x.f0, .int .i64 x.f1, .slice A2 x.f2.length c2] ∧ x.f2.length ≤ c2 ∧ k62.C w A2 x.f2.length x.f2 := by
  obtain ⟨_, _, rfl, rfl, ⟨_, _, rfl, rfl, ⟨A2, c2, rfl, l2, g2⟩⟩⟩ := h
  exact ⟨A2, c2, rfl, l2, g2⟩
theorem k59_mkM (w : World) (base : Nat) (ok : Nat → Prop) (x : S59) {v2 : Value} (g2 : k62.R 62 w base ok v2 x.f2) : k59.M w base ok x [.string x.f0, .int .i64 x.f1, v2] := ⟨[.string x.f0], [.int .i64 x.f1, v2], rfl, rfl, ⟨[.int .i64 x.f1], [v2], rfl, rfl, ⟨v2, rfl, g2⟩⟩⟩
def rd_T59 (xs : List S59) (i : Int) : S59 := xs.getD i.toNat z59
theorem at_T59 {w : World} {A : Option Addr} {n : Nat} {xs : List S59} (h : Kd.C k59 w A n xs) (i : Int) (h0 : 0 ≤ i) (h1 : i < n) : ∃ ad A2 c2, A = some ad ∧ w.cell? (ad.add (i.toNat * 3)) = some (.string (rd_T59 xs i).f0) ∧ w.cell? ⟨(ad.add (i.toNat * 3)).block, (ad.add (i.toNat * 3)).off + 1, none⟩ = some (.int .i64 (rd_T59 xs i).f1) ∧ w.cell? ⟨(ad.add (i.toNat * 3)).block, (ad.add (i.toNat * 3)).off + 2, none⟩ = some (.slice A2 (rd_T59 xs i).f2.length c2) ∧ (rd_T59 xs i).f2.length ≤ c2 ∧ k62.C w A2 (rd_T59 xs i).f2.length (rd_T59 xs i).f2 := by
  obtain ⟨ad, c, e, _, hK, hc0⟩ := Kd.C_get h z59 i h0 h1
  have hc : ∀ j u, c[j]? = some u → w.cell? (ad.add (i.toNat * 3 + j)) = some u := hc0
  obtain ⟨A2, c2, rfl, l2, g2⟩ := k59_open hK
  exact ⟨ad, A2, c2, e, hc 0 _ rfl, by rw [← add_field _ _ 1 (by omega)]; exact hc 1 _ rfl, by rw [← add_field _ _ 2 (by omega)]; exact hc 2 _ rfl, l2, g2⟩

end Go.Proofs.Ytgjnmpgmbhbbhaa.P

end

section
namespace Go.Proofs.Ytgjnmpgmbhbbhaa.P
open Go.RowKit Go.Proofs.YtgjnmpgmbhbbhaaW.PrintWords Go.Proofs.Ytgjnmpgmbhbbhaa.Sees

def Ok62 (x : S62) : Prop := (fun s : ByteArray => s.size ≤ 140737488351232) x.f0 ∧ (fun n : Int => (Lit.int .u8 n).wf = true) x.f1
theorem sees62 : Sees Try.prog 62 k62 Ok62 := sees_struct (fun x : S62 => (x.f0, x.f1)) (fun y => ⟨y.1, y.2⟩) (fun _ => rfl) Try.underlying62 (by kernel_rfl) (sees_more rfl (by kernel_rfl) (sees_string Try.underlying9) (sees_last rfl (by kernel_rfl) (sees_int Try.underlying24)))
def Ok59 (x : S59) : Prop := (fun s : ByteArray => s.size ≤ 140737488351232) x.f0 ∧ (fun n : Int => (Lit.int .i64 n).wf = true) x.f1 ∧ (fun l : List (S62) => l.length ≤ 9223372036854775807 ∧ l.length * 24 ≤ 140737488351232 ∧ ∀ x ∈ l, Ok62 x) x.f2
theorem sees59 : Sees Try.prog 59 k59 Ok59 := sees_struct (fun x : S59 => (x.f0, x.f1, x.f2)) (fun y => ⟨y.1, y.2.1, y.2.2⟩) (fun _ => rfl) Try.underlying59 (by kernel_rfl) (sees_more rfl (by kernel_rfl) (sees_string Try.underlying9) (sees_more rfl (by kernel_rfl) (sees_int Try.underlying3) (sees_last rfl (by kernel_rfl) (sees_slice (B := 24) Try.underlying57 (by kernel_rfl) (by kernel_rfl) sees62))))
end Go.Proofs.Ytgjnmpgmbhbbhaa.P

end

section
namespace Go.Proofs.Ytgjnmpgmbhbbhaa.P
open Go.RowKit Go.Proofs.YtgjnmpgmbhbbhaaW.PrintWords Go.Proofs.YtgjnmpgmbhbbhaaW.PrintLast Go.Proofs.YtgjnmpgmbhbbhaaW.PrintMore
attribute [local go_sem] max2_int min2_int max_two min_two max_three min_three max_four min_four   -- for this text's walks alone
set_option linter.unusedVariables false
set_option linter.unusedSimpArgs false

section
variable {P : Program} {ops : Array Oper} {rest : List Oper} {o : Oper} {a : Act} {Q : Exit → Act → World → Prop}
theorem run_alloc_row {W : World} {t : TypeId} (ho : o.op = .alloc t) (cs : Array Value) (hz : (P.info? t).map (·.zero) = some (some (.agg cs))) : (execOp a.eval o).run P W = .ok (.value (.pointer (some ⟨W.heap.size, 0, none⟩))) (W.alloc (.cells cs t (0, 0))) := by
  unfold execOp
  cases hq : P.info? t with
  | none => simp [hq] at hz
  | some i =>
    have hs : i.zero = some (.agg cs) := by simpa [hq] using hz
    simp only [ho]
    simp [Instr.alloc, zeroValue, typeInfo, hq, hs, newVar, newRow, Value.cells, Sem.run_bind]
theorem alloc_row (hgd : o.guard = none) {W : World} (t : TypeId) (ho : o.op = .alloc t) (cs : Array Value) (hz : (P.info? t).map (·.zero) = some (some (.agg cs)))
    (h : ∀ g, g = W.heap.size → ∀ w1, w1.heap[g]? = some (.cells cs t (0, 0)) → Below W.heap.size W w1 → wpList P ops Q rest (a.put o.dst (.pointer (some ⟨g, 0, none⟩))) w1) : wpList P ops Q (o :: rest) a W :=
  Kd.event_run hgd (run_alloc_row ho cs hz) (h _ rfl _ (blk_new W _) (below_alloc (Below.refl _ _) _))
theorem run_box_row {W : World} {t : TypeId} {x : Operand} (ho : o.op = .box t x) (cs : Array Value) (hx : a.eval x = .agg cs) : (execOp a.eval o).run P W = .ok (.value (.pointer (some ⟨W.heap.size, 0, none⟩))) (W.alloc (.cells cs t (0, 0))) := by
  unfold execOp
  simp only [ho, hx]
  simp [Instr.box, newVar, newRow, Value.cells, Sem.run_bind]
theorem box_row (hgd : o.guard = none) {W : World} (t : TypeId) (x : Operand) (ho : o.op = .box t x) (cs : Array Value) (hx : a.eval x = .agg cs)
    (h : ∀ g, g = W.heap.size → ∀ w1, w1.heap[g]? = some (.cells cs t (0, 0)) → Below W.heap.size W w1 → wpList P ops Q rest (a.put o.dst (.pointer (some ⟨g, 0, none⟩))) w1) : wpList P ops Q (o :: rest) a W :=
  Kd.event_run hgd (run_box_row ho cs hx) (h _ rfl _ (blk_new W _) (below_alloc (Below.refl _ _) _))
theorem store_row (hgd : o.guard = none) {W : World} (ty : TypeId) (x y : Operand) (ho : o.op = .store ty x y) (g : Nat) (hx : a.eval x = .pointer (some ⟨g, 0, none⟩)) (cs : Array Value) (hy : a.eval y = .agg cs)
    {t : TypeId} {old : Array Value} (hb : W.heap[g]? = some (.cells old t (0, 0))) (hi : (P.info? ty).map (·.size) = some cs.size) (hs : old.size = cs.size) (h1 : cs.all (·.oneCell') = true)
    (h : ∀ w1, w1.heap[g]? = some (.cells cs t (0, 0)) → Kept W w1 (fun k => k = g) → (∀ (B : Nat) (w0 : World), B ≤ g → Below B w0 W → Below B w0 w1) → wpList P ops Q rest (a.put o.dst undef) w1) : wpList P ops Q (o :: rest) a W := by
  refine wpList_plain hgd fun K hK => ?_
  unfold Oper.wp execOp
  simp only [ho, hx, hy, Instr.storeAt, Instr.sureAddr, Sem.run_bind, Sem.run_pure, Result.andThen_ok, run_storeVar_row W g t ty old cs hb hi hs h1]
  refine hK _ _ (h _ (setRow_heap W g old cs t (0, 0) hb) ⟨by simp, fun i _ hn => setRow_other W g i cs hn⟩ (fun B w0 hB hw => ⟨hw.os, hw.tape, hw.output, by simpa using hw.size, fun k hk => (setRow_other W g k cs (by omega)).trans (hw.block k hk)⟩))
end
structure Fr where
  loc : Int
  hgt : Int
  sl : List Int
def Fr.v (x : Fr) : List Value := .int .i64 x.loc :: .int .i64 x.hgt :: x.sl.map (.int .u8)
def Fr.a (x : Fr) : Array Value := x.v.toArray
def Fr.ok (x : Fr) : Prop := x.sl.length = 24
def Fr.zero : Fr := ⟨0, 0, List.replicate 24 0⟩
theorem Fr.zero_ok : Fr.zero.ok := rfl
structure FrAt (g : Nat) (x : Fr) (W : World) : Prop where
  blk : W.heap[g]? = some (.cells x.a 27 (0, 0))
theorem Fr.size {x : Fr} (h : x.ok) : x.a.size = 26 := by
  unfold Fr.a Fr.v
  simp [h, Fr.ok] at *
  exact h
theorem Fr.info {x : Fr} (h : x.ok) : (Try.prog.info? 27).map (·.size) = some x.a.size := by
  rw [Fr.size h]
  kernel_rfl
theorem Fr.one (x : Fr) : x.a.all (·.oneCell') = true := all_oneCell_toArray (fun v hv => by
  unfold Fr.v at hv
  simp only [List.mem_cons, List.mem_map] at hv
  rcases hv with rfl | rfl | ⟨y, _, rfl⟩ <;> rfl)
theorem Fr.zero_is : (Try.prog.info? 27).map (·.zero) = some (some (.agg Fr.zero.a)) := by kernel_rfl
theorem FrAt.c0 {g : Nat} {x : Fr} {W : World} (h : FrAt g x W) : W.cell? ⟨g, 0, none⟩ = some (.int .i64 x.loc) := blk_cell h.blk 0
theorem FrAt.c1 {g : Nat} {x : Fr} {W : World} (h : FrAt g x W) : W.cell? ⟨g, 1, none⟩ = some (.int .i64 x.hgt) := blk_cell h.blk 1
theorem FrAt.cs {g : Nat} {x : Fr} {W : World} (h : FrAt g x W) (i : Nat) (hi : i < x.sl.length) : W.cell? ⟨g, 2 + i, none⟩ = some (.int .u8 x.sl[i]) := (blk_cell h.blk (2 + i)).trans (by
  unfold Fr.a Fr.v
  rw [List.getElem?_toArray, show 2 + i = i + 1 + 1 by omega, List.getElem?_cons_succ, List.getElem?_cons_succ, List.getElem?_map, List.getElem?_eq_getElem hi]
  rfl)
theorem FrAt.fz {g : Nat} {x : Fr} {W : World} (h : FrAt g x W) (i : Nat) : W.frozen? ⟨g, i, none⟩ = false := blk_frozen h.blk i
theorem FrAt.slot {g : Nat} {x : Fr} {W : World} (h : FrAt g x W) (i : Nat) (t : Int) : FrAt g ⟨x.loc, x.hgt, x.sl.set i t⟩ (W.setCell ⟨g, 2 + i, none⟩ (.int .u8 t)) := ⟨blk_put h.blk (2 + i) _ (by
  apply Array.ext_getElem?
  intro j
  unfold Fr.a Fr.v
  simp only [List.setIfInBounds_toArray, List.getElem?_toArray]
  congr 1
  rw [show 2 + i = i + 1 + 1 by omega]
  simp)⟩
theorem FrAt.high {g : Nat} {x : Fr} {W : World} (h : FrAt g x W) (n : Int) : FrAt g ⟨x.loc, n, x.sl⟩ (W.setCell ⟨g, 1, none⟩ (.int .i64 n)) := ⟨blk_put h.blk 1 _ (by
  unfold Fr.a Fr.v
  simp)⟩
structure Frs (w0 : World) (l : List (Nat × Fr)) (W : World) : Prop where
  lies : ∀ p ∈ l, FrAt p.1 p.2 W ∧ p.2.ok ∧ w0.heap.size ≤ p.1
  ne : (l.map Prod.fst).Nodup
  below : Below w0.heap.size w0 W
theorem Frs.nil (w : World) : Frs w [] w := ⟨fun _ h => by simp at h, by simp, Below.refl _ _⟩
theorem Frs.step {w0 W W1 : World} {l : List (Nat × Fr)} (h : Frs w0 l W) (hb : Below W.heap.size W W1) : Frs w0 l W1 := ⟨fun p hp => ⟨⟨blk_below (h.lies p hp).1.blk hb⟩, (h.lies p hp).2⟩, h.ne, below_step h.below hb⟩
theorem Frs.drewN {w0 W : World} {l : List (Nat × Fr)} (h : Frs w0 l W) (m : Nat) : Frs w0 l (W.drewN m) := h.step (pw_below_drewN (Below.refl _ _) m)
theorem Frs.add {w0 W W1 : World} {l : List (Nat × Fr)} (h : Frs w0 l W) {g : Nat} (hg : g = W.heap.size) {x : Fr} (hx : FrAt g x W1) (ho : x.ok) (hb : Below W.heap.size W W1) : Frs w0 ((g, x) :: l) W1 := by
  have h1 := h.step hb
  refine ⟨fun p hp => ?_, ?_, h1.below⟩
  · rcases List.mem_cons.1 hp with rfl | hp
    · exact ⟨hx, ho, by have := h.below.size; subst hg; exact this⟩
    · exact h1.lies p hp
  · rw [List.map_cons, List.nodup_cons]
    refine ⟨fun hm => ?_, h.ne⟩
    obtain ⟨p, hp, e⟩ := List.mem_map.1 hm
    have := blk_lt (h.lies p hp).1.blk
    simp only at e
    omega
theorem Frs.put {w0 W W1 : World} (l1 : List (Nat × Fr)) {l2 : List (Nat × Fr)} {g : Nat} {x x' : Fr} (h : Frs w0 (l1 ++ (g, x) :: l2) W) (hx : FrAt g x' W1) (ho : x'.ok) (hk : Kept W W1 (fun k => k = g)) (hb : ∀ (B : Nat) (w0 : World), B ≤ g → Below B w0 W → Below B w0 W1) : Frs w0 (l1 ++ (g, x') :: l2) W1 := by
  have hn : ((l1 ++ (g, x) :: l2).map Prod.fst) = ((l1 ++ (g, x') :: l2).map Prod.fst) := by simp
  have hd := h.ne
  rw [List.map_append, List.map_cons] at hd
  have hne : ∀ p, p ∈ l1 ∨ p ∈ l2 → p.1 ≠ g := by
    intro p hp e
    have h2 := List.nodup_append.1 hd
    rcases hp with hp | hp
    · exact h2.2.2 p.1 (List.mem_map_of_mem hp) g (by simp) e
    · have := (List.nodup_cons.1 h2.2.1).1
      exact this (List.mem_map.2 ⟨p, hp, e⟩)
  have hg := (h.lies (g, x) (by simp)).2.2
  refine ⟨fun p hp => ?_, hn ▸ h.ne, hb _ _ hg h.below⟩
  have hcase : p = (g, x') ∨ p ∈ l1 ∨ p ∈ l2 := by
    rcases List.mem_append.1 hp with h1 | h1
    · exact .inr (.inl h1)
    · rcases List.mem_cons.1 h1 with h1 | h1
      · exact .inl h1
      · exact .inr (.inr h1)
  rcases hcase with rfl | hc
  · exact ⟨hx, ho, hg⟩
  · have hm : p ∈ l1 ++ (g, x) :: l2 := by
      rcases hc with h1 | h1
      · exact List.mem_append_left _ h1
      · exact List.mem_append_right _ (List.mem_cons_of_mem _ h1)
    have h2 := h.lies p hm
    exact ⟨⟨blk_kept h2.1.blk hk (hne p hc)⟩, h2.2⟩
theorem Frs.slot {w0 W : World} (l1 : List (Nat × Fr)) {l2 : List (Nat × Fr)} {g : Nat} {x : Fr} (h : Frs w0 (l1 ++ (g, x) :: l2) W) (i : Nat) (t : Int) : Frs w0 (l1 ++ (g, ⟨x.loc, x.hgt, x.sl.set i t⟩) :: l2) (W.setCell ⟨g, 2 + i, none⟩ (.int .u8 t)) :=
  h.put l1 ((h.lies (g, x) (by simp)).1.slot i t) (by have := (h.lies (g, x) (by simp)).2.1; unfold Fr.ok at *; rw [List.length_set]; exact this) (Kept.setCell (S := fun k => k = g) (Kept.refl _ _) (.inl rfl) _) (fun B w1 hB hb => hb.setCell hB _)
theorem Frs.high {w0 W : World} (l1 : List (Nat × Fr)) {l2 : List (Nat × Fr)} {g : Nat} {x : Fr} (h : Frs w0 (l1 ++ (g, x) :: l2) W) (n : Int) : Frs w0 (l1 ++ (g, ⟨x.loc, n, x.sl⟩) :: l2) (W.setCell ⟨g, 1, none⟩ (.int .i64 n)) :=
  h.put l1 ((h.lies (g, x) (by simp)).1.high n) (h.lies (g, x) (by simp)).2.1 (Kept.setCell (S := fun k => k = g) (Kept.refl _ _) (.inl rfl) _) (fun B w1 hB hb => hb.setCell hB _)
theorem Frs.at0 {w0 W : World} {l : List (Nat × Fr)} {g : Nat} {x : Fr} (h : Frs w0 ((g, x) :: l) W) : FrAt g x W := (h.lies (g, x) (by simp)).1
theorem Frs.at1 {w0 W : World} {l : List (Nat × Fr)} {p : Nat × Fr} {g : Nat} {x : Fr} (h : Frs w0 (p :: (g, x) :: l) W) : FrAt g x W := (h.lies (g, x) (by simp)).1
theorem Frs.at2 {w0 W : World} {l : List (Nat × Fr)} {p q : Nat × Fr} {g : Nat} {x : Fr} (h : Frs w0 (p :: q :: (g, x) :: l) W) : FrAt g x W := (h.lies (g, x) (by simp)).1
theorem Frs.mem {w0 W : World} {l : List (Nat × Fr)} (h : Frs w0 l W) {g : Nat} {x : Fr} (hm : (g, x) ∈ l) : FrAt g x W ∧ x.ok := ⟨(h.lies _ hm).1, (h.lies _ hm).2.1⟩
def frEq (f g : Fr) : Bool := (f.loc == g.loc) && ((f.hgt == g.hgt) && (f.sl == g.sl))
theorem frEq_iff (f g : Fr) : frEq f g = true ↔ f = g := by
  obtain ⟨a, b, c⟩ := f
  obtain ⟨d, e, h⟩ := g
  simp [frEq]
theorem eq_items (d e : Nat) (k : IntKind) (he : Try.prog.underlying e = some (.int k)) (xs ys : Array Value) (l m : List Int) (W : World) : ∀ (is : List Nat), (∀ i ∈ is, ∃ x y, l[i]? = some x ∧ m[i]? = some y ∧ xs[i]? = some (.int k x) ∧ ys[i]? = some (.int k y)) → (Op.eqItems (d + 1) e 1 xs ys is).run Try.prog W = .ok (is.all (fun i => l[i]? == m[i]?)) W
  | [], _ => by simp [Op.eqItems]
  | i :: is, h => by
    obtain ⟨x, y, h1, h2, h3, h4⟩ := h i List.mem_cons_self
    have ih := eq_items d e k he xs ys l m W is (fun j hj => h j (List.mem_cons_of_mem _ hj))
    have hp : ∀ (cs : Array Value) (v : Value), cs[i]? = some v → (part e cs (i * 1)).run Try.prog W = .ok v W := fun cs v hv => by
      simp [part, isAgg, run_underlying he, hv]
    simp only [Op.eqItems, Sem.run_bind, hp xs _ h3, hp ys _ h4, Result.andThen_ok, run_equalIn_int W d e k k x y he, List.all_cons, h1, h2]
    by_cases e1 : x = y
    · subst e1
      simpa using ih
    · simp [e1]
theorem frEq_run (f g : Fr) (hf : f.ok) (hg : g.ok) (W : World) : (Op.equal 27 (.agg f.a) (.agg g.a)).run Try.prog W = .ok (frEq f g) W := by
  have hlen : f.sl.length = 24 ∧ g.sl.length = 24 := ⟨hf, hg⟩
  have hu := Try.underlying27
  refine eqA_of (d := 9999) hu (by kernel_rfl) ?_
  have hint : ∀ (cs : Array Value) (i : Nat) (v : Value), cs[i]? = some v → (part 3 cs i).run Try.prog W = .ok v W := fun cs i v hv => by
    simp [part, isAgg, run_underlying Try.underlying3, hv]
  have harr : ∀ (x : Fr), x.sl.length = 24 → (part 25 x.a 2).run Try.prog W = .ok (.agg (x.sl.map (Value.int .u8)).toArray) W := fun x hx => by
    have hsz : (sizeOf 25).run Try.prog W = .ok 24 W := by kernel_rfl
    have hex : x.a.extract 2 26 = (x.sl.map (Value.int .u8)).toArray := by
      unfold Fr.a Fr.v
      apply Array.ext'
      simp only [List.extract_toArray, List.extract_eq_take_drop, List.drop_succ_cons, List.drop_zero]
      exact List.take_of_length_le (by rw [List.length_map, hx]; omega)
    simp [part, isAgg, run_underlying Try.underlying25, hsz, hex]
  have hitems : (Op.equalIn 9999 25 (.agg (f.sl.map (Value.int .u8)).toArray) (.agg (g.sl.map (Value.int .u8)).toArray)).run Try.prog W = .ok (f.sl == g.sl) W := by
    obtain ⟨i, hi⟩ := info_of_underlying Try.underlying24
    rw [run_equalIn_array W 9998 _ _ Try.underlying25 hi, show Try.prog.cellsOf 24 = 1 by kernel_rfl]
    rw [eq_items 9997 24 .u8 Try.underlying24 _ _ f.sl g.sl W (List.range 24) (fun i hi => by
      have := List.mem_range.1 hi
      exact ⟨f.sl[i], g.sl[i], by simp, by simp, by simp, by simp⟩)]
    congr 1
    rw [Bool.eq_iff_iff]
    simp only [List.all_eq_true, List.mem_range, beq_iff_eq]
    constructor
    · intro h
      apply List.ext_getElem?
      intro i
      by_cases hi : i < 24
      · exact h i hi
      · rw [List.getElem?_eq_none (by omega), List.getElem?_eq_none (by omega)]
    · rintro h i _
      rw [h]
  refine eqf_cons rfl (hint _ 0 _ rfl) (hint _ 0 _ rfl) (run_equalIn_int W 9998 3 .i64 .i64 _ _ Try.underlying3) ?_
  refine eqf_cons rfl (hint _ 1 _ rfl) (hint _ 1 _ rfl) (run_equalIn_int W 9998 3 .i64 .i64 _ _ Try.underlying3) ?_
  exact eqf_last rfl (harr f hlen.1) (harr g hlen.2) hitems
section
variable {ops : Array Oper} {rest : List Oper} {o : Oper} {a : Act} {Q : Exit → Act → World → Prop}
theorem fr_load (hgd : o.guard = none) {x : Operand} (ho : o.op = .load 27 x) {g : Nat} (hx : a.eval x = .pointer (some ⟨g, 0, none⟩)) {w0 W : World} {l : List (Nat × Fr)} (hl : Frs w0 l W) {f : Fr} (hm : (g, f) ∈ l)
    (h : wpList Try.prog ops Q rest (a.put o.dst (.agg f.a)) W) : wpList Try.prog ops Q (o :: rest) a W :=
  wpList_load_row hgd 27 x ho g hx 27 f.a (0, 0) _ (hl.mem hm).1.blk Try.underlying27 rfl (Fr.info (hl.mem hm).2) h
theorem fr_store (hgd : o.guard = none) {x y : Operand} (ho : o.op = .store 27 x y) {g : Nat} (hx : a.eval x = .pointer (some ⟨g, 0, none⟩)) {f' : Fr} (hy : a.eval y = .agg f'.a) (ho' : f'.ok) {w0 W : World} (l1 : List (Nat × Fr)) {l2 : List (Nat × Fr)} {f : Fr} (hl : Frs w0 (l1 ++ (g, f) :: l2) W)
    (h : ∀ w1, Frs w0 (l1 ++ (g, f') :: l2) w1 → wpList Try.prog ops Q rest (a.put o.dst undef) w1) : wpList Try.prog ops Q (o :: rest) a W :=
  have hg := hl.mem (g := g) (x := f) (by simp)
  store_row hgd 27 x y ho g hx f'.a hy hg.1.blk (Fr.info ho') (by rw [Fr.size ho', Fr.size hg.2]) f'.one (fun w1 h1 h2 h3 => h w1 (hl.put l1 ⟨h1⟩ ho' h2 h3))
theorem fr_alloc (hgd : o.guard = none) (ho : o.op = .alloc 27) {w0 W : World} {l : List (Nat × Fr)} (hl : Frs w0 l W)
    (h : ∀ g w1, Frs w0 ((g, Fr.zero) :: l) w1 → wpList Try.prog ops Q rest (a.put o.dst (.pointer (some ⟨g, 0, none⟩))) w1) : wpList Try.prog ops Q (o :: rest) a W :=
  alloc_row hgd 27 ho _ Fr.zero_is (fun g hg w1 h1 h2 => h g w1 (hl.add hg ⟨h1⟩ Fr.zero_ok h2))
theorem fr_box (hgd : o.guard = none) {x : Operand} (ho : o.op = .box 27 x) {f : Fr} (hx : a.eval x = .agg f.a) (hf : f.ok) {w0 W : World} {l : List (Nat × Fr)} (hl : Frs w0 l W)
    (h : ∀ g w1, Frs w0 ((g, f) :: l) w1 → wpList Try.prog ops Q rest (a.put o.dst (.pointer (some ⟨g, 0, none⟩))) w1) : wpList Try.prog ops Q (o :: rest) a W :=
  box_row hgd 27 x ho f.a hx (fun g hg w1 h1 h2 => h g w1 (hl.add hg ⟨h1⟩ hf h2))
theorem fr_build0 (hgd : o.guard = none) (ho : o.op = .build 27 #[]) {W : World} (h : wpList Try.prog ops Q rest (a.put o.dst (.agg Fr.zero.a)) W) : wpList Try.prog ops Q (o :: rest) a W :=
  Kd.event_run hgd (by unfold execOp; simp only [ho, List.map_toArray, List.map_nil]; first | kernel_rfl | (go_simp; done) | (go_simp; rfl)) h
theorem fr_build1 (hgd : o.guard = none) {x : Operand} (ho : o.op = .build 27 #[(0, x)]) {n : Int} (hx : a.eval x = .int .i64 n) {W : World} (h : wpList Try.prog ops Q rest (a.put o.dst (.agg (⟨n, 0, List.replicate 24 0⟩ : Fr).a)) W) : wpList Try.prog ops Q (o :: rest) a W :=
  Kd.event_run hgd (by unfold execOp; simp only [ho, List.map_toArray, List.map_cons, List.map_nil, hx]; first | kernel_rfl | (go_simp; done) | (go_simp; rfl)) h
theorem fr_build2 (hgd : o.guard = none) {x y : Operand} (ho : o.op = .build 27 #[(0, x), (1, y)]) {n m : Int} (hx : a.eval x = .int .i64 n) (hy : a.eval y = .int .i64 m) {W : World} (h : wpList Try.prog ops Q rest (a.put o.dst (.agg (⟨n, m, List.replicate 24 0⟩ : Fr).a)) W) : wpList Try.prog ops Q (o :: rest) a W :=
  Kd.event_run hgd (by unfold execOp; simp only [ho, List.map_toArray, List.map_cons, List.map_nil, hx, hy]; first | kernel_rfl | (go_simp; done) | (go_simp; rfl)) h
end
theorem fr_ret1 {fn : Func} {p : Tmp} (h : fn.results = #[.cell p 27]) (tmps : Array Value) {w0 W : World} {l : List (Nat × Fr)} (hl : Frs w0 l W) {g : Nat} {f : Fr} (hm : (g, f) ∈ l) (hp : tmps.getD p undef = .pointer (some ⟨g, 0, none⟩)) :
    (results fn tmps).run Try.prog W = .ok (.agg f.a) W :=
  results_cell_row h tmps W g 27 f.a (0, 0) _ hp (hl.mem hm).1.blk Try.underlying27 rfl (Fr.info (hl.mem hm).2)
def Fr.shp (f : Fr) : Bool := decide (0 ≤ f.loc) && (decide (f.loc ≤ 16) && (decide (0 ≤ f.hgt) && decide (f.hgt ≤ 24 - f.loc)))
def Fr.i64 (f : Fr) : Prop := (-9223372036854775808 ≤ f.loc ∧ f.loc ≤ 9223372036854775807) ∧ (-9223372036854775808 ≤ f.hgt ∧ f.hgt ≤ 9223372036854775807)
set_option maxHeartbeats 1600000 in
set_option maxRecDepth 100000 in
theorem shaped_calls (f : Fr) (hf : f.ok) (w : World) : Calls Try.prog 45 #[.agg f.a] w fun e w' => e = .returned (.bool f.shp) ∧ Below w.heap.size w w' := by
  have HF := Aside0.mk hf
  have HA := Aside0.mk (Frs.nil w)
  clear hf
  go_enter Try.func45, Try.ntmps45
  go_wp2_with (first | (refine fr_box rfl rfl (f := f) rfl HF.out HA.out ?_; intro g w1 hA; have hc0 := hA.at0.c0; have hc1 := hA.at0.c1; replace HA := Aside0.mk hA; clear hA))
  all_goals
    go_ret
    refine ⟨?_, HA.out.below⟩
    clear hc0 hc1
    first
      | (simp [Fr.shp, *]; done)
      | (simp [Fr.shp, *]; omega)
set_option maxHeartbeats 1600000 in
set_option maxRecDepth 100000 in
theorem Shape_calls (f : Fr) (hf : f.ok) (w : World) : Calls Try.prog 47 #[.agg f.a] w fun e w' => e = .returned (.bool f.shp) ∧ Below w.heap.size w w' := by
  have HF := Aside0.mk hf
  have HA := Aside0.mk (Frs.nil w)
  clear hf
  go_enter Try.func47, Try.ntmps47
  go_wp2_with (first | (refine fr_box rfl rfl (f := f) rfl HF.out HA.out ?_; intro g w1 hA; have hc0 := hA.at0.c0; have hc1 := hA.at0.c1; replace HA := Aside0.mk hA; clear hA))
  all_goals
    go_ret
    refine ⟨?_, HA.out.below⟩
    clear hc0 hc1
    first
      | (simp [Fr.shp, *]; done)
      | (simp [Fr.shp, *]; omega)
def Fr.bare (L H : Nat) (sl : List Int) : Fr := ⟨(L : Int), (H : Int), sl.take (L + H) ++ List.replicate (24 - (L + H)) 0⟩
theorem Fr.bare_ok {L H : Nat} {sl : List Int} (hf : sl.length = 24) (hn : L + H ≤ 24) : (Fr.bare L H sl).ok := by
  unfold Fr.ok Fr.bare
  simp only [List.length_append, List.length_take, List.length_replicate, hf]
  omega
theorem copy_fr {w0 W : World} {g1 g3 : Nat} {L H : Nat} {sl : List Int} {l : List (Nat × Fr)} {n : Nat} (hf : sl.length = 24) (hn : n = L + H) (hle : n ≤ 24) (h : Frs w0 ((g3, ⟨(L : Int), (H : Int), List.replicate 24 0⟩) :: l) W) (hm : (g1, (⟨(L : Int), (H : Int), sl⟩ : Fr)) ∈ l) (ty : TypeId) :
    ∃ W', (Builtin.copy_ #[23, 23] ty #[.slice (some ⟨g3, 2, none⟩) n 24, .slice (some ⟨g1, 2, none⟩) 24 24]).run Try.prog W = .ok (goInt n) W' ∧ Frs w0 ((g3, Fr.bare L H sl) :: l) W' := by
  have h1 := (h.lies (g1, _) (List.mem_cons_of_mem _ hm)).1
  have h3 := (h.lies (g3, _) List.mem_cons_self).1
  have hlen : ((sl.take n).map (Value.int .u8)).length = n := by rw [List.length_map, List.length_take]; omega
  have hrun := run_copy_row (P := Try.prog) W 23 23 ty 24 g3 2 n 24 ⟨g1, 2, none⟩ 24 24 _ 27 ((sl.take n).map (Value.int .u8)) Try.underlying23 (by kernel_rfl) h3.blk (by rw [hlen]; exact (Nat.min_eq_right hle).symm)
    (fun j u hj => by
      have hj2 : j < n := by
        have := (List.getElem?_eq_some_iff.1 hj).1
        omega
      have hc := h1.cs j (by show j < sl.length; omega)
      have e : u = Value.int .u8 (sl[j]'(by omega)) := by
        rw [List.getElem?_map, List.getElem?_take_of_lt hj2, List.getElem?_eq_getElem (by omega)] at hj
        exact (Option.some.inj hj).symm
      rw [e, Addr.add_mid]
      exact hc)
    (by rw [hlen]; unfold Fr.a Fr.v; simp; omega) (fun u hu => by
      obtain ⟨x, _, rfl⟩ := List.mem_map.1 hu
      rfl)
  rw [hlen] at hrun
  refine ⟨_, hrun, h.put [] ⟨?_⟩ (Fr.bare_ok hf (by omega)) ⟨by simp, fun k _ hk => setRow_other W g3 k _ hk⟩ (fun B w1 hB hw => ⟨hw.os, hw.tape, hw.output, by simpa using hw.size, fun k hk => (setRow_other W g3 k _ (by omega)).trans (hw.block k hk)⟩)⟩
  rw [setRow_heap W g3 _ _ _ _ h3.blk]
  congr 2
  subst hn
  unfold Fr.a Fr.v Fr.bare
  simp only [List.take_succ_cons, List.take_zero, List.drop_succ_cons, Nat.add_comm 2, List.map_append, List.map_replicate, List.cons_append, List.nil_append, List.drop_replicate]
set_option maxHeartbeats 1600000 in
set_option maxRecDepth 100000 in
theorem bare_calls (L H : Nat) (sl : List Int) (hf : sl.length = 24) (hn : L + H ≤ 24) (w : World) : Calls Try.prog 46 #[.agg (⟨(L : Int), (H : Int), sl⟩ : Fr).a] w fun e w' => e = .returned (.agg (Fr.bare L H sl).a) ∧ Below w.heap.size w w' := by
  have HF := Aside0.mk hf
  have HA := Aside0.mk (Frs.nil w)
  obtain ⟨n, hnn⟩ : ∃ n, n = L + H := ⟨_, rfl⟩
  have hs1 : IntKind.i64.wrap ((L : Int) + (H : Int)) = (n : Int) := by rw [IntKind.wrap_i64]; omega
  have p1 : (0 ≤ (n : Int)) = True := eq_true (by omega)
  have p2 : ((n : Int) ≤ 24) = True := eq_true (by omega)
  have HN := Aside0.mk hnn
  clear hnn
  clear hf
  go_enter Try.func46, Try.ntmps46
  go_upto_region 2 with (first | ((with_reducible refine gate_dst (N := 1) rfl ?_); refine fr_box rfl rfl (f := ⟨(L : Int), (H : Int), sl⟩) rfl HF.out HA.out ?_; intro g1 w1 hA; replace HA := Aside0.mk hA; clear hA) | ((with_reducible refine gate_dst (N := 2) rfl ?_); refine fr_alloc rfl rfl HA.out ?_; intro g2 w2 hA; have hc0 := hA.at1.c0; have hc1 := hA.at1.c1; replace HA := Aside0.mk hA; clear hA) | ((with_reducible refine gate_dst (N := 8) rfl ?_); refine fr_build2 rfl rfl rfl rfl ?_) | ((with_reducible refine gate_dst (N := 3) rfl ?_); refine fr_alloc rfl rfl HA.out ?_; intro g3 w3 hA; replace HA := Aside0.mk hA; clear hA) | ((with_reducible refine gate_ (.store 27 (.tmp 3) (.tmp 8)) rfl ?_); refine fr_store rfl rfl rfl (f' := ⟨(L : Int), (H : Int), List.replicate 24 0⟩) rfl rfl [] HA.out ?_; intro w4 hA; replace HA := Aside0.mk hA; clear hA))
  obtain ⟨w6, hrun, hA6⟩ := copy_fr (g1 := g1) (W := w4.drew) (n := n) (l := [(g2, Fr.zero), (g1, ⟨(L : Int), (H : Int), sl⟩)]) HF.out HN.out (by have := HN.out; omega) (HA.out.drewN 1) (by simp) 3
  have hq0 := HA.out.at2.c0
  have hq1 := HA.out.at2.c1
  have hr0 := hA6.at2.c0
  have hr1 := hA6.at2.c1
  have HA6 := Aside0.mk hA6
  clear hc0 hc1 hA6 HA
  simp only [Act.put, List.setIfInBounds_toArray, List.set_cons_zero, List.set_cons_succ]
  go_region_held3 (fun w' => w'.cell? ⟨g1, 0, none⟩ = some (.int .i64 (L : Int)) ∧ w'.cell? ⟨g1, 1, none⟩ = some (.int .i64 (H : Int))) (first | (exact ⟨hq0, hq1⟩) | (exact ⟨hr0, hr1⟩)) (fail)
  clear hq0 hq1 hr0 hr1 hrun
  go_wp2_with (first | ((with_reducible refine gate_dst (N := 19) rfl ?_); refine fr_load rfl rfl rfl HA6.out (List.mem_cons_self) ?_) | ((with_reducible refine gate_ (.store 27 (.tmp 2) (.tmp 19)) rfl ?_); refine fr_store rfl rfl rfl (f' := Fr.bare L H sl) rfl (Fr.bare_ok HF.out hn) [(g3, Fr.bare L H sl)] HA6.out ?_; intro w7 hA; have HA7 := Aside0.mk hA; clear hA))
  exact bodyPost_ret (fr_ret1 rfl _ HA7.out (by simp) rfl) rfl ⟨rfl, HA7.out.below⟩
section
variable {ops : Array Oper} {rest : List Oper} {o : Oper} {a : Act} {Q : Exit → Act → World → Prop}
theorem run_load_cell {W : World} {ty : TypeId} {x : Operand} (ho : o.op = .load ty x) {ad : Addr} (hx : a.eval x = .pointer (some ad)) {k k' : IntKind} (hu : Try.prog.underlying ty = some (.int k')) (hi : (Try.prog.info? ty).map (·.size) = some 1) {n : Int} (hc : W.cell? ad = some (.int k n)) : (execOp a.eval o).run Try.prog W = .ok (.value (.int k n)) W := by
  unfold execOp
  simp only [ho, hx]
  cases hq : Try.prog.info? ty with
  | none => simp [hq] at hi
  | some i =>
    have hs : i.size = 1 := by simpa [hq] using hi
    simp [Instr.loadAt, Instr.sureAddr, loadVar, isAgg, run_underlying hu, Sem.run_bind]
    go_simp
theorem fr_load0 (hgd : o.guard = none) {x : Operand} (ho : o.op = .load 3 x) {g : Nat} (hx : a.eval x = .pointer (some ⟨g, 0, none⟩)) {w0 W : World} {l : List (Nat × Fr)} (hl : Frs w0 l W) {f : Fr} (hm : (g, f) ∈ l)
    (h : wpList Try.prog ops Q rest (a.put o.dst (.int .i64 f.loc)) W) : wpList Try.prog ops Q (o :: rest) a W :=
  Kd.event_run hgd (run_load_cell ho hx Try.underlying3 (by kernel_rfl) (hl.mem hm).1.c0) h
theorem fr_load1 (hgd : o.guard = none) {x : Operand} (ho : o.op = .load 3 x) {g : Nat} (hx : a.eval x = .pointer (some ⟨g, 1, none⟩)) {w0 W : World} {l : List (Nat × Fr)} (hl : Frs w0 l W) {f : Fr} (hm : (g, f) ∈ l)
    (h : wpList Try.prog ops Q rest (a.put o.dst (.int .i64 f.hgt)) W) : wpList Try.prog ops Q (o :: rest) a W :=
  Kd.event_run hgd (run_load_cell ho hx Try.underlying3 (by kernel_rfl) (hl.mem hm).1.c1) h
theorem fr_loads (hgd : o.guard = none) {x : Operand} (ho : o.op = .load 24 x) {g i : Nat} (hx : a.eval x = .pointer (some ⟨g, 2 + i, none⟩)) {w0 W : World} {l : List (Nat × Fr)} (hl : Frs w0 l W) {f : Fr} (hm : (g, f) ∈ l) (hi : i < 24)
    (h : wpList Try.prog ops Q rest (a.put o.dst (.int .u8 (f.sl.getD i 0))) W) : wpList Try.prog ops Q (o :: rest) a W := by
  have h1 := hl.mem hm
  have hl2 : f.sl.length = 24 := h1.2
  have hc := h1.1.cs i (by omega)
  rw [show f.sl[i]'(by omega) = f.sl.getD i 0 by rw [List.getD_eq_getElem?_getD, List.getElem?_eq_getElem (by omega)]; rfl] at hc
  exact Kd.event_run hgd (run_load_cell ho hx Try.underlying24 (by kernel_rfl) hc) h
end
section
variable {ops : Array Oper} {rest : List Oper} {o : Oper} {a : Act} {Q : Exit → Act → World → Prop}
theorem fr_guard {W : World} {gd : Nat × Bool} (_hg : o.guard = some gd) (hw : Region.wanted o (yielded ops a.tmps) = true) (h : wpList Try.prog ops Q ({ o with guard := none } :: rest) a W) : wpList Try.prog ops Q (o :: rest) a W := gate_guard hw h
end
theorem Fr.shp_nat {f : Fr} (h : f.shp = true) : ∃ (L H : Nat) (sl : List Int), f = ⟨(L : Int), (H : Int), sl⟩ ∧ L ≤ 16 ∧ L + H ≤ 24 := by
  obtain ⟨a, b, c⟩ := f
  simp [Fr.shp] at h
  exact ⟨a.toNat, b.toNat, c, by rw [Int.toNat_of_nonneg (by omega), Int.toNat_of_nonneg (by omega)], by omega, by omega⟩
theorem shaped_true {f : Fr} (hs : f.shp = true) (hf : f.ok) (w : World) : Calls Try.prog 45 #[.agg f.a] w fun e w' => e = .returned (.bool true) ∧ Below w.heap.size w w' := by
  have h := shaped_calls f hf w
  rw [hs] at h
  exact h
theorem shaped_false {f : Fr} (hs : f.shp = false) (hf : f.ok) (w : World) : Calls Try.prog 45 #[.agg f.a] w fun e w' => e = .returned (.bool false) ∧ Below w.heap.size w w' := by
  have h := shaped_calls f hf w
  rw [hs] at h
  exact h
theorem Shape_true {f : Fr} (hs : f.shp = true) (hf : f.ok) (w : World) : Calls Try.prog 47 #[.agg f.a] w fun e w' => e = .returned (.bool true) ∧ Below w.heap.size w w' := by
  have h := Shape_calls f hf w
  rw [hs] at h
  exact h
theorem Shape_false {f : Fr} (hs : f.shp = false) (hf : f.ok) (w : World) : Calls Try.prog 47 #[.agg f.a] w fun e w' => e = .returned (.bool false) ∧ Below w.heap.size w w' := by
  have h := Shape_calls f hf w
  rw [hs] at h
  exact h
section
variable {ops : Array Oper} {rest : List Oper} {o : Oper} {a : Act} {Q : Exit → Act → World → Prop}
theorem run_store_cell {W : World} {ty : TypeId} {x y : Operand} (ho : o.op = .store ty x y) {ad : Addr} (hx : a.eval x = .pointer (some ad)) {k k' : IntKind} {n : Int} (hy : a.eval y = .int k n) (hu : Try.prog.underlying ty = some (.int k')) (hi : (Try.prog.info? ty).map (·.size) = some 1) {u : Value} (hc : W.cell? ad = some u) (hf : W.frozen? ad = false) : (execOp a.eval o).run Try.prog W = .ok .skip (W.setCell ad (.int k n)) := by
  unfold execOp
  simp only [ho, hx, hy]
  cases hq : Try.prog.info? ty with
  | none => simp [hq] at hi
  | some i =>
    have hs : i.size = 1 := by simpa [hq] using hi
    simp [Instr.storeAt, Instr.sureAddr, storeVar, sizeOf, typeInfo, hq, hs, Sem.run_bind, Value.cells, storeCells]
    go_simp
theorem fr_slot (hgd : o.guard = none) {x y : Operand} (ho : o.op = .store 24 x y) {g i : Nat} (hx : a.eval x = .pointer (some ⟨g, 2 + i, none⟩)) {t : Int} (hy : a.eval y = .int .u8 t) {w0 W : World} (l1 : List (Nat × Fr)) {l2 : List (Nat × Fr)} {f : Fr} (hl : Frs w0 (l1 ++ (g, f) :: l2) W) (hi : i < 24)
    (h : ∀ w1, Frs w0 (l1 ++ (g, ⟨f.loc, f.hgt, f.sl.set i t⟩) :: l2) w1 → wpList Try.prog ops Q rest (a.put o.dst undef) w1) : wpList Try.prog ops Q (o :: rest) a W := by
  have h1 := hl.mem (g := g) (x := f) (by simp)
  have hl2 : f.sl.length = 24 := h1.2
  refine wpList_plain hgd fun K hK => ?_
  unfold Oper.wp
  rw [run_store_cell ho hx hy Try.underlying24 (by kernel_rfl) (h1.1.cs i (by omega)) (h1.1.fz (2 + i))]
  exact hK _ _ (h _ (hl.slot l1 i t))
theorem fr_high (hgd : o.guard = none) {x y : Operand} (ho : o.op = .store 3 x y) {g : Nat} (hx : a.eval x = .pointer (some ⟨g, 1, none⟩)) {n : Int} (hy : a.eval y = .int .i64 n) {w0 W : World} (l1 : List (Nat × Fr)) {l2 : List (Nat × Fr)} {f : Fr} (hl : Frs w0 (l1 ++ (g, f) :: l2) W)
    (h : ∀ w1, Frs w0 (l1 ++ (g, ⟨f.loc, n, f.sl⟩) :: l2) w1 → wpList Try.prog ops Q rest (a.put o.dst undef) w1) : wpList Try.prog ops Q (o :: rest) a W := by
  have h1 := hl.mem (g := g) (x := f) (by simp)
  refine wpList_plain hgd fun K hK => ?_
  unfold Oper.wp
  rw [run_store_cell ho hx hy Try.underlying3 (by kernel_rfl) h1.1.c1 (h1.1.fz 1)]
  exact hK _ _ (h _ (hl.high l1 n))
end
def bareF (f : Fr) : Fr := Fr.bare f.loc.toNat f.hgt.toNat f.sl
theorem bareF_nat (L H : Nat) (sl : List Int) : bareF ⟨(L : Int), (H : Int), sl⟩ = Fr.bare L H sl := by simp [bareF]
section
variable {ops : Array Oper} {rest : List Oper} {o : Oper} {a : Act} {Q : Exit → Act → World → Prop}
end
theorem frame_cells {W : World} {hs : 0 < (Kd.int .u8).sz} {y : Int × Int × List Int} {cs : List Value} (h : (Kd.iso (Kd.pair (Kd.int .i64) (Kd.pair (Kd.int .i64) (Kd.arr 24 (Kd.int .u8) hs))) (fun y : Int × Int × List Int => y)).K W y cs) : cs = (⟨y.1, y.2.1, y.2.2⟩ : Fr).v ∧ y.2.2.length = 24 := by
  obtain ⟨c0, c1, rfl, h0, c2, c3, rfl, h1, hl, h2⟩ := h
  have e0 : c0 = [.int .i64 y.1] := h0
  have e1 : c2 = [.int .i64 y.2.1] := h1
  subst e0
  subst e1
  refine ⟨?_, hl⟩
  unfold Fr.v
  simp only [List.cons_append, List.nil_append]
  congr 2
  have hc : c3.length = y.2.2.length := by rw [h2.1]; exact Nat.mul_one _
  apply List.ext_getElem?
  intro j
  rw [List.getElem?_map]
  by_cases hj : j < y.2.2.length
  · have hk := h2.2 j _ (List.getElem?_eq_getElem hj)
    have hk' : (c3.drop (j * 1)).take 1 = [Value.int .u8 (y.2.2[j])] := hk
    rw [Nat.mul_one] at hk'
    have := congrArg (fun l => l[0]?) hk'
    simp only [List.getElem?_take_of_lt (show 0 < 1 by decide), List.getElem?_drop] at this
    rw [List.getElem?_eq_getElem hj]
    simpa using this
  · rw [List.getElem?_eq_none (by omega), List.getElem?_eq_none (by omega)]
    rfl
section
variable {ops : Array Oper} {rest : List Oper} {o : Oper} {a : Act} {Q : Exit → Act → World → Prop}
end
section
variable {ops : Array Oper} {rest : List Oper} {o : Oper} {a : Act} {Q : Exit → Act → World → Prop}
end
end Go.Proofs.Ytgjnmpgmbhbbhaa.P

end

section
namespace Go.Proofs.Ytgjnmpgmbhbbhaa.P
open Go.RowKit Go.Proofs.YtgjnmpgmbhbbhaaW.PrintWords Go.Proofs.YtgjnmpgmbhbbhaaW.PrintLast Go.Proofs.YtgjnmpgmbhbbhaaW.PrintMore
attribute [local go_sem] max2_int min2_int max_two min_two max_three min_three max_four min_four   -- for this text's walks alone
set_option linter.unusedVariables false
set_option linter.unusedSimpArgs false


mutual
def provisoref02_IsName.j0 : Nat → ByteArray → Bool → Option (Bool)
  | 0, _, _ => none
  | k + 1, x0, x13 => if x13 = true then (some false) else (provisoref02_IsName.l0 k x0 0)
def provisoref02_IsName.l0 : Nat → ByteArray → Int → Option (Bool)
  | 0, _, _ => none
  | k + 1, x0, x3 => if x3 < (x0.size : Int) then (if 0 ≤ x3 then (if (bt x0 x3) ≥ 97 then (if (bt x0 x3) ≤ 122 then (provisoref02_IsName.l0 k x0 (wrap64 (x3 + 1))) else (if (bt x0 x3) ≥ 65 then (if ((bt x0 x3) ≤ 90) then (provisoref02_IsName.l0 k x0 (wrap64 (x3 + 1))) else (if x3 = 0 then (some false) else (if (bt x0 x3) = 95 then (provisoref02_IsName.l0 k x0 (wrap64 (x3 + 1))) else (if (bt x0 x3) < 48 then (some false) else (if (bt x0 x3) > 57 then (some false) else (provisoref02_IsName.l0 k x0 (wrap64 (x3 + 1)))))))) else (if x3 = 0 then (some false) else (if (bt x0 x3) = 95 then (provisoref02_IsName.l0 k x0 (wrap64 (x3 + 1))) else (if (bt x0 x3) < 48 then (some false) else (if (bt x0 x3) > 57 then (some false) else (provisoref02_IsName.l0 k x0 (wrap64 (x3 + 1))))))))) else (if (bt x0 x3) ≥ 65 then (if ((bt x0 x3) ≤ 90) then (provisoref02_IsName.l0 k x0 (wrap64 (x3 + 1))) else (if x3 = 0 then (some false) else (if (bt x0 x3) = 95 then (provisoref02_IsName.l0 k x0 (wrap64 (x3 + 1))) else (if (bt x0 x3) < 48 then (some false) else (if (bt x0 x3) > 57 then (some false) else (provisoref02_IsName.l0 k x0 (wrap64 (x3 + 1)))))))) else (if x3 = 0 then (some false) else (if (bt x0 x3) = 95 then (provisoref02_IsName.l0 k x0 (wrap64 (x3 + 1))) else (if (bt x0 x3) < 48 then (some false) else (if (bt x0 x3) > 57 then (some false) else (provisoref02_IsName.l0 k x0 (wrap64 (x3 + 1))))))))) else (none)) else (some true)
end
def provisoref02_IsName.f (k : Nat) (a0 : ByteArray) : Option (Bool) := if (a0.size : Int) < 1 then (provisoref02_IsName.j0 k a0 true) else (provisoref02_IsName.j0 k a0 (decide ((a0.size : Int) > 24)))
set_option maxHeartbeats 8000000 in
set_option maxRecDepth 100000 in
theorem provisoref02_IsName.calls (k : Nat) (a0 : ByteArray) (r : Bool) (w : World) (h : provisoref02_IsName.f k a0 = some r) :
    Calls Try.prog 75 #[.string a0] w fun e w' => e = .returned (.bool r) ∧ Drawn0 w w' := by
  have H : (if (a0.size : Int) < 1 then (provisoref02_IsName.j0 k a0 true) else (provisoref02_IsName.j0 k a0 (decide ((a0.size : Int) > 24)))) = some r := h
  clear h
  have HC2 := Aside0.mk H
  clear H
  go_enter Try.func75, Try.ntmps75
  go_upto_region 1 with (fail)
  go_cut [13] (fun v13 wc => ∃ (kq : Nat) (x13_1 : Bool), v13 = .bool x13_1 ∧ Aside0 (provisoref02_IsName.j0 kq a0 x13_1 = some r) ∧ Aside0 (kq ≤ k) ∧ Drawn0 w wc)
  case first =>
    have H := HC2.out
    clear HC2
    by_cases c3 : (a0.size : Int) < 1
    · rw [if_pos c3] at H
      have c3b0 : decide ((a0.size : Int) < 1) = true := decide_eq_true c3
      have c3b1 : decide (a0.size < 1) = true := decide_eq_true (by omega)
      clear c3
      (first | rw [c3b0] | (simp only [i64_w, i32_w]; rw [c3b0]) | skip)
      have H' := Aside0.mk H
      clear H
      go_wp2
      go_meet
      case rel => exact ⟨_, (true), (by first | rfl | (simp; done) | (simp [*]; done)), H', ⟨by first | omega | exact Nat.le_refl _⟩, by repeat (first | exact Drawn0.refl _ | apply Drawn0.step)⟩
    · rw [if_neg c3] at H
      have c3b0 : decide ((a0.size : Int) < 1) = false := decide_eq_false c3
      have c3b1 : decide (a0.size < 1) = false := decide_eq_false (by omega)
      clear c3
      (first | rw [c3b0] | (simp only [i64_w, i32_w]; rw [c3b0]) | skip)
      have H' := Aside0.mk H
      clear H
      go_wp2
      go_meet
      case rel => exact ⟨_, (decide ((a0.size : Int) > 24)), (by first | rfl | (simp; done) | (simp [*]; done)), H', ⟨by first | omega | exact Nat.le_refl _⟩, by repeat (first | exact Drawn0.refl _ | apply Drawn0.step)⟩
  case rest =>
    clear HC2
    try clear p2
    try clear c3
    try clear c3b0
    try clear c3b1
    obtain ⟨kq, x13_1, rfl, HA, HJ1, ⟨mc1, rfl⟩⟩ := hcut
    cases kq with
    | zero => exact absurd HA.out (by simp [provisoref02_IsName.j0])
    | succ kj1 =>
      have H := HA.out
      clear HA
      simp only [provisoref02_IsName.j0] at H
      by_cases c4 : x13_1 = true
      · subst c4
        have H1 : (some false) = some r := by rw [if_pos rfl] at H; exact H
        clear H
        have H := H1
        clear H1
        obtain rfl := Option.some.inj H
        go_wp2
        go_ret
        exact ⟨by first | rfl | (simp; done) | (simp [*]; done), by repeat (first | exact Drawn0.refl _ | apply Drawn0.step)⟩
      · replace c4 := Bool.eq_false_iff.mpr c4
        subst c4
        have H1 : (provisoref02_IsName.l0 kj1 a0 0) = some r := by rw [if_neg (show ¬ (false = true) by decide)] at H; exact H
        clear H
        have H := H1
        clear H1
        have H' := Aside0.mk H
        clear H
        go_wp2
        go_loopg [3] kj1 (fun kq v3 w' => ∃ (x3_2 : Int), v3 = .int .i64 x3_2 ∧ Aside0 (provisoref02_IsName.l0 kq a0 x3_2 = some r) ∧ Aside0 (kq ≤ kj1) ∧ Drawn0 w w')
        case atStart => exact ⟨(0), (by first | rfl | (simp; done) | (simp [*]; done)), H', ⟨Nat.le_refl _⟩, by repeat (first | exact Drawn0.refl _ | apply Drawn0.step)⟩
        case round =>
          clear H'
          try clear c1
          try clear p2
          try clear c3
          try clear c3b0
          try clear c3b1
          try clear c4
          try clear p2
          obtain ⟨x3_2, rfl, HA, HK2, ⟨m2, rfl⟩⟩ := hrel
          cases gk with
          | zero => exact absurd HA.out (by simp [provisoref02_IsName.l0])
          | succ k2 =>
            have H := HA.out
            clear HA
            simp only [provisoref02_IsName.l0] at H
            by_cases c5 : x3_2 < (a0.size : Int)
            · rw [if_pos c5] at H
              have c5b0 : decide (x3_2 < (a0.size : Int)) = true := decide_eq_true c5
              clear c5
              by_cases c6 : 0 ≤ x3_2
              · rw [if_pos c6] at H
                have c6b0 : decide (0 ≤ x3_2) = true := decide_eq_true c6
                clear c6
                by_cases c8 : (bt a0 x3_2) ≥ 97
                · rw [if_pos c8] at H
                  have c8b0 : decide (97 ≤ (bt a0 x3_2)) = true := decide_eq_true c8
                  clear c8
                  by_cases c9 : (bt a0 x3_2) ≤ 122
                  · rw [if_pos c9] at H
                    have c9b0 : decide ((bt a0 x3_2) ≤ 122) = true := decide_eq_true c9
                    clear c9
                    have H' := Aside0.mk H
                    clear H
                    have p7 : 0 ≤ (x3_2 : Int) := of_decide_eq_true (by first | (with_reducible assumption) | assumption)
                    have q7 : x3_2 < (a0.size : Int) := of_decide_eq_true (by first | (with_reducible assumption) | assumption)
                    have hx7 := bt_at a0 x3_2
                    replace p7 := eq_true p7
                    replace q7 := eq_true q7
                    go_wp2
                    go_roundg k2
                    case measure => have := HJ1.out; have := HK2.out; omega
                    case rel => exact ⟨(wrap64 (x3_2 + 1)), (by first | rfl | (simp; done) | (simp [*]; done)), H', ⟨by have := HJ1.out; have := HK2.out; omega⟩, by repeat (first | exact Drawn0.refl _ | apply Drawn0.step)⟩
                  · rw [if_neg c9] at H
                    have c9b0 : decide ((bt a0 x3_2) ≤ 122) = false := decide_eq_false c9
                    clear c9
                    by_cases c10 : (bt a0 x3_2) ≥ 65
                    · rw [if_pos c10] at H
                      have c10b0 : decide (65 ≤ (bt a0 x3_2)) = true := decide_eq_true c10
                      clear c10
                      by_cases c11 : ((bt a0 x3_2) ≤ 90)
                      · rw [if_pos c11] at H
                        have c11b0 : decide ((bt a0 x3_2) ≤ 90) = true := decide_eq_true c11
                        clear c11
                        have H' := Aside0.mk H
                        clear H
                        have p7 : 0 ≤ (x3_2 : Int) := of_decide_eq_true (by first | (with_reducible assumption) | assumption)
                        have q7 : x3_2 < (a0.size : Int) := of_decide_eq_true (by first | (with_reducible assumption) | assumption)
                        have hx7 := bt_at a0 x3_2
                        replace p7 := eq_true p7
                        replace q7 := eq_true q7
                        go_wp2
                        go_roundg k2
                        case measure => have := HJ1.out; have := HK2.out; omega
                        case rel => exact ⟨(wrap64 (x3_2 + 1)), (by first | rfl | (simp; done) | (simp [*]; done)), H', ⟨by have := HJ1.out; have := HK2.out; omega⟩, by repeat (first | exact Drawn0.refl _ | apply Drawn0.step)⟩
                      · rw [if_neg c11] at H
                        have c11b0 : decide ((bt a0 x3_2) ≤ 90) = false := decide_eq_false c11
                        clear c11
                        by_cases c12 : x3_2 = 0
                        · rw [if_pos c12] at H
                          have c12b0 : (x3_2 == 0) = true := beq_iff_eq.mpr c12
                          have c12b1 : (x3_2 != 0) = false := bne_eq_false_iff_eq.mpr c12
                          clear c12
                          obtain rfl := Option.some.inj H
                          have p7 : 0 ≤ (x3_2 : Int) := of_decide_eq_true (by first | (with_reducible assumption) | assumption)
                          have q7 : x3_2 < (a0.size : Int) := of_decide_eq_true (by first | (with_reducible assumption) | assumption)
                          have hx7 := bt_at a0 x3_2
                          replace p7 := eq_true p7
                          replace q7 := eq_true q7
                          go_wp2
                          go_ret
                          exact ⟨by first | rfl | (simp; done) | (simp [*]; done), by repeat (first | exact Drawn0.refl _ | apply Drawn0.step)⟩
                        · rw [if_neg c12] at H
                          have c12b0 : (x3_2 == 0) = false := beq_eq_false_iff_ne.mpr c12
                          have c12b1 : (x3_2 != 0) = true := bne_iff_ne.mpr c12
                          by_cases c13 : (bt a0 x3_2) = 95
                          · rw [if_pos c13] at H
                            have c13b0 : ((bt a0 x3_2) == 95) = true := beq_iff_eq.mpr c13
                            have c13b1 : ((bt a0 x3_2) != 95) = false := bne_eq_false_iff_eq.mpr c13
                            clear c13
                            have H' := Aside0.mk H
                            clear H
                            have p7 : 0 ≤ (x3_2 : Int) := of_decide_eq_true (by first | (with_reducible assumption) | assumption)
                            have q7 : x3_2 < (a0.size : Int) := of_decide_eq_true (by first | (with_reducible assumption) | assumption)
                            have hx7 := bt_at a0 x3_2
                            replace p7 := eq_true p7
                            replace q7 := eq_true q7
                            go_wp2
                            go_roundg k2
                            case measure => have := HJ1.out; have := HK2.out; omega
                            case rel => exact ⟨(wrap64 (x3_2 + 1)), (by first | rfl | (simp; done) | (simp [*]; done)), H', ⟨by have := HJ1.out; have := HK2.out; omega⟩, by repeat (first | exact Drawn0.refl _ | apply Drawn0.step)⟩
                          · rw [if_neg c13] at H
                            have c13b0 : ((bt a0 x3_2) == 95) = false := beq_eq_false_iff_ne.mpr c13
                            have c13b1 : ((bt a0 x3_2) != 95) = true := bne_iff_ne.mpr c13
                            by_cases c14 : (bt a0 x3_2) < 48
                            · rw [if_pos c14] at H
                              have c14b0 : decide ((bt a0 x3_2) < 48) = true := decide_eq_true c14
                              clear c14
                              obtain rfl := Option.some.inj H
                              have p7 : 0 ≤ (x3_2 : Int) := of_decide_eq_true (by first | (with_reducible assumption) | assumption)
                              have q7 : x3_2 < (a0.size : Int) := of_decide_eq_true (by first | (with_reducible assumption) | assumption)
                              have hx7 := bt_at a0 x3_2
                              replace p7 := eq_true p7
                              replace q7 := eq_true q7
                              go_wp2
                              go_ret
                              exact ⟨by first | rfl | (simp; done) | (simp [*]; done), by repeat (first | exact Drawn0.refl _ | apply Drawn0.step)⟩
                            · rw [if_neg c14] at H
                              have c14b0 : decide ((bt a0 x3_2) < 48) = false := decide_eq_false c14
                              clear c14
                              by_cases c15 : (bt a0 x3_2) > 57
                              · rw [if_pos c15] at H
                                have c15b0 : decide (57 < (bt a0 x3_2)) = true := decide_eq_true c15
                                clear c15
                                obtain rfl := Option.some.inj H
                                have p7 : 0 ≤ (x3_2 : Int) := of_decide_eq_true (by first | (with_reducible assumption) | assumption)
                                have q7 : x3_2 < (a0.size : Int) := of_decide_eq_true (by first | (with_reducible assumption) | assumption)
                                have hx7 := bt_at a0 x3_2
                                replace p7 := eq_true p7
                                replace q7 := eq_true q7
                                go_wp2
                                go_ret
                                exact ⟨by first | rfl | (simp; done) | (simp [*]; done), by repeat (first | exact Drawn0.refl _ | apply Drawn0.step)⟩
                              · rw [if_neg c15] at H
                                have c15b0 : decide (57 < (bt a0 x3_2)) = false := decide_eq_false c15
                                clear c15
                                have H' := Aside0.mk H
                                clear H
                                have p7 : 0 ≤ (x3_2 : Int) := of_decide_eq_true (by first | (with_reducible assumption) | assumption)
                                have q7 : x3_2 < (a0.size : Int) := of_decide_eq_true (by first | (with_reducible assumption) | assumption)
                                have hx7 := bt_at a0 x3_2
                                replace p7 := eq_true p7
                                replace q7 := eq_true q7
                                go_wp2
                                go_roundg k2
                                case measure => have := HJ1.out; have := HK2.out; omega
                                case rel => exact ⟨(wrap64 (x3_2 + 1)), (by first | rfl | (simp; done) | (simp [*]; done)), H', ⟨by have := HJ1.out; have := HK2.out; omega⟩, by repeat (first | exact Drawn0.refl _ | apply Drawn0.step)⟩
                    · rw [if_neg c10] at H
                      have c10b0 : decide (65 ≤ (bt a0 x3_2)) = false := decide_eq_false c10
                      clear c10
                      by_cases c16 : x3_2 = 0
                      · rw [if_pos c16] at H
                        have c16b0 : (x3_2 == 0) = true := beq_iff_eq.mpr c16
                        have c16b1 : (x3_2 != 0) = false := bne_eq_false_iff_eq.mpr c16
                        clear c16
                        obtain rfl := Option.some.inj H
                        have p7 : 0 ≤ (x3_2 : Int) := of_decide_eq_true (by first | (with_reducible assumption) | assumption)
                        have q7 : x3_2 < (a0.size : Int) := of_decide_eq_true (by first | (with_reducible assumption) | assumption)
                        have hx7 := bt_at a0 x3_2
                        replace p7 := eq_true p7
                        replace q7 := eq_true q7
                        go_wp2
                        go_ret
                        exact ⟨by first | rfl | (simp; done) | (simp [*]; done), by repeat (first | exact Drawn0.refl _ | apply Drawn0.step)⟩
                      · rw [if_neg c16] at H
                        have c16b0 : (x3_2 == 0) = false := beq_eq_false_iff_ne.mpr c16
                        have c16b1 : (x3_2 != 0) = true := bne_iff_ne.mpr c16
                        by_cases c17 : (bt a0 x3_2) = 95
                        · rw [if_pos c17] at H
                          have c17b0 : ((bt a0 x3_2) == 95) = true := beq_iff_eq.mpr c17
                          have c17b1 : ((bt a0 x3_2) != 95) = false := bne_eq_false_iff_eq.mpr c17
                          clear c17
                          have H' := Aside0.mk H
                          clear H
                          have p7 : 0 ≤ (x3_2 : Int) := of_decide_eq_true (by first | (with_reducible assumption) | assumption)
                          have q7 : x3_2 < (a0.size : Int) := of_decide_eq_true (by first | (with_reducible assumption) | assumption)
                          have hx7 := bt_at a0 x3_2
                          replace p7 := eq_true p7
                          replace q7 := eq_true q7
                          go_wp2
                          go_roundg k2
                          case measure => have := HJ1.out; have := HK2.out; omega
                          case rel => exact ⟨(wrap64 (x3_2 + 1)), (by first | rfl | (simp; done) | (simp [*]; done)), H', ⟨by have := HJ1.out; have := HK2.out; omega⟩, by repeat (first | exact Drawn0.refl _ | apply Drawn0.step)⟩
                        · rw [if_neg c17] at H
                          have c17b0 : ((bt a0 x3_2) == 95) = false := beq_eq_false_iff_ne.mpr c17
                          have c17b1 : ((bt a0 x3_2) != 95) = true := bne_iff_ne.mpr c17
                          by_cases c18 : (bt a0 x3_2) < 48
                          · rw [if_pos c18] at H
                            have c18b0 : decide ((bt a0 x3_2) < 48) = true := decide_eq_true c18
                            clear c18
                            obtain rfl := Option.some.inj H
                            have p7 : 0 ≤ (x3_2 : Int) := of_decide_eq_true (by first | (with_reducible assumption) | assumption)
                            have q7 : x3_2 < (a0.size : Int) := of_decide_eq_true (by first | (with_reducible assumption) | assumption)
                            have hx7 := bt_at a0 x3_2
                            replace p7 := eq_true p7
                            replace q7 := eq_true q7
                            go_wp2
                            go_ret
                            exact ⟨by first | rfl | (simp; done) | (simp [*]; done), by repeat (first | exact Drawn0.refl _ | apply Drawn0.step)⟩
                          · rw [if_neg c18] at H
                            have c18b0 : decide ((bt a0 x3_2) < 48) = false := decide_eq_false c18
                            clear c18
                            by_cases c19 : (bt a0 x3_2) > 57
                            · rw [if_pos c19] at H
                              have c19b0 : decide (57 < (bt a0 x3_2)) = true := decide_eq_true c19
                              clear c19
                              obtain rfl := Option.some.inj H
                              have p7 : 0 ≤ (x3_2 : Int) := of_decide_eq_true (by first | (with_reducible assumption) | assumption)
                              have q7 : x3_2 < (a0.size : Int) := of_decide_eq_true (by first | (with_reducible assumption) | assumption)
                              have hx7 := bt_at a0 x3_2
                              replace p7 := eq_true p7
                              replace q7 := eq_true q7
                              go_wp2
                              go_ret
                              exact ⟨by first | rfl | (simp; done) | (simp [*]; done), by repeat (first | exact Drawn0.refl _ | apply Drawn0.step)⟩
                            · rw [if_neg c19] at H
                              have c19b0 : decide (57 < (bt a0 x3_2)) = false := decide_eq_false c19
                              clear c19
                              have H' := Aside0.mk H
                              clear H
                              have p7 : 0 ≤ (x3_2 : Int) := of_decide_eq_true (by first | (with_reducible assumption) | assumption)
                              have q7 : x3_2 < (a0.size : Int) := of_decide_eq_true (by first | (with_reducible assumption) | assumption)
                              have hx7 := bt_at a0 x3_2
                              replace p7 := eq_true p7
                              replace q7 := eq_true q7
                              go_wp2
                              go_roundg k2
                              case measure => have := HJ1.out; have := HK2.out; omega
                              case rel => exact ⟨(wrap64 (x3_2 + 1)), (by first | rfl | (simp; done) | (simp [*]; done)), H', ⟨by have := HJ1.out; have := HK2.out; omega⟩, by repeat (first | exact Drawn0.refl _ | apply Drawn0.step)⟩
                · rw [if_neg c8] at H
                  have c8b0 : decide (97 ≤ (bt a0 x3_2)) = false := decide_eq_false c8
                  clear c8
                  by_cases c20 : (bt a0 x3_2) ≥ 65
                  · rw [if_pos c20] at H
                    have c20b0 : decide (65 ≤ (bt a0 x3_2)) = true := decide_eq_true c20
                    clear c20
                    by_cases c21 : ((bt a0 x3_2) ≤ 90)
                    · rw [if_pos c21] at H
                      have c21b0 : decide ((bt a0 x3_2) ≤ 90) = true := decide_eq_true c21
                      clear c21
                      have H' := Aside0.mk H
                      clear H
                      have p7 : 0 ≤ (x3_2 : Int) := of_decide_eq_true (by first | (with_reducible assumption) | assumption)
                      have q7 : x3_2 < (a0.size : Int) := of_decide_eq_true (by first | (with_reducible assumption) | assumption)
                      have hx7 := bt_at a0 x3_2
                      replace p7 := eq_true p7
                      replace q7 := eq_true q7
                      go_wp2
                      go_roundg k2
                      case measure => have := HJ1.out; have := HK2.out; omega
                      case rel => exact ⟨(wrap64 (x3_2 + 1)), (by first | rfl | (simp; done) | (simp [*]; done)), H', ⟨by have := HJ1.out; have := HK2.out; omega⟩, by repeat (first | exact Drawn0.refl _ | apply Drawn0.step)⟩
                    · rw [if_neg c21] at H
                      have c21b0 : decide ((bt a0 x3_2) ≤ 90) = false := decide_eq_false c21
                      clear c21
                      by_cases c22 : x3_2 = 0
                      · rw [if_pos c22] at H
                        have c22b0 : (x3_2 == 0) = true := beq_iff_eq.mpr c22
                        have c22b1 : (x3_2 != 0) = false := bne_eq_false_iff_eq.mpr c22
                        clear c22
                        obtain rfl := Option.some.inj H
                        have p7 : 0 ≤ (x3_2 : Int) := of_decide_eq_true (by first | (with_reducible assumption) | assumption)
                        have q7 : x3_2 < (a0.size : Int) := of_decide_eq_true (by first | (with_reducible assumption) | assumption)
                        have hx7 := bt_at a0 x3_2
                        replace p7 := eq_true p7
                        replace q7 := eq_true q7
                        go_wp2
                        go_ret
                        exact ⟨by first | rfl | (simp; done) | (simp [*]; done), by repeat (first | exact Drawn0.refl _ | apply Drawn0.step)⟩
                      · rw [if_neg c22] at H
                        have c22b0 : (x3_2 == 0) = false := beq_eq_false_iff_ne.mpr c22
                        have c22b1 : (x3_2 != 0) = true := bne_iff_ne.mpr c22
                        by_cases c23 : (bt a0 x3_2) = 95
                        · rw [if_pos c23] at H
                          have c23b0 : ((bt a0 x3_2) == 95) = true := beq_iff_eq.mpr c23
                          have c23b1 : ((bt a0 x3_2) != 95) = false := bne_eq_false_iff_eq.mpr c23
                          clear c23
                          have H' := Aside0.mk H
                          clear H
                          have p7 : 0 ≤ (x3_2 : Int) := of_decide_eq_true (by first | (with_reducible assumption) | assumption)
                          have q7 : x3_2 < (a0.size : Int) := of_decide_eq_true (by first | (with_reducible assumption) | assumption)
                          have hx7 := bt_at a0 x3_2
                          replace p7 := eq_true p7
                          replace q7 := eq_true q7
                          go_wp2
                          go_roundg k2
                          case measure => have := HJ1.out; have := HK2.out; omega
                          case rel => exact ⟨(wrap64 (x3_2 + 1)), (by first | rfl | (simp; done) | (simp [*]; done)), H', ⟨by have := HJ1.out; have := HK2.out; omega⟩, by repeat (first | exact Drawn0.refl _ | apply Drawn0.step)⟩
                        · rw [if_neg c23] at H
                          have c23b0 : ((bt a0 x3_2) == 95) = false := beq_eq_false_iff_ne.mpr c23
                          have c23b1 : ((bt a0 x3_2) != 95) = true := bne_iff_ne.mpr c23
                          by_cases c24 : (bt a0 x3_2) < 48
                          · rw [if_pos c24] at H
                            have c24b0 : decide ((bt a0 x3_2) < 48) = true := decide_eq_true c24
                            clear c24
                            obtain rfl := Option.some.inj H
                            have p7 : 0 ≤ (x3_2 : Int) := of_decide_eq_true (by first | (with_reducible assumption) | assumption)
                            have q7 : x3_2 < (a0.size : Int) := of_decide_eq_true (by first | (with_reducible assumption) | assumption)
                            have hx7 := bt_at a0 x3_2
                            replace p7 := eq_true p7
                            replace q7 := eq_true q7
                            go_wp2
                            go_ret
                            exact ⟨by first | rfl | (simp; done) | (simp [*]; done), by repeat (first | exact Drawn0.refl _ | apply Drawn0.step)⟩
                          · rw [if_neg c24] at H
                            have c24b0 : decide ((bt a0 x3_2) < 48) = false := decide_eq_false c24
                            clear c24
                            by_cases c25 : (bt a0 x3_2) > 57
                            · rw [if_pos c25] at H
                              have c25b0 : decide (57 < (bt a0 x3_2)) = true := decide_eq_true c25
                              clear c25
                              obtain rfl := Option.some.inj H
                              have p7 : 0 ≤ (x3_2 : Int) := of_decide_eq_true (by first | (with_reducible assumption) | assumption)
                              have q7 : x3_2 < (a0.size : Int) := of_decide_eq_true (by first | (with_reducible assumption) | assumption)
                              have hx7 := bt_at a0 x3_2
                              replace p7 := eq_true p7
                              replace q7 := eq_true q7
                              go_wp2
                              go_ret
                              exact ⟨by first | rfl | (simp; done) | (simp [*]; done), by repeat (first | exact Drawn0.refl _ | apply Drawn0.step)⟩
                            · rw [if_neg c25] at H
                              have c25b0 : decide (57 < (bt a0 x3_2)) = false := decide_eq_false c25
                              clear c25
                              have H' := Aside0.mk H
                              clear H
                              have p7 : 0 ≤ (x3_2 : Int) := of_decide_eq_true (by first | (with_reducible assumption) | assumption)
                              have q7 : x3_2 < (a0.size : Int) := of_decide_eq_true (by first | (with_reducible assumption) | assumption)
                              have hx7 := bt_at a0 x3_2
                              replace p7 := eq_true p7
                              replace q7 := eq_true q7
                              go_wp2
                              go_roundg k2
                              case measure => have := HJ1.out; have := HK2.out; omega
                              case rel => exact ⟨(wrap64 (x3_2 + 1)), (by first | rfl | (simp; done) | (simp [*]; done)), H', ⟨by have := HJ1.out; have := HK2.out; omega⟩, by repeat (first | exact Drawn0.refl _ | apply Drawn0.step)⟩
                  · rw [if_neg c20] at H
                    have c20b0 : decide (65 ≤ (bt a0 x3_2)) = false := decide_eq_false c20
                    clear c20
                    by_cases c26 : x3_2 = 0
                    · rw [if_pos c26] at H
                      have c26b0 : (x3_2 == 0) = true := beq_iff_eq.mpr c26
                      have c26b1 : (x3_2 != 0) = false := bne_eq_false_iff_eq.mpr c26
                      clear c26
                      obtain rfl := Option.some.inj H
                      have p7 : 0 ≤ (x3_2 : Int) := of_decide_eq_true (by first | (with_reducible assumption) | assumption)
                      have q7 : x3_2 < (a0.size : Int) := of_decide_eq_true (by first | (with_reducible assumption) | assumption)
                      have hx7 := bt_at a0 x3_2
                      replace p7 := eq_true p7
                      replace q7 := eq_true q7
                      go_wp2
                      go_ret
                      exact ⟨by first | rfl | (simp; done) | (simp [*]; done), by repeat (first | exact Drawn0.refl _ | apply Drawn0.step)⟩
                    · rw [if_neg c26] at H
                      have c26b0 : (x3_2 == 0) = false := beq_eq_false_iff_ne.mpr c26
                      have c26b1 : (x3_2 != 0) = true := bne_iff_ne.mpr c26
                      by_cases c27 : (bt a0 x3_2) = 95
                      · rw [if_pos c27] at H
                        have c27b0 : ((bt a0 x3_2) == 95) = true := beq_iff_eq.mpr c27
                        have c27b1 : ((bt a0 x3_2) != 95) = false := bne_eq_false_iff_eq.mpr c27
                        clear c27
                        have H' := Aside0.mk H
                        clear H
                        have p7 : 0 ≤ (x3_2 : Int) := of_decide_eq_true (by first | (with_reducible assumption) | assumption)
                        have q7 : x3_2 < (a0.size : Int) := of_decide_eq_true (by first | (with_reducible assumption) | assumption)
                        have hx7 := bt_at a0 x3_2
                        replace p7 := eq_true p7
                        replace q7 := eq_true q7
                        go_wp2
                        go_roundg k2
                        case measure => have := HJ1.out; have := HK2.out; omega
                        case rel => exact ⟨(wrap64 (x3_2 + 1)), (by first | rfl | (simp; done) | (simp [*]; done)), H', ⟨by have := HJ1.out; have := HK2.out; omega⟩, by repeat (first | exact Drawn0.refl _ | apply Drawn0.step)⟩
                      · rw [if_neg c27] at H
                        have c27b0 : ((bt a0 x3_2) == 95) = false := beq_eq_false_iff_ne.mpr c27
                        have c27b1 : ((bt a0 x3_2) != 95) = true := bne_iff_ne.mpr c27
                        by_cases c28 : (bt a0 x3_2) < 48
                        · rw [if_pos c28] at H
                          have c28b0 : decide ((bt a0 x3_2) < 48) = true := decide_eq_true c28
                          clear c28
                          obtain rfl := Option.some.inj H
                          have p7 : 0 ≤ (x3_2 : Int) := of_decide_eq_true (by first | (with_reducible assumption) | assumption)
                          have q7 : x3_2 < (a0.size : Int) := of_decide_eq_true (by first | (with_reducible assumption) | assumption)
                          have hx7 := bt_at a0 x3_2
                          replace p7 := eq_true p7
                          replace q7 := eq_true q7
                          go_wp2
                          go_ret
                          exact ⟨by first | rfl | (simp; done) | (simp [*]; done), by repeat (first | exact Drawn0.refl _ | apply Drawn0.step)⟩
                        · rw [if_neg c28] at H
                          have c28b0 : decide ((bt a0 x3_2) < 48) = false := decide_eq_false c28
                          clear c28
                          by_cases c29 : (bt a0 x3_2) > 57
                          · rw [if_pos c29] at H
                            have c29b0 : decide (57 < (bt a0 x3_2)) = true := decide_eq_true c29
                            clear c29
                            obtain rfl := Option.some.inj H
                            have p7 : 0 ≤ (x3_2 : Int) := of_decide_eq_true (by first | (with_reducible assumption) | assumption)
                            have q7 : x3_2 < (a0.size : Int) := of_decide_eq_true (by first | (with_reducible assumption) | assumption)
                            have hx7 := bt_at a0 x3_2
                            replace p7 := eq_true p7
                            replace q7 := eq_true q7
                            go_wp2
                            go_ret
                            exact ⟨by first | rfl | (simp; done) | (simp [*]; done), by repeat (first | exact Drawn0.refl _ | apply Drawn0.step)⟩
                          · rw [if_neg c29] at H
                            have c29b0 : decide (57 < (bt a0 x3_2)) = false := decide_eq_false c29
                            clear c29
                            have H' := Aside0.mk H
                            clear H
                            have p7 : 0 ≤ (x3_2 : Int) := of_decide_eq_true (by first | (with_reducible assumption) | assumption)
                            have q7 : x3_2 < (a0.size : Int) := of_decide_eq_true (by first | (with_reducible assumption) | assumption)
                            have hx7 := bt_at a0 x3_2
                            replace p7 := eq_true p7
                            replace q7 := eq_true q7
                            go_wp2
                            go_roundg k2
                            case measure => have := HJ1.out; have := HK2.out; omega
                            case rel => exact ⟨(wrap64 (x3_2 + 1)), (by first | rfl | (simp; done) | (simp [*]; done)), H', ⟨by have := HJ1.out; have := HK2.out; omega⟩, by repeat (first | exact Drawn0.refl _ | apply Drawn0.step)⟩
              · rw [if_neg c6] at H
                exact absurd H (by simp)
            · rw [if_neg c5] at H
              have c5b0 : decide (x3_2 < (a0.size : Int)) = false := decide_eq_false c5
              clear c5
              obtain rfl := Option.some.inj H
              go_wp2
              go_ret
              exact ⟨by first | rfl | (simp; done) | (simp [*]; done), by repeat (first | exact Drawn0.refl _ | apply Drawn0.step)⟩

def provisoref02_word.f (a0 : Int) : Option (ByteArray) := if a0 = 0 then (some (⟨#[116, 111, 112]⟩ : ByteArray)) else (if a0 = 1 then (some (⟨#[105, 110, 116]⟩ : ByteArray)) else (if a0 = 2 then (some (⟨#[98, 111, 111, 108]⟩ : ByteArray)) else (if a0 = 3 then (some (⟨#[110, 117, 108, 108]⟩ : ByteArray)) else (if a0 = 4 then (some (⟨#[105, 110, 116, 115]⟩ : ByteArray)) else (if a0 = 5 then (some (⟨#[97, 110, 121]⟩ : ByteArray)) else (some (⟨#[]⟩ : ByteArray)))))))
set_option maxHeartbeats 8000000 in
set_option maxRecDepth 100000 in
theorem provisoref02_word.calls (a0 : Int) (r : ByteArray) (w : World) (h : provisoref02_word.f a0 = some r) :
    Calls Try.prog 74 #[.int .u8 a0] w fun e w' => e = .returned (.string r) ∧ Drawn0 w w' := by
  have H : (if a0 = 0 then (some (⟨#[116, 111, 112]⟩ : ByteArray)) else (if a0 = 1 then (some (⟨#[105, 110, 116]⟩ : ByteArray)) else (if a0 = 2 then (some (⟨#[98, 111, 111, 108]⟩ : ByteArray)) else (if a0 = 3 then (some (⟨#[110, 117, 108, 108]⟩ : ByteArray)) else (if a0 = 4 then (some (⟨#[105, 110, 116, 115]⟩ : ByteArray)) else (if a0 = 5 then (some (⟨#[97, 110, 121]⟩ : ByteArray)) else (some (⟨#[]⟩ : ByteArray)))))))) = some r := h
  clear h
  by_cases c2 : a0 = 0
  · rw [if_pos c2] at H
    have c2b0 : (a0 == 0) = true := beq_iff_eq.mpr c2
    have c2b1 : (a0 != 0) = false := bne_eq_false_iff_eq.mpr c2
    clear c2
    obtain rfl := Option.some.inj H
    go_enter Try.func74, Try.ntmps74
    go_wp2
    go_ret
    exact ⟨by first | rfl | (simp; done) | (simp [*]; done), by repeat (first | exact Drawn0.refl _ | apply Drawn0.step)⟩
  · rw [if_neg c2] at H
    have c2b0 : (a0 == 0) = false := beq_eq_false_iff_ne.mpr c2
    have c2b1 : (a0 != 0) = true := bne_iff_ne.mpr c2
    by_cases c3 : a0 = 1
    · rw [if_pos c3] at H
      have c3b0 : (a0 == 1) = true := beq_iff_eq.mpr c3
      have c3b1 : (a0 != 1) = false := bne_eq_false_iff_eq.mpr c3
      clear c3
      obtain rfl := Option.some.inj H
      go_enter Try.func74, Try.ntmps74
      go_wp2
      go_ret
      exact ⟨by first | rfl | (simp; done) | (simp [*]; done), by repeat (first | exact Drawn0.refl _ | apply Drawn0.step)⟩
    · rw [if_neg c3] at H
      have c3b0 : (a0 == 1) = false := beq_eq_false_iff_ne.mpr c3
      have c3b1 : (a0 != 1) = true := bne_iff_ne.mpr c3
      by_cases c4 : a0 = 2
      · rw [if_pos c4] at H
        have c4b0 : (a0 == 2) = true := beq_iff_eq.mpr c4
        have c4b1 : (a0 != 2) = false := bne_eq_false_iff_eq.mpr c4
        clear c4
        obtain rfl := Option.some.inj H
        go_enter Try.func74, Try.ntmps74
        go_wp2
        go_ret
        exact ⟨by first | rfl | (simp; done) | (simp [*]; done), by repeat (first | exact Drawn0.refl _ | apply Drawn0.step)⟩
      · rw [if_neg c4] at H
        have c4b0 : (a0 == 2) = false := beq_eq_false_iff_ne.mpr c4
        have c4b1 : (a0 != 2) = true := bne_iff_ne.mpr c4
        by_cases c5 : a0 = 3
        · rw [if_pos c5] at H
          have c5b0 : (a0 == 3) = true := beq_iff_eq.mpr c5
          have c5b1 : (a0 != 3) = false := bne_eq_false_iff_eq.mpr c5
          clear c5
          obtain rfl := Option.some.inj H
          go_enter Try.func74, Try.ntmps74
          go_wp2
          go_ret
          exact ⟨by first | rfl | (simp; done) | (simp [*]; done), by repeat (first | exact Drawn0.refl _ | apply Drawn0.step)⟩
        · rw [if_neg c5] at H
          have c5b0 : (a0 == 3) = false := beq_eq_false_iff_ne.mpr c5
          have c5b1 : (a0 != 3) = true := bne_iff_ne.mpr c5
          by_cases c6 : a0 = 4
          · rw [if_pos c6] at H
            have c6b0 : (a0 == 4) = true := beq_iff_eq.mpr c6
            have c6b1 : (a0 != 4) = false := bne_eq_false_iff_eq.mpr c6
            clear c6
            obtain rfl := Option.some.inj H
            go_enter Try.func74, Try.ntmps74
            go_wp2
            go_ret
            exact ⟨by first | rfl | (simp; done) | (simp [*]; done), by repeat (first | exact Drawn0.refl _ | apply Drawn0.step)⟩
          · rw [if_neg c6] at H
            have c6b0 : (a0 == 4) = false := beq_eq_false_iff_ne.mpr c6
            have c6b1 : (a0 != 4) = true := bne_iff_ne.mpr c6
            by_cases c7 : a0 = 5
            · rw [if_pos c7] at H
              have c7b0 : (a0 == 5) = true := beq_iff_eq.mpr c7
              have c7b1 : (a0 != 5) = false := bne_eq_false_iff_eq.mpr c7
              clear c7
              obtain rfl := Option.some.inj H
              go_enter Try.func74, Try.ntmps74
              go_wp2
              go_ret
              exact ⟨by first | rfl | (simp; done) | (simp [*]; done), by repeat (first | exact Drawn0.refl _ | apply Drawn0.step)⟩
            · rw [if_neg c7] at H
              have c7b0 : (a0 == 5) = false := beq_eq_false_iff_ne.mpr c7
              have c7b1 : (a0 != 5) = true := bne_iff_ne.mpr c7
              obtain rfl := Option.some.inj H
              go_enter Try.func74, Try.ntmps74
              go_wp2
              go_ret
              exact ⟨by first | rfl | (simp; done) | (simp [*]; done), by repeat (first | exact Drawn0.refl _ | apply Drawn0.step)⟩

def provisoref02_isWord.l0 : Nat → ByteArray → Int → Option (Bool)
  | 0, _, _ => none
  | k + 1, x0, x3 => if x3 ≤ 5 then ((provisoref02_word.f x3).bind fun t101 => (if t101.toList = x0.toList then (some true) else (provisoref02_isWord.l0 k x0 ((x3 + 1) % 256)))) else (some false)
def provisoref02_isWord.f (k : Nat) (a0 : ByteArray) : Option (Bool) := provisoref02_isWord.l0 k a0 0
set_option maxHeartbeats 8000000 in
set_option maxRecDepth 100000 in
theorem provisoref02_isWord.calls (k : Nat) (a0 : ByteArray) (r : Bool) (w : World) (h : provisoref02_isWord.f k a0 = some r) :
    Calls Try.prog 76 #[.string a0] w fun e w' => e = .returned (.bool r) ∧ Drawn0 w w' := by
  have H : (provisoref02_isWord.l0 k a0 0) = some r := h
  clear h
  have H' := Aside0.mk H
  clear H
  go_enter Try.func76, Try.ntmps76
  go_wp2
  go_loopg [3] k (fun kq v3 w' => ∃ (x3_1 : Int), v3 = .int .u8 x3_1 ∧ Aside0 (provisoref02_isWord.l0 kq a0 x3_1 = some r) ∧ Aside0 (kq ≤ k) ∧ Drawn0 w w')
  case atStart => exact ⟨(0), (by first | rfl | (simp; done) | (simp [*]; done)), H', ⟨Nat.le_refl _⟩, by repeat (first | exact Drawn0.refl _ | apply Drawn0.step)⟩
  case round =>
    clear H'
    obtain ⟨x3_1, rfl, HA, HK1, ⟨m1, rfl⟩⟩ := hrel
    cases gk with
    | zero => exact absurd HA.out (by simp [provisoref02_isWord.l0])
    | succ k1 =>
      have H := HA.out
      clear HA
      simp only [provisoref02_isWord.l0] at H
      by_cases c2 : x3_1 ≤ 5
      · rw [if_pos c2] at H
        have c2b0 : decide (x3_1 ≤ 5) = true := decide_eq_true c2
        clear c2
        replace H := Option.bind_eq_some_iff.mp H
        obtain ⟨t101, A30, H⟩ := H
        replace H : (if t101.toList = a0.toList then (some true) else (provisoref02_isWord.l0 k1 a0 ((x3_1 + 1) % 256))) = some r := H
        have A3 := Aside0.mk A30
        clear A30
        by_cases c4 : t101.toList = a0.toList
        · rw [if_pos c4] at H
          have c4b0 : (t101.toList == a0.toList) = true := beq_iff_eq.mpr c4
          have c4b1 : (t101.toList != a0.toList) = false := bne_eq_false_iff_eq.mpr c4
          clear c4
          obtain rfl := Option.some.inj H
          go_wp2_with (first | ((with_reducible refine gate_callee (f := 74) rfl ?_); refine goesL_ (some 9) rfl rfl Try.func74 (by kernel_rfl) rfl #[.int .u8 x3_1] rfl (by (try simp only [List.map_toArray, List.map_cons, List.map_nil]); first | done | rfl | (simp only [List.length_drop, List.length_take]; rfl)) ?_; (with_reducible refine (provisoref02_word.calls x3_1 t101 _ A3.out).mono ?_); rintro e w' ⟨rfl, ⟨nd, rfl⟩⟩; refine ⟨_, rfl, ?_⟩))
          go_ret
          exact ⟨by first | rfl | (simp; done) | (simp [*]; done), by repeat (first | exact Drawn0.refl _ | apply Drawn0.step)⟩
        · rw [if_neg c4] at H
          have c4b0 : (t101.toList == a0.toList) = false := beq_eq_false_iff_ne.mpr c4
          have c4b1 : (t101.toList != a0.toList) = true := bne_iff_ne.mpr c4
          have H' := Aside0.mk H
          clear H
          go_wp2_with (first | ((with_reducible refine gate_callee (f := 74) rfl ?_); refine goesL_ (some 9) rfl rfl Try.func74 (by kernel_rfl) rfl #[.int .u8 x3_1] rfl (by (try simp only [List.map_toArray, List.map_cons, List.map_nil]); first | done | rfl | (simp only [List.length_drop, List.length_take]; rfl)) ?_; (with_reducible refine (provisoref02_word.calls x3_1 t101 _ A3.out).mono ?_); rintro e w' ⟨rfl, ⟨nd, rfl⟩⟩; refine ⟨_, rfl, ?_⟩))
          go_roundg k1
          case measure => have := HK1.out; omega
          case rel => exact ⟨((x3_1 + 1) % 256), (by first | rfl | (simp; done) | (simp [*]; done)), H', ⟨by have := HK1.out; omega⟩, by repeat (first | exact Drawn0.refl _ | apply Drawn0.step)⟩
      · rw [if_neg c2] at H
        have c2b0 : decide (x3_1 ≤ 5) = false := decide_eq_false c2
        clear c2
        obtain rfl := Option.some.inj H
        go_wp2
        go_ret
        exact ⟨by first | rfl | (simp; done) | (simp [*]; done), by repeat (first | exact Drawn0.refl _ | apply Drawn0.step)⟩

def provisoref02_Line.l0 : Nat → List (S59) → Int → List Int → Option (List Int)
  | 0, _, _, _ => none
  | k + 1, x0, x1, x5 => if x1 ≥ 0 then (if x1 < (x0.length : Int) then (if (x5.length : Int) ≤ (x0.length : Int) then (if x5.length < 17592186044416 then (if 0 ≤ x1 then (provisoref02_Line.l0 k x0 ((rd_T59 x0 x1).f1) (x5 ++ [x1])) else (none)) else (none)) else (some x5)) else (some x5)) else (some x5)
def provisoref02_Line.f (k : Nat) (l0 : List (S59)) (a1 : Int) : Option (List Int) := provisoref02_Line.l0 k l0 a1 ([] : List Int)
set_option maxHeartbeats 8000000 in
set_option maxRecDepth 100000 in
theorem provisoref02_Line.calls (k : Nat) (A0 : Option Addr) (c0 : Nat) (l0 : List (S59)) (a1 : Int) (r : List Int) (w : World) (hr0 : Kd.C k59 w A0 l0.length l0) (hc0 : l0.length ≤ c0) (h : provisoref02_Line.f k l0 a1 = some r) :
    Calls Try.prog 68 #[.slice A0 l0.length c0, .int .i64 a1] w fun e w' => ∃ v0_ : Value, e = .returned (v0_) ∧ Kd.R (Kd.int .i64) 3 w' w.heap.size (fun _ => True) v0_ r ∧ Below w.heap.size w w' := by
  have HR0 := Aside0.mk hr0
  have HC0 := Aside0.mk hc0
  clear hr0 hc0
  have HB := Aside0.mk (Below.refl w.heap.size w)
  have H : (provisoref02_Line.l0 k l0 a1 ([] : List Int)) = some r := h
  clear h
  have H' := Aside0.mk H
  clear H
  go_enter Try.func68, Try.ntmps68
  go_wp2
  go_loopg [1, 5] k (fun kq v1 v5 w' => ∃ (x1_1 : Int) (x5_1 : List Int), v1 = .int .i64 x1_1 ∧ Aside0 (provisoref02_Line.l0 kq l0 x1_1 x5_1 = some r) ∧ Aside0 (kq ≤ k) ∧ Aside0 (Kd.R (Kd.int .i64) 3 w' w.heap.size (fun _ => True) v5 x5_1) ∧ Aside0 (Below w.heap.size w w'))
  case atStart => exact ⟨(a1), (([] : List Int)), (by first | rfl | (simp; done) | (simp [*]; done)), H', ⟨Nat.le_refl _⟩, ⟨by first | exact Kd.R_nil _ _ _ _ _ | exact Kd.N_nil _ _ _ _ _ | exact Kd.V_nil _ _ _ _ _ | exact Kd.Q_nil _ _ _ _ _ | exact Kd.S_nil _ _ _ _ _⟩, ⟨by repeat (first | (with_reducible first | exact HB.out | apply below_alloc | apply pw_below_drewN | apply below_drew1) | exact HB.out)⟩⟩
  case round =>
    clear H'
    try clear p2
    obtain ⟨x1_1, x5_1, rfl, HA, HK1, HO_5, HB⟩ := hrel
    cases gk with
    | zero => exact absurd HA.out (by simp [provisoref02_Line.l0])
    | succ k1 =>
      have H := HA.out
      clear HA
      simp only [provisoref02_Line.l0] at H
      by_cases c3 : x1_1 ≥ 0
      · rw [if_pos c3] at H
        have c3b0 : decide (0 ≤ x1_1) = true := decide_eq_true c3
        clear c3
        by_cases c4 : x1_1 < (l0.length : Int)
        · rw [if_pos c4] at H
          have c4b0 : decide (x1_1 < (l0.length : Int)) = true := decide_eq_true c4
          clear c4
          by_cases c5 : (x5_1.length : Int) ≤ (l0.length : Int)
          · rw [if_pos c5] at H
            have c5b0 : decide ((x5_1.length : Int) ≤ (l0.length : Int)) = true := decide_eq_true c5
            have c5b1 : decide (x5_1.length ≤ l0.length) = true := decide_eq_true (Int.ofNat_le.mp c5)
            clear c5
            by_cases c6 : x5_1.length < 17592186044416
            · rw [if_pos c6] at H
              have LMc6 := Aside0.mk c6
              clear c6
              obtain ⟨y102, hy102⟩ : ∃ y_ : List Int, y_ = (x5_1 ++ [x1_1]) := ⟨_, rfl⟩
              replace H : (if 0 ≤ x1_1 then (provisoref02_Line.l0 k1 l0 ((rd_T59 l0 x1_1).f1) y102) else (none)) = some r := by first | (rw [hy102]; with_reducible exact H) | (have H2_ := (Option.bind_some _ _).symm.trans H; rw [hy102]; with_reducible exact H2_) | (have H2_ := (Option.bind_some _ _).symm.trans H; with_reducible exact H2_) | with_reducible exact H | (rw [hy102]; exact H) | exact H
              have Ny102 := Aside0.mk hy102
              clear hy102
              by_cases c7 : 0 ≤ x1_1
              · rw [if_pos c7] at H
                have c7b0 : decide (0 ≤ x1_1) = true := decide_eq_true c7
                clear c7
                have H' := Aside0.mk H
                clear H
                obtain ⟨Ao8, co8, eo8⟩ := Kd.R_slice HO_5.out
                subst eo8
                go_wp2_with (first | ((with_reducible refine gate_builtin (b := .append) (xs := #[.tmp 21, .tmp 23]) rfl ?_); (try (refine gate_guard (by rfl) ?_; dsimp only)); at_builtin; refine Kd.R_append (Kd.int .i64) (w0 := w) w.heap.size rfl (.tmp 21) (.tmp 23) 80 3 (.int .i64 0) 8 rfl Try.underlying80 info3 rfl (by decide) (by omega) (.slice Ao8 x5_1.length co8) x5_1 x1_1 [.int .i64 x1_1] (fun _ => True) (fun _ => False) rfl rfl ?aP (fun _ hk => hk.elim) ?aF ?aO ?aB ?aS ?aL ?_; (case aP => exact rfl); (case aB => exact (by repeat (first | (with_reducible first | exact HB.out | apply below_alloc | apply pw_below_drewN | apply below_drew1) | exact HB.out))); (case aF => exact (fun _ _ => trivial)); (case aO => exact (by (with_reducible repeat (first | apply Kd.R_alloc | apply Kd.R_drewN | apply Kd.R_drew)); exact HO_5.out)); (case aS => exact (below_size (by repeat (first | (with_reducible first | exact HB.out | apply below_alloc | apply pw_below_drewN | apply below_drew1) | exact HB.out)))); (case aL => have := LMc6.out; omega); intro v103 w9 ho hb hg hat; rw [← Ny102.out] at ho; have n0_ := Aside0.mk (hb); have n1_ := Aside0.mk (ho); clear HB; clear HO_5; have HB := n0_; have HO104 := n1_; clear n0_ n1_; clear ho hb hg hat; have p105 : 0 ≤ (x1_1 : Int) := of_decide_eq_true (by first | (with_reducible assumption) | assumption); have q105 : x1_1 < (l0.length : Int) := of_decide_eq_true (by first | (with_reducible assumption) | assumption); obtain ⟨ad105, A105_2, c105_2, e105, hx105_0, hx105_1, hx105_2, hl105_2, hi105_2⟩ := at_T59 HR0.out x1_1 p105 q105; cases e105; replace hx105_0 := (HB.out.cell (World.block_lt_of_cell? w _ hx105_0)).trans hx105_0; replace hx105_1 := (HB.out.cell (World.block_lt_of_cell? w _ hx105_1)).trans hx105_1; replace hx105_2 := (HB.out.cell (World.block_lt_of_cell? w _ hx105_2)).trans hx105_2; have HR105_2 := Aside0.mk hi105_2; have HC105_2 := Aside0.mk hl105_2; clear hi105_2 hl105_2; replace p105 := eq_true p105; replace q105 := eq_true q105))
                go_roundg k1
                case measure => have := HK1.out; omega
                case rel => exact ⟨((rd_T59 l0 x1_1).f1), (y102), (by first | rfl | (simp; done) | (simp [*]; done)), H', ⟨by have := HK1.out; omega⟩, ⟨by (with_reducible repeat (first | apply Kd.R_alloc | apply Kd.R_drewN | apply Kd.R_drew)); exact HO104.out⟩, ⟨by repeat (first | (with_reducible first | exact HB.out | apply below_alloc | apply pw_below_drewN | apply below_drew1) | exact HB.out)⟩⟩
              · rw [if_neg c7] at H
                exact absurd H (by simp)
            · rw [if_neg c6] at H
              exact absurd H (by simp)
          · rw [if_neg c5] at H
            have c5b0 : decide ((x5_1.length : Int) ≤ (l0.length : Int)) = false := decide_eq_false c5
            have c5b1 : decide (x5_1.length ≤ l0.length) = false := decide_eq_false (fun h => c5 (Int.ofNat_le.mpr h))
            clear c5
            obtain rfl := Option.some.inj H
            obtain ⟨Ao10, co10, eo10⟩ := Kd.R_slice HO_5.out
            subst eo10
            go_wp2
            go_ret
            exact ⟨_, by first | rfl | (simp [errW_none, errW_some] <;> rfl) | (simp [*, errW_none, errW_some] <;> rfl), by (with_reducible repeat (first | apply Kd.R_alloc | apply Kd.R_drewN | apply Kd.R_drew)); exact HO_5.out, by repeat (first | (with_reducible first | exact HB.out | apply below_alloc | apply pw_below_drewN | apply below_drew1) | exact HB.out)⟩
        · rw [if_neg c4] at H
          have c4b0 : decide (x1_1 < (l0.length : Int)) = false := decide_eq_false c4
          clear c4
          obtain rfl := Option.some.inj H
          go_wp2
          go_ret
          exact ⟨_, by first | rfl | (simp [errW_none, errW_some] <;> rfl) | (simp [*, errW_none, errW_some] <;> rfl), by (with_reducible repeat (first | apply Kd.R_alloc | apply Kd.R_drewN | apply Kd.R_drew)); exact HO_5.out, by repeat (first | (with_reducible first | exact HB.out | apply below_alloc | apply pw_below_drewN | apply below_drew1) | exact HB.out)⟩
      · rw [if_neg c3] at H
        have c3b0 : decide (0 ≤ x1_1) = false := decide_eq_false c3
        clear c3
        obtain rfl := Option.some.inj H
        go_wp2
        go_ret
        exact ⟨_, by first | rfl | (simp [errW_none, errW_some] <;> rfl) | (simp [*, errW_none, errW_some] <;> rfl), by (with_reducible repeat (first | apply Kd.R_alloc | apply Kd.R_drewN | apply Kd.R_drew)); exact HO_5.out, by repeat (first | (with_reducible first | exact HB.out | apply below_alloc | apply pw_below_drewN | apply below_drew1) | exact HB.out)⟩

end Go.Proofs.Ytgjnmpgmbhbbhaa.P

end

section
namespace Go.Proofs.Ytgjnmpgmbhbbhaa.P
open Go.RowKit Go.Proofs.YtgjnmpgmbhbbhaaW.PrintWords Go.Proofs.YtgjnmpgmbhbbhaaW.PrintLast Go.Proofs.YtgjnmpgmbhbbhaaW.PrintMore
attribute [local go_sem] max2_int min2_int max_two min_two max_three min_three max_four min_four   -- for this text's walks alone
set_option linter.unusedVariables false
set_option linter.unusedSimpArgs false

def provisoref02_Fields.l0 : Nat → List (S59) → List Int → List (S62) → Int → Option ((List (S62)))
  | 0, _, _, _, _ => none
  | k + 1, x0, x5, x6, x7 => if x7 ≥ 0 then (if 0 ≤ x7 then (if x7 < (x5.length : Int) then (if 0 ≤ (rd x5 x7) then (if (rd x5 x7) < (x0.length : Int) then (if x6.length + ((rd_T59 x0 (rd x5 x7)).f2).length < 5864062014805 then (provisoref02_Fields.l0 k x0 x5 (x6 ++ ((rd_T59 x0 (rd x5 x7)).f2)) (wrap64 (x7 - 1))) else (none)) else (none)) else (none)) else (none)) else (none)) else (some x6)
def provisoref02_Fields.f (k : Nat) (l0 : List (S59)) (a1 : Int) : Option ((List (S62))) := (provisoref02_Line.f k l0 a1).bind fun t106 => (provisoref02_Fields.l0 k l0 t106 ([] : List (S62)) (wrap64 ((t106.length : Int) - 1)))
set_option maxHeartbeats 8000000 in
set_option maxRecDepth 100000 in
theorem provisoref02_Fields.calls (k : Nat) (A0 : Option Addr) (c0 : Nat) (l0 : List (S59)) (a1 : Int) (r : List (S62)) (w : World) (hr0 : Kd.C k59 w A0 l0.length l0) (hc0 : l0.length ≤ c0) (h : provisoref02_Fields.f k l0 a1 = some r) :
    Calls Try.prog 77 #[.slice A0 l0.length c0, .int .i64 a1] w fun e w' => ∃ v0_ : Value, e = .returned (v0_) ∧ Kd.R k62 62 w' w.heap.size (fun _ => True) v0_ r ∧ Below w.heap.size w w' := by
  have HR0 := Aside0.mk hr0
  have HC0 := Aside0.mk hc0
  clear hr0 hc0
  have HB := Aside0.mk (Below.refl w.heap.size w)
  have H : ((provisoref02_Line.f k l0 a1).bind fun t106 => (provisoref02_Fields.l0 k l0 t106 ([] : List (S62)) (wrap64 ((t106.length : Int) - 1)))) = some r := h
  clear h
  replace H := Option.bind_eq_some_iff.mp H
  obtain ⟨t106, A30, H⟩ := H
  replace H : (provisoref02_Fields.l0 k l0 t106 ([] : List (S62)) (wrap64 ((t106.length : Int) - 1))) = some r := H
  have A3 := Aside0.mk A30
  clear A30
  have H' := Aside0.mk H
  clear H
  go_enter Try.func77, Try.ntmps77
  go_wp2_with (first | ((with_reducible refine gate_callee (f := 68) rfl ?_); refine goesL_ (some 10) rfl rfl Try.func68 (by kernel_rfl) rfl #[.slice A0 l0.length c0, .int .i64 a1] rfl (by (try simp only [List.map_toArray, List.map_cons, List.map_nil]); first | done | rfl | (simp only [List.length_drop, List.length_take]; rfl)) ?_; (with_reducible refine (provisoref02_Line.calls k _ _ l0 a1 t106 _ ?side1 ?side2 A3.out).mono ?_); (case side1 => repeat (first | exact HR0.out | (with_reducible refine Kd.C_alloc ?_ _) | (with_reducible refine Kd.C_drewN ?_ _) | (with_reducible refine Kd.C_drew ?_))); (case side2 => exact HC0.out); rintro e w4 ⟨v107, rfl, ho0, hb⟩; refine ⟨_, rfl, ?_⟩; have n0_ := Aside0.mk (Kd.R_lower ho0 (below_size (by repeat (first | (with_reducible first | exact HB.out | apply below_alloc | apply pw_below_drewN | apply below_drew1) | exact HB.out)))); have n1_ := Aside0.mk (below_step (by repeat (first | (with_reducible first | exact HB.out | apply below_alloc | apply pw_below_drewN | apply below_drew1) | exact HB.out)) hb); clear HB; have HO108 := n0_; have HB := n1_; clear n0_ n1_; (try clear hb); (try clear hb2); (try clear hk); (try clear hi); (try clear ho0); obtain ⟨Ao5, co5, eo5⟩ := Kd.R_slice HO108.out; subst eo5))
  go_loopg [6, 7] k (fun kq v6 v7 w' => ∃ (x6_1 : List (S62)) (x7_1 : Int), v7 = .int .i64 x7_1 ∧ Aside0 (provisoref02_Fields.l0 kq l0 t106 x6_1 x7_1 = some r) ∧ Aside0 (kq ≤ k) ∧ Aside0 (Kd.R (Kd.int .i64) 3 w' w.heap.size (fun _ => True) (.slice Ao5 t106.length co5) t106) ∧ Aside0 (Kd.R k62 62 w' w.heap.size (fun _ => True) v6 x6_1) ∧ Aside0 (Below w.heap.size w w'))
  case atStart => exact ⟨(([] : List (S62))), (wrap64 ((t106.length : Int) - 1)), (by first | rfl | (simp; done) | (simp [*]; done)), H', ⟨Nat.le_refl _⟩, ⟨by (with_reducible repeat (first | apply Kd.R_alloc | apply Kd.R_drewN | apply Kd.R_drew)); exact HO108.out⟩, ⟨by first | exact Kd.R_nil _ _ _ _ _ | exact Kd.N_nil _ _ _ _ _ | exact Kd.V_nil _ _ _ _ _ | exact Kd.Q_nil _ _ _ _ _ | exact Kd.S_nil _ _ _ _ _⟩, ⟨by repeat (first | (with_reducible first | exact HB.out | apply below_alloc | apply pw_below_drewN | apply below_drew1) | exact HB.out)⟩⟩
  case round =>
    clear H'
    try clear p2
    obtain ⟨x6_1, x7_1, rfl, HA, HK1, HO_5, HO_6, HB⟩ := hrel
    cases gk with
    | zero => exact absurd HA.out (by simp [provisoref02_Fields.l0])
    | succ k1 =>
      have H := HA.out
      clear HA
      simp only [provisoref02_Fields.l0] at H
      by_cases c6 : x7_1 ≥ 0
      · rw [if_pos c6] at H
        have c6b0 : decide (0 ≤ x7_1) = true := decide_eq_true c6
        clear c6
        by_cases c7 : 0 ≤ x7_1
        · rw [if_pos c7] at H
          have c7b0 : decide (0 ≤ x7_1) = true := decide_eq_true c7
          clear c7
          by_cases c8 : x7_1 < (t106.length : Int)
          · rw [if_pos c8] at H
            have c8b0 : decide (x7_1 < (t106.length : Int)) = true := decide_eq_true c8
            clear c8
            by_cases c9 : 0 ≤ (rd t106 x7_1)
            · rw [if_pos c9] at H
              have c9b0 : decide (0 ≤ (rd t106 x7_1)) = true := decide_eq_true c9
              clear c9
              by_cases c10 : (rd t106 x7_1) < (l0.length : Int)
              · rw [if_pos c10] at H
                have c10b0 : decide ((rd t106 x7_1) < (l0.length : Int)) = true := decide_eq_true c10
                clear c10
                by_cases c11 : x6_1.length + ((rd_T59 l0 (rd t106 x7_1)).f2).length < 5864062014805
                · rw [if_pos c11] at H
                  have LMc11 := Aside0.mk c11
                  clear c11
                  obtain ⟨y111, hy111⟩ : ∃ y_ : List (S62), y_ = (x6_1 ++ ((rd_T59 l0 (rd t106 x7_1)).f2)) := ⟨_, rfl⟩
                  replace H : (provisoref02_Fields.l0 k1 l0 t106 y111 (wrap64 (x7_1 - 1))) = some r := by first | (rw [hy111]; with_reducible exact H) | (have H2_ := (Option.bind_some _ _).symm.trans H; rw [hy111]; with_reducible exact H2_) | (have H2_ := (Option.bind_some _ _).symm.trans H; with_reducible exact H2_) | with_reducible exact H | (rw [hy111]; exact H) | exact H
                  have Ny111 := Aside0.mk hy111
                  clear hy111
                  have H' := Aside0.mk H
                  clear H
                  have p109 : 0 ≤ (x7_1 : Int) := of_decide_eq_true (by first | (with_reducible assumption) | assumption)
                  have q109 : x7_1 < (t106.length : Int) := of_decide_eq_true (by first | (with_reducible assumption) | assumption)
                  obtain ⟨ad109, e109, hx109_0⟩ := Kd.at_int (Kd.R_reads' HO_5.out).2.2 x7_1 p109 q109
                  cases e109
                  replace p109 := eq_true p109
                  replace q109 := eq_true q109
                  have p110 : 0 ≤ ((rd t106 x7_1) : Int) := of_decide_eq_true (by first | (with_reducible assumption) | assumption)
                  have q110 : (rd t106 x7_1) < (l0.length : Int) := of_decide_eq_true (by first | (with_reducible assumption) | assumption)
                  obtain ⟨ad110, A110_2, c110_2, e110, hx110_0, hx110_1, hx110_2, hl110_2, hi110_2⟩ := at_T59 HR0.out (rd t106 x7_1) p110 q110
                  cases e110
                  replace hx110_0 := (HB.out.cell (World.block_lt_of_cell? w _ hx110_0)).trans hx110_0
                  replace hx110_1 := (HB.out.cell (World.block_lt_of_cell? w _ hx110_1)).trans hx110_1
                  replace hx110_2 := (HB.out.cell (World.block_lt_of_cell? w _ hx110_2)).trans hx110_2
                  have HR110_2 := Aside0.mk hi110_2
                  have HC110_2 := Aside0.mk hl110_2
                  clear hi110_2 hl110_2
                  replace p110 := eq_true p110
                  replace q110 := eq_true q110
                  go_wp2_with (first | ((with_reducible refine gate_builtin (b := .append) (xs := #[.tmp 18, .tmp 26]) rfl ?_); at_builtin; refine Kd.R_append_rows k62 (w0 := w) w.heap.size rfl (.tmp 18) (.tmp 26) 57 62 (.agg #[(.string ⟨#[]⟩), (.int .u8 0)]) 24 rfl Try.underlying57 info62 rfl (by decide) (by omega) u6 x6_1 ((rd_T59 l0 (rd t106 x7_1)).f2) _ _ _ (fun _ => True) (fun _ => False) rfl rfl ?aO ?aR (fun _ _ h => h) (fun _ h => h.elim) ?aF ?aB ?aS ?aL ?_; (case aR => repeat (first | exact (Kd.C_below HR110_2.out HB.out) | (with_reducible refine Kd.C_alloc ?_ _) | (with_reducible refine Kd.C_drewN ?_ _) | (with_reducible refine Kd.C_drew ?_))); (case aB => exact (by repeat (first | (with_reducible first | exact HB.out | apply below_alloc | apply pw_below_drewN | apply below_drew1) | exact HB.out))); (case aF => exact (fun _ _ => trivial)); (case aO => exact (by (with_reducible repeat (first | apply Kd.R_alloc | apply Kd.R_drewN | apply Kd.R_drew)); exact HO_6.out)); (case aS => exact (below_size (by repeat (first | (with_reducible first | exact HB.out | apply below_alloc | apply pw_below_drewN | apply below_drew1) | exact HB.out)))); (case aL => have := LMc11.out; omega); intro v112 w12 ho hb hg hat; rw [← Ny111.out] at ho; have n0_ := Aside0.mk (Kd.R_over' (by (with_reducible repeat (first | apply Kd.R_alloc | apply Kd.R_drewN | apply Kd.R_drew)); exact HO_5.out) (Kd.R_typed (by (with_reducible repeat (first | apply Kd.R_alloc | apply Kd.R_drewN | apply Kd.R_drew)); exact HO_6.out)) (by decide) hg); have n1_ := Aside0.mk (hb); have n2_ := Aside0.mk (ho); clear HO_5; clear HB; clear HO_6; have HO_5 := n0_; have HB := n1_; have HO113 := n2_; clear n0_ n1_ n2_; clear ho hb hg hat))
                  go_roundg k1
                  case measure => have := HK1.out; omega
                  case rel => exact ⟨(y111), (wrap64 (x7_1 - 1)), (by first | rfl | (simp; done) | (simp [*]; done)), H', ⟨by have := HK1.out; omega⟩, ⟨by (with_reducible repeat (first | apply Kd.R_alloc | apply Kd.R_drewN | apply Kd.R_drew)); exact HO_5.out⟩, ⟨by (with_reducible repeat (first | apply Kd.R_alloc | apply Kd.R_drewN | apply Kd.R_drew)); exact HO113.out⟩, ⟨by repeat (first | (with_reducible first | exact HB.out | apply below_alloc | apply pw_below_drewN | apply below_drew1) | exact HB.out)⟩⟩
                · rw [if_neg c11] at H
                  exact absurd H (by simp)
              · rw [if_neg c10] at H
                exact absurd H (by simp)
            · rw [if_neg c9] at H
              exact absurd H (by simp)
          · rw [if_neg c8] at H
            exact absurd H (by simp)
        · rw [if_neg c7] at H
          exact absurd H (by simp)
      · rw [if_neg c6] at H
        have c6b0 : decide (0 ≤ x7_1) = false := decide_eq_false c6
        clear c6
        obtain rfl := Option.some.inj H
        go_wp2
        go_ret
        exact ⟨_, by first | rfl | (simp [errW_none, errW_some] <;> rfl) | (simp [*, errW_none, errW_some] <;> rfl), by (with_reducible repeat (first | apply Kd.R_alloc | apply Kd.R_drewN | apply Kd.R_drew)); exact HO_6.out, by repeat (first | (with_reducible first | exact HB.out | apply below_alloc | apply pw_below_drewN | apply below_drew1) | exact HB.out)⟩

def provisoref02_has.l0 : Nat → List (S62) → ByteArray → Int → Option (Bool)
  | 0, _, _, _ => none
  | k + 1, x0, x1, x5 => if x5 < (x0.length : Int) then (if 0 ≤ x5 then (if ((rd_T62 x0 x5).f0).toList = x1.toList then (some true) else (provisoref02_has.l0 k x0 x1 (wrap64 (x5 + 1)))) else (none)) else (some false)
def provisoref02_has.f (k : Nat) (l0 : List (S62)) (a1 : ByteArray) : Option (Bool) := provisoref02_has.l0 k l0 a1 0
set_option maxHeartbeats 8000000 in
set_option maxRecDepth 100000 in
theorem provisoref02_has.calls (k : Nat) (A0 : Option Addr) (c0 : Nat) (l0 : List (S62)) (a1 : ByteArray) (r : Bool) (w : World) (hr0 : Kd.C k62 w A0 l0.length l0) (hc0 : l0.length ≤ c0) (h : provisoref02_has.f k l0 a1 = some r) :
    Calls Try.prog 78 #[.slice A0 l0.length c0, .string a1] w fun e w' => e = .returned (.bool r) ∧ Drawn0 w w' := by
  have HR0 := Aside0.mk hr0
  have HC0 := Aside0.mk hc0
  clear hr0 hc0
  have H : (provisoref02_has.l0 k l0 a1 0) = some r := h
  clear h
  have H' := Aside0.mk H
  clear H
  go_enter Try.func78, Try.ntmps78
  go_wp2
  go_loopg [5] k (fun kq v5 w' => ∃ (x5_1 : Int), v5 = .int .i64 x5_1 ∧ Aside0 (provisoref02_has.l0 kq l0 a1 x5_1 = some r) ∧ Aside0 (kq ≤ k) ∧ Drawn0 w w')
  case atStart => exact ⟨(0), (by first | rfl | (simp; done) | (simp [*]; done)), H', ⟨Nat.le_refl _⟩, by repeat (first | exact Drawn0.refl _ | apply Drawn0.step)⟩
  case round =>
    clear H'
    try clear p2
    obtain ⟨x5_1, rfl, HA, HK1, ⟨m1, rfl⟩⟩ := hrel
    cases gk with
    | zero => exact absurd HA.out (by simp [provisoref02_has.l0])
    | succ k1 =>
      have H := HA.out
      clear HA
      simp only [provisoref02_has.l0] at H
      by_cases c3 : x5_1 < (l0.length : Int)
      · rw [if_pos c3] at H
        have c3b0 : decide (x5_1 < (l0.length : Int)) = true := decide_eq_true c3
        clear c3
        by_cases c4 : 0 ≤ x5_1
        · rw [if_pos c4] at H
          have c4b0 : decide (0 ≤ x5_1) = true := decide_eq_true c4
          clear c4
          by_cases c5 : ((rd_T62 l0 x5_1).f0).toList = a1.toList
          · rw [if_pos c5] at H
            have c5b0 : (((rd_T62 l0 x5_1).f0).toList == a1.toList) = true := beq_iff_eq.mpr c5
            have c5b1 : (((rd_T62 l0 x5_1).f0).toList != a1.toList) = false := bne_eq_false_iff_eq.mpr c5
            clear c5
            obtain rfl := Option.some.inj H
            have p114 : 0 ≤ (x5_1 : Int) := of_decide_eq_true (by first | (with_reducible assumption) | assumption)
            have q114 : x5_1 < (l0.length : Int) := of_decide_eq_true (by first | (with_reducible assumption) | assumption)
            obtain ⟨ad114, e114, hx114_0, hx114_1⟩ := at_T62 HR0.out x5_1 p114 q114
            cases e114
            replace p114 := eq_true p114
            replace q114 := eq_true q114
            go_wp2
            go_ret
            exact ⟨by first | rfl | (simp; done) | (simp [*]; done), by repeat (first | exact Drawn0.refl _ | apply Drawn0.step)⟩
          · rw [if_neg c5] at H
            have c5b0 : (((rd_T62 l0 x5_1).f0).toList == a1.toList) = false := beq_eq_false_iff_ne.mpr c5
            have c5b1 : (((rd_T62 l0 x5_1).f0).toList != a1.toList) = true := bne_iff_ne.mpr c5
            have H' := Aside0.mk H
            clear H
            have p114 : 0 ≤ (x5_1 : Int) := of_decide_eq_true (by first | (with_reducible assumption) | assumption)
            have q114 : x5_1 < (l0.length : Int) := of_decide_eq_true (by first | (with_reducible assumption) | assumption)
            obtain ⟨ad114, e114, hx114_0, hx114_1⟩ := at_T62 HR0.out x5_1 p114 q114
            cases e114
            replace p114 := eq_true p114
            replace q114 := eq_true q114
            go_wp2
            go_roundg k1
            case measure => have := HK1.out; omega
            case rel => exact ⟨(wrap64 (x5_1 + 1)), (by first | rfl | (simp; done) | (simp [*]; done)), H', ⟨by have := HK1.out; omega⟩, by repeat (first | exact Drawn0.refl _ | apply Drawn0.step)⟩
        · rw [if_neg c4] at H
          exact absurd H (by simp)
      · rw [if_neg c3] at H
        have c3b0 : decide (x5_1 < (l0.length : Int)) = false := decide_eq_false c3
        clear c3
        obtain rfl := Option.some.inj H
        go_wp2
        go_ret
        exact ⟨by first | rfl | (simp; done) | (simp [*]; done), by repeat (first | exact Drawn0.refl _ | apply Drawn0.step)⟩

def provisoref02_Valid.f (l0 : List (S59)) (a1 : Int) : Option (Bool) := if a1 ≤ 5 then (some true) else (if a1 ≥ 16 then (some (decide (((a1 - 16) % 256) < (l0.length : Int)))) else (some false))
set_option maxHeartbeats 8000000 in
set_option maxRecDepth 100000 in
theorem provisoref02_Valid.calls (A0 : Option Addr) (c0 : Nat) (l0 : List (S59)) (a1 : Int) (r : Bool) (w : World) (hr0 : Kd.C k59 w A0 l0.length l0) (hc0 : l0.length ≤ c0) (h : provisoref02_Valid.f l0 a1 = some r) :
    Calls Try.prog 51 #[.slice A0 l0.length c0, .int .u8 a1] w fun e w' => e = .returned (.bool r) ∧ Drawn0 w w' := by
  have HR0 := Aside0.mk hr0
  have HC0 := Aside0.mk hc0
  clear hr0 hc0
  have H : (if a1 ≤ 5 then (some true) else (if a1 ≥ 16 then (some (decide (((a1 - 16) % 256) < (l0.length : Int)))) else (some false))) = some r := h
  clear h
  by_cases c3 : a1 ≤ 5
  · rw [if_pos c3] at H
    have c3b0 : decide (a1 ≤ 5) = true := decide_eq_true c3
    clear c3
    obtain rfl := Option.some.inj H
    go_enter Try.func51, Try.ntmps51
    go_wp2
    go_ret
    exact ⟨by first | rfl | (simp; done) | (simp [*]; done), by repeat (first | exact Drawn0.refl _ | apply Drawn0.step)⟩
  · rw [if_neg c3] at H
    have c3b0 : decide (a1 ≤ 5) = false := decide_eq_false c3
    clear c3
    by_cases c4 : a1 ≥ 16
    · rw [if_pos c4] at H
      have c4b0 : decide (16 ≤ a1) = true := decide_eq_true c4
      clear c4
      obtain rfl := Option.some.inj H
      go_enter Try.func51, Try.ntmps51
      go_wp2
      go_ret
      exact ⟨by first | rfl | (simp; done) | (simp [*]; done), by repeat (first | exact Drawn0.refl _ | apply Drawn0.step)⟩
    · rw [if_neg c4] at H
      have c4b0 : decide (16 ≤ a1) = false := decide_eq_false c4
      clear c4
      obtain rfl := Option.some.inj H
      go_enter Try.func51, Try.ntmps51
      go_wp2
      go_ret
      exact ⟨by first | rfl | (simp; done) | (simp [*]; done), by repeat (first | exact Drawn0.refl _ | apply Drawn0.step)⟩

def provisoref02_Stored.f (l0 : List (S59)) (a1 : Int) : Option (Bool) := (provisoref02_Valid.f l0 a1).bind fun t115 => (if t115 = true then (if a1 = 0 then (some false) else (some (a1 != 3))) else (some false))
set_option maxHeartbeats 8000000 in
set_option maxRecDepth 100000 in
theorem provisoref02_Stored.calls (A0 : Option Addr) (c0 : Nat) (l0 : List (S59)) (a1 : Int) (r : Bool) (w : World) (hr0 : Kd.C k59 w A0 l0.length l0) (hc0 : l0.length ≤ c0) (h : provisoref02_Stored.f l0 a1 = some r) :
    Calls Try.prog 79 #[.slice A0 l0.length c0, .int .u8 a1] w fun e w' => e = .returned (.bool r) ∧ Drawn0 w w' := by
  have HR0 := Aside0.mk hr0
  have HC0 := Aside0.mk hc0
  clear hr0 hc0
  have H : ((provisoref02_Valid.f l0 a1).bind fun t115 => (if t115 = true then (if a1 = 0 then (some false) else (some (a1 != 3))) else (some false))) = some r := h
  clear h
  replace H := Option.bind_eq_some_iff.mp H
  obtain ⟨t115, A30, H⟩ := H
  replace H : (if t115 = true then (if a1 = 0 then (some false) else (some (a1 != 3))) else (some false)) = some r := H
  have A3 := Aside0.mk A30
  clear A30
  by_cases c4 : t115 = true
  · subst c4
    have H1 : (if a1 = 0 then (some false) else (some (a1 != 3))) = some r := by rw [if_pos rfl] at H; exact H
    clear H
    have H := H1
    clear H1
    by_cases c5 : a1 = 0
    · rw [if_pos c5] at H
      have c5b0 : (a1 == 0) = true := beq_iff_eq.mpr c5
      have c5b1 : (a1 != 0) = false := bne_eq_false_iff_eq.mpr c5
      clear c5
      obtain rfl := Option.some.inj H
      go_enter Try.func79, Try.ntmps79
      go_wp2_with (first | ((with_reducible refine gate_callee (f := 51) rfl ?_); refine goesL_ (some 7) rfl rfl Try.func51 (by kernel_rfl) rfl #[.slice A0 l0.length c0, .int .u8 a1] rfl (by (try simp only [List.map_toArray, List.map_cons, List.map_nil]); first | done | rfl | (simp only [List.length_drop, List.length_take]; rfl)) ?_; (with_reducible refine (provisoref02_Valid.calls _ _ l0 a1 true _ ?side1 ?side2 A3.out).mono ?_); (case side1 => repeat (first | exact HR0.out | (with_reducible refine Kd.C_alloc ?_ _) | (with_reducible refine Kd.C_drewN ?_ _) | (with_reducible refine Kd.C_drew ?_))); (case side2 => exact HC0.out); rintro e w' ⟨rfl, ⟨nd, rfl⟩⟩; refine ⟨_, rfl, ?_⟩))
      go_ret
      exact ⟨by first | rfl | (simp; done) | (simp [*]; done), by repeat (first | exact Drawn0.refl _ | apply Drawn0.step)⟩
    · rw [if_neg c5] at H
      have c5b0 : (a1 == 0) = false := beq_eq_false_iff_ne.mpr c5
      have c5b1 : (a1 != 0) = true := bne_iff_ne.mpr c5
      obtain rfl := Option.some.inj H
      go_enter Try.func79, Try.ntmps79
      go_wp2_with (first | ((with_reducible refine gate_callee (f := 51) rfl ?_); refine goesL_ (some 7) rfl rfl Try.func51 (by kernel_rfl) rfl #[.slice A0 l0.length c0, .int .u8 a1] rfl (by (try simp only [List.map_toArray, List.map_cons, List.map_nil]); first | done | rfl | (simp only [List.length_drop, List.length_take]; rfl)) ?_; (with_reducible refine (provisoref02_Valid.calls _ _ l0 a1 true _ ?side1 ?side2 A3.out).mono ?_); (case side1 => repeat (first | exact HR0.out | (with_reducible refine Kd.C_alloc ?_ _) | (with_reducible refine Kd.C_drewN ?_ _) | (with_reducible refine Kd.C_drew ?_))); (case side2 => exact HC0.out); rintro e w' ⟨rfl, ⟨nd, rfl⟩⟩; refine ⟨_, rfl, ?_⟩))
      go_ret
      exact ⟨by first | rfl | (simp; done) | (simp [*]; done), by repeat (first | exact Drawn0.refl _ | apply Drawn0.step)⟩
  · replace c4 := Bool.eq_false_iff.mpr c4
    subst c4
    have H1 : (some false) = some r := by rw [if_neg (show ¬ (false = true) by decide)] at H; exact H
    clear H
    have H := H1
    clear H1
    obtain rfl := Option.some.inj H
    go_enter Try.func79, Try.ntmps79
    go_wp2_with (first | ((with_reducible refine gate_callee (f := 51) rfl ?_); refine goesL_ (some 7) rfl rfl Try.func51 (by kernel_rfl) rfl #[.slice A0 l0.length c0, .int .u8 a1] rfl (by (try simp only [List.map_toArray, List.map_cons, List.map_nil]); first | done | rfl | (simp only [List.length_drop, List.length_take]; rfl)) ?_; (with_reducible refine (provisoref02_Valid.calls _ _ l0 a1 false _ ?side1 ?side2 A3.out).mono ?_); (case side1 => repeat (first | exact HR0.out | (with_reducible refine Kd.C_alloc ?_ _) | (with_reducible refine Kd.C_drewN ?_ _) | (with_reducible refine Kd.C_drew ?_))); (case side2 => exact HC0.out); rintro e w' ⟨rfl, ⟨nd, rfl⟩⟩; refine ⟨_, rfl, ?_⟩))
    go_ret
    exact ⟨by first | rfl | (simp; done) | (simp [*]; done), by repeat (first | exact Drawn0.refl _ | apply Drawn0.step)⟩

end Go.Proofs.Ytgjnmpgmbhbbhaa.P

end

section
namespace Go.Proofs.Ytgjnmpgmbhbbhaa.P
open Go.RowKit Go.Proofs.YtgjnmpgmbhbbhaaW.PrintWords Go.Proofs.YtgjnmpgmbhbbhaaW.PrintLast Go.Proofs.YtgjnmpgmbhbbhaaW.PrintMore
attribute [local go_sem] max2_int min2_int max_two min_two max_three min_three max_four min_four   -- for this text's walks alone
set_option linter.unusedVariables false
set_option linter.unusedSimpArgs false

theorem eqA62 (d : Nat) (w : World) (x0 y0 : ByteArray) (x1 y1 : Int) :
    (Op.equalIn (d + 2) 62 (.agg #[.string x0, .int .u8 x1]) (.agg #[.string y0, .int .u8 y1])).run Try.prog w = .ok (x0.toList == y0.toList && (x1 == y1)) w := by
  refine eqA_of Try.underlying62 (by kernel_rfl) ?_
  refine eqf_cons (by rfl) (by go_simp; rfl) (by go_simp; rfl) (by go_simp) ?_
  exact eqf_last (by rfl) (by go_simp; rfl) (by go_simp; rfl) (by go_simp)
end Go.Proofs.Ytgjnmpgmbhbbhaa.P

end

section
namespace Go.Proofs.Ytgjnmpgmbhbbhaa.P
open Go.RowKit Go.Proofs.YtgjnmpgmbhbbhaaW.PrintWords Go.Proofs.YtgjnmpgmbhbbhaaW.PrintLast Go.Proofs.YtgjnmpgmbhbbhaaW.PrintMore
attribute [local go_sem] max2_int min2_int max_two min_two max_three min_three max_four min_four   -- for this text's walks alone
set_option linter.unusedVariables false
set_option linter.unusedSimpArgs false

mutual
def provisoref02_fault.j0 : Nat → List (S59) → Int → Bool → ByteArray → Int → List (S62) → Option (Int)
  | 0, _, _, _, _, _, _ => none
  | k + 1, x0, x1, x24, x118000, x118001, x118002 => if x24 = true then (some 6) else (provisoref02_fault.l0 k x0 x1 0 x118000 x118001 x118002)
def provisoref02_fault.l0 : Nat → List (S59) → Int → Int → ByteArray → Int → List (S62) → Option (Int)
  | 0, _, _, _, _, _, _ => none
  | k + 1, x0, x1, x6, x118000, x118001, x118002 => if x6 < x1 then (if 0 ≤ x6 then (if x6 < (x0.length : Int) then (if ((rd_T59 x0 x6).f0).toList = x118000.toList then (some 20) else (provisoref02_fault.l0 k x0 x1 (wrap64 (x6 + 1)) x118000 x118001 x118002)) else (none)) else (none)) else (if x118001 < (-1) then (provisoref02_fault.j2 k x0 true x118000 x118001 x118002) else (provisoref02_fault.j2 k x0 (decide (x118001 ≥ x1)) x118000 x118001 x118002))
def provisoref02_fault.j2 : Nat → List (S59) → Bool → ByteArray → Int → List (S62) → Option (Int)
  | 0, _, _, _, _, _ => none
  | k + 1, x0, x46, x118000, x118001, x118002 => if x46 = true then (some 21) else ((provisoref02_Fields.f k x0 x118001).bind fun t121 => (provisoref02_fault.l1 k x0 t121 0 x118000 x118001 x118002))
def provisoref02_fault.l1 : Nat → List (S59) → List (S62) → Int → ByteArray → Int → List (S62) → Option (Int)
  | 0, _, _, _, _, _, _ => none
  | k + 1, x0, x7, x8, x118000, x118001, x118002 => if x8 < (x118002.length : Int) then (if 0 ≤ x8 then ((provisoref02_IsName.f k ((rd_T62 x118002 x8).f0)).bind fun t126 => (if t126 = true then ((provisoref02_has.f k x7 ((rd_T62 x118002 x8).f0)).bind fun t127 => (if t127 = true then (some 20) else (if x8 ≤ (x118002.length : Int) then ((provisoref02_has.f k (x118002.take (x8 : Int).toNat) ((rd_T62 x118002 x8).f0)).bind fun t132 => (if t132 = true then (some 20) else ((provisoref02_Stored.f x0 ((rd_T62 x118002 x8).f1)).bind fun t133 => (if t133 = true then (provisoref02_fault.l1 k x0 x7 (wrap64 (x8 + 1)) x118000 x118001 x118002) else (some 22))))) else (none)))) else (some 6))) else (none)) else (if (x118002.length : Int) > (wrap64 (32 - (x7.length : Int))) then (some 4) else (some 0))
end
def provisoref02_fault.f (k : Nat) (l0 : List (S59)) (a1 : Int) : Option (Int) := if 0 ≤ a1 then (if a1 < (l0.length : Int) then (if a1 ≥ 32 then (some 4) else ((provisoref02_IsName.f k ((rd_T59 l0 a1).f0)).bind fun t118 => (if t118 = true then ((provisoref02_isWord.f k ((rd_T59 l0 a1).f0)).bind fun t119 => (provisoref02_fault.j0 k l0 a1 t119 ((rd_T59 l0 a1).f0) ((rd_T59 l0 a1).f1) ((rd_T59 l0 a1).f2))) else (provisoref02_fault.j0 k l0 a1 true ((rd_T59 l0 a1).f0) ((rd_T59 l0 a1).f1) ((rd_T59 l0 a1).f2))))) else (none)) else (none)
end Go.Proofs.Ytgjnmpgmbhbbhaa.P
end

