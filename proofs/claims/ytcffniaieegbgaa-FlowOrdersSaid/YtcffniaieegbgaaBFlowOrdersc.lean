/- Proved: the law FlowOrders holds for every input that the row lets in. No condition of ours. -/
import Derived.Test.YtcffniaieegbgaaBFlowOrdersb
import Derived.Test.YtcffniaieegbgaaProg
import Derived.WalkSpells
import Derived.ChangeKeysEq
import Derived.Deep.MidRow
import Derived.Maps.RangeWalk
import Derived.Maps.OwnSet
import Derived.Maps.OwnOps
import Derived.Shelf.Sort.Plain
import Derived.Shelf.Slices.In.SortNone
import Derived.Sort.OwnSortedInts
section
namespace Go.Proofs.Ytcffniaieegbgaa.P
open Go.RowKit Go.Proofs.YtcffniaieegbgaaW.PrintWords Go.Proofs.YtcffniaieegbgaaW.PrintLast Go.Proofs.YtcffniaieegbgaaW.PrintMore
attribute [local go_sem] max2_int min2_int max_two min_two max_three min_three max_four min_four   -- for this text's walks alone
set_option linter.unusedVariables false
set_option linter.unusedSimpArgs false



def errW : Option Int → Value
  | none => .nilIface
  | some c => .iface 0 (.int .i64 c)
theorem errW_none : errW none = .nilIface := rfl
theorem errW_some (c : Int) : errW (some c) = .iface 0 (.int .i64 c) := rfl

theorem info3 : (Try.prog.info? 3).map (fun i => (i.zero, i.size, i.bytes)) = some (some (.int .i64 0), 1, 8) := by kernel_rfl
theorem info4 : (Try.prog.info? 4).map (fun i => (i.zero, i.size, i.bytes)) = some (some (.bool false), 1, 1) := by kernel_rfl
theorem info35 : (Try.prog.info? 35).map (fun i => (i.zero, i.size, i.bytes)) = some (some (.agg #[(.int .i64 0), (.int .i64 0), (.slice none 0 0)]), 3, 40) := by kernel_rfl
structure S46 where
  f0 : Int
  f1 : Int
  f2 : Int
  f3 : Int
def z46 : S46 := ⟨(0 : Int), (0 : Int), (0 : Int), (0 : Int)⟩
def rd_T46 (xs : List S46) (i : Int) : S46 := xs.getD i.toNat z46
structure S35 where
  f0 : Int
  f1 : Int
  f2 : (List Int)
def z35 : S35 := ⟨(0 : Int), (0 : Int), ([] : List Int)⟩
def k35 : Kd S35 := Kd.iso (Kd.pair (Kd.int .i64) (Kd.pair (Kd.int .i64) (Kd.slice 3 (Kd.int .i64)))) (fun x : S35 => (x.f0, x.f1, x.f2))
theorem k35_heap : Kd.Heap k35 := Kd.heap_iso _ (Kd.heap_pair (Kd.heap_int .i64) (Kd.heap_pair (Kd.heap_int .i64) (Kd.heap_slice 3 (Kd.heap_int .i64))))
theorem k35_open {w : World} {x : S35} {cs : List Value} (h : k35.K w x cs) : ∃ A2 c2, cs = [.int .i64 x.f0, .int .i64 x.f1, .slice A2 x.f2.length c2] ∧ x.f2.length ≤ c2 ∧ (Kd.int .i64).C w A2 x.f2.length x.f2 := by
  obtain ⟨_, _, rfl, rfl, ⟨_, _, rfl, rfl, ⟨A2, c2, rfl, l2, g2⟩⟩⟩ := h
  exact ⟨A2, c2, rfl, l2, g2⟩
theorem k35_mkM (w : World) (base : Nat) (ok : Nat → Prop) (x : S35) {v2 : Value} (g2 : (Kd.int .i64).R 3 w base ok v2 x.f2) : k35.M w base ok x [.int .i64 x.f0, .int .i64 x.f1, v2] := ⟨[.int .i64 x.f0], [.int .i64 x.f1, v2], rfl, rfl, ⟨[.int .i64 x.f1], [v2], rfl, rfl, ⟨v2, rfl, g2⟩⟩⟩
def rd_T35 (xs : List S35) (i : Int) : S35 := xs.getD i.toNat z35
theorem at_T35 {w : World} {A : Option Addr} {n : Nat} {xs : List S35} (h : Kd.C k35 w A n xs) (i : Int) (h0 : 0 ≤ i) (h1 : i < n) : ∃ ad A2 c2, A = some ad ∧ w.cell? (ad.add (i.toNat * 3)) = some (.int .i64 (rd_T35 xs i).f0) ∧ w.cell? ⟨(ad.add (i.toNat * 3)).block, (ad.add (i.toNat * 3)).off + 1, none⟩ = some (.int .i64 (rd_T35 xs i).f1) ∧ w.cell? ⟨(ad.add (i.toNat * 3)).block, (ad.add (i.toNat * 3)).off + 2, none⟩ = some (.slice A2 (rd_T35 xs i).f2.length c2) ∧ (rd_T35 xs i).f2.length ≤ c2 ∧ (Kd.int .i64).C w A2 (rd_T35 xs i).f2.length (rd_T35 xs i).f2 := by
  obtain ⟨ad, c, e, _, hK, hc0⟩ := Kd.C_get h z35 i h0 h1
  have hc : ∀ j u, c[j]? = some u → w.cell? (ad.add (i.toNat * 3 + j)) = some u := hc0
  obtain ⟨A2, c2, rfl, l2, g2⟩ := k35_open hK
  exact ⟨ad, A2, c2, e, hc 0 _ rfl, by rw [← add_field _ _ 1 (by omega)]; exact hc 1 _ rfl, by rw [← add_field _ _ 2 (by omega)]; exact hc 2 _ rfl, l2, g2⟩

end Go.Proofs.Ytcffniaieegbgaa.P

end

section
namespace Go.Proofs.Ytcffniaieegbgaa.P
open Go.RowKit Go.Proofs.YtcffniaieegbgaaW.PrintWords Go.Proofs.Ytcffniaieegbgaa.Sees

def Ok35 (x : S35) : Prop := (fun n : Int => (Lit.int .i64 n).wf = true) x.f0 ∧ (fun n : Int => (Lit.int .i64 n).wf = true) x.f1 ∧ (fun l : List (Int) => l.length ≤ 9223372036854775807 ∧ l.length * 8 ≤ 140737488351232 ∧ ∀ x ∈ l, (fun n : Int => (Lit.int .i64 n).wf = true) x) x.f2
theorem sees35 : Sees Try.prog 35 k35 Ok35 := sees_struct (fun x : S35 => (x.f0, x.f1, x.f2)) (fun y => ⟨y.1, y.2.1, y.2.2⟩) (fun _ => rfl) Try.underlying35 (by kernel_rfl) (sees_more rfl (by kernel_rfl) (sees_int Try.underlying3) (sees_more rfl (by kernel_rfl) (sees_int Try.underlying3) (sees_last rfl (by kernel_rfl) (sees_slice (B := 8) Try.underlying27 (by kernel_rfl) (by kernel_rfl) (sees_int Try.underlying3)))))
end Go.Proofs.Ytcffniaieegbgaa.P

end

section
namespace Go.Proofs.Ytcffniaieegbgaa.P
open Go.RowKit Go.Proofs.YtcffniaieegbgaaW.PrintWords Go.Proofs.YtcffniaieegbgaaW.PrintLast Go.Proofs.YtcffniaieegbgaaW.PrintMore
attribute [local go_sem] max2_int min2_int max_two min_two max_three min_three max_four min_four   -- for this text's walks alone
set_option linter.unusedVariables false
set_option linter.unusedSimpArgs false

def slices_Equal_int_int.l0 : Nat → List Int → List Int → Int → Int → Option (Bool)
  | 0, _, _, _, _ => none
  | k + 1, x0, x1, x12, x13 => if x13 < x12 then (if 0 ≤ x13 then (if x13 < (x0.length : Int) then (if x13 < (x1.length : Int) then (if (rd x0 x13) = (rd x1 x13) then (slices_Equal_int_int.l0 k x0 x1 x12 (wrap64 (x13 + 1))) else (some false)) else (none)) else (none)) else (none)) else (some true)
def slices_Equal_int_int.f (k : Nat) (l0 : List Int) (l1 : List Int) : Option (Bool) := if (l0.length : Int) = (l1.length : Int) then (slices_Equal_int_int.l0 k l0 l1 (l0.length : Int) 0) else (some false)
set_option maxHeartbeats 8000000 in
set_option maxRecDepth 100000 in
theorem slices_Equal_int_int.calls (k : Nat) (A0 : Option Addr) (c0 : Nat) (l0 : List Int) (A1 : Option Addr) (c1 : Nat) (l1 : List Int) (r : Bool) (w : World) (hr0 : Kd.C (Kd.int .i64) w A0 l0.length l0) (hc0 : l0.length ≤ c0) (hr1 : Kd.C (Kd.int .i64) w A1 l1.length l1) (hc1 : l1.length ≤ c1) (h : slices_Equal_int_int.f k l0 l1 = some r) :
    Calls Try.prog 22 #[.slice A0 l0.length c0, .slice A1 l1.length c1] w fun e w' => e = .returned (.bool r) ∧ Drawn0 w w' := by
  have HR0 := Aside0.mk hr0
  have HC0 := Aside0.mk hc0
  clear hr0 hc0
  have HR1 := Aside0.mk hr1
  have HC1 := Aside0.mk hc1
  clear hr1 hc1
  have H : (if (l0.length : Int) = (l1.length : Int) then (slices_Equal_int_int.l0 k l0 l1 (l0.length : Int) 0) else (some false)) = some r := h
  clear h
  by_cases c3 : (l0.length : Int) = (l1.length : Int)
  · rw [if_pos c3] at H
    have c3b0 : ((l0.length : Int) == (l1.length : Int)) = true := beq_iff_eq.mpr c3
    have c3b1 : ((l0.length : Int) != (l1.length : Int)) = false := bne_eq_false_iff_eq.mpr c3
    have c3b2 : (l0.length == l1.length) = true := by first | simpa using c3 | (simp at c3 ⊢; omega)
    clear c3
    have H' := Aside0.mk H
    clear H
    go_enter Try.func22, Try.ntmps22
    go_wp2
    repeat (go_quiet (fail); try go_wp2)
    go_loopg [13] k (fun kq v13 w' => ∃ (x13_1 : Int), v13 = .int .i64 x13_1 ∧ Aside0 (slices_Equal_int_int.l0 kq l0 l1 (l0.length : Int) x13_1 = some r) ∧ Aside0 (kq ≤ k) ∧ Drawn0 w w')
    case atStart => exact ⟨(0), (by first | rfl | (simp; done) | (simp [*]; done)), H', ⟨Nat.le_refl _⟩, by repeat (first | exact Drawn0.refl _ | apply Drawn0.step)⟩
    case round =>
      clear H'
      try clear c1
      try clear c2
      try clear p2
      try clear c3
      try clear c3b0
      try clear c3b1
      try clear c3b2
      obtain ⟨x13_1, rfl, HA, HK1, ⟨m1, rfl⟩⟩ := hrel
      cases gk with
      | zero => exact absurd HA.out (by simp [slices_Equal_int_int.l0])
      | succ k1 =>
        have H := HA.out
        clear HA
        simp only [slices_Equal_int_int.l0] at H
        by_cases c4 : x13_1 < (l0.length : Int)
        · rw [if_pos c4] at H
          have c4b0 : decide (x13_1 < (l0.length : Int)) = true := decide_eq_true c4
          clear c4
          by_cases c5 : 0 ≤ x13_1
          · rw [if_pos c5] at H
            have c5b0 : decide (0 ≤ x13_1) = true := decide_eq_true c5
            clear c5
            by_cases c6 : x13_1 < (l0.length : Int)
            · rw [if_pos c6] at H
              have c6b0 : decide (x13_1 < (l0.length : Int)) = true := decide_eq_true c6
              clear c6
              by_cases c7 : x13_1 < (l1.length : Int)
              · rw [if_pos c7] at H
                have c7b0 : decide (x13_1 < (l1.length : Int)) = true := decide_eq_true c7
                clear c7
                by_cases c8 : (rd l0 x13_1) = (rd l1 x13_1)
                · rw [if_pos c8] at H
                  have c8b0 : ((rd l0 x13_1) == (rd l1 x13_1)) = true := beq_iff_eq.mpr c8
                  have c8b1 : ((rd l0 x13_1) != (rd l1 x13_1)) = false := bne_eq_false_iff_eq.mpr c8
                  clear c8
                  have H' := Aside0.mk H
                  clear H
                  have p101 : 0 ≤ (x13_1 : Int) := of_decide_eq_true (by first | (with_reducible assumption) | assumption)
                  have q101 : x13_1 < (l0.length : Int) := of_decide_eq_true (by first | (with_reducible assumption) | assumption)
                  obtain ⟨ad101, e101, hx101_0⟩ := Kd.at_int HR0.out x13_1 p101 q101
                  cases e101
                  replace p101 := eq_true p101
                  replace q101 := eq_true q101
                  have p102 : 0 ≤ (x13_1 : Int) := of_decide_eq_true (by first | (with_reducible assumption) | assumption)
                  have q102 : x13_1 < (l1.length : Int) := of_decide_eq_true (by first | (with_reducible assumption) | assumption)
                  obtain ⟨ad102, e102, hx102_0⟩ := Kd.at_int HR1.out x13_1 p102 q102
                  cases e102
                  replace p102 := eq_true p102
                  replace q102 := eq_true q102
                  go_wp2
                  repeat (go_quiet (fail); try go_wp2)
                  go_roundg k1
                  case measure => have := HK1.out; omega
                  case rel => exact ⟨(wrap64 (x13_1 + 1)), (by first | rfl | (simp; done) | (simp [*]; done)), H', ⟨by have := HK1.out; omega⟩, by repeat (first | exact Drawn0.refl _ | apply Drawn0.step)⟩
                · rw [if_neg c8] at H
                  have c8b0 : ((rd l0 x13_1) == (rd l1 x13_1)) = false := beq_eq_false_iff_ne.mpr c8
                  have c8b1 : ((rd l0 x13_1) != (rd l1 x13_1)) = true := bne_iff_ne.mpr c8
                  obtain rfl := Option.some.inj H
                  have p101 : 0 ≤ (x13_1 : Int) := of_decide_eq_true (by first | (with_reducible assumption) | assumption)
                  have q101 : x13_1 < (l0.length : Int) := of_decide_eq_true (by first | (with_reducible assumption) | assumption)
                  obtain ⟨ad101, e101, hx101_0⟩ := Kd.at_int HR0.out x13_1 p101 q101
                  cases e101
                  replace p101 := eq_true p101
                  replace q101 := eq_true q101
                  have p102 : 0 ≤ (x13_1 : Int) := of_decide_eq_true (by first | (with_reducible assumption) | assumption)
                  have q102 : x13_1 < (l1.length : Int) := of_decide_eq_true (by first | (with_reducible assumption) | assumption)
                  obtain ⟨ad102, e102, hx102_0⟩ := Kd.at_int HR1.out x13_1 p102 q102
                  cases e102
                  replace p102 := eq_true p102
                  replace q102 := eq_true q102
                  go_wp2
                  repeat (go_quiet (fail); try go_wp2)
                  go_ret
                  exact ⟨by first | rfl | (simp; done) | (simp [*]; done), by repeat (first | exact Drawn0.refl _ | apply Drawn0.step)⟩
              · rw [if_neg c7] at H
                exact absurd H (by simp)
            · rw [if_neg c6] at H
              exact absurd H (by simp)
          · rw [if_neg c5] at H
            exact absurd H (by simp)
        · rw [if_neg c4] at H
          have c4b0 : decide (x13_1 < (l0.length : Int)) = false := decide_eq_false c4
          clear c4
          obtain rfl := Option.some.inj H
          go_wp2
          repeat (go_quiet (fail); try go_wp2)
          go_ret
          exact ⟨by first | rfl | (simp; done) | (simp [*]; done), by repeat (first | exact Drawn0.refl _ | apply Drawn0.step)⟩
  · rw [if_neg c3] at H
    have c3b0 : ((l0.length : Int) == (l1.length : Int)) = false := beq_eq_false_iff_ne.mpr c3
    have c3b1 : ((l0.length : Int) != (l1.length : Int)) = true := bne_iff_ne.mpr c3
    have c3b2 : (l0.length == l1.length) = false := by first | simpa using c3 | (simp at c3 ⊢; omega)
    obtain rfl := Option.some.inj H
    go_enter Try.func22, Try.ntmps22
    go_wp2
    repeat (go_quiet (fail); try go_wp2)
    go_ret
    exact ⟨by first | rfl | (simp; done) | (simp [*]; done), by repeat (first | exact Drawn0.refl _ | apply Drawn0.step)⟩

mutual
def code_widths.j0 : Nat → Int → Bool → Option (Int × Int)
  | 0, _, _ => none
  | k + 1, x4, x7 => if x7 = true then (some (2, 0)) else (if x4 = 24 then (code_widths.j1 k x4 (x4 == 24)) else (code_widths.j1 k x4 (x4 == 25)))
def code_widths.j1 : Nat → Int → Bool → Option (Int × Int)
  | 0, _, _ => none
  | k + 1, x4, x10 => if x10 = true then (some (1, 1)) else (if x4 = 2 then (code_widths.j2 k x4 (x4 == 2)) else (if x4 = 4 then (code_widths.j2 k x4 (x4 == 4)) else (code_widths.j2 k x4 (x4 == 5))))
def code_widths.j2 : Nat → Int → Bool → Option (Int × Int)
  | 0, _, _ => none
  | k + 1, x4, x13 => if x13 = true then (some (1, 0)) else (if x4 = 21 then (some (1, 0)) else (if x4 = 23 then (some (1, 0)) else (if x4 = 30 then (some (1, 0)) else (if x4 = 31 then (some (1, 0)) else (if x4 = 32 then (some (1, 0)) else (some (0, 0)))))))
end
def code_widths.f (k : Nat) (a0 : Int) : Option (Int × Int) := if a0 = 1 then (some (4, 0)) else (if a0 = 19 then (code_widths.j0 k a0 (a0 == 19)) else (code_widths.j0 k a0 (a0 == 20)))
section
variable {P : Program} {ops : Array Oper} {rest : List Oper} {o : Oper} {a : Act} {Q : Exit → Act → World → Prop} {K : Act → World → Prop}
structure Rws (w0 : World) (l : List (Nat × TypeId × Array Value)) (W : World) : Prop where
  lies : ∀ p ∈ l, W.heap[p.1]? = some (.cells p.2.2 p.2.1 (0, 0)) ∧ w0.heap.size ≤ p.1
  ne : (l.map Prod.fst).Nodup
  below : Below w0.heap.size w0 W
theorem Rws.nil (w : World) : Rws w [] w := ⟨fun _ h => by simp at h, by simp, Below.refl _ _⟩
theorem Rws.step {w0 W W1 : World} {l : List (Nat × TypeId × Array Value)} (h : Rws w0 l W) (hb : Below W.heap.size W W1) : Rws w0 l W1 := ⟨fun p hp => ⟨blk_below (h.lies p hp).1 hb, (h.lies p hp).2⟩, h.ne, below_step h.below hb⟩
theorem Rws.drewN {w0 W : World} {l : List (Nat × TypeId × Array Value)} (h : Rws w0 l W) (m : Nat) : Rws w0 l (W.drewN m) := h.step (pw_below_drewN (Below.refl _ _) m)
theorem Rws.mem {w0 W : World} {l : List (Nat × TypeId × Array Value)} (h : Rws w0 l W) {g : Nat} {t : TypeId} {cs : Array Value} (hm : (g, t, cs) ∈ l) : W.heap[g]? = some (.cells cs t (0, 0)) := (h.lies _ hm).1
theorem Rws.add {w0 W : World} {l : List (Nat × TypeId × Array Value)} (h : Rws w0 l W) (t : TypeId) (cs : Array Value) : Rws w0 ((W.heap.size, t, cs) :: l) (W.alloc (.cells cs t (0, 0))) := by
  have hb : Below W.heap.size W (W.alloc (.cells cs t (0, 0))) := below_alloc (Below.refl _ _) _
  refine ⟨fun p hp => ?_, ?_, below_step h.below hb⟩
  · rcases List.mem_cons.1 hp with rfl | hp
    · exact ⟨blk_new W _, h.below.size⟩
    · exact ⟨blk_below (h.lies p hp).1 hb, (h.lies p hp).2⟩
  · rw [List.map_cons, List.nodup_cons]
    refine ⟨fun hm => ?_, h.ne⟩
    obtain ⟨p, hp, e⟩ := List.mem_map.1 hm
    have := blk_lt (h.lies p hp).1
    have e : p.1 = W.heap.size := e
    omega
theorem Rws.tail {w0 W : World} {p : Nat × TypeId × Array Value} {l : List (Nat × TypeId × Array Value)} (h : Rws w0 (p :: l) W) : Rws w0 l W := ⟨fun q hq => h.lies q (List.mem_cons_of_mem _ hq), (List.nodup_cons.1 h.ne).2, h.below⟩
theorem Rws.swap {w0 W : World} {p q : Nat × TypeId × Array Value} {l : List (Nat × TypeId × Array Value)} (h : Rws w0 (p :: q :: l) W) : Rws w0 (q :: p :: l) W := ⟨fun r hr => h.lies r (by
  rcases List.mem_cons.1 hr with rfl | hr
  · exact List.mem_cons_of_mem _ List.mem_cons_self
  · rcases List.mem_cons.1 hr with rfl | hr
    · exact List.mem_cons_self
    · exact List.mem_cons_of_mem _ (List.mem_cons_of_mem _ hr)), (by
  have h1 := h.ne
  simp only [List.map_cons, List.nodup_cons, List.mem_cons, not_or] at h1 ⊢
  exact ⟨⟨fun e => h1.1.1 e.symm, h1.2.1⟩, h1.1.2, h1.2.2⟩), h.below⟩
theorem Rws.put {w0 W W1 : World} (l1 : List (Nat × TypeId × Array Value)) {l2 : List (Nat × TypeId × Array Value)} {g : Nat} {t : TypeId} {cs cs' : Array Value} (h : Rws w0 (l1 ++ (g, t, cs) :: l2) W) (hx : W1.heap[g]? = some (.cells cs' t (0, 0))) (hk : Kept W W1 (fun k => k = g)) (hb : ∀ (B : Nat) (w0 : World), B ≤ g → Below B w0 W → Below B w0 W1) : Rws w0 (l1 ++ (g, t, cs') :: l2) W1 := by
  have hn : ((l1 ++ (g, t, cs) :: l2).map Prod.fst) = ((l1 ++ (g, t, cs') :: l2).map Prod.fst) := by simp
  have hne := h.ne
  have hge := (h.lies (g, t, cs) (by simp)).2
  refine ⟨fun p hp => ?_, hn ▸ hne, hb _ _ hge h.below⟩
  have hnd : ∀ q ∈ l1 ++ l2, q.1 ≠ g := by
    rw [List.map_append, List.map_cons, List.nodup_append] at hne
    intro q hq e
    rcases List.mem_append.1 hq with hq | hq
    · exact hne.2.2 q.1 (List.mem_map.2 ⟨q, hq, rfl⟩) g (by simp) e
    · have := (List.nodup_cons.1 hne.2.1).1
      exact this (List.mem_map.2 ⟨q, hq, e⟩)
  rcases List.mem_append.1 hp with hp | hp
  · have hq := h.lies p (List.mem_append.2 (.inl hp))
    exact ⟨blk_kept hq.1 hk (fun e => hnd p (List.mem_append.2 (.inl hp)) e), hq.2⟩
  · rcases List.mem_cons.1 hp with rfl | hp
    · exact ⟨hx, hge⟩
    · have hq := h.lies p (List.mem_append.2 (.inr (List.mem_cons_of_mem _ hp)))
      exact ⟨blk_kept hq.1 hk (fun e => hnd p (List.mem_append.2 (.inr hp)) e), hq.2⟩
theorem rw_alloc_wp (ty : TypeId) (ho : o.op = .alloc ty) {cs : Array Value} (hz : (P.info? ty).map (·.zero) = some (some (.agg cs))) {w0 W : World} {l : List (Nat × TypeId × Array Value)} (hl : Rws w0 l W)
    (h : ∀ g w1, g = W.heap.size → Rws w0 ((g, ty, cs) :: l) w1 → Below W.heap.size W w1 → K (a.put o.dst (.pointer (some ⟨g, 0, none⟩))) w1) : Oper.wp P o a W K Q := by
  have hrun : (execOp a.eval o).run P W = .ok (.value (.pointer (some ⟨W.heap.size, 0, none⟩))) (W.alloc (.cells cs ty (0, 0))) := by
    unfold execOp
    cases hq : P.info? ty with
    | none => simp [hq] at hz
    | some i =>
      have hs : i.zero = some (.agg cs) := by simpa [hq] using hz
      simp only [ho]
      simp [Instr.alloc, zeroValue, typeInfo, hq, hs, newVar, newRow, Value.cells, Sem.run_bind]
  have hw := h W.heap.size _ rfl (hl.add ty cs) (below_alloc (Below.refl _ _) _)
  unfold Oper.wp
  rw [hrun]
  exact hw
theorem rw_store_wp (ty : TypeId) {x y : Operand} (ho : o.op = .store ty x y) {g : Nat} (hx : a.eval x = .pointer (some ⟨g, 0, none⟩)) {cs' : Array Value} (hy : a.eval y = .agg cs') {w0 W : World} (l1 : List (Nat × TypeId × Array Value)) {l2 : List (Nat × TypeId × Array Value)} {cs : Array Value} (hl : Rws w0 (l1 ++ (g, ty, cs) :: l2) W) (hi : (P.info? ty).map (·.size) = some cs'.size) (hs : cs.size = cs'.size) (h1 : cs'.all (·.oneCell') = true)
    (h : ∀ w1, Rws w0 (l1 ++ (g, ty, cs') :: l2) w1 → Kept W w1 (fun k => k = g) → K (a.put o.dst undef) w1) : Oper.wp P o a W K Q := by
  have hg := hl.mem (g := g) (t := ty) (cs := cs) (by simp)
  have hrun := run_storeVar_row W g ty ty cs cs' hg hi hs h1
  have hk : Kept W (W.setRow g cs') (fun k => k = g) := ⟨by simp, fun i _ hn => setRow_other W g i cs' hn⟩
  unfold Oper.wp execOp
  simp only [ho, hx, hy, Instr.storeAt, Instr.sureAddr, Sem.run_bind, Sem.run_pure, Result.andThen_ok, hrun]
  exact h _ (hl.put l1 (setRow_heap W g cs cs' ty (0, 0) hg) hk (fun B w0 hB hw => ⟨hw.os, hw.tape, hw.output, by simpa using hw.size, fun k hk => (setRow_other W g k cs' (by omega)).trans (hw.block k hk)⟩)) hk
end
section
variable {P : Program} {ops : Array Oper} {rest : List Oper} {o : Oper} {a : Act} {Q : Exit → Act → World → Prop} {K : Act → World → Prop}
theorem one_cells {u : Value} (h : u.oneCell' = true) : u.cells = #[u] := by cases u <;> first | rfl | cases h
theorem Rws.set {w0 W : World} (l1 : List (Nat × TypeId × Array Value)) {l2 : List (Nat × TypeId × Array Value)} {g : Nat} {t : TypeId} {cs : Array Value} (h : Rws w0 (l1 ++ (g, t, cs) :: l2) W) (i : Nat) (u : Value) : Rws w0 (l1 ++ (g, t, cs.setIfInBounds i u) :: l2) (W.setCell ⟨g, i, none⟩ u) :=
  h.put l1 (blk_set (h.mem (g := g) (t := t) (cs := cs) (by simp)) i u) ⟨by simp [World.setCell], fun k _ hn => Below.heap_setCell W ⟨g, i, none⟩ u k hn⟩ (fun B w0 hB hb => hb.setCell hB u)
theorem set_kept (W : World) (g i : Nat) (u : Value) : Kept W (W.setCell ⟨g, i, none⟩ u) (fun k => k = g) := ⟨by simp [World.setCell], fun k _ hn => Below.heap_setCell W ⟨g, i, none⟩ u k hn⟩
theorem run_store_one_cell (ty : TypeId) {W : World} {g i : Nat} {t : TypeId} {cs : Array Value} {u : Value} (hg : W.heap[g]? = some (.cells cs t (0, 0))) (hi : i < cs.size) (hu : u.oneCell' = true) (hsz : (P.info? ty).map (·.size) = some 1) : (storeVar ty ⟨g, i, none⟩ u).run P W = .ok () (W.setCell ⟨g, i, none⟩ u) := by
  have h1 := run_store P W ⟨g, i, none⟩ u .plain hu
  rw [blk_cell hg i, blk_frozen hg i, Array.getElem?_eq_getElem hi] at h1
  cases hq : P.info? ty with
  | none => simp [hq] at hsz
  | some j =>
    have hs : j.size = 1 := by simpa [hq] using hsz
    have := run_storeCells_cells (P := P) g i [u] 0 W (fun j hj => by simp at hj; subst hj; simp only [Nat.add_zero]; rw [blk_cell hg i, Array.getElem?_eq_getElem hi]; rfl) (fun j hj => by simp at hj; subst hj; simp only [Nat.add_zero]; rw [blk_frozen hg i]) (fun v hv => by simp at hv; subst hv; exact hu)
    simp only [Nat.add_zero] at this
    simp [storeVar, sizeOf, typeInfo, hq, one_cells hu, hs, this, World.setCells]
theorem rw_cell_wp (ty : TypeId) {x y : Operand} (ho : o.op = .store ty x y) {g i : Nat} (hx : a.eval x = .pointer (some ⟨g, i, none⟩)) {u : Value} (hy : a.eval y = u) (hu : u.oneCell' = true) {w0 W : World} (l1 : List (Nat × TypeId × Array Value)) {l2 : List (Nat × TypeId × Array Value)} {t : TypeId} {cs : Array Value} (hl : Rws w0 (l1 ++ (g, t, cs) :: l2) W) (hi : i < cs.size) (hsz : (P.info? ty).map (·.size) = some 1)
    (h : ∀ w1, Rws w0 (l1 ++ (g, t, cs.setIfInBounds i u) :: l2) w1 → Kept W w1 (fun k => k = g) → K (a.put o.dst undef) w1) : Oper.wp P o a W K Q := by
  have hrun := run_store_one_cell (P := P) ty (hl.mem (g := g) (t := t) (cs := cs) (by simp)) hi hu hsz
  unfold Oper.wp execOp
  simp only [ho, hx, hy, Instr.storeAt, Instr.sureAddr, Sem.run_bind, Sem.run_pure, Result.andThen_ok, hrun]
  exact h _ (hl.set l1 i u) (set_kept W g i u)
theorem rw_cell (hgd : o.guard = none) (ty : TypeId) {x y : Operand} (ho : o.op = .store ty x y) {g i : Nat} (hx : a.eval x = .pointer (some ⟨g, i, none⟩)) {u : Value} (hy : a.eval y = u) (hu : u.oneCell' = true) {w0 W : World} (l1 : List (Nat × TypeId × Array Value)) {l2 : List (Nat × TypeId × Array Value)} {t : TypeId} {cs : Array Value} (hl : Rws w0 (l1 ++ (g, t, cs) :: l2) W) (hi : i < cs.size) (hsz : (P.info? ty).map (·.size) = some 1)
    (h : ∀ w1, Rws w0 (l1 ++ (g, t, cs.setIfInBounds i u) :: l2) w1 → Kept W w1 (fun k => k = g) → wpList P ops Q rest (a.put o.dst undef) w1) : wpList P ops Q (o :: rest) a W :=
  wpList_plain hgd fun _ hK => rw_cell_wp ty ho hx hy hu l1 hl hi hsz (fun w1 hX hk => hK _ _ (h w1 hX hk))
theorem rw_alloc1 (hgd : o.guard = none) (ty : TypeId) (ho : o.op = .alloc ty) {z : Value} (hz : (P.info? ty).map (·.zero) = some (some z)) (h1 : z.oneCell' = true) {w0 W : World} {l : List (Nat × TypeId × Array Value)} (hl : Rws w0 l W)
    (h : ∀ g w1, g = W.heap.size → Rws w0 ((g, ty, #[z]) :: l) w1 → Below W.heap.size W w1 → wpList P ops Q rest (a.put o.dst (.pointer (some ⟨g, 0, none⟩))) w1) : wpList P ops Q (o :: rest) a W :=
  Kd.event_run hgd (by
    unfold execOp
    cases hq : P.info? ty with
    | none => simp [hq] at hz
    | some i =>
      have hs : i.zero = some z := by simpa [hq] using hz
      simp only [ho]
      simp [Instr.alloc, zeroValue, typeInfo, hq, hs, newVar, newRow, one_cells h1, Sem.run_bind]) (h W.heap.size _ rfl (hl.add ty #[z]) (below_alloc (Below.refl _ _) _))
end
section
variable {P : Program} {ops : Array Oper} {rest : List Oper} {o : Oper} {a : Act} {Q : Exit → Act → World → Prop}
end
theorem mkeyed : Go.Maps.Keyed Try.prog 3 := Go.Maps.int_keyed Try.underlying3
theorem mzero (w : World) : (zeroValue 3).run Try.prog w = .ok (.int .i64 0) w := by kernel_rfl
def I64 (x : Int) : Prop := -9223372036854775808 ≤ x ∧ x ≤ 9223372036854775807
theorem I64.wf {x : Int} (h : I64 x) : (Lit.int .i64 x).wf = true := WalkArith.wf_i64 h
def IMap (W : World) (B n : Nat) (g : Int → Option Int) : Prop := ∃ D : DataW Unit, W.ownsMap Try.prog 3 (plainElem Try.prog 3) B n D ∧ (∀ x, Maps.has D (.int .i64 x) = (g x).isSome) ∧ (∀ x c, g x = some c → ∀ z, D.atKey (.int .i64 x) z = .lit (.int .i64 c))
def upd (g : Int → Option Int) (x v : Int) : Int → Option Int := fun y => if y = x then some v else g y
theorem IMap.made (w : World) : IMap (w.alloc (.map #[] 0)) w.heap.size 0 (fun _ => none) := ⟨.map [], World.ownsMap_made _ _ _ _, fun _ => rfl, fun _ _ h => by cases h⟩
theorem IMap.block {W W1 : World} {B n : Nat} {g : Int → Option Int} (h : IMap W B n g) (hb : W1.heap[B]? = W.heap[B]?) : IMap W1 B n g := by
  obtain ⟨D, ⟨es, clock, h1, h2⟩, h3⟩ := h
  exact ⟨D, ⟨es, clock, hb.trans h1, h2⟩, h3⟩
theorem IMap.lt {W : World} {B n : Nat} {g : Int → Option Int} (h : IMap W B n g) : B < W.heap.size := by
  obtain ⟨D, h1, _⟩ := h
  exact h1.lt
theorem IMap.is {W : World} {B n : Nat} {g : Int → Option Int} (h : IMap W B n g) : ∃ es clock, W.heap[B]? = some (.map es clock) := by
  obtain ⟨D, ⟨es, clock, h1, _⟩, _⟩ := h
  exact ⟨es, clock, h1⟩
theorem IMap.below {W W1 : World} {B n : Nat} {g : Int → Option Int} (h : IMap W B n g) (hb : Below W.heap.size W W1) : IMap W1 B n g := h.block (hb.block B h.lt)
theorem IMap.grown {W W1 : World} {B n : Nat} {g : Int → Option Int} (h : IMap W B n g) {row : Option Nat} (hg : W.grownBy W1 row) (hne : some B ≠ row) : IMap W1 B n g := h.block (hg.block B h.lt hne)
theorem IMap.mono {W : World} {B n n' : Nat} {g : Int → Option Int} (h : IMap W B n g) (hn : n ≤ n') : IMap W B n' g := by
  obtain ⟨D, h1, h2⟩ := h
  exact ⟨D, h1.mono hn, h2⟩
theorem IMap.ne {W : World} {B n : Nat} {g : Int → Option Int} (h : IMap W B n g) {b : Nat} {cs : Array Value} {t : TypeId} {fr : Nat × Nat} (hb : W.heap[b]? = some (.cells cs t fr)) : B ≠ b := fun e => by
  obtain ⟨es, clock, h1⟩ := h.is
  rw [e, hb] at h1
  cases h1
theorem upd_has {D : DataW Unit} {g : Int → Option Int} {x v : Int} (hm : Maps.IsMap D) (h1 : ∀ x, Maps.has D (.int .i64 x) = (g x).isSome) (h2 : ∀ x c, g x = some c → ∀ z, D.atKey (.int .i64 x) z = .lit (.int .i64 c)) :
    (∀ y, Maps.has (D.put (.int .i64 x) (.lit (.int .i64 v))) (.int .i64 y) = (upd g x v y).isSome) ∧ (∀ y c, upd g x v y = some c → ∀ z, (D.put (.int .i64 x) (.lit (.int .i64 v))).atKey (.int .i64 y) z = .lit (.int .i64 c)) := by
  have hk : WideAt.IsKeyLit (.int .i64 x) := trivial
  refine ⟨fun y => ?_, fun y c hy z => ?_⟩
  · unfold upd
    by_cases e : y = x
    · rw [if_pos e, e, Maps.has_put_same hm hk]; rfl
    · rw [if_neg e, Maps.has_put_other (fun e' => e (by cases e'; rfl)), h1]
  · unfold upd at hy
    by_cases e : y = x
    · rw [if_pos e] at hy
      cases hy
      rw [e, Maps.atKey_put_same hm hk]
    · rw [if_neg e] at hy
      rw [Maps.atKey_put_other (fun e' => e (by cases e'; rfl)), h2 y c hy]
theorem IMap.store {W1 : World} {B n : Nat} {g : Int → Option Int} {D : DataW Unit} {x v : Int} (hm : Maps.IsMap D) (h1 : ∀ x, Maps.has D (.int .i64 x) = (g x).isSome) (h2 : ∀ x c, g x = some c → ∀ z, D.atKey (.int .i64 x) z = .lit (.int .i64 c))
    (h : W1.ownsMap Try.prog 3 (plainElem Try.prog 3) B n (D.put (.int .i64 x) (.lit (.int .i64 v)))) : IMap W1 B n (upd g x v) := ⟨_, h, (upd_has hm h1 h2).1, (upd_has hm h1 h2).2⟩
section
variable {ops : Array Oper} {rest : List Oper} {o : Oper} {a : Act} {Q : Exit → Act → World → Prop} {K : Act → World → Prop}
theorem im_make (hgd : o.guard = none) (ho : o.op = .makeMap 68 none) {W : World} (h : IMap (W.alloc (.map #[] 0)) W.heap.size 0 (fun _ => none) → wpList Try.prog ops Q rest (a.put o.dst (.map (some W.heap.size))) (W.alloc (.map #[] 0))) : wpList Try.prog ops Q (o :: rest) a W :=
  Kd.event_run hgd (by
    unfold execOp
    simp only [ho]
    simp [run_makeMap, Sem.run_bind]) (h (IMap.made W))
theorem im_store_wp {m x v : Operand} (ho : o.op = .mapUpdate 68 m x v) {W : World} {B n : Nat} {g : Int → Option Int} (hm : a.eval m = .map (some B)) (hown : IMap W B n g) (hn : n < maxLen) {k c : Int} (hx : a.eval x = .int .i64 k) (hv : a.eval v = .int .i64 c) (hk : I64 k) (hc : I64 c)
    (h : ∀ w1, IMap w1 B (n + 1) (upd g k c) → W.grownBy w1 (some B) → K (a.put o.dst undef) w1) : Oper.wp Try.prog o a W K Q := by
  obtain ⟨D, h1, h2, h3⟩ := hown
  obtain ⟨w', hrun, r1, r2⟩ := h1.update mkeyed Try.underlying68 hn (Go.Maps.keyOf_int_mk Try.underlying3 hk.wf) (plainElem_int Try.underlying3 hc.wf)
  unfold Oper.wp
  simp [execOp, ho, hm, hx, hv, hrun, Result.andThen]
  exact h _ (IMap.store (h1.tidy mkeyed).isMap h2 h3 r1) r2
theorem im_store (hgd : o.guard = none) {m x v : Operand} (ho : o.op = .mapUpdate 68 m x v) {W : World} {B n : Nat} {g : Int → Option Int} (hm : a.eval m = .map (some B)) (hown : IMap W B n g) (hn : n < maxLen) {k c : Int} (hx : a.eval x = .int .i64 k) (hv : a.eval v = .int .i64 c) (hk : I64 k) (hc : I64 c)
    (h : ∀ w1, IMap w1 B (n + 1) (upd g k c) → W.grownBy w1 (some B) → wpList Try.prog ops Q rest (a.put o.dst undef) w1) : wpList Try.prog ops Q (o :: rest) a W :=
  wpList_plain hgd fun _ hK => im_store_wp ho hm hown hn hx hv hk hc (fun w1 r1 r2 => hK _ _ (h w1 r1 r2))
theorem im_look_ok (hgd : o.guard = none) {m x : Operand} (ho : o.op = .lookup 68 m x true) {W : World} {B n : Nat} {g : Int → Option Int} (hm : a.eval m = .map (some B)) (hown : IMap W B n g) {k : Int} (hx : a.eval x = .int .i64 k) (hk : I64 k)
    (h : wpList Try.prog ops Q rest (a.put o.dst (.tuple #[.int .i64 ((g k).getD 0), .bool (g k).isSome])) W) : wpList Try.prog ops Q (o :: rest) a W := by
  obtain ⟨D, h1, h2, h3⟩ := hown
  refine wpList_lookup_own_ok_int W hgd m x _ ho 3 3 .i64 mkeyed Try.underlying68 Try.underlying3 (mzero _) B n D hm h1 _ _ hx (Go.Maps.keyOf_int_mk Try.underlying3 hk.wf) (fun c hat _ => ?_)
  have e : c = (g k).getD 0 := by
    cases hg : g k with
    | none =>
      have h9 := h2 k
      rw [hg] at h9
      rw [Maps.atKey_of_not_has (by simpa using h9)] at hat
      injection hat with hat
      injection hat with _ hat
      exact hat.symm
    | some d =>
      rw [h3 k d hg] at hat
      injection hat with hat
      injection hat with _ hat
      exact hat.symm
  rw [e, h2 k]
  exact h
end

def firstAt : List S46 → Nat → Int → Option Int
  | [], _, _ => none
  | x :: r, i, at_ => if x.f0 = at_ then some (i : Int) else firstAt r (i + 1) at_
theorem take_snoc {α : Type} {l : List α} {i : Nat} (h : i < l.length) (d : α) : l.take (i + 1) = l.take i ++ [l.getD i d] := by
  rw [List.take_succ_eq_append_getElem h, List.getD_eq_getElem?_getD, List.getElem?_eq_getElem h]
  rfl
def atsOk (l : List S46) : Bool := l.all fun x => decide (-9223372036854775808 ≤ x.f0) && decide (x.f0 ≤ 9223372036854775807)
def asOk (l : List S46) : Bool := l.all fun x => decide (-9223372036854775808 ≤ x.f2) && decide (x.f2 ≤ 9223372036854775807)
structure Mp (w0 : World) (B n : Nat) (g : Int → Option Int) (l : List (Nat × TypeId × Array Value)) (W : World) : Prop where
  own : IMap W B n g
  rows : Rws w0 l W
  base : w0.heap.size ≤ B
theorem Mp.below {w0 W : World} {B n : Nat} {g : Int → Option Int} {l : List (Nat × TypeId × Array Value)} (h : Mp w0 B n g l W) : Below w0.heap.size w0 W := h.rows.below
theorem Mp.step {w0 W W1 : World} {B n : Nat} {g : Int → Option Int} {l : List (Nat × TypeId × Array Value)} (h : Mp w0 B n g l W) (hb : Below W.heap.size W W1) : Mp w0 B n g l W1 := ⟨h.own.below hb, h.rows.step hb, h.base⟩
theorem Mp.clear {w0 W : World} {B n : Nat} {g : Int → Option Int} {l : List (Nat × TypeId × Array Value)} (h : Mp w0 B n g l W) : Mp w0 B n g [] W := ⟨h.own, ⟨fun _ h => by simp at h, by simp, h.rows.below⟩, h.base⟩
theorem Rws.grown {w0 W W1 : World} {l : List (Nat × TypeId × Array Value)} (h : Rws w0 l W) {B : Nat} (hg : W.grownBy W1 (some B)) (hB : w0.heap.size ≤ B) (hne : ∀ p ∈ l, B ≠ p.1) : Rws w0 l W1 :=
  ⟨fun p hp => ⟨blk_grown (h.lies p hp).1 hg (fun e => hne p hp (by cases e; rfl)), (h.lies p hp).2⟩, h.ne, h.below.grown hg h.below.size (fun k hk => by cases hk; exact hB)⟩
theorem Mp.stored {w0 W W1 : World} {B n n' : Nat} {g g' : Int → Option Int} {l : List (Nat × TypeId × Array Value)} (h : Mp w0 B n g l W) (h1 : IMap W1 B n' g') (hg : W.grownBy W1 (some B)) : Mp w0 B n' g' l W1 :=
  ⟨h1, h.rows.grown hg h.base (fun p hp => h.own.ne (h.rows.lies p hp).1), h.base⟩
theorem Mp.make {w0 W : World} {l : List (Nat × TypeId × Array Value)} (h : Rws w0 l W) : Mp w0 W.heap.size 0 (fun _ => none) l (W.alloc (.map #[] 0)) := ⟨IMap.made W, h.step (below_alloc (Below.refl _ _) _), h.below.size⟩
section
variable {ops : Array Oper} {rest : List Oper} {o : Oper} {a : Act} {Q : Exit → Act → World → Prop}
theorem mp_alloc (hgd : o.guard = none) (ty : TypeId) (ho : o.op = .alloc ty) {cs : Array Value} (hz : (Try.prog.info? ty).map (·.zero) = some (some (.agg cs))) {w0 W : World} {B n : Nat} {g : Int → Option Int} {l : List (Nat × TypeId × Array Value)} (hl : Mp w0 B n g l W)
    (h : ∀ b w1, Mp w0 B n g ((b, ty, cs) :: l) w1 → wpList Try.prog ops Q rest (a.put o.dst (.pointer (some ⟨b, 0, none⟩))) w1) : wpList Try.prog ops Q (o :: rest) a W :=
  wpList_plain hgd fun _ hK => rw_alloc_wp ty ho hz hl.rows (fun b w1 _ hX hb => hK _ _ (h b w1 ⟨hl.own.below hb, hX, hl.base⟩))
theorem mp_keep {w0 W W1 : World} {B n : Nat} {g : Int → Option Int} {l l' : List (Nat × TypeId × Array Value)} (hl : Mp w0 B n g l W) {b : Nat} (hb : ∃ t cs, (b, t, cs) ∈ l) (hk : Kept W W1 (fun k => k = b)) (h : Rws w0 l' W1) : Mp w0 B n g l' W1 := by
  obtain ⟨t, cs, hm⟩ := hb
  exact ⟨hl.own.block (hk.2 B hl.own.lt (hl.own.ne (hl.rows.mem hm))), h, hl.base⟩
theorem mp_store (hgd : o.guard = none) (ty : TypeId) {x y : Operand} (ho : o.op = .store ty x y) {b : Nat} (hx : a.eval x = .pointer (some ⟨b, 0, none⟩)) {cs' : Array Value} (hy : a.eval y = .agg cs') {w0 W : World} {B n : Nat} {g : Int → Option Int} {l2 : List (Nat × TypeId × Array Value)} {cs : Array Value} (hl : Mp w0 B n g ((b, ty, cs) :: l2) W) (hi : (Try.prog.info? ty).map (·.size) = some cs'.size) (hs : cs.size = cs'.size) (h1 : cs'.all (·.oneCell') = true)
    (h : ∀ w1, Mp w0 B n g ((b, ty, cs') :: l2) w1 → wpList Try.prog ops Q rest (a.put o.dst undef) w1) : wpList Try.prog ops Q (o :: rest) a W :=
  wpList_plain hgd fun _ hK => rw_store_wp ty ho hx hy [] hl.rows hi hs h1 (fun w1 hX hk => hK _ _ (h w1 (mp_keep hl ⟨ty, cs, List.mem_cons_self⟩ hk hX)))
theorem mp_map (hgd : o.guard = none) {m x v : Operand} (ho : o.op = .mapUpdate 68 m x v) {w0 W : World} {B n : Nat} {g : Int → Option Int} {l : List (Nat × TypeId × Array Value)} (hm : a.eval m = .map (some B)) (hl : Mp w0 B n g l W) (hn : n < maxLen) {k c : Int} (hx : a.eval x = .int .i64 k) (hv : a.eval v = .int .i64 c) (hk : I64 k) (hc : I64 c)
    (h : ∀ w1, Mp w0 B (n + 1) (upd g k c) l w1 → wpList Try.prog ops Q rest (a.put o.dst undef) w1) : wpList Try.prog ops Q (o :: rest) a W :=
  im_store hgd ho hm hl.own hn hx hv hk hc (fun w1 r1 r2 => h w1 (hl.stored r1 r2))
end
section
variable {ops : Array Oper} {rest : List Oper} {o : Oper} {a : Act} {Q : Exit → Act → World → Prop}
theorem mp_make (hgd : o.guard = none) (ho : o.op = .makeMap 68 none) {w0 W : World} {l : List (Nat × TypeId × Array Value)} (hl : Rws w0 l W) (h : ∀ B w1, Mp w0 B 0 (fun _ => none) l w1 → wpList Try.prog ops Q rest (a.put o.dst (.map (some B))) w1) : wpList Try.prog ops Q (o :: rest) a W :=
  im_make hgd ho (fun _ => h _ _ (Mp.make hl))
end
theorem Mp.more {w0 W : World} {B n : Nat} {g : Int → Option Int} {l : List (Nat × TypeId × Array Value)} (h : Mp w0 B n g l W) : Mp w0 B (n + 1) g l W := ⟨h.own.mono (Nat.le_succ _), h.rows, h.base⟩

end Go.Proofs.Ytcffniaieegbgaa.P

end

section
namespace Go.Proofs.Ytcffniaieegbgaa.P
open Go.RowKit Go.Proofs.YtcffniaieegbgaaW.PrintWords Go.Proofs.YtcffniaieegbgaaW.PrintLast Go.Proofs.YtcffniaieegbgaaW.PrintMore
attribute [local go_sem] max2_int min2_int max_two min_two max_three min_three max_four min_four   -- for this text's walks alone
set_option linter.unusedVariables false
set_option linter.unusedSimpArgs false

def code_Size.f (k : Nat) (a0 : Int) : Option (Int) := if a0 ≥ 34 then (some 0) else ((code_widths.f k a0).bind fun bt103 => (some (wrap64 ((wrap64 (1 + bt103.1)) + bt103.2))))
def code_Jumps.f (a0 : Int) : Option (Bool) := if a0 = 19 then (some true) else (some (a0 == 20))
def code_Ends.f (a0 : Int) : Option (Bool) := if a0 = 19 then (some true) else (if a0 = 22 then (some true) else (some (a0 == 32)))
def ColI (g : Int → Option Int) (left : Lit → Bool) (ss : List Int) : Prop := ss.Nodup ∧ ∀ x, x ∈ ss ↔ ((g x).isSome = true ∧ left (.int .i64 x) = false)
theorem ColI.step {g : Int → Option Int} {left : Lit → Bool} {ss : List Int} (h : ColI g left ss) {x : Int} (hlk : left (.int .i64 x) = true) (hx : (g x).isSome = true) : ColI g (fun z => left z && !z.sameKey (.int .i64 x)) (ss ++ [x]) := by
  have hnew : x ∉ ss := fun hm => by have := ((h.2 x).1 hm).2; rw [hlk] at this; cases this
  refine ⟨List.nodup_append.2 ⟨h.1, by simp, fun a ha b hb => by simp at hb; subst hb; exact fun e => hnew (e ▸ ha)⟩, fun y => ?_⟩
  by_cases hy : y = x
  · subst hy; simp [hx, Lit.sameKey]
  · simp [h.2 y, hy, Lit.sameKey]
open Go.Shelf in
open Go.Shelf in
def ins (n : Int) : List Int → List Int
  | [] => [n]
  | x :: r => if n < x then n :: x :: r else if n = x then x :: r else x :: ins n r
def srt (l : List Int) : List Int := l.foldl (fun acc n => ins n acc) []
def szOf (op : Int) : Int := (code_Size.f 3 op).getD 0
theorem w2_is (k : Nat) (x : Int) (c : Bool) : ∃ a b, code_widths.j2 (k + 1) x c = some (a, b) ∧ (0 ≤ a ∧ a ≤ 4 ∧ 0 ≤ b ∧ b ≤ 1) := by
  simp only [code_widths.j2]
  repeat' split
  all_goals (refine ⟨_, _, rfl, ?_⟩; decide)
theorem w1_is (k : Nat) (x : Int) (c : Bool) : ∃ a b, code_widths.j1 (k + 2) x c = some (a, b) ∧ (0 ≤ a ∧ a ≤ 4 ∧ 0 ≤ b ∧ b ≤ 1) := by
  simp only [code_widths.j1]
  repeat' split
  all_goals first
    | exact w2_is k _ _
    | (refine ⟨_, _, rfl, ?_⟩; decide)
theorem w0_is (k : Nat) (x : Int) (c : Bool) : ∃ a b, code_widths.j0 (k + 3) x c = some (a, b) ∧ (0 ≤ a ∧ a ≤ 4 ∧ 0 ≤ b ∧ b ≤ 1) := by
  simp only [code_widths.j0]
  repeat' split
  all_goals first
    | exact w1_is k _ _
    | (refine ⟨_, _, rfl, ?_⟩; decide)
theorem widths_is (k : Nat) (op : Int) : ∃ a b, code_widths.f (k + 3) op = some (a, b) ∧ (0 ≤ a ∧ a ≤ 4 ∧ 0 ≤ b ∧ b ≤ 1) := by
  unfold code_widths.f
  repeat' split
  all_goals first
    | exact w0_is k _ _
    | (refine ⟨_, _, rfl, ?_⟩; decide)
theorem size_at (k : Nat) (op : Int) : ∃ s, code_Size.f (k + 3) op = some s ∧ 0 ≤ s ∧ s ≤ 6 := by
  obtain ⟨a, b, h, h1, h2, h3, h4⟩ := widths_is k op
  unfold code_Size.f
  split
  · exact ⟨0, rfl, by decide, by decide⟩
  · rw [h]
    refine ⟨_, rfl, ?_, ?_⟩
    · show 0 ≤ wrap64 (wrap64 (1 + a) + b)
      unfold wrap64; omega
    · show wrap64 (wrap64 (1 + a) + b) ≤ 6
      unfold wrap64; omega
theorem szOf_range (op : Int) : 0 ≤ szOf op ∧ szOf op ≤ 6 := by
  obtain ⟨s, h, h1⟩ := size_at 0 op
  unfold szOf
  rw [Nat.zero_add] at h
  rw [h]
  exact h1
def jumpsB (op : Int) : Bool := (code_Jumps.f op).getD false
def endsB (op : Int) : Bool := (code_Ends.f op).getD false
def placedB (a : Int) : Bool := decide (0 ≤ a) && decide (a < 4096)
def nextKeys (x : S46) : List Int := (if endsB x.f1 = true then [] else [x.f0 + szOf x.f1]) ++ (if jumpsB x.f1 = true then [x.f2] else [])
def nextL (x : S46) : List Int := if szOf x.f1 = 0 then [] else if placedB x.f0 = true then srt (nextKeys x) else []
def okB (x : Int) : Bool := decide (-9223372036854775808 ≤ x) && decide (x ≤ 9223372036854775807)
end Go.Proofs.Ytcffniaieegbgaa.P

end

section
namespace Go.Proofs.Ytcffniaieegbgaa.P
open Go.RowKit Go.Proofs.YtcffniaieegbgaaW.PrintWords Go.Proofs.YtcffniaieegbgaaW.PrintLast Go.Proofs.YtcffniaieegbgaaW.PrintMore
attribute [local go_sem] max2_int min2_int max_two min_two max_three min_three max_four min_four   -- for this text's walks alone
set_option linter.unusedVariables false
set_option linter.unusedSimpArgs false

def slices_Reverse_int_int.l0 : Nat → List Int → Int → Int → Option (List Int)
  | 0, _, _, _ => none
  | k + 1, x0, x2, x3 => if x2 < x3 then (if 0 ≤ x3 then (if x3 < (x0.length : Int) then (if 0 ≤ x2 then (if x2 < (x0.length : Int) then (slices_Reverse_int_int.l0 k ((x0.set (x2 : Int).toNat (rd x0 x3)).set (x3 : Int).toNat (rd x0 x2)) (wrap64 (x2 + 1)) (wrap64 (x3 - 1))) else (none)) else (none)) else (none)) else (none)) else (some x0)
def slices_Reverse_int_int.f (k : Nat) (l0 : List Int) : Option (List Int) := slices_Reverse_int_int.l0 k l0 0 (wrap64 ((l0.length : Int) - 1))
def slices_Reverse_int_int.T3 : Bool × List (List Nat × List Nat) := (true, [([], []), ([], []), ([], []), ([], []), ([], []), ([], []), ([4, 5], [4, 5]), ([6], [6]), ([], []), ([], []), ([8, 9], [8, 9]), ([10], [10]), ([0, 1, 0, 1, 4, 5, 6, 7, 11], [0, 1]), ([12, 7, 0, 1, 4, 5, 6, 7, 11], [7, 12]), ([2, 3, 0, 1, 2, 3, 4, 5, 6, 7, 8, 9, 10, 11, 12, 13], [2, 3]), ([14, 11, 13, 0, 1, 2, 3, 4, 5, 6, 7, 8, 9, 10, 11, 12, 13], [11, 14])])
def slices_Reverse_int_int.B3 : List Nat := [0, 0, 0, 0, 0, 0, 48, 112, 0, 0, 768, 1792, 4083, 8179, 16383, 32767]
theorem slices_Reverse_int_int.tab3 : rtab .any (opsOf Try.f46 3) = slices_Reverse_int_int.T3 := by kernel_rfl
theorem slices_Reverse_int_int.bits3 : waitsOk slices_Reverse_int_int.T3.2 slices_Reverse_int_int.B3 = true := by kernel_rfl
set_option maxHeartbeats 8000000 in
set_option maxRecDepth 100000 in
theorem slices_Reverse_int_int.calls (k : Nat) (P0_ : Nat → Prop) (u9000_ : Value) (l0 : List Int) (r : List Int) (w0 w : World) (hB : Below w0.heap.size w0 w) (ho0 : Kd.R (Kd.int .i64) 3 w w0.heap.size P0_ u9000_ l0) (h : slices_Reverse_int_int.f k l0 = some r) :
    Calls Try.prog 46 #[u9000_] w fun e w' => e = .returned (.tuple #[]) ∧ Kd.R (Kd.int .i64) 3 w' w0.heap.size (fun k_ => (P0_ k_ ∨ w.heap.size ≤ k_)) u9000_ r ∧ Below w0.heap.size w0 w' ∧ Kept w w' (fun k_ => P0_ k_) := by
  have HO0 := Aside0.mk (show Kd.R (Kd.int .i64) 3 w w0.heap.size (fun k_ => (P0_ k_ ∨ w.heap.size ≤ k_)) u9000_ l0 from Kd.R_mono ho0 (fun k_ hk => (.inl hk)))
  have HK := Aside0.mk (Kept.refl w (fun k_ => P0_ k_))
  have HW0 := Aside0.mk hB.size
  have HB := Aside0.mk hB
  clear hB
  have H : (slices_Reverse_int_int.l0 k l0 0 (wrap64 ((l0.length : Int) - 1))) = some r := h
  clear h
  have H' := Aside0.mk H
  clear H
  obtain ⟨Ao2, co2, eo2⟩ := Kd.R_slice HO0.out
  subst eo2
  go_enter Try.func46, Try.ntmps46
  go_wp2
  go_loopg [2, 3] k (fun kq v2 v3 w' => ∃ (x0_1 : List Int) (x2_1 : Int) (x3_1 : Int), v2 = .int .i64 x2_1 ∧ v3 = .int .i64 x3_1 ∧ Aside0 (slices_Reverse_int_int.l0 kq x0_1 x2_1 x3_1 = some r) ∧ Aside0 (kq ≤ k) ∧ Aside0 (Kd.R (Kd.int .i64) 3 w' w0.heap.size (fun k_ => (P0_ k_ ∨ w.heap.size ≤ k_)) (.slice Ao2 l0.length co2) x0_1) ∧ Aside0 (Kept w w' (fun k_ => P0_ k_)) ∧ Aside0 (Below w0.heap.size w0 w'))
  case atStart => exact ⟨(l0), (0), (wrap64 ((l0.length : Int) - 1)), (by first | rfl | (simp; done) | (simp [*]; done)), (by first | rfl | (simp; done) | (simp [*]; done)), H', ⟨Nat.le_refl _⟩, ⟨by (with_reducible repeat (first | apply Kd.R_alloc | apply Kd.R_drewN | apply Kd.R_drew)); exact HO0.out⟩, ⟨by repeat (first | (with_reducible first | exact HK.out | apply Kept.alloc | apply Kept.drewN | apply Kept.drew) | exact HK.out)⟩, ⟨by repeat (first | (with_reducible first | exact HB.out | apply below_alloc | apply pw_below_drewN | apply below_drew1) | exact HB.out)⟩⟩
  case round =>
    clear H'
    try clear p2
    obtain ⟨x0_1, x2_1, x3_1, rfl, rfl, HA, HK1, HO_0, HK, HB⟩ := hrel
    have hl0_1 := (Kd.R_reads' HO_0.out).1
    rw [hl0_1] at HO_0
    (try simp only [hl0_1])
    cases gk with
    | zero => exact absurd HA.out (by simp [slices_Reverse_int_int.l0])
    | succ k1 =>
      have H := HA.out
      clear HA
      simp only [slices_Reverse_int_int.l0] at H
      by_cases c3 : x2_1 < x3_1
      · rw [if_pos c3] at H
        have c3b0 : decide (x2_1 < x3_1) = true := decide_eq_true c3
        clear c3
        by_cases c4 : 0 ≤ x3_1
        · rw [if_pos c4] at H
          have c4b0 : decide (0 ≤ x3_1) = true := decide_eq_true c4
          clear c4
          by_cases c5 : x3_1 < (x0_1.length : Int)
          · rw [if_pos c5] at H
            have c5b0 : decide (x3_1 < (x0_1.length : Int)) = true := decide_eq_true c5
            clear c5
            by_cases c6 : 0 ≤ x2_1
            · rw [if_pos c6] at H
              have c6b0 : decide (0 ≤ x2_1) = true := decide_eq_true c6
              clear c6
              by_cases c7 : x2_1 < (x0_1.length : Int)
              · rw [if_pos c7] at H
                have c7b0 : decide (x2_1 < (x0_1.length : Int)) = true := decide_eq_true c7
                clear c7
                obtain ⟨y168, hy168⟩ : ∃ y_ : List Int, y_ = (x0_1.set (x2_1 : Int).toNat (rd x0_1 x3_1)) := ⟨_, rfl⟩
                replace H : (slices_Reverse_int_int.l0 k1 (y168.set (x3_1 : Int).toNat (rd x0_1 x2_1)) (wrap64 (x2_1 + 1)) (wrap64 (x3_1 - 1))) = some r := by first | (rw [hy168]; with_reducible exact H) | (have H2_ := (Option.bind_some _ _).symm.trans H; rw [hy168]; with_reducible exact H2_) | (have H2_ := (Option.bind_some _ _).symm.trans H; with_reducible exact H2_) | with_reducible exact H | (rw [hy168]; exact H) | exact H
                have Ny168 := Aside0.mk hy168
                clear hy168
                obtain ⟨y169, hy169⟩ : ∃ y_ : List Int, y_ = (y168.set (x3_1 : Int).toNat (rd x0_1 x2_1)) := ⟨_, rfl⟩
                replace H : (slices_Reverse_int_int.l0 k1 y169 (wrap64 (x2_1 + 1)) (wrap64 (x3_1 - 1))) = some r := by first | (rw [hy169]; with_reducible exact H) | (have H2_ := (Option.bind_some _ _).symm.trans H; rw [hy169]; with_reducible exact H2_) | (have H2_ := (Option.bind_some _ _).symm.trans H; with_reducible exact H2_) | with_reducible exact H | (rw [hy169]; exact H) | exact H
                have Ny169 := Aside0.mk hy169
                clear hy169
                have H' := Aside0.mk H
                clear H
                try go_wp2
                have n0_ := Aside0.mk (Kd.R_drew HO_0.out)
                have n1_ := Aside0.mk (Kept.drew HK.out)
                have n2_ := Aside0.mk (below_drew1 HB.out)
                clear HO_0
                clear HK
                clear HB
                have HO_0 := n0_
                have HK := n1_
                have HB := n2_
                clear n0_ n1_ n2_
                have p166 : 0 ≤ (x3_1 : Int) := of_decide_eq_true (by first | (with_reducible assumption) | assumption)
                have q166 : x3_1 < (x0_1.length : Int) := of_decide_eq_true (by first | (with_reducible assumption) | assumption)
                obtain ⟨ad166, e166, hx166_0⟩ := Kd.at_int (Kd.R_reads' HO_0.out).2.2 x3_1 p166 q166
                cases e166
                replace p166 := eq_true p166
                replace q166 := eq_true q166
                have p167 : 0 ≤ (x2_1 : Int) := of_decide_eq_true (by first | (with_reducible assumption) | assumption)
                have q167 : x2_1 < (x0_1.length : Int) := of_decide_eq_true (by first | (with_reducible assumption) | assumption)
                obtain ⟨ad167, e167, hx167_0⟩ := Kd.at_int (Kd.R_reads' HO_0.out).2.2 x2_1 p167 q167
                obtain rfl : ad166 = ad167 := (by injection e167)
                replace p167 := eq_true p167
                replace q167 := eq_true q167
                have p8 : 0 ≤ (x2_1 : Int) := of_decide_eq_true (by first | (with_reducible assumption) | assumption)
                have q8 : (x2_1 : Int) < ((x0_1.length : Int) : Int) := of_decide_eq_true (by first | (with_reducible assumption) | assumption)
                obtain ⟨go8, co8, eo8, gb8, gl8, cl8, HG8⟩ := Kd.R_form HO_0.out (by omega)
                (first | cases eo8 | (injection eo8 with ea_ en_ ec_; (first | subst ea_ | (injection ea_ with ea_; subst ea_)); subst ec_; clear en_))
                have GB8 := Aside0.mk gb8
                have GG8 := Aside0.mk HG8
                clear gb8 gl8 HG8
                have HMgo8 := Aside0.mk (show (P0_ go8 ∨ w.heap.size ≤ go8) from (HO_0.out.1 _ rfl))
                (first | simp only [add_plain] at hx166_0 | skip)
                (first | simp only [add_plain] at hx167_0 | skip)
                obtain ⟨hx8_0, hf8_0⟩ := Kd.R_celln 0 HO_0.out (x2_1 : Int) p8 q8
                replace p8 := eq_true p8
                replace q8 := eq_true q8
                have HP11 := Kd.R_putn HO_0.out (x2_1 : Int) (rd x0_1 x3_1)
                rw [← Ny168.out] at HP11
                have HQ11 := Aside0.mk HP11
                clear HP11
                have p9 : 0 ≤ (x3_1 : Int) := of_decide_eq_true (by first | (with_reducible assumption) | assumption)
                have q9 : (x3_1 : Int) < ((x0_1.length : Int) : Int) := of_decide_eq_true (by first | (with_reducible assumption) | assumption)
                obtain ⟨hx9_0, hf9_0⟩ := Kd.R_celln 0 HQ11.out (x3_1 : Int) p9 q9
                replace p9 := eq_true p9
                replace q9 := eq_true q9
                have HP12 := Kd.R_putn HQ11.out (x3_1 : Int) (rd x0_1 x2_1)
                rw [← Ny169.out] at HP12
                have HQ12 := Aside0.mk HP12
                clear HP12
                refine start_ (n := 16) (S := fun w' => w'.cell? ⟨go8, (x3_1).toNat, none⟩ = some (.int .i64 (rd x0_1 x3_1)) ∧ w'.cell? ⟨go8, (x2_1).toNat, none⟩ = some (.int .i64 (rd x0_1 x2_1))) (ds := [13, 15]) #[false, false, false, false, false, false, false, false, false, false, false, false, false, false, false, false] (by kernel_rfl) rfl rfl ⟨hx166_0, hx167_0⟩ (fun hHeld => ?_); refine with_tabW slices_Reverse_int_int.tab3 slices_Reverse_int_int.bits3 (fun HT_ HW_ => ?_)
                generalize wr.drew = w10 at HO_0 HK HB GG8 HQ11 HQ12 hf8_0 hf9_0 hx166_0 hx167_0 hx8_0 hx9_0 hHeld ⊢
                refine pure_ (i := 0) (N := some 14) (v := ?_) (a' := ?_) #[true, false, false, false, false, false, false, false, false, false, false, false, false, false, false, false] rfl rfl (any_of HT_.out (by kernel_rfl)) (fun _ _ _ h => h) (Or.inl ⟨by rfl, ?_⟩) ?_ ?_
                rotate_left
                · intro w'
                  go_simp
                  with_reducible rfl
                rotate_left
                · simp only [Act.put, List.setIfInBounds_toArray, List.set_cons_zero, List.set_cons_succ, i64_w, i32_w]
                  rfl
                refine pure_ (i := 1) (N := some 15) (v := ?_) (a' := ?_) #[true, true, false, false, false, false, false, false, false, false, false, false, false, false, false, false] rfl rfl (any_of HT_.out (by kernel_rfl)) (fun _ _ _ h => h) (Or.inl ⟨by rfl, ?_⟩) ?_ ?_
                rotate_left
                · intro w'
                  go_simp
                  with_reducible rfl
                rotate_left
                · simp only [Act.put, List.setIfInBounds_toArray, List.set_cons_zero, List.set_cons_succ, i64_w, i32_w]
                  rfl
                refine pure_ (i := 2) (N := some 16) (v := ?_) (a' := ?_) #[true, true, true, false, false, false, false, false, false, false, false, false, false, false, false, false] rfl rfl (any_of HT_.out (by kernel_rfl)) (fun _ _ _ h => h) (Or.inl ⟨by rfl, ?_⟩) ?_ ?_
                rotate_left
                · intro w'
                  go_simp
                  with_reducible rfl
                rotate_left
                · simp only [Act.put, List.setIfInBounds_toArray, List.set_cons_zero, List.set_cons_succ, i64_w, i32_w]
                  rfl
                refine pure_ (i := 3) (N := some 17) (v := ?_) (a' := ?_) #[true, true, true, true, false, false, false, false, false, false, false, false, false, false, false, false] rfl rfl (any_of HT_.out (by kernel_rfl)) (fun _ _ _ h => h) (Or.inl ⟨by rfl, ?_⟩) ?_ ?_
                rotate_left
                · intro w'
                  go_simp
                  with_reducible rfl
                rotate_left
                · simp only [Act.put, List.setIfInBounds_toArray, List.set_cons_zero, List.set_cons_succ, i64_w, i32_w]
                  rfl
                refine pure_ (i := 4) (N := some 18) (v := ?_) (a' := ?_) #[true, true, true, true, true, false, false, false, false, false, false, false, false, false, false, false] rfl rfl (any_of HT_.out (by kernel_rfl)) (fun _ _ _ h => h) (Or.inl ⟨by rfl, ?_⟩) ?_ ?_
                rotate_left
                · intro w'
                  go_simp
                  with_reducible rfl
                rotate_left
                · simp only [Act.put, List.setIfInBounds_toArray, List.set_cons_zero, List.set_cons_succ, i64_w, i32_w]
                  rfl
                refine pure_ (i := 5) (N := some 19) (v := ?_) (a' := ?_) #[true, true, true, true, true, true, false, false, false, false, false, false, false, false, false, false] rfl rfl (any_of HT_.out (by kernel_rfl)) (fun _ _ _ h => h) (Or.inl ⟨by rfl, ?_⟩) ?_ ?_
                rotate_left
                · intro w'
                  go_simp
                  with_reducible rfl
                rotate_left
                · simp only [Act.put, List.setIfInBounds_toArray, List.set_cons_zero, List.set_cons_succ, i64_w, i32_w]
                  rfl
                refine pure_ (i := 6) (N := some 20) (v := ?_) (a' := ?_) #[true, true, true, true, true, true, true, false, false, false, false, false, false, false, false, false] rfl rfl (any_of HT_.out (by kernel_rfl)) (fun _ _ _ h => h) (Or.inl ⟨by rfl, ?_⟩) ?_ ?_
                rotate_left
                · intro w'
                  go_simp
                  with_reducible rfl
                rotate_left
                · simp only [Act.put, List.setIfInBounds_toArray, List.set_cons_zero, List.set_cons_succ, i64_w, i32_w]
                  rfl
                refine pure_ (i := 8) (N := some 22) (v := ?_) (a' := ?_) #[true, true, true, true, true, true, true, false, true, false, false, false, false, false, false, false] rfl rfl (any_of HT_.out (by kernel_rfl)) (fun _ _ _ h => h) (Or.inl ⟨by rfl, ?_⟩) ?_ ?_
                rotate_left
                · intro w'
                  go_simp
                  with_reducible rfl
                rotate_left
                · simp only [Act.put, List.setIfInBounds_toArray, List.set_cons_zero, List.set_cons_succ, i64_w, i32_w]
                  rfl
                refine pure_ (i := 9) (N := some 23) (v := ?_) (a' := ?_) #[true, true, true, true, true, true, true, false, true, true, false, false, false, false, false, false] rfl rfl (any_of HT_.out (by kernel_rfl)) (fun _ _ _ h => h) (Or.inl ⟨by rfl, ?_⟩) ?_ ?_
                rotate_left
                · intro w'
                  go_simp
                  with_reducible rfl
                rotate_left
                · simp only [Act.put, List.setIfInBounds_toArray, List.set_cons_zero, List.set_cons_succ, i64_w, i32_w]
                  rfl
                refine pure_ (i := 10) (N := some 24) (v := ?_) (a' := ?_) #[true, true, true, true, true, true, true, false, true, true, true, false, false, false, false, false] rfl rfl (any_of HT_.out (by kernel_rfl)) (fun _ _ _ h => h) (Or.inl ⟨by rfl, ?_⟩) ?_ ?_
                rotate_left
                · intro w'
                  go_simp
                  with_reducible rfl
                rotate_left
                · simp only [Act.put, List.setIfInBounds_toArray, List.set_cons_zero, List.set_cons_succ, i64_w, i32_w]
                  rfl
                refine take_ (i := 7) (N := some 21) (v := ?_) (a' := ?_) #[true, true, true, true, true, true, true, true, true, true, true, false, false, false, false, false] rfl rfl (take_ofW HT_.out HW_.out (by kernel_rfl)) (fun _ _ _ h => h) (Or.inl ⟨by rfl, ?_⟩) hHeld ?_ ?_
                rotate_left
                · rintro w' ⟨s0, s1⟩
                  go_simp
                  with_reducible rfl
                rotate_left
                · simp only [Act.put, List.setIfInBounds_toArray, List.set_cons_zero, List.set_cons_succ, i64_w, i32_w]
                  rfl
                refine take_ (i := 11) (N := some 25) (v := ?_) (a' := ?_) #[true, true, true, true, true, true, true, true, true, true, true, true, false, false, false, false] rfl rfl (take_ofW HT_.out HW_.out (by kernel_rfl)) (fun _ _ _ h => h) (Or.inl ⟨by rfl, ?_⟩) hHeld ?_ ?_
                rotate_left
                · rintro w' ⟨s0, s1⟩
                  go_simp
                  with_reducible rfl
                rotate_left
                · simp only [Act.put, List.setIfInBounds_toArray, List.set_cons_zero, List.set_cons_succ, i64_w, i32_w]
                  rfl
                refine pure_ (i := 12) (N := some 26) (v := ?_) (a' := ?_) #[true, true, true, true, true, true, true, true, true, true, true, true, true, false, false, false] rfl rfl (any_of HT_.out (by kernel_rfl)) (fun _ _ _ h => h) (Or.inl ⟨by rfl, ?_⟩) ?_ ?_
                rotate_left
                · intro w'
                  go_simp
                  with_reducible rfl
                rotate_left
                · simp only [Act.put, List.setIfInBounds_toArray, List.set_cons_zero, List.set_cons_succ, i64_w, i32_w]
                  rfl
                refine last_ (i := 13) (N := none) #[true, true, true, true, true, true, true, true, true, true, true, true, true, true, false, false] rfl rfl (one_of HT_.out (by kernel_rfl)) (by decide) (fun K hK => ?_)
                refine skip_ (w1 := ?_) (by rfl) rfl ?_ ?_
                rotate_left
                · go_simp
                  rfl
                refine hK.out _ _ ?_
                clear hK K
                refine pure_ (i := 14) (N := some 27) (v := ?_) (a' := ?_) #[true, true, true, true, true, true, true, true, true, true, true, true, true, true, true, false] rfl rfl (any_of HT_.out (by kernel_rfl)) (fun _ _ _ h => h) (Or.inl ⟨by rfl, ?_⟩) ?_ ?_
                rotate_left
                · intro w'
                  go_simp
                  with_reducible rfl
                rotate_left
                · simp only [Act.put, List.setIfInBounds_toArray, List.set_cons_zero, List.set_cons_succ, i64_w, i32_w]
                  rfl
                refine last_ (i := 15) (N := none) #[true, true, true, true, true, true, true, true, true, true, true, true, true, true, true, true] rfl rfl (one_of HT_.out (by kernel_rfl)) (by decide) (fun K hK => ?_)
                refine skip_ (w1 := ?_) (by rfl) rfl ?_ ?_
                rotate_left
                · go_simp
                  rfl
                refine hK.out _ _ ?_
                clear hK K
                refine done_ (done_of HT_.out (by kernel_rfl)) ?_
                try go_wp2
                (try simp only [← hl0_1])
                go_roundg k1
                case measure => have := HK1.out; omega
                case rel => exact ⟨(y169), (wrap64 (x2_1 + 1)), (wrap64 (x3_1 - 1)), (by first | rfl | (simp; done) | (simp [*]; done)), (by first | rfl | (simp; done) | (simp [*]; done)), H', ⟨by have := HK1.out; omega⟩, ⟨by (try simp only [hl0_1]); (with_reducible repeat (first | apply Kd.R_alloc | apply Kd.R_drewN | apply Kd.R_drew)); exact HQ12.out⟩, ⟨by repeat (first | (with_reducible first | exact HK.out | apply Kept.alloc | apply Kept.drewN | apply Kept.drew | refine Kept.setCell ?_ HMgo8.out _ | refine Kept.setCell ?_ HMgo8.out _) | exact HK.out)⟩, ⟨by repeat (first | (with_reducible first | exact HB.out | apply below_alloc | apply pw_below_drewN | apply below_drew1 | refine below_set ?_ GB8.out | refine below_set ?_ GB8.out) | exact HB.out)⟩⟩
              · rw [if_neg c7] at H
                exact absurd H (by simp)
            · rw [if_neg c6] at H
              exact absurd H (by simp)
          · rw [if_neg c5] at H
            exact absurd H (by simp)
        · rw [if_neg c4] at H
          exact absurd H (by simp)
      · rw [if_neg c3] at H
        have c3b0 : decide (x2_1 < x3_1) = false := decide_eq_false c3
        clear c3
        obtain rfl := Option.some.inj H
        go_wp2
        first | go_end0 | ((try simp only [Exit.inBlock, Exit.then]); refine bodyPost_ret (results_none rfl _ _ _) rfl ?_)
        exact ⟨by first | rfl | (simp [errW_none, errW_some] <;> rfl) | (simp [*, errW_none, errW_some] <;> rfl), (by first | exact (by (with_reducible repeat (first | apply Kd.R_alloc | apply Kd.R_drewN | apply Kd.R_drew)); exact HO_0.out) | (simp only [hl0_1]; exact (by (with_reducible repeat (first | apply Kd.R_alloc | apply Kd.R_drewN | apply Kd.R_drew)); exact HO_0.out))), by repeat (first | (with_reducible first | exact HB.out | apply below_alloc | apply pw_below_drewN | apply below_drew1) | exact HB.out), by repeat (first | (with_reducible first | exact HK.out | apply Kept.alloc | apply Kept.drewN | apply Kept.drew) | exact HK.out)⟩

end Go.Proofs.Ytcffniaieegbgaa.P

end

section
namespace Go.Proofs.Ytcffniaieegbgaa.P
open Go.RowKit Go.Proofs.YtcffniaieegbgaaW.PrintWords Go.Proofs.YtcffniaieegbgaaW.PrintLast Go.Proofs.YtcffniaieegbgaaW.PrintMore
attribute [local go_sem] max2_int min2_int max_two min_two max_three min_three max_four min_four   -- for this text's walks alone
set_option linter.unusedVariables false
set_option linter.unusedSimpArgs false

def firstB : List S35 → Nat → Int → Option Int
  | [], _, _ => none
  | x :: r, i, at_ => if x.f0 = at_ then some (i : Int) else firstB r (i + 1) at_
theorem firstB_snoc : ∀ (l : List S35) (i : Nat) (x : S35) (y : Int), firstB (l ++ [x]) i y = match firstB l i y with | some v => some v | none => if x.f0 = y then some ((i + l.length : Nat) : Int) else none
  | [], i, x, y => by
    simp only [List.nil_append, firstB, List.length_nil, Nat.add_zero]
  | z :: r, i, x, y => by
    simp only [List.cons_append, firstB]
    by_cases h : z.f0 = y
    · simp only [if_pos h]
    · simp only [if_neg h]
      rw [firstB_snoc r (i + 1) x y, List.length_cons, show i + 1 + r.length = i + (r.length + 1) by omega]
theorem firstB_step_none {l : List S35} {x : S35} (h : firstB l 0 x.f0 = none) : firstB (l ++ [x]) 0 = upd (firstB l 0) x.f0 (l.length : Int) := by
  funext y
  rw [firstB_snoc]
  unfold upd
  by_cases e : y = x.f0
  · subst e
    rw [h, if_pos rfl]
    simp
  · rw [if_neg e]
    cases h1 : firstB l 0 y with
    | none => simp only [if_neg (Ne.symm e)]
    | some v => rfl
theorem firstB_step_some {l : List S35} {x : S35} (h : (firstB l 0 x.f0).isSome = true) : firstB (l ++ [x]) 0 = firstB l 0 := by
  funext y
  rw [firstB_snoc]
  cases h1 : firstB l 0 y with
  | some v => rfl
  | none =>
    have : x.f0 ≠ y := fun e => by rw [e, h1] at h; cases h
    simp only [if_neg this]
theorem firstB_lt : ∀ (l : List S35) (j : Nat) (x v : Int), firstB l j x = some v → ∃ i : Nat, v = ((j + i : Nat) : Int) ∧ i < l.length
  | [], j, x, v, h => by cases h
  | y :: r, j, x, v, h => by
    unfold firstB at h
    split at h
    · cases h; exact ⟨0, rfl, by simp⟩
    · obtain ⟨i, h1, h2⟩ := firstB_lt r (j + 1) x v h
      exact ⟨i + 1, by rw [h1]; congr 1; omega, by simpa using h2⟩
def visitL (f : Nat → List Int × List Int → Option (List Int × List Int)) (l : List S35) : List Int → List Int × List Int → Option (List Int × List Int)
  | [], s => some s
  | a :: r, s => match firstB l 0 a with
    | none => visitL f l r s
    | some j => if s.1.getD j.toNat 0 = 0 then (f j.toNat s).bind (visitL f l r) else visitL f l r s
def fitsB (n : Nat) : Bool := decide (n < 17592186044416)
theorem fitsB_is {n : Nat} (h : fitsB n = true) : n < 17592186044416 := of_decide_eq_true h
def intoL : Nat → List S35 → Nat → List Int × List Int → Option (List Int × List Int)
  | 0, _, _, _ => none
  | k + 1, l, i, s => (visitL (intoL k l) l (rd_T35 l (i : Int)).f2 (s.1.set i 1, s.2)).bind fun t => if fitsB t.2.length = true then some (t.1, t.2 ++ [(i : Int)]) else none
def i64B (x : Int) : Bool := decide (-9223372036854775808 ≤ x) && decide (x ≤ 9223372036854775807)
theorem i64B_is {x : Int} (h : i64B x = true) : I64 x := by
  unfold i64B at h
  rw [Bool.and_eq_true] at h
  exact ⟨of_decide_eq_true h.1, of_decide_eq_true h.2⟩
def bsOk (l : List S35) : Bool := l.all fun b => i64B b.f0 && b.f2.all i64B
theorem bsOk_at {l : List S35} (h : bsOk l = true) {i : Nat} (hi : i < l.length) : I64 (rd_T35 l (i : Int)).f0 ∧ ∀ y ∈ (rd_T35 l (i : Int)).f2, I64 y := by
  have hx : rd_T35 l (i : Int) = l[i] := by unfold rd_T35; rw [Int.toNat_natCast, List.getD_eq_getElem?_getD, List.getElem?_eq_getElem hi]; rfl
  have h9 := List.all_eq_true.1 h _ (List.getElem_mem hi)
  rw [Bool.and_eq_true] at h9
  rw [hx]
  exact ⟨i64B_is h9.1, fun y hy => i64B_is (List.all_eq_true.1 h9.2 y hy)⟩
def restL (g : List Int) : Nat → List Int
  | 0 => []
  | i + 1 => if g.getD i 0 = 0 then restL g i ++ [(i : Int)] else restL g i
theorem restL_len (g : List Int) : ∀ i, (restL g i).length ≤ i
  | 0 => Nat.le_refl _
  | i + 1 => by
    have := restL_len g i
    unfold restL
    split
    · simp; omega
    · omega
def startL (k : Nat) (l : List S35) : Option (List Int × List Int) := if l.length = 0 then some ([], []) else intoL k l 0 (List.replicate l.length 0, [])
def flow_Order.f (k : Nat) (l0 : List S35) : Option (List Int) := if l0.length < 4398046511104 ∧ bsOk l0 = true then (startL k l0).bind fun s => (slices_Reverse_int_int.f k s.2).bind fun v => if v.length ≤ 4398046511104 then some (v ++ restL s.1 l0.length) else none else none
theorem meas_ord {j n : Nat} {m : Int} (h : j < n) (e : m = ((j + 1 : Nat) : Int)) : ((n : Int) - intOf (.int .i64 m)).toNat < ((n : Int) - intOf (.int .i64 (j : Int))).toNat := by
  subst e
  show ((n : Int) - ((j + 1 : Nat) : Int)).toNat < ((n : Int) - (j : Int)).toNat
  omega
theorem wrap_ord {i n : Nat} (h : i < n) (hn : n ≤ 9223372036854775807) : wrap64 ((i : Int) + 1) = ((i + 1 : Nat) : Int) := by unfold wrap64; omega
theorem callFunc_ord {f : Nat} {fn : Func} (hf : Try.prog.funcs[f]? = some fn) (hname : (fn.name == "runtime.NumGoroutine") = false) (hb : fn.body.isSome = true) (vs : Array Value) (w : World) : Sem.run Try.prog (callFunc f vs) w = .ok (.enter f vs) w := enters_ hf hname hb vs w
theorem below_noneO {W W1 : World} (hg : W.grownBy W1 none) : Below W.heap.size W W1 := ⟨hg.os, hg.tape, hg.output, hg.size, fun k hk => hg.block k hk (by simp)⟩
theorem Rws.besidesO {w0 W W1 : World} {l : List (Nat × TypeId × Array Value)} (h : Rws w0 l W) {v : Value} {e : Nat} (ht : ∀ k, v.ownBlock = some k → ∃ cells, W.heap[k]? = some (.cells cells e (0, 0))) (hne : ∀ p ∈ l, p.2.1 ≠ e) (hg : W.grownBy W1 v.ownBlock) (hb : Below w0.heap.size w0 W1) : Rws w0 l W1 :=
  ⟨fun p hp => ⟨blk_grown (h.lies p hp).1 hg (fun q => by
    obtain ⟨cs, hc⟩ := ht _ q.symm
    rw [(h.lies p hp).1] at hc
    injection hc with hc
    injection hc with _ hc
    exact hne p hp hc), (h.lies p hp).2⟩, h.ne, hb⟩
theorem int_add0 (g m : Nat) : (⟨g, 0, none⟩ : Addr).add m = ⟨g, m, none⟩ := by
  unfold Addr.add
  split
  · rename_i h; first | (subst h; rfl) | (rw [h]) | simp_all
  · simp
structure OrdS (w0 : World) (A0 : Option Addr) (c0 : Nat) (l0 : List S35) (bl bm bg bi bf B gA cg : Nat) (uf : Value) (g lf : List Int) (u v : Value) (W : World) : Prop where
  mp : Mp w0 B l0.length (firstB l0 0) [(bf, 27, #[u]), (bi, 70, #[uf]), (bg, 27, #[.slice (some ⟨gA, 0, none⟩) l0.length cg]), (bm, 68, #[.map (some B)]), (bl, 29, #[.slice A0 l0.length c0])] W
  gone : Kd.R (Kd.int .i64) 3 W w0.heap.size (fun k => k = gA) (.slice (some ⟨gA, 0, none⟩) l0.length cg) g
  left : Kd.R (Kd.int .i64) 3 W w0.heap.size (fun k => k ≠ gA) v lf
  cells : Kd.C k35 w0 A0 l0.length l0
section
variable {w0 : World} {A0 : Option Addr} {c0 : Nat} {l0 : List S35} {bl bm bg bi bf B gA cg : Nat} {uf : Value} {g lf : List Int} {u v : Value} {W : World}
theorem OrdS.below (h : OrdS w0 A0 c0 l0 bl bm bg bi bf B gA cg uf g lf u v W) : Below w0.heap.size w0 W := h.mp.below
theorem OrdS.step (h : OrdS w0 A0 c0 l0 bl bm bg bi bf B gA cg uf g lf u v W) {W1 : World} (hb : Below W.heap.size W W1) : OrdS w0 A0 c0 l0 bl bm bg bi bf B gA cg uf g lf u v W1 :=
  ⟨h.mp.step hb, Kd.R_below h.gone hb, Kd.R_below h.left hb, h.cells⟩
theorem OrdS.len (h : OrdS w0 A0 c0 l0 bl bm bg bi bf B gA cg uf g lf u v W) : g.length = l0.length := ((Kd.R_reads' h.gone).1).symm
theorem OrdS.at_f (h : OrdS w0 A0 c0 l0 bl bm bg bi bf B gA cg uf g lf u v W) : W.cell? ⟨bf, 0, none⟩ = some u := blk_cell (h.mp.rows.mem (g := bf) (t := 27) (cs := #[u]) (by simp)) 0
theorem OrdS.at_i (h : OrdS w0 A0 c0 l0 bl bm bg bi bf B gA cg uf g lf u v W) : W.cell? ⟨bi, 0, none⟩ = some uf := blk_cell (h.mp.rows.mem (g := bi) (t := 70) (cs := #[uf]) (by simp)) 0
theorem OrdS.at_g (h : OrdS w0 A0 c0 l0 bl bm bg bi bf B gA cg uf g lf u v W) : W.cell? ⟨bg, 0, none⟩ = some (.slice (some ⟨gA, 0, none⟩) l0.length cg) := blk_cell (h.mp.rows.mem (g := bg) (t := 27) (cs := #[.slice (some ⟨gA, 0, none⟩) l0.length cg]) (by simp)) 0
theorem OrdS.at_m (h : OrdS w0 A0 c0 l0 bl bm bg bi bf B gA cg uf g lf u v W) : W.cell? ⟨bm, 0, none⟩ = some (.map (some B)) := blk_cell (h.mp.rows.mem (g := bm) (t := 68) (cs := #[.map (some B)]) (by simp)) 0
theorem OrdS.at_l (h : OrdS w0 A0 c0 l0 bl bm bg bi bf B gA cg uf g lf u v W) : W.cell? ⟨bl, 0, none⟩ = some (.slice A0 l0.length c0) := blk_cell (h.mp.rows.mem (g := bl) (t := 29) (cs := #[.slice A0 l0.length c0]) (by simp)) 0
theorem OrdS.at_n (h : OrdS w0 A0 c0 l0 bl bm bg bi bf B gA cg uf g lf u v W) {i : Nat} (hi : i < l0.length) : W.cell? ⟨gA, i, none⟩ = some (.int .i64 (g.getD i 0)) := by
  have h1 := h.gone
  have hl := h.len
  rw [← hl] at h1
  have := (Kd.R_cell 0 h1 (i : Int) (by omega) (by omega)).1
  rw [Int.toNat_natCast] at this
  rw [this]
  unfold rdOf
  rw [Int.toNat_natCast]
end
section
variable {ops : Array Oper} {rest : List Oper} {o : Oper} {a : Act} {Q : Exit → Act → World → Prop}
theorem ord_gone (hgd : o.guard = none) {p x : Operand} (ho : o.op = .store 3 p x) (hN : o.dst = none) {w0 W : World} {A0 : Option Addr} {c0 : Nat} {l0 : List S35} {bl bm bg bi bf B gA cg : Nat} {uf : Value} {g lf : List Int} {u v : Value} (i : Nat)
    (H : OrdS w0 A0 c0 l0 bl bm bg bi bf B gA cg uf g lf u v W) (hi : i < l0.length) (haddr : a.eval p = .pointer (some ⟨gA, i, none⟩)) (hx : a.eval x = .int .i64 1)
    (h : ∀ w1, OrdS w0 A0 c0 l0 bl bm bg bi bf B gA cg uf (g.set i 1) lf u v w1 → wpList Try.prog ops Q rest a w1) : wpList Try.prog ops Q (o :: rest) a W := by
  obtain ⟨c, hcl, _, hcc⟩ := Kd.R_getA H.gone (0 : Int) (i : Int) (by omega) (by omega)
  obtain ⟨q, rfl⟩ := List.length_eq_one_iff.1 (hcl.trans rfl)
  refine Kd.R_store (Kd.int .i64) w0.heap.size hN hgd 3 p x ho 3 (i : Int) 0 g 1 (.int .i64 1) [.int .i64 1] [q] (fun k => k = gA) (fun _ => False) haddr (by show i = i * 1 + 0; omega) hx rfl (by kernel_rfl) (by intro q hq; rw [List.mem_singleton.1 hq]; rfl) H.gone (by omega) (by omega) rfl (fun j u hj => by have := hcc j u hj; rw [int_add0] at this; exact this) (by show 0 + 1 ≤ 1; omega) rfl (fun _ hk => hk.elim) H.below ?_
  intro w1 h1 h2 h3
  rw [Int.toNat_natCast] at h1
  exact h w1 ⟨⟨H.mp.own.grown h3 (fun e => by obtain ⟨cs, hc⟩ := Kd.R_typed H.gone gA (by simp [Value.ownBlock]); exact H.mp.own.ne hc (Option.some.inj e)), H.mp.rows.besidesO (Kd.R_typed H.gone) (by intro p hp; simp at hp; rcases hp with rfl | rfl | rfl | rfl | rfl <;> first | (show (27 : Nat) ≠ 3; decide) | (show (70 : Nat) ≠ 3; decide) | (show (68 : Nat) ≠ 3; decide) | (show (29 : Nat) ≠ 3; decide)) h3 h2, H.mp.base⟩, h1, Kd.R_mono (Kd.R_grown H.left h3 (fun k hk e => hk (Option.some.inj e))) (fun _ hk => hk), H.cells⟩
theorem ord_app (hgd : o.guard = none) {s x : Operand} (ho : o.op = .call { callee := .builtin .append, args := #[s, x], argTypes := #[27, 27] }) {w0 W : World} {A0 : Option Addr} {c0 : Nat} {l0 : List S35} {bl bm bg bi bf B gA cg : Nat} {uf : Value} {g lf : List Int} {v : Value} (i : Int) {A : Option Addr} {c : Nat}
    (H : OrdS w0 A0 c0 l0 bl bm bg bi bf B gA cg uf g lf v v W) (hs : a.eval s = v) (hx : a.eval x = .slice A 1 c) (HL : (Kd.int .i64).C W A 1 [i]) (hlt : lf.length < 17592186044416)
    (h : ∀ v1 w1, OrdS w0 A0 c0 l0 bl bm bg bi bf B gA cg uf g (lf ++ [i]) v v1 w1 → wpList Try.prog ops Q rest (a.put o.dst v1) w1) : wpList Try.prog ops Q (o :: rest) a W := by
  have hga : gA < W.heap.size := by obtain ⟨cs, hc⟩ := Kd.R_typed H.gone gA (by simp [Value.ownBlock]); exact blk_lt hc
  refine Kd.R_append_rows (Kd.int .i64) (w0 := w0) w0.heap.size hgd s x 27 3 (.int .i64 0) 8 ho Try.underlying27 info3 rfl (by decide) (by omega) v lf [i] A 1 c (fun k => k ≠ gA) (fun _ => False) hs hx H.left HL (fun _ _ hh => hh) (fun _ hh => hh.elim) (fun k hk => by omega) H.below H.below.size (by omega) ?_
  intro v1 w1 h1 h2 h3 h4
  exact h v1 w1 ⟨⟨H.mp.own.grown h3 (fun e => by obtain ⟨cs, hc⟩ := Kd.R_typed H.left B e.symm; exact H.mp.own.ne hc rfl), H.mp.rows.besidesO (Kd.R_typed H.left) (by intro p hp; simp at hp; rcases hp with rfl | rfl | rfl | rfl | rfl <;> first | (show (27 : Nat) ≠ 3; decide) | (show (70 : Nat) ≠ 3; decide) | (show (68 : Nat) ≠ 3; decide) | (show (29 : Nat) ≠ 3; decide)) h3 h2, H.mp.base⟩, Kd.R_grown H.gone h3 (fun k hk e => by subst hk; exact H.left.1 k e.symm rfl), h1, H.cells⟩
theorem ord_put (hgd : o.guard = none) {p x : Operand} (ho : o.op = .store 27 p x) {w0 W : World} {A0 : Option Addr} {c0 : Nat} {l0 : List S35} {bl bm bg bi bf B gA cg : Nat} {uf : Value} {g lf : List Int} {u v : Value}
    (H : OrdS w0 A0 c0 l0 bl bm bg bi bf B gA cg uf g lf u v W) (haddr : a.eval p = .pointer (some ⟨bf, 0, none⟩)) (hx : a.eval x = v)
    (h : ∀ w1, OrdS w0 A0 c0 l0 bl bm bg bi bf B gA cg uf g lf v v w1 → wpList Try.prog ops Q rest (a.put o.dst undef) w1) : wpList Try.prog ops Q (o :: rest) a W := by
  obtain ⟨A, c, e⟩ := Kd.R_slice H.left
  have hm := H.mp.rows.mem (g := bf) (t := 27) (cs := #[u]) (by simp)
  have hi : ∀ q, q ∈ 3 :: (Kd.int .i64).E → q ≠ (27 : Nat) := by intro q hq; simp [Kd.int, Kd.scalar] at hq; rw [hq]; show (_ : Nat) ≠ _; decide
  refine rw_cell hgd 27 ho (i := 0) haddr hx (by rw [e]; rfl) [] H.mp.rows (by show (_ : Nat) < 1; decide) (by kernel_rfl) ?_
  intro w1 hX hk
  exact h w1 ⟨mp_keep H.mp ⟨_, _, List.mem_cons_self⟩ hk hX, Kd.R_mono (Kd.R_step (Kd.R_types H.gone hm hi) (fun j hj hlt => hk.2 j hlt hj.2)) (fun _ hh => hh.1), Kd.R_mono (Kd.R_step (Kd.R_types H.left hm hi) (fun j hj hlt => hk.2 j hlt hj.2)) (fun _ hh => hh.1), H.cells⟩
end
set_option maxHeartbeats 3200000 in
set_option maxRecDepth 100000 in
theorem into_calls (w0 : World) (A0 : Option Addr) (c0 : Nat) (l0 : List S35) (bl bm bg bi bf B gA cg : Nat) (hok : bsOk l0 = true) (hlen : l0.length < 4398046511104) : ∀ (k i : Nat) (g lf g' lf' : List Int) (v : Value) (W : World), i < l0.length →
    OrdS w0 A0 c0 l0 bl bm bg bi bf B gA cg (.func (.func 45) #[] #[.pointer (some ⟨bg, 0, none⟩), .pointer (some ⟨bl, 0, none⟩), .pointer (some ⟨bm, 0, none⟩), .pointer (some ⟨bi, 0, none⟩), .pointer (some ⟨bf, 0, none⟩)]) g lf v v W → intoL k l0 i (g, lf) = some (g', lf') →
    Calls Try.prog 45 #[.int .i64 (i : Int), .pointer (some ⟨bg, 0, none⟩), .pointer (some ⟨bl, 0, none⟩), .pointer (some ⟨bm, 0, none⟩), .pointer (some ⟨bi, 0, none⟩), .pointer (some ⟨bf, 0, none⟩)] W fun e w' => e = .returned (.tuple #[]) ∧ ∃ v', OrdS w0 A0 c0 l0 bl bm bg bi bf B gA cg (.func (.func 45) #[] #[.pointer (some ⟨bg, 0, none⟩), .pointer (some ⟨bl, 0, none⟩), .pointer (some ⟨bm, 0, none⟩), .pointer (some ⟨bi, 0, none⟩), .pointer (some ⟨bf, 0, none⟩)]) g' lf' v' v' w' := by
  have hcf := callFunc_ord Try.func45 (by kernel_rfl) (by kernel_rfl)
  have HOK := Aside0.mk hok
  have HLEN := Aside0.mk hlen
  clear hok hlen
  obtain ⟨uf, huf⟩ : ∃ uf : Value, uf = .func (.func 45) #[] #[.pointer (some ⟨bg, 0, none⟩), .pointer (some ⟨bl, 0, none⟩), .pointer (some ⟨bm, 0, none⟩), .pointer (some ⟨bi, 0, none⟩), .pointer (some ⟨bf, 0, none⟩)] := ⟨_, rfl⟩
  rw [← huf]
  have HUF := Aside0.mk huf
  clear huf
  intro k
  induction k with
  | zero => intro i g lf g' lf' v W hi ho h; simp [intoL] at h
  | succ k ih =>
  intro i g lf g' lf' v W hi ho h
  have IH := Aside0.mk ih
  rw [intoL] at h
  have HO := Aside0.mk ho
  have H := Aside0.mk h
  obtain ⟨A5, c5, e5⟩ := Kd.R_slice ho.left
  subst e5
  clear ih ho h
  obtain ⟨x, hx⟩ : ∃ x, x = rd_T35 l0 (i : Int) := ⟨_, rfl⟩
  rw [← hx] at H
  have HX := Aside0.mk hx
  have HI := Aside0.mk hi
  have HNK := Aside0.mk (show ∀ y ∈ x.f2, I64 y by rw [hx]; exact (bsOk_at HOK.out hi).2)
  obtain ⟨ad, A2, c2, e1, _, _, h2, _, hn⟩ := at_T35 HO.out.cells (i : Int) (by omega) (by omega)
  subst e1
  rw [← hx] at h2 hn
  rw [Int.toNat_natCast] at h2
  have HN := Aside0.mk hn
  have HX2 := Aside0.mk h2
  have p5 : (0 ≤ (i : Int)) = True := eq_true (by omega)
  have p6 : ((i : Int) < (l0.length : Int)) = True := eq_true (by omega)
  have f_g := HO.out.at_g
  have f_l := HO.out.at_l
  clear hx hn h2
  go_enter Try.func45, Try.ntmps45
  go_wp2_with (first | ((with_reducible refine gate_store (t := 3) (p := 13) rfl ?_); refine ord_gone rfl rfl rfl i HO.out HI.out ?had_ rfl ?_; (case had_ => first | rfl | (go_simp; done) | (go_simp; rfl)); intro w_ ho; replace HO := Aside0.mk ho; clear ho f_g f_l; have f_l := HO.out.at_l; have hx2 := pw_cell_below HO.out.below HX2.out))
  clear f_l hx2 p5 p6
  go_loopw [20] (fun v20 wr => ∃ (j : Nat) (gj lj : List Int) (vj : Value), v20 = .int .i64 (j : Int) ∧ j ≤ x.f2.length ∧ Aside0 (OrdS w0 (some ad) c0 l0 bl bm bg bi bf B gA cg uf gj lj vj vj wr) ∧ Aside0 (((visitL (intoL k l0) l0 (x.f2.drop j) (gj, lj)).bind fun t => if fitsB t.2.length = true then some (t.1, t.2 ++ [(i : Int)]) else none) = some (g', lf'))) (fun v20 _ => ((x.f2.length : Int) - intOf v20).toNat)
  case atStart => exact ⟨0, _, _, _, rfl, Nat.zero_le _, HO, H⟩
  case round =>
    rename_i wr
    clear HO H
    obtain ⟨j, gj, lj, vj, rfl, hj, HO, H⟩ := hrel
    obtain ⟨A6, c6, e6⟩ := Kd.R_slice HO.out.left
    subst e6
    have hnx : x.f2.length ≤ 9223372036854775807 := Kd.C_max HN.out
    by_cases c1 : j < x.f2.length
    · obtain ⟨a, ha⟩ : ∃ a, a = rd x.f2 (j : Int) := ⟨_, rfl⟩
      obtain ⟨ad2, e2, hxa⟩ := Kd.at_int (Kd.C_below HN.out HO.out.below) (j : Int) (by omega) (by omega)
      cases e2
      rw [← ha, Int.toNat_natCast] at hxa
      have hdr : x.f2.drop j = a :: x.f2.drop (j + 1) := by rw [List.drop_eq_getElem_cons c1, ha]; unfold rd; rw [Int.toNat_natCast, List.getD_eq_getElem?_getD, List.getElem?_eq_getElem c1]; rfl
      have HK := Aside0.mk (HNK.out a (by have := List.getElem_mem c1; rw [ha]; unfold rd; rw [Int.toNat_natCast, List.getD_eq_getElem?_getD, List.getElem?_eq_getElem c1]; exact this))
      have H1 := H.out
      rw [hdr] at H1
      simp only [visitL] at H1
      have HW := Aside0.mk (wrap_ord c1 hnx)
      have c1b : decide ((j : Int) < (x.f2.length : Int)) = true := decide_eq_true (by omega)
      have p5 : (0 ≤ (j : Int)) = True := eq_true (by omega)
      have p6 : ((j : Int) < (x.f2.length : Int)) = True := eq_true (by omega)
      have f_m := HO.out.at_m
      have f_g := HO.out.at_g
      have HJ := Aside0.mk c1
      clear ha hdr H hnx
      cases hf : firstB l0 0 a with
      | none =>
        rw [hf] at H1
        have H := Aside0.mk H1
        have HF := Aside0.mk hf
        clear H1 hf c1
        go_wp2_with (first | ((with_reducible refine gate_dst (N := 27) rfl ?_); refine im_look_ok rfl rfl rfl HO.out.mp.own rfl HK.out ?_; rw [HF.out]; simp only [Option.getD_none, Option.isSome_none]))
        go_roundw
        case rel => exact ⟨j + 1, gj, lj, _, by have e9 := HW.out; first | (rw [e9]; done) | (simp; done), HJ.out, HO, H⟩
        case measure => exact meas_ord HJ.out HW.out
      | some v =>
        rw [hf] at H1
        obtain ⟨i2, e3, hi2⟩ := firstB_lt l0 0 a v hf
        rw [Nat.zero_add] at e3
        subst e3
        have HF := Aside0.mk hf
        have HI2 := Aside0.mk hi2
        have f_n := HO.out.at_n hi2
        obtain ⟨z, hz⟩ : ∃ z, z = gj.getD i2 0 := ⟨_, rfl⟩
        simp only [Int.toNat_natCast] at H1
        rw [← hz] at f_n H1
        have p7 : (0 ≤ (i2 : Int)) = True := eq_true (by omega)
        have p8 : ((i2 : Int) < (l0.length : Int)) = True := eq_true (by omega)
        clear hf hz c1
        by_cases h0 : z = 0
        · rw [if_pos h0] at H1
          have c2b : (z == 0) = true := by rw [h0]; rfl
          clear h0
          cases hr : intoL k l0 i2 (gj, lj) with
          | none => rw [hr] at H1; cases H1
          | some t =>
            obtain ⟨g2, l2⟩ := t
            rw [hr] at H1
            have H : Aside0 (((visitL (intoL k l0) l0 (x.f2.drop (j + 1)) (g2, l2)).bind fun t => if fitsB t.2.length = true then some (t.1, t.2 ++ [(i : Int)]) else none) = some (g', lf')) := ⟨H1⟩
            have HR := Aside0.mk hr
            have f_i := HO.out.at_i
            rw [HUF.out] at f_i
            clear H1 hr
            go_wp2_with (first | ((with_reducible refine gate_dst (N := 27) rfl ?_); refine im_look_ok rfl rfl rfl HO.out.mp.own rfl HK.out ?_; rw [HF.out]; simp only [Option.getD_some, Option.isSome_some]))
            refine (IH.out i2 gj lj g2 l2 _ wr HI2.out HO.out HR.out).mono ?_
            rintro e w7 ⟨rfl, v7, ho7⟩
            have HO7 := Aside0.mk ho7
            clear ho7 HO
            go_wp2
            go_roundw
            case rel => exact ⟨j + 1, g2, l2, v7, by have e9 := HW.out; first | (rw [e9]; done) | (simp; done), HJ.out, HO7, H⟩
            case measure => exact meas_ord HJ.out HW.out
        · rw [if_neg h0] at H1
          have H := Aside0.mk H1
          have c2b : (z == 0) = false := by rw [beq_eq_false_iff_ne]; exact h0
          clear H1 h0
          go_wp2_with (first | ((with_reducible refine gate_dst (N := 27) rfl ?_); refine im_look_ok rfl rfl rfl HO.out.mp.own rfl HK.out ?_; rw [HF.out]; simp only [Option.getD_some, Option.isSome_some]))
          go_roundw
          case rel => exact ⟨j + 1, gj, lj, _, by have e9 := HW.out; first | (rw [e9]; done) | (simp; done), HJ.out, HO, H⟩
          case measure => exact meas_ord HJ.out HW.out
    · have c1b : decide ((j : Int) < (x.f2.length : Int)) = false := decide_eq_false (by omega)
      have c1c : decide (j < x.f2.length) = false := decide_eq_false c1
      have H1 := H.out
      rw [List.drop_eq_nil_of_le (by omega)] at H1
      simp only [visitL, Option.bind_some] at H1
      by_cases hlt : fitsB lj.length = true
      case neg => rw [if_neg hlt] at H1; cases H1
      rw [if_pos hlt] at H1
      simp only [Option.some.injEq, Prod.mk.injEq] at H1
      obtain ⟨rfl, rfl⟩ := H1
      have HLT := Aside0.mk (fitsB_is hlt)
      have f_ := HO.out.at_f
      clear hlt H c1
      go_wp2_with (first | ((with_reducible refine gate_dst (N := 44) rfl ?_); refine Kd.R_lit (Kd.int .i64) _ 3 ?hg (N := 44) ?hd (xs := ([(i : Int)] : List Int)) (inner := [.int .i64 (i : Int)]) (ok := fun _ => True) (okp := fun _ => True) ?hr ?hp (fun _ hk => hk) trivial HO.out.below HO.out.below.size (by simp) ?_; (case hd => rfl); (case hg => rfl); (case hr => first | (go_simp; done) | (go_simp; rfl)); (case hp => exact (Reps.one (show Kd.M (Kd.int .i64) _ _ _ (i : Int) [.int .i64 (i : Int)] from rfl) (Reps.none _ _))); intro v44 w3 ho1 hb1 hg1 _; have hbn := below_noneO hg1; obtain ⟨A3, c3', e3'⟩ := Kd.R_slice ho1; subst e3'; have HL1 := Aside0.mk (Kd.R_reads' ho1).2.2; replace HO := Aside0.mk (HO.out.step hbn); clear ho1 hb1 hg1 hbn f_ ) | (at_builtin; refine ord_app rfl rfl (i : Int) HO.out rfl rfl HL1.out HLT.out ?_; intro v5 w4 ho; replace HO := Aside0.mk ho; clear ho; obtain ⟨A5, c5, e5⟩ := Kd.R_slice HO.out.left; subst e5) | ((with_reducible refine gate_store (t := 27) (p := 5) rfl ?_); refine ord_put rfl rfl HO.out rfl rfl ?_; intro w6 ho; replace HO := Aside0.mk ho; clear ho))
      (try simp only [Exit.inBlock, Exit.then])
      apply bodyPost_end (results_none rfl _ _ _)
      · rfl
      · exact ⟨rfl, _, HO.out⟩
section
variable {ops : Array Oper} {rest : List Oper} {o : Oper} {a : Act} {Q : Exit → Act → World → Prop}
theorem rw_box1 (hgd : o.guard = none) (ty : TypeId) {x : Operand} (ho : o.op = .box ty x) {v : Value} (hx : a.eval x = v) (h1 : v.oneCell' = true) {w0 W : World} {l : List (Nat × TypeId × Array Value)} (hl : Rws w0 l W)
    (h : ∀ g w1, Rws w0 ((g, ty, #[v]) :: l) w1 → wpList Try.prog ops Q rest (a.put o.dst (.pointer (some ⟨g, 0, none⟩))) w1) : wpList Try.prog ops Q (o :: rest) a W :=
  Kd.event_run hgd (by
    unfold execOp
    simp only [ho, hx]
    simp [Instr.box, newVar, newRow, one_cells h1, Sem.run_bind]) (h W.heap.size _ (hl.add ty #[v]))
theorem mp_alloc1 (hgd : o.guard = none) (ty : TypeId) (ho : o.op = .alloc ty) {z : Value} (hz : (Try.prog.info? ty).map (·.zero) = some (some z)) (h1 : z.oneCell' = true) {w0 W : World} {B n : Nat} {g : Int → Option Int} {l : List (Nat × TypeId × Array Value)} (hl : Mp w0 B n g l W)
    (h : ∀ b w1, Mp w0 B n g ((b, ty, #[z]) :: l) w1 → Below W.heap.size W w1 → wpList Try.prog ops Q rest (a.put o.dst (.pointer (some ⟨b, 0, none⟩))) w1) : wpList Try.prog ops Q (o :: rest) a W :=
  rw_alloc1 hgd ty ho hz h1 hl.rows (fun b w1 _ hX hb => h b w1 ⟨hl.own.below hb, hX, hl.base⟩ hb)
theorem mp_cell (hgd : o.guard = none) (ty : TypeId) {x y : Operand} (ho : o.op = .store ty x y) {b : Nat} (hx : a.eval x = .pointer (some ⟨b, 0, none⟩)) {u : Value} (hy : a.eval y = u) (hu : u.oneCell' = true) {w0 W : World} {B n : Nat} {g : Int → Option Int} {l2 : List (Nat × TypeId × Array Value)} {v : Value} (hl : Mp w0 B n g ((b, ty, #[v]) :: l2) W) (hsz : (Try.prog.info? ty).map (·.size) = some 1)
    (h : ∀ w1, Mp w0 B n g ((b, ty, #[u]) :: l2) w1 → Kept W w1 (fun k => k = b) → wpList Try.prog ops Q rest (a.put o.dst undef) w1) : wpList Try.prog ops Q (o :: rest) a W :=
  rw_cell hgd ty ho (i := 0) hx hy hu [] hl.rows (by show (0 : Nat) < 1; decide) hsz (fun w1 hX hk => h w1 (mp_keep hl ⟨_, _, List.mem_cons_self⟩ hk hX) hk)
end
theorem Mp.drop1 {w0 W : World} {B n : Nat} {g : Int → Option Int} {p : Nat × TypeId × Array Value} {l : List (Nat × TypeId × Array Value)} (h : Mp w0 B n g (p :: l) W) : Mp w0 B n g l W := ⟨h.own, h.rows.tail, h.base⟩
theorem int_narrow {W : World} {base : Nat} {ok : Nat → Prop} {v : Value} {xs : List Int} (h : Kd.R (Kd.int .i64) 3 W base ok v xs) : Kd.R (Kd.int .i64) 3 W base (fun k => v.ownBlock = some k) v xs := ⟨fun _ hk => hk, h.2⟩
theorem int_form {W : World} {base : Nat} {ok : Nat → Prop} {v : Value} {xs : List Int} (h : Kd.R (Kd.int .i64) 3 W base ok v xs) {b : Nat} (hb : v.ownBlock = some b) : ∃ c, v = .slice (some ⟨b, 0, none⟩) xs.length c := by
  obtain ⟨inner, ho⟩ := Kd.R_own h
  rcases ho.2 with ⟨rfl, _⟩ | ⟨g, cap, cur, rfl, _⟩
  · simp [Value.ownBlock] at hb
  · have : g = b := by simpa [Value.ownBlock] using hb
    subst this
    exact ⟨cap, rfl⟩
theorem OrdS.turned {w0 : World} {A0 : Option Addr} {c0 : Nat} {l0 : List S35} {bl bm bg bi bf B gA cg : Nat} {uf : Value} {g lf : List Int} {v : Value} {W : World} (h : OrdS w0 A0 c0 l0 bl bm bg bi bf B gA cg uf g lf v v W) {W1 : World} {lf2 : List Int} (hr : Kd.R (Kd.int .i64) 3 W1 w0.heap.size (fun k => v.ownBlock = some k ∨ W.heap.size ≤ k) v lf2) (hb : Below w0.heap.size w0 W1) (hk : Kept W W1 (fun k => v.ownBlock = some k)) : OrdS w0 A0 c0 l0 bl bm bg bi bf B gA cg uf g lf2 v v W1 := by
  have hne : ∀ k t cs, t ≠ (3 : Nat) → W.heap[k]? = some (.cells cs t (0, 0)) → ¬ v.ownBlock = some k := fun k t cs ht hc e => by
    obtain ⟨cs2, hc2⟩ := Kd.R_typed h.left k e
    rw [hc] at hc2
    injection hc2 with hc2
    injection hc2 with _ hc2
    exact ht hc2
  refine ⟨⟨h.mp.own.block (hk.2 B h.mp.own.lt (fun e => by obtain ⟨cs2, hc2⟩ := Kd.R_typed h.left B e; exact h.mp.own.ne hc2 rfl)), ⟨fun p hp => ⟨blk_kept (h.mp.rows.lies p hp).1 hk (hne p.1 p.2.1 p.2.2 (by
    simp at hp
    rcases hp with rfl | rfl | rfl | rfl | rfl <;> first | (show (27 : Nat) ≠ 3; decide) | (show (70 : Nat) ≠ 3; decide) | (show (68 : Nat) ≠ 3; decide) | (show (29 : Nat) ≠ 3; decide)) (h.mp.rows.lies p hp).1), (h.mp.rows.lies p hp).2⟩, h.mp.rows.ne, hb⟩, h.mp.base⟩, Kd.R_kept h.gone hk (fun k e1 e2 => by subst e1; exact h.left.1 k e2 rfl), ⟨fun k e => h.left.1 k e, hr.2⟩, h.cells⟩
set_option maxHeartbeats 3200000 in
set_option maxRecDepth 100000 in
theorem flow_Order.calls (k : Nat) (A0 : Option Addr) (c0 : Nat) (l0 : List S35) (r : List Int) (w : World) (hr0 : Kd.C k35 w A0 l0.length l0) (hc0 : l0.length ≤ c0) (h : flow_Order.f k l0 = some r) :
    Calls Try.prog 14 #[.slice A0 l0.length c0] w fun e w' => ∃ v0_ : Value, e = .returned (v0_) ∧ Kd.R (Kd.int .i64) 3 w' w.heap.size (fun _ => True) v0_ r ∧ Below w.heap.size w w' := by
  have hcf := callFunc_ord Try.func45 (by kernel_rfl) (by kernel_rfl)
  have hmf : ∀ (fn : Fn) (first cap : Array Value) (w : World), (Instr.makeFunc fn first cap).run Try.prog w = .ok (.func fn first cap) w := fun _ _ _ _ => rfl
  unfold flow_Order.f at h
  by_cases hc : l0.length < 4398046511104 ∧ bsOk l0 = true
  case neg => rw [if_neg hc] at h; cases h
  rw [if_pos hc] at h
  obtain ⟨hlen, hok⟩ := hc
  cases hs : startL k l0 with
  | none => rw [hs] at h; cases h
  | some s =>
  rw [hs, Option.bind_some] at h
  cases hv : slices_Reverse_int_int.f k s.2 with
  | none => rw [hv] at h; cases h
  | some rv =>
  rw [hv, Option.bind_some] at h
  by_cases hrl : rv.length ≤ 4398046511104
  case neg => rw [if_neg hrl] at h; cases h
  rw [if_pos hrl] at h
  have HS := Aside0.mk hs
  have HV := Aside0.mk hv
  have HRL := Aside0.mk hrl
  have HRES := Aside0.mk (Option.some.inj h).symm
  have HR := Aside0.mk hr0
  have HOK := Aside0.mk hok
  have HLEN := Aside0.mk hlen
  have HM := Aside0.mk (Rws.nil w)
  clear h hs hv hr0 hc0 hok hrl hlen
  go_enter Try.func14, Try.ntmps14
  go_wp2_with (first | ((with_reducible refine gate_dst (N := 1) rfl ?_); refine rw_box1 rfl 29 rfl (v := .slice A0 l0.length c0) rfl rfl HM.out ?_; intro bl w_ hM; replace HM := Aside0.mk hM; clear hM) | ((with_reducible refine gate_dst (N := 12) rfl ?_); refine mp_make rfl rfl HM.out ?_; intro B w_ hM; replace HM := Aside0.mk hM; clear hM) | ((with_reducible refine gate_dst (N := 3) rfl ?_); refine mp_alloc1 rfl 68 rfl (z := .map none) (by kernel_rfl) rfl HM.out ?_; intro bm w_ hM hb9; clear hb9; replace HM := Aside0.mk hM; clear hM) | ((with_reducible refine gate_store (t := 68) (p := 3) rfl ?_); refine mp_cell rfl 68 rfl rfl (u := .map (some B)) rfl rfl HM.out (by kernel_rfl) ?_; intro w_ hM hk9; clear hk9; have f_l := blk_cell (hM.rows.mem (g := bl) (t := 29) (cs := #[.slice A0 l0.length c0]) (by simp)) 0; simp only [List.getElem?_toArray, List.getElem?_cons_zero] at f_l; replace HM := Aside0.mk hM; clear hM))
  clear f_l
  go_loopw [15] (fun v15 wr => ∃ (i : Nat), v15 = .int .i64 (i : Int) ∧ i ≤ l0.length ∧ Aside0 (Mp w B i (firstB (l0.take i) 0) [(bm, 68, #[.map (some B)]), (bl, 29, #[.slice A0 l0.length c0])] wr)) (fun v15 _ => ((l0.length : Int) - intOf v15).toNat)
  case atStart => exact ⟨0, rfl, Nat.zero_le _, HM⟩
  case round =>
    rename_i wr
    clear HM
    obtain ⟨i, rfl, hi, HM⟩ := hrel
    have hl64 : l0.length ≤ 9223372036854775807 := by have := HLEN.out; omega
    by_cases c1 : i < l0.length
    · obtain ⟨x, hx⟩ : ∃ x, x = rd_T35 l0 (i : Int) := ⟨_, rfl⟩
      obtain ⟨ad, A2, c2, e1, h0, h1, h2, _, hn⟩ := at_T35 (Kd.C_below HR.out HM.out.below) (i : Int) (by omega) (by omega)
      cases e1
      rw [← hx, Int.toNat_natCast] at h0 h1 h2
      have HX := Aside0.mk hx
      have HI := Aside0.mk c1
      have HW := Aside0.mk (wrap_ord c1 hl64)
      have c1b : decide ((i : Int) < (l0.length : Int)) = true := decide_eq_true (by omega)
      have c1c : decide (i < l0.length) = true := decide_eq_true c1
      have p5 : (0 ≤ (i : Int)) = True := eq_true (by omega)
      have p6 : ((i : Int) < (l0.length : Int)) = True := eq_true (by omega)
      have HK := Aside0.mk (show I64 x.f0 by rw [hx]; exact (bsOk_at HOK.out c1).1)
      have hs : l0.take (i + 1) = l0.take i ++ [x] := by rw [take_snoc c1 z35, hx]; unfold rd_T35; rw [Int.toNat_natCast]
      have HS := Aside0.mk hs
      have HLT := Aside0.mk (show (l0.take i).length = i by rw [List.length_take]; omega)
      clear hx hs hl64 c1 hn
      cases hg : firstB (l0.take i) 0 x.f0 with
      | none =>
        have HG := Aside0.mk hg
        have HGS := Aside0.mk (show (firstB (l0.take i) 0 x.f0).isSome = false by rw [hg]; rfl)
        clear hg
        go_wp2_with (first | ((with_reducible refine gate_dst (N := 5) rfl ?_); refine mp_alloc rfl 35 rfl (cs := #[.int .i64 0, .int .i64 0, .slice none 0 0]) (by kernel_rfl) HM.out ?_; intro b w_ hM; replace HM := Aside0.mk hM; clear hM) | (refine mp_store rfl 35 rfl rfl (cs' := #[.int .i64 x.f0, .int .i64 x.f1, .slice A2 x.f2.length c2]) rfl HM.out (by kernel_rfl) rfl (by show _ = _; kernel_rfl) ?_; intro w_ hM; clear h0 h1 h2; have f0 := blk_cell (hM.rows.mem List.mem_cons_self) 0; have f_m := blk_cell (hM.rows.mem (g := bm) (t := 68) (cs := #[.map (some B)]) (by simp)) 0; simp only [List.getElem?_toArray, List.getElem?_cons_zero] at f0 f_m; replace HM := Aside0.mk hM; clear hM) | ((with_reducible refine gate_dst (N := 24) rfl ?_); refine im_look_ok rfl rfl rfl HM.out.own rfl HK.out ?_; rw [HGS.out]) | (refine mp_map rfl rfl rfl HM.out (by have := HI.out; have := HLEN.out; simp only [maxLen]; omega) rfl rfl HK.out (by have := HI.out; have := HLEN.out; constructor <;> omega) ?_; intro w_ hM; replace HM := Aside0.mk hM; clear hM))
        go_roundw
        case rel => exact ⟨i + 1, by have e9 := HW.out; first | (rw [e9]; done) | (simp; done), HI.out, ⟨by rw [HS.out, firstB_step_none HG.out, HLT.out]; exact HM.out.drop1⟩⟩
        case measure => exact meas_ord HI.out HW.out
      | some v =>
        have HGS := Aside0.mk (show (firstB (l0.take i) 0 x.f0).isSome = true by rw [hg]; rfl)
        clear hg
        go_wp2_with (first | ((with_reducible refine gate_dst (N := 5) rfl ?_); refine mp_alloc rfl 35 rfl (cs := #[.int .i64 0, .int .i64 0, .slice none 0 0]) (by kernel_rfl) HM.out ?_; intro b w_ hM; replace HM := Aside0.mk hM; clear hM) | (refine mp_store rfl 35 rfl rfl (cs' := #[.int .i64 x.f0, .int .i64 x.f1, .slice A2 x.f2.length c2]) rfl HM.out (by kernel_rfl) rfl (by show _ = _; kernel_rfl) ?_; intro w_ hM; clear h0 h1 h2; have f0 := blk_cell (hM.rows.mem List.mem_cons_self) 0; have f_m := blk_cell (hM.rows.mem (g := bm) (t := 68) (cs := #[.map (some B)]) (by simp)) 0; simp only [List.getElem?_toArray, List.getElem?_cons_zero] at f0 f_m; replace HM := Aside0.mk hM; clear hM) | ((with_reducible refine gate_dst (N := 24) rfl ?_); refine im_look_ok rfl rfl rfl HM.out.own rfl HK.out ?_; rw [HGS.out]) | (refine mp_map rfl rfl rfl HM.out (by have := HI.out; have := HLEN.out; simp only [maxLen]; omega) rfl rfl HK.out (by have := HI.out; have := HLEN.out; constructor <;> omega) ?_; intro w_ hM; replace HM := Aside0.mk hM; clear hM))
        clear f0
        go_roundw
        case rel => exact ⟨i + 1, by have e9 := HW.out; first | (rw [e9]; done) | (simp; done), HI.out, ⟨by rw [HS.out, firstB_step_some HGS.out]; exact HM.out.drop1.more⟩⟩
        case measure => exact meas_ord HI.out HW.out
    · have c1b : decide ((i : Int) < (l0.length : Int)) = false := decide_eq_false (by omega)
      have c1c : decide (i < l0.length) = false := decide_eq_false c1
      replace HM : Aside0 (Mp w B l0.length (firstB l0 0) [(bm, 68, #[.map (some B)]), (bl, 29, #[.slice A0 l0.length c0])] wr) := ⟨by have := HM.out; rw [show i = l0.length by omega, List.take_length] at this; exact this⟩
      have f_l := blk_cell (HM.out.rows.mem (g := bl) (t := 29) (cs := #[.slice A0 l0.length c0]) (by simp)) 0
      simp only [List.getElem?_toArray, List.getElem?_cons_zero] at f_l
      clear c1 hi hl64
      have g1 : 0 ≤ (l0.length : Int) := by omega
      have g2 : (l0.length : Int).toNat * 8 ≤ 281474976710656 := by have := HLEN.out; omega
      have G1 := Aside0.mk g1
      have G2 := Aside0.mk g2
      clear g1 g2
      by_cases hz : 0 < l0.length
      · have z1 : decide ((l0.length : Int) > 0) = true := decide_eq_true (by omega)
        have z2 : decide ((0 : Int) < (l0.length : Int)) = true := decide_eq_true (by omega)
        have z3 : decide (0 < l0.length) = true := decide_eq_true hz
        have HZ := Aside0.mk hz
        clear hz
        go_wp2_with (first | ((with_reducible refine gate_dst (N := 36) rfl ?_); refine Kd.R_make (Kd.int .i64) _ 3 rfl (N := 36) rfl 27 _ _ rfl (l0.length : Int) rfl rfl Try.underlying27 (.int .i64 0) 8 (by kernel_rfl) rfl (by decide) (by omega) 0 (ok := fun _ => True) (okp := fun _ => True) rfl (fun _ hk => hk) trivial G1.out G2.out (Below.refl _ _) (Nat.le_refl _) ?_; intro v36 w7 ho8 hb hg_ hnew_; rw [Int.toNat_natCast] at ho8; obtain ⟨gA, hgA, _⟩ := hnew_; obtain ⟨cg, e36⟩ := int_form ho8 hgA; rw [List.length_replicate] at e36; subst e36; have HG : Aside0 (Kd.R (Kd.int .i64) 3 w7 w.heap.size (fun k => k = gA) (.slice (some ⟨gA, 0, none⟩) l0.length cg) (List.replicate l0.length 0)) := ⟨Kd.R_mono (int_narrow (Kd.R_lower ho8 HM.out.below.size)) (fun k hk => by simpa [Value.ownBlock] using hk.symm)⟩; replace HM := Aside0.mk (HM.out.step hb); clear ho8 hb hg_ hgA f_l) | ((with_reducible refine gate_dst (N := 8) rfl ?_); refine mp_alloc1 rfl 27 rfl (z := .slice none 0 0) (by kernel_rfl) rfl HM.out ?_; intro bg w_ hM hb9; replace HG := Aside0.mk (Kd.R_below HG.out hb9); clear hb9; replace HM := Aside0.mk hM; clear hM) | ((with_reducible refine gate_store (t := 27) (p := 8) rfl ?_); refine mp_cell rfl 27 rfl rfl (u := .slice (some ⟨gA, 0, none⟩) l0.length cg) rfl rfl HM.out (by kernel_rfl) ?_; intro w_ hM hk9; replace HG := Aside0.mk (Kd.R_mono (Kd.R_step (Kd.R_types HG.out (HM.out.rows.mem List.mem_cons_self) (by intro q hq; simp [Kd.int, Kd.scalar] at hq; rw [hq]; show (_ : Nat) ≠ _; decide)) (fun j hj hlt => hk9.2 j hlt hj.2)) (fun _ h => h.1) : Kd.R (Kd.int .i64) 3 w_ w.heap.size (fun k => k = gA) (.slice (some ⟨gA, 0, none⟩) l0.length cg) (List.replicate l0.length 0)); clear hk9; replace HM := Aside0.mk hM; clear hM) | ((with_reducible refine gate_dst (N := 9) rfl ?_); refine mp_alloc1 rfl 27 rfl (z := .slice none 0 0) (by kernel_rfl) rfl HM.out ?_; intro bf w_ hM hb9; replace HG := Aside0.mk (Kd.R_below HG.out hb9); clear hb9; replace HM := Aside0.mk hM; clear hM) | ((with_reducible refine gate_dst (N := 10) rfl ?_); refine mp_alloc1 rfl 70 rfl (z := .nilFunc) (by kernel_rfl) rfl HM.out ?_; intro bi w_ hM hb9; replace HG := Aside0.mk (Kd.R_below HG.out hb9); clear hb9; replace HM := Aside0.mk hM; clear hM) | ((with_reducible refine gate_store (t := 70) (p := 10) rfl ?_); refine mp_cell rfl 70 rfl rfl (u := .func (.func 45) #[] #[.pointer (some ⟨bg, 0, none⟩), .pointer (some ⟨bl, 0, none⟩), .pointer (some ⟨bm, 0, none⟩), .pointer (some ⟨bi, 0, none⟩), .pointer (some ⟨bf, 0, none⟩)]) rfl rfl HM.out (by kernel_rfl) ?_; intro w_ hM hk9; replace HG := Aside0.mk (Kd.R_mono (Kd.R_step (Kd.R_types HG.out (HM.out.rows.mem List.mem_cons_self) (by intro q hq; simp [Kd.int, Kd.scalar] at hq; rw [hq]; show (_ : Nat) ≠ _; decide)) (fun j hj hlt => hk9.2 j hlt hj.2)) (fun _ h => h.1) : Kd.R (Kd.int .i64) 3 w_ w.heap.size (fun k => k = gA) (.slice (some ⟨gA, 0, none⟩) l0.length cg) (List.replicate l0.length 0)); clear hk9; have f_l := blk_cell (hM.rows.mem (g := bl) (t := 29) (cs := #[.slice A0 l0.length c0]) (by simp)) 0; have f_i := blk_cell (hM.rows.mem List.mem_cons_self) 0; have f_e := blk_cell (hM.rows.mem (g := bf) (t := 27) (cs := #[.slice none 0 0]) (by simp)) 0; simp only [List.getElem?_toArray, List.getElem?_cons_zero] at f_l f_i f_e; replace HM := Aside0.mk hM; clear hM))
        have HO : Aside0 (OrdS w A0 c0 l0 bl bm bg bi bf B gA cg _ (List.replicate l0.length 0) [] (.slice none 0 0) (.slice none 0 0) _) := ⟨⟨⟨HM.out.own, HM.out.rows.swap, HM.out.base⟩, HG.out, Kd.R_nil _ _ _ _ _, HR.out⟩⟩
        have hs := HS.out
        unfold startL at hs
        rw [if_neg (by have := HZ.out; omega)] at hs
        have hcall := into_calls w A0 c0 l0 bl bm bg bi bf B gA cg HOK.out HLEN.out k 0 (List.replicate l0.length 0) [] s.1 s.2 _ _ HZ.out HO.out hs
        refine hcall.mono ?_
        rintro e w7 ⟨rfl, v7, ho7⟩
        have HO := Aside0.mk ho7
        clear hs hcall ho7 HM HG z1 z2 z3 f_i f_e f_l
        obtain ⟨A7, c7, e7⟩ := Kd.R_slice HO.out.left
        subst e7
        have f_f := HO.out.at_f
        go_wp2_with fail
        clear f_f
        refine (slices_Reverse_int_int.calls k (fun k9 => (.slice A7 s.2.length c7 : Value).ownBlock = some k9) (.slice A7 s.2.length c7) s.2 rv w _ HO.out.below (int_narrow HO.out.left) HV.out).mono ?_
        rintro e w8 ⟨rfl, hr8, hb8, hk8⟩
        have HO2 := Aside0.mk (HO.out.turned hr8 hb8 hk8)
        clear hr8 hb8 hk8 HO
        have f_l := HO2.out.at_l
        go_wp2_with fail
        clear f_l
        go_loopw [47] (fun v47 wr => ∃ (i : Nat) (vj : Value), v47 = .int .i64 (i : Int) ∧ i ≤ l0.length ∧ Aside0 (OrdS w A0 c0 l0 bl bm bg bi bf B gA cg (.func (.func 45) #[] #[.pointer (some ⟨bg, 0, none⟩), .pointer (some ⟨bl, 0, none⟩), .pointer (some ⟨bm, 0, none⟩), .pointer (some ⟨bi, 0, none⟩), .pointer (some ⟨bf, 0, none⟩)]) s.1 (rv ++ restL s.1 i) vj vj wr)) (fun v47 _ => ((l0.length : Int) - intOf v47).toNat)
        case atStart => exact ⟨0, _, rfl, Nat.zero_le _, ⟨by rw [restL, List.append_nil]; exact HO2.out⟩⟩
        case round =>
          rename_i wr
          clear HO2
          obtain ⟨i, vj, rfl, hi, HO⟩ := hrel
          obtain ⟨A8, c8, e8⟩ := Kd.R_slice HO.out.left
          subst e8
          have hl64 : l0.length ≤ 9223372036854775807 := by have := HLEN.out; omega
          by_cases c1 : i < l0.length
          · have HI := Aside0.mk c1
            have HW := Aside0.mk (wrap_ord c1 hl64)
            have c1b : decide ((i : Int) < (l0.length : Int)) = true := decide_eq_true (by omega)
            have c1c : decide (i < l0.length) = true := decide_eq_true c1
            have p5 : (0 ≤ (i : Int)) = True := eq_true (by omega)
            have p6 : ((i : Int) < (l0.length : Int)) = True := eq_true (by omega)
            have f_g := HO.out.at_g
            have f_n := HO.out.at_n c1
            obtain ⟨z, hz⟩ : ∃ z, z = s.1.getD i 0 := ⟨_, rfl⟩
            rw [← hz] at f_n
            have HLT := Aside0.mk (show (rv ++ restL s.1 i).length < 17592186044416 by have := restL_len s.1 i; have := HRL.out; have := HLEN.out; rw [List.length_append]; omega)
            by_cases h0 : z = 0
            · have hst : rv ++ restL s.1 (i + 1) = (rv ++ restL s.1 i) ++ [(i : Int)] := by rw [restL, if_pos (by rw [← hz]; exact h0), List.append_assoc]
              have HST := Aside0.mk hst
              have c2b : (z == 0) = true := by rw [h0]; rfl
              have f_ := HO.out.at_f
              obtain ⟨lf9, hlf⟩ : ∃ lf9, lf9 = rv ++ restL s.1 i := ⟨_, rfl⟩
              rw [← hlf] at HO HLT HST f_
              have HLF := Aside0.mk hlf
              clear h0 hz hst hlf hl64 c1
              go_wp2_with (first | ((with_reducible refine gate_dst (N := 57) rfl ?_); refine Kd.R_lit (Kd.int .i64) _ 3 ?hg (N := 57) ?hd (xs := ([(i : Int)] : List Int)) (inner := [.int .i64 (i : Int)]) (ok := fun _ => True) (okp := fun _ => True) ?hr ?hp (fun _ hk => hk) trivial HO.out.below HO.out.below.size (by simp) ?_; (case hd => rfl); (case hg => rfl); (case hr => first | (go_simp; done) | (go_simp; rfl)); (case hp => exact (Reps.one (show Kd.M (Kd.int .i64) _ _ _ (i : Int) [.int .i64 (i : Int)] from rfl) (Reps.none _ _))); intro v57 w3 ho1 hb1 hg1 _; have hbn := below_noneO hg1; obtain ⟨A3, c3', e3'⟩ := Kd.R_slice ho1; subst e3'; have HL1 := Aside0.mk (Kd.R_reads' ho1).2.2; replace HO := Aside0.mk (HO.out.step hbn); clear ho1 hb1 hg1 hbn f_ ) | (at_builtin; refine ord_app rfl rfl (i : Int) HO.out rfl rfl HL1.out HLT.out ?_; intro v5 w4 ho; replace HO := Aside0.mk ho; clear ho; obtain ⟨A5, c5, e5⟩ := Kd.R_slice HO.out.left; subst e5) | ((with_reducible refine gate_store (t := 27) (p := 9) rfl ?_); refine ord_put rfl rfl HO.out rfl rfl ?_; intro w6 ho; replace HO := Aside0.mk ho; clear ho))
              go_roundw
              case rel => exact ⟨i + 1, _, by have e9 := HW.out; first | (rw [e9]; done) | (simp; done), HI.out, ⟨by rw [HST.out]; exact HO.out⟩⟩
              case measure => exact meas_ord HI.out HW.out
            · have HST := Aside0.mk (show rv ++ restL s.1 (i + 1) = rv ++ restL s.1 i by rw [restL, if_neg (by rw [← hz]; exact h0)])
              have c2b : (z == 0) = false := by rw [beq_eq_false_iff_ne]; exact h0
              clear h0 hz hl64 c1
              go_wp2_with fail
              go_roundw
              case rel => exact ⟨i + 1, _, by have e9 := HW.out; first | (rw [e9]; done) | (simp; done), HI.out, ⟨by rw [HST.out]; exact HO.out⟩⟩
              case measure => exact meas_ord HI.out HW.out
          · have c1b : decide ((i : Int) < (l0.length : Int)) = false := decide_eq_false (by omega)
            have c1c : decide (i < l0.length) = false := decide_eq_false c1
            have HE := Aside0.mk (show i = l0.length by omega)
            have hr9 := HRES.out
            obtain ⟨lf9, hlf⟩ : ∃ lf9, lf9 = rv ++ restL s.1 i := ⟨_, rfl⟩
            rw [← hlf] at HO
            rw [← HE.out, ← hlf] at hr9
            have HR9 := Aside0.mk hr9
            have f_ := HO.out.at_f
            clear hr9 hlf
            clear c1 hi hl64
            go_wp2_with fail
            go_ret
            exact ⟨_, rfl, by rw [HR9.out]; exact Kd.R_mono HO.out.left (fun _ _ => trivial), HO.out.below⟩
      · have z1 : decide ((l0.length : Int) > 0) = false := decide_eq_false (by omega)
        have z2 : decide ((0 : Int) < (l0.length : Int)) = false := decide_eq_false (by omega)
        have z3 : decide (0 < l0.length) = false := decide_eq_false hz
        have HZ := Aside0.mk (show l0.length = 0 by omega)
        clear hz
        go_wp2_with (first | ((with_reducible refine gate_dst (N := 36) rfl ?_); refine Kd.R_make (Kd.int .i64) _ 3 rfl (N := 36) rfl 27 _ _ rfl (l0.length : Int) rfl rfl Try.underlying27 (.int .i64 0) 8 (by kernel_rfl) rfl (by decide) (by omega) 0 (ok := fun _ => True) (okp := fun _ => True) rfl (fun _ hk => hk) trivial G1.out G2.out (Below.refl _ _) (Nat.le_refl _) ?_; intro v36 w7 ho8 hb hg_ hnew_; rw [Int.toNat_natCast] at ho8; obtain ⟨gA, hgA, _⟩ := hnew_; obtain ⟨cg, e36⟩ := int_form ho8 hgA; rw [List.length_replicate] at e36; subst e36; have HG : Aside0 (Kd.R (Kd.int .i64) 3 w7 w.heap.size (fun k => k = gA) (.slice (some ⟨gA, 0, none⟩) l0.length cg) (List.replicate l0.length 0)) := ⟨Kd.R_mono (int_narrow (Kd.R_lower ho8 HM.out.below.size)) (fun k hk => by simpa [Value.ownBlock] using hk.symm)⟩; replace HM := Aside0.mk (HM.out.step hb); clear ho8 hb hg_ hgA f_l) | ((with_reducible refine gate_dst (N := 8) rfl ?_); refine mp_alloc1 rfl 27 rfl (z := .slice none 0 0) (by kernel_rfl) rfl HM.out ?_; intro bg w_ hM hb9; replace HG := Aside0.mk (Kd.R_below HG.out hb9); clear hb9; replace HM := Aside0.mk hM; clear hM) | ((with_reducible refine gate_store (t := 27) (p := 8) rfl ?_); refine mp_cell rfl 27 rfl rfl (u := .slice (some ⟨gA, 0, none⟩) l0.length cg) rfl rfl HM.out (by kernel_rfl) ?_; intro w_ hM hk9; replace HG := Aside0.mk (Kd.R_mono (Kd.R_step (Kd.R_types HG.out (HM.out.rows.mem List.mem_cons_self) (by intro q hq; simp [Kd.int, Kd.scalar] at hq; rw [hq]; show (_ : Nat) ≠ _; decide)) (fun j hj hlt => hk9.2 j hlt hj.2)) (fun _ h => h.1) : Kd.R (Kd.int .i64) 3 w_ w.heap.size (fun k => k = gA) (.slice (some ⟨gA, 0, none⟩) l0.length cg) (List.replicate l0.length 0)); clear hk9; replace HM := Aside0.mk hM; clear hM) | ((with_reducible refine gate_dst (N := 9) rfl ?_); refine mp_alloc1 rfl 27 rfl (z := .slice none 0 0) (by kernel_rfl) rfl HM.out ?_; intro bf w_ hM hb9; replace HG := Aside0.mk (Kd.R_below HG.out hb9); clear hb9; replace HM := Aside0.mk hM; clear hM) | ((with_reducible refine gate_dst (N := 10) rfl ?_); refine mp_alloc1 rfl 70 rfl (z := .nilFunc) (by kernel_rfl) rfl HM.out ?_; intro bi w_ hM hb9; replace HG := Aside0.mk (Kd.R_below HG.out hb9); clear hb9; replace HM := Aside0.mk hM; clear hM) | ((with_reducible refine gate_store (t := 70) (p := 10) rfl ?_); refine mp_cell rfl 70 rfl rfl (u := .func (.func 45) #[] #[.pointer (some ⟨bg, 0, none⟩), .pointer (some ⟨bl, 0, none⟩), .pointer (some ⟨bm, 0, none⟩), .pointer (some ⟨bi, 0, none⟩), .pointer (some ⟨bf, 0, none⟩)]) rfl rfl HM.out (by kernel_rfl) ?_; intro w_ hM hk9; replace HG := Aside0.mk (Kd.R_mono (Kd.R_step (Kd.R_types HG.out (HM.out.rows.mem List.mem_cons_self) (by intro q hq; simp [Kd.int, Kd.scalar] at hq; rw [hq]; show (_ : Nat) ≠ _; decide)) (fun j hj hlt => hk9.2 j hlt hj.2)) (fun _ h => h.1) : Kd.R (Kd.int .i64) 3 w_ w.heap.size (fun k => k = gA) (.slice (some ⟨gA, 0, none⟩) l0.length cg) (List.replicate l0.length 0)); clear hk9; have f_l := blk_cell (hM.rows.mem (g := bl) (t := 29) (cs := #[.slice A0 l0.length c0]) (by simp)) 0; have f_i := blk_cell (hM.rows.mem List.mem_cons_self) 0; have f_e := blk_cell (hM.rows.mem (g := bf) (t := 27) (cs := #[.slice none 0 0]) (by simp)) 0; simp only [List.getElem?_toArray, List.getElem?_cons_zero] at f_l f_i f_e; replace HM := Aside0.mk hM; clear hM))
        have hs := HS.out
        unfold startL at hs
        rw [if_pos HZ.out] at hs
        have hs := Option.some.inj hs
        subst hs
        have HO : Aside0 (OrdS w A0 c0 l0 bl bm bg bi bf B gA cg _ ([] : List Int) ([] : List Int) (.slice none 0 0) (.slice none 0 0) _) := ⟨⟨⟨HM.out.own, HM.out.rows.swap, HM.out.base⟩, by have h9 := HG.out; rw [show List.replicate l0.length (0 : Int) = [] by rw [HZ.out]; rfl] at h9; exact h9, Kd.R_nil _ _ _ _ _, HR.out⟩⟩
        clear HM HG z1 z2 z3 f_i f_e f_l
        refine (slices_Reverse_int_int.calls k (fun k9 => (.slice none 0 0 : Value).ownBlock = some k9) (.slice none 0 0) ([] : List Int) rv w _ HO.out.below (int_narrow HO.out.left) HV.out).mono ?_
        rintro e w8 ⟨rfl, hr8, hb8, hk8⟩
        have HO2 := Aside0.mk (HO.out.turned hr8 hb8 hk8)
        clear hr8 hb8 hk8 HO
        have f_l := HO2.out.at_l
        go_wp2_with fail
        clear f_l
        go_loopw [47] (fun v47 wr => ∃ (i : Nat) (vj : Value), v47 = .int .i64 (i : Int) ∧ i ≤ l0.length ∧ Aside0 (OrdS w A0 c0 l0 bl bm bg bi bf B gA cg (.func (.func 45) #[] #[.pointer (some ⟨bg, 0, none⟩), .pointer (some ⟨bl, 0, none⟩), .pointer (some ⟨bm, 0, none⟩), .pointer (some ⟨bi, 0, none⟩), .pointer (some ⟨bf, 0, none⟩)]) ([] : List Int) (rv ++ restL ([] : List Int) i) vj vj wr)) (fun v47 _ => ((l0.length : Int) - intOf v47).toNat)
        case atStart => exact ⟨0, _, rfl, Nat.zero_le _, ⟨by rw [restL, List.append_nil]; exact HO2.out⟩⟩
        case round =>
          rename_i wr
          clear HO2
          obtain ⟨i, vj, rfl, hi, HO⟩ := hrel
          obtain ⟨A8, c8, e8⟩ := Kd.R_slice HO.out.left
          subst e8
          have hl64 : l0.length ≤ 9223372036854775807 := by have := HLEN.out; omega
          by_cases c1 : i < l0.length
          · have HI := Aside0.mk c1
            have HW := Aside0.mk (wrap_ord c1 hl64)
            have c1b : decide ((i : Int) < (l0.length : Int)) = true := decide_eq_true (by omega)
            have c1c : decide (i < l0.length) = true := decide_eq_true c1
            have p5 : (0 ≤ (i : Int)) = True := eq_true (by omega)
            have p6 : ((i : Int) < (l0.length : Int)) = True := eq_true (by omega)
            have f_g := HO.out.at_g
            have f_n := HO.out.at_n c1
            obtain ⟨z, hz⟩ : ∃ z, z = ([] : List Int).getD i 0 := ⟨_, rfl⟩
            rw [← hz] at f_n
            have HLT := Aside0.mk (show (rv ++ restL ([] : List Int) i).length < 17592186044416 by have := restL_len ([] : List Int) i; have := HRL.out; have := HLEN.out; rw [List.length_append]; omega)
            by_cases h0 : z = 0
            · have hst : rv ++ restL ([] : List Int) (i + 1) = (rv ++ restL ([] : List Int) i) ++ [(i : Int)] := by rw [restL, if_pos (by rw [← hz]; exact h0), List.append_assoc]
              have HST := Aside0.mk hst
              have c2b : (z == 0) = true := by rw [h0]; rfl
              have f_ := HO.out.at_f
              obtain ⟨lf9, hlf⟩ : ∃ lf9, lf9 = rv ++ restL ([] : List Int) i := ⟨_, rfl⟩
              rw [← hlf] at HO HLT HST f_
              have HLF := Aside0.mk hlf
              clear h0 hz hst hlf hl64 c1
              go_wp2_with (first | ((with_reducible refine gate_dst (N := 57) rfl ?_); refine Kd.R_lit (Kd.int .i64) _ 3 ?hg (N := 57) ?hd (xs := ([(i : Int)] : List Int)) (inner := [.int .i64 (i : Int)]) (ok := fun _ => True) (okp := fun _ => True) ?hr ?hp (fun _ hk => hk) trivial HO.out.below HO.out.below.size (by simp) ?_; (case hd => rfl); (case hg => rfl); (case hr => first | (go_simp; done) | (go_simp; rfl)); (case hp => exact (Reps.one (show Kd.M (Kd.int .i64) _ _ _ (i : Int) [.int .i64 (i : Int)] from rfl) (Reps.none _ _))); intro v57 w3 ho1 hb1 hg1 _; have hbn := below_noneO hg1; obtain ⟨A3, c3', e3'⟩ := Kd.R_slice ho1; subst e3'; have HL1 := Aside0.mk (Kd.R_reads' ho1).2.2; replace HO := Aside0.mk (HO.out.step hbn); clear ho1 hb1 hg1 hbn f_ ) | (at_builtin; refine ord_app rfl rfl (i : Int) HO.out rfl rfl HL1.out HLT.out ?_; intro v5 w4 ho; replace HO := Aside0.mk ho; clear ho; obtain ⟨A5, c5, e5⟩ := Kd.R_slice HO.out.left; subst e5) | ((with_reducible refine gate_store (t := 27) (p := 9) rfl ?_); refine ord_put rfl rfl HO.out rfl rfl ?_; intro w6 ho; replace HO := Aside0.mk ho; clear ho))
              go_roundw
              case rel => exact ⟨i + 1, _, by have e9 := HW.out; first | (rw [e9]; done) | (simp; done), HI.out, ⟨by rw [HST.out]; exact HO.out⟩⟩
              case measure => exact meas_ord HI.out HW.out
            · have HST := Aside0.mk (show rv ++ restL ([] : List Int) (i + 1) = rv ++ restL ([] : List Int) i by rw [restL, if_neg (by rw [← hz]; exact h0)])
              have c2b : (z == 0) = false := by rw [beq_eq_false_iff_ne]; exact h0
              clear h0 hz hl64 c1
              go_wp2_with fail
              go_roundw
              case rel => exact ⟨i + 1, _, by have e9 := HW.out; first | (rw [e9]; done) | (simp; done), HI.out, ⟨by rw [HST.out]; exact HO.out⟩⟩
              case measure => exact meas_ord HI.out HW.out
          · have c1b : decide ((i : Int) < (l0.length : Int)) = false := decide_eq_false (by omega)
            have c1c : decide (i < l0.length) = false := decide_eq_false c1
            have HE := Aside0.mk (show i = l0.length by omega)
            have hr9 := HRES.out
            obtain ⟨lf9, hlf⟩ : ∃ lf9, lf9 = rv ++ restL ([] : List Int) i := ⟨_, rfl⟩
            rw [← hlf] at HO
            rw [← HE.out, ← hlf] at hr9
            have HR9 := Aside0.mk hr9
            have f_ := HO.out.at_f
            clear hr9 hlf
            clear c1 hi hl64
            go_wp2_with fail
            go_ret
            exact ⟨_, rfl, by rw [HR9.out]; exact Kd.R_mono HO.out.left (fun _ _ => trivial), HO.out.below⟩

end Go.Proofs.Ytcffniaieegbgaa.P

end

section
namespace Go.Proofs.Ytcffniaieegbgaa.P
open Go.RowKit Go.Proofs.YtcffniaieegbgaaW.PrintWords Go.Proofs.YtcffniaieegbgaaW.PrintLast Go.Proofs.YtcffniaieegbgaaW.PrintMore
attribute [local go_sem] max2_int min2_int max_two min_two max_three min_three max_four min_four   -- for this text's walks alone
set_option linter.unusedVariables false
set_option linter.unusedSimpArgs false

def slices_Clone_int_int.f (l0 : List Int) : Option (List Int) := if l0.length < 17592186044416 then some l0 else none
set_option maxHeartbeats 800000 in
set_option maxRecDepth 100000 in
theorem slices_Clone_int_int.calls (A0 : Option Addr) (c0 : Nat) (l0 : List Int) (r : List Int) (w : World) (hr0 : Kd.C (Kd.int .i64) w A0 l0.length l0) (hc0 : l0.length ≤ c0) (h : slices_Clone_int_int.f l0 = some r) :
    Calls Try.prog 21 #[.slice A0 l0.length c0] w fun e w' => ∃ v0_ : Value, e = .returned v0_ ∧ Kd.R (Kd.int .i64) 3 w' w.heap.size (fun _ => True) v0_ r ∧ Below w.heap.size w w' := by
  obtain ⟨hlim, rfl⟩ : l0.length < 17592186044416 ∧ r = l0 := by
    unfold slices_Clone_int_int.f at h
    split at h
    · rename_i h9
      exact ⟨h9, (Option.some.inj h).symm⟩
    · cases h
  have hnil := Lib.run_eql_slice_nil (P := Try.prog) (h := Try.underlying27)
  have HR := Aside0.mk hr0
  have HL := Aside0.mk hlim
  cases A0 with
  | none =>
    have e0 : r = [] := by
      rcases Nat.eq_zero_or_pos r.length with h0 | h0
      · exact List.length_eq_zero_iff.1 h0
      · obtain ⟨ad, e, _⟩ := hr0.2.2 h0
        cases e
    have E0 := Aside0.mk e0
    clear h hr0 hlim e0
    go_enter Try.func21, Try.ntmps21
    go_wp2
    go_ret
    refine ⟨_, rfl, ?_, Below.refl _ _⟩
    rw [E0.out]
    exact Kd.R_nil _ _ _ _ _
  | some ad =>
    clear h hr0 hlim
    go_enter Try.func21, Try.ntmps21
    go_wp2_with (first | ((with_reducible refine gate_dst (N := 5) rfl ?_); refine Kd.R_lit (Kd.int .i64) _ 3 ?hg (N := 5) ?hd (xs := ([] : List Int)) (inner := []) (ok := fun _ => True) (okp := fun _ => True) ?hr ?hp (fun _ hk => hk) trivial (Below.refl _ _) (Nat.le_refl _) (by simp) ?_; (case hd => rfl); (case hg => rfl); (case hr => first | (go_simp; done) | (go_simp; rfl)); (case hp => exact (Reps.none _ _)); intro v1 w1 ho1 hb1 _ _; have n1 := Aside0.mk ho1; have n2 := Aside0.mk hb1; clear ho1 hb1; obtain ⟨A1, c1, e1⟩ := Kd.R_slice n1.out; subst e1) | ((with_reducible refine gate_builtin (b := .append) (xs := #[.tmp 5, .tmp 6]) rfl ?_); at_builtin; refine Kd.R_append_rows (Kd.int .i64) (w0 := w) w.heap.size rfl (.tmp 5) (.tmp 6) 27 3 (.int .i64 0) 8 rfl Try.underlying27 info3 rfl (by decide) (by omega) (.slice A1 (([] : List Int)).length c1) ([] : List Int) r _ _ _ (fun _ => True) (fun _ => False) rfl rfl ?aO ?aR (fun _ _ h => h) (fun _ h => h.elim) ?aF ?aB ?aS ?aL ?_; (case aR => exact Kd.C_below HR.out n2.out); (case aB => exact n2.out); (case aF => exact (fun _ _ => trivial)); (case aO => exact n1.out); (case aS => exact n2.out.size); (case aL => have h9 := HL.out; simp only [List.length_nil]; omega); intro v2 w2 ho2 hb2 _ _; have n3 := Aside0.mk ho2; have n4 := Aside0.mk hb2; clear ho2 hb2))
    go_ret
    exact ⟨_, rfl, n3.out, n4.out⟩

def provisoref05_from.l0 : Nat → Int → List (S35) → Int → Int → Option (Int)
  | 0, _, _, _, _ => none
  | k + 1, x1, x7, x8, x9 => if x9 < x8 then (if 0 ≤ x9 then (if x9 < (x7.length : Int) then (if ((rd_T35 x7 x9).f0) = x1 then (some x9) else (provisoref05_from.l0 k x1 x7 x8 (wrap64 (x9 + 1)))) else (none)) else (none)) else (some (-1))
def provisoref05_from.f (k : Nat) (l0 : List (S35)) (a1 : Int) : Option (Int) := provisoref05_from.l0 k a1 l0 (l0.length : Int) 0
set_option maxHeartbeats 8000000 in
set_option maxRecDepth 100000 in
theorem provisoref05_from.calls (k : Nat) (A0 : Option Addr) (c0 : Nat) (l0 : List (S35)) (a1 : Int) (r : Int) (w : World) (hr0 : Kd.C k35 w A0 l0.length l0) (hc0 : l0.length ≤ c0) (h : provisoref05_from.f k l0 a1 = some r) :
    Calls Try.prog 66 #[.slice A0 l0.length c0, .int .i64 a1] w fun e w' => e = .returned (.int .i64 r) ∧ Below w.heap.size w w' := by
  have hu35 := Try.underlying35
  have HR0 := Aside0.mk hr0
  have HC0 := Aside0.mk hc0
  clear hr0 hc0
  have HB := Aside0.mk (Below.refl w.heap.size w)
  have H : (provisoref05_from.l0 k a1 l0 (l0.length : Int) 0) = some r := h
  clear h
  have H' := Aside0.mk H
  clear H
  go_enter Try.func66, Try.ntmps66
  go_wp2
  go_loopg [9] k (fun kq v9 w' => ∃ (x9_1 : Int), v9 = .int .i64 x9_1 ∧ Aside0 (provisoref05_from.l0 kq a1 l0 (l0.length : Int) x9_1 = some r) ∧ Aside0 (kq ≤ k) ∧ Aside0 (Below w.heap.size w w'))
  case atStart => exact ⟨(0), (by first | rfl | (simp; done) | (simp [*]; done)), H', ⟨Nat.le_refl _⟩, ⟨by repeat (first | (with_reducible first | exact HB.out | apply below_alloc | apply pw_below_drewN | apply below_drew1) | exact HB.out)⟩⟩
  case round =>
    clear H'
    try clear p2
    obtain ⟨x9_1, rfl, HA, HK1, HB⟩ := hrel
    cases gk with
    | zero => exact absurd HA.out (by simp [provisoref05_from.l0])
    | succ k1 =>
      have H := HA.out
      clear HA
      simp only [provisoref05_from.l0] at H
      by_cases c3 : x9_1 < (l0.length : Int)
      · rw [if_pos c3] at H
        have c3b0 : decide (x9_1 < (l0.length : Int)) = true := decide_eq_true c3
        clear c3
        by_cases c4 : 0 ≤ x9_1
        · rw [if_pos c4] at H
          have c4b0 : decide (0 ≤ x9_1) = true := decide_eq_true c4
          clear c4
          by_cases c5 : x9_1 < (l0.length : Int)
          · rw [if_pos c5] at H
            have c5b0 : decide (x9_1 < (l0.length : Int)) = true := decide_eq_true c5
            clear c5
            by_cases c6 : ((rd_T35 l0 x9_1).f0) = a1
            · rw [if_pos c6] at H
              have c6b0 : (((rd_T35 l0 x9_1).f0) == a1) = true := beq_iff_eq.mpr c6
              have c6b1 : (((rd_T35 l0 x9_1).f0) != a1) = false := bne_eq_false_iff_eq.mpr c6
              clear c6
              obtain rfl := Option.some.inj H
              have p257 : 0 ≤ (x9_1 : Int) := of_decide_eq_true (by first | (with_reducible assumption) | assumption)
              have q257 : x9_1 < (l0.length : Int) := of_decide_eq_true (by first | (with_reducible assumption) | assumption)
              obtain ⟨ad257, A257_2, c257_2, e257, hx257_0, hx257_1, hx257_2, hl257_2, hi257_2⟩ := at_T35 HR0.out x9_1 p257 q257
              cases e257
              first | replace hx257_0 := (HB.out.cell (World.block_lt_of_cell? w _ hx257_0)).trans hx257_0 | skip
              first | replace hx257_1 := (HB.out.cell (World.block_lt_of_cell? w _ hx257_1)).trans hx257_1 | skip
              first | replace hx257_2 := (HB.out.cell (World.block_lt_of_cell? w _ hx257_2)).trans hx257_2 | skip
              have HR257_2 := Aside0.mk hi257_2
              have HC257_2 := Aside0.mk hl257_2
              clear hi257_2 hl257_2
              replace p257 := eq_true p257
              replace q257 := eq_true q257
              go_wp2_with (first | ((with_reducible refine gate_dst (N := 6) rfl ?_); refine box_event ?hg (N := 6) ?hd (cs := #[.int .i64 0, .int .i64 0, .slice none 0 0]) (t := 35) ?hr ?_; (case hd => rfl); (case hg => rfl); (case hr => first | (go_simp; done) | (go_simp; rfl)); intro gb258 hg w7 hbox hb; have n0_ := Aside0.mk (below_step (by repeat (first | (with_reducible first | exact HB.out | apply below_alloc | apply pw_below_drewN | apply below_drew1) | exact HB.out)) hb); have n1_ := Aside0.mk (hbox); have n2_ := Aside0.mk ((by rw [hg]; exact (below_size (by repeat (first | (with_reducible first | exact HB.out | apply below_alloc | apply pw_below_drewN | apply below_drew1) | exact HB.out))) : w.heap.size ≤ gb258)); have n3_ := Aside0.mk ((by rw [hg]; exact (below_size (by repeat (first | (with_reducible first | exact HB.out | apply below_alloc | apply pw_below_drewN | apply below_drew1) | exact HB.out))) : w.heap.size ≤ gb258)); clear HB; have HB := n0_; have BK258 := n1_; have GW258 := n2_; have GE258 := n3_; clear n0_ n1_ n2_ n3_; clear hb hbox hg; have hcz8_0 : w7.cell? ⟨gb258, 0, none⟩ = some (.int .i64 0) := (blk_cell BK258.out 0).trans rfl; have hcz8_1 : w7.cell? ⟨gb258, 1, none⟩ = some (.int .i64 0) := (blk_cell BK258.out 1).trans rfl; have hcz8_2 : w7.cell? ⟨gb258, 2, none⟩ = some (.slice none 0 0) := (blk_cell BK258.out 2).trans rfl; have hfz8_0 := blk_frozen BK258.out 0; have hfz8_1 := blk_frozen BK258.out 1; have hfz8_2 := blk_frozen BK258.out 2))
              go_ret
              exact ⟨by first | rfl | (simp [errW_none, errW_some] <;> rfl) | (simp [*, errW_none, errW_some] <;> rfl), by repeat (first | (with_reducible first | exact HB.out | apply below_alloc | apply pw_below_drewN | apply below_drew1 | refine below_set ?_ GE258.out) | exact HB.out)⟩
            · rw [if_neg c6] at H
              have c6b0 : (((rd_T35 l0 x9_1).f0) == a1) = false := beq_eq_false_iff_ne.mpr c6
              have c6b1 : (((rd_T35 l0 x9_1).f0) != a1) = true := bne_iff_ne.mpr c6
              have H' := Aside0.mk H
              clear H
              have p257 : 0 ≤ (x9_1 : Int) := of_decide_eq_true (by first | (with_reducible assumption) | assumption)
              have q257 : x9_1 < (l0.length : Int) := of_decide_eq_true (by first | (with_reducible assumption) | assumption)
              obtain ⟨ad257, A257_2, c257_2, e257, hx257_0, hx257_1, hx257_2, hl257_2, hi257_2⟩ := at_T35 HR0.out x9_1 p257 q257
              cases e257
              first | replace hx257_0 := (HB.out.cell (World.block_lt_of_cell? w _ hx257_0)).trans hx257_0 | skip
              first | replace hx257_1 := (HB.out.cell (World.block_lt_of_cell? w _ hx257_1)).trans hx257_1 | skip
              first | replace hx257_2 := (HB.out.cell (World.block_lt_of_cell? w _ hx257_2)).trans hx257_2 | skip
              have HR257_2 := Aside0.mk hi257_2
              have HC257_2 := Aside0.mk hl257_2
              clear hi257_2 hl257_2
              replace p257 := eq_true p257
              replace q257 := eq_true q257
              go_wp2_with (first | ((with_reducible refine gate_dst (N := 6) rfl ?_); refine box_event ?hg (N := 6) ?hd (cs := #[.int .i64 0, .int .i64 0, .slice none 0 0]) (t := 35) ?hr ?_; (case hd => rfl); (case hg => rfl); (case hr => first | (go_simp; done) | (go_simp; rfl)); intro gb258 hg w9 hbox hb; have n0_ := Aside0.mk (below_step (by repeat (first | (with_reducible first | exact HB.out | apply below_alloc | apply pw_below_drewN | apply below_drew1) | exact HB.out)) hb); have n1_ := Aside0.mk (hbox); have n2_ := Aside0.mk ((by rw [hg]; exact (below_size (by repeat (first | (with_reducible first | exact HB.out | apply below_alloc | apply pw_below_drewN | apply below_drew1) | exact HB.out))) : w.heap.size ≤ gb258)); have n3_ := Aside0.mk ((by rw [hg]; exact (below_size (by repeat (first | (with_reducible first | exact HB.out | apply below_alloc | apply pw_below_drewN | apply below_drew1) | exact HB.out))) : w.heap.size ≤ gb258)); clear HB; have HB := n0_; have BK258 := n1_; have GW258 := n2_; have GE258 := n3_; clear n0_ n1_ n2_ n3_; clear hb hbox hg; have hcz10_0 : w9.cell? ⟨gb258, 0, none⟩ = some (.int .i64 0) := (blk_cell BK258.out 0).trans rfl; have hcz10_1 : w9.cell? ⟨gb258, 1, none⟩ = some (.int .i64 0) := (blk_cell BK258.out 1).trans rfl; have hcz10_2 : w9.cell? ⟨gb258, 2, none⟩ = some (.slice none 0 0) := (blk_cell BK258.out 2).trans rfl; have hfz10_0 := blk_frozen BK258.out 0; have hfz10_1 := blk_frozen BK258.out 1; have hfz10_2 := blk_frozen BK258.out 2))
              go_roundg k1
              case measure => have := HK1.out; omega
              case rel => exact ⟨(wrap64 (x9_1 + 1)), (by first | rfl | (simp; done) | (simp [*]; done)), H', ⟨by have := HK1.out; omega⟩, ⟨by repeat (first | (with_reducible first | exact HB.out | apply below_alloc | apply pw_below_drewN | apply below_drew1 | refine below_set ?_ GE258.out) | exact HB.out)⟩⟩
          · rw [if_neg c5] at H
            exact absurd H (by simp)
        · rw [if_neg c4] at H
          exact absurd H (by simp)
      · rw [if_neg c3] at H
        have c3b0 : decide (x9_1 < (l0.length : Int)) = false := decide_eq_false c3
        clear c3
        obtain rfl := Option.some.inj H
        go_wp2
        go_ret
        exact ⟨by first | rfl | (simp [errW_none, errW_some] <;> rfl) | (simp [*, errW_none, errW_some] <;> rfl), by repeat (first | (with_reducible first | exact HB.out | apply below_alloc | apply pw_below_drewN | apply below_drew1) | exact HB.out)⟩

theorem blocks_apart {w W1 : World} {S : Nat → Prop} {ad : Addr} {n : Nat} {l : List S35} (h : ∀ W_, Kept w W_ S → Kd.C k35 W_ (some ad) n l) (hk : Kept w W1 S) {i : Int} (h0 : 0 ≤ i) (h1 : i < n) {A2 : Option Addr} {m c2 : Nat} (hx : W1.cell? ⟨(ad.add (i.toNat * 3)).block, (ad.add (i.toNat * 3)).off + 2, none⟩ = some (.slice A2 m c2)) :
    ∀ W_, Kept w W_ S → (Kd.int .i64).C W_ A2 (rd_T35 l i).f2.length (rd_T35 l i).f2 := by
  have hS : ¬ S (ad.add (i.toNat * 3)).block := by
    intro hs
    obtain ⟨b, hb⟩ : ∃ b, b = (ad.add (i.toNat * 3)).block := ⟨_, rfl⟩
    rw [← hb] at hs
    have hkill : Kept w { w with heap := w.heap.setIfInBounds b (.cells #[] 0 (0, 0)) } S := ⟨by simp, fun j _ hj => by
      show (w.heap.setIfInBounds b _)[j]? = w.heap[j]?
      rw [Array.getElem?_setIfInBounds_ne (fun e => hj (by rw [← e]; exact hs))]⟩
    obtain ⟨ad2, B2, d2, e, _, _, hc, _, _⟩ := at_T35 (h _ hkill) i h0 h1
    cases e
    rw [← hb] at hc
    have hlt := World.block_lt_of_cell? _ _ hc
    have hlt2 : b < w.heap.size := by simpa using hlt
    have hbk : ({ w with heap := w.heap.setIfInBounds b (.cells #[] 0 (0, 0)) } : World).heap[b]? = some (.cells #[] 0 (0, 0)) := by
      show (w.heap.setIfInBounds b _)[b]? = _
      rw [Array.getElem?_setIfInBounds_self_of_lt hlt2]
    rw [blk_cell hbk] at hc
    simp at hc
  obtain ⟨ad2, B2, d2, e, _, _, hw, _, _⟩ := at_T35 (h w (Kept.refl w S)) i h0 h1
  cases e
  have e1 := cell_kept hw hk hS
  rw [hx] at e1
  injection e1 with e1
  injection e1 with e1 _ _
  subst e1
  intro W_ hk_
  obtain ⟨ad2, B3, d3, e, _, _, hc, _, hC⟩ := at_T35 (h W_ hk_) i h0 h1
  cases e
  have e2 := cell_kept hw hk_ hS
  rw [hc] at e2
  injection e2 with e2
  injection e2 with e2 _ _
  rw [← e2]
  exact hC

mutual
def provisoref05_leave.l0 : Nat → List (S35) → Int → List Bool → List Int → List Int → Int → Int → Option (List Int × List Bool)
  | 0, _, _, _, _, _, _, _ => none
  | k + 1, x0, x1, x2, x3, x19, x20, x21 => if x21 < x20 then (if 0 ≤ x21 then (if x21 < (x19.length : Int) then ((provisoref05_from.f k x0 (rd x19 x21)).bind fun t265 => (if t265 ≥ 0 then (if 0 ≤ t265 then (if t265 < (x2.length : Int) then (if rdOf false x2 t265 = true then (provisoref05_leave.l0 k x0 x1 x2 x3 x19 x20 (wrap64 (x21 + 1))) else ((provisoref05_leave.f k x0 t265 x2 x3).bind fun bt267 => (provisoref05_leave.l0 k x0 x1 bt267.2 bt267.1 x19 x20 (wrap64 (x21 + 1))))) else (none)) else (none)) else (provisoref05_leave.l0 k x0 x1 x2 x3 x19 x20 (wrap64 (x21 + 1))))) else (none)) else (none)) else (if x3.length < 17592186044416 then (some ((x3 ++ [x1]), x2)) else (none))
def provisoref05_leave.f : Nat → List (S35) → Int → List Bool → List Int → Option (List Int × List Bool)
  | 0, _, _, _, _ => none
  | k + 1, l0, a1, l2, l3 => if 0 ≤ a1 then (if a1 < (l2.length : Int) then (if a1 < (l0.length : Int) then (provisoref05_leave.l0 k l0 a1 (l2.set (a1 : Int).toNat true) l3 ((rd_T35 l0 a1).f2) (((rd_T35 l0 a1).f2).length : Int) 0) else (none)) else (none)) else (none)
end
set_option maxHeartbeats 8000000 in
set_option maxRecDepth 100000 in
theorem provisoref05_leave.calls (k : Nat) : ∀ (A0 : Option Addr) (c0 : Nat) (l0 : List (S35)) (a1 : Int) (P2_ : Nat → Prop) (u9000_ : Value) (l2 : List Bool) (P3_ : Nat → Prop) (u9001_ : Value) (l3 : List Int) (r1 : List Int) (r2 : List Bool) (w0 w : World) (hB : Below w0.heap.size w0 w) (hr0 : ∀ W_, Kept w W_ (fun k_ => P2_ k_ ∨ P3_ k_) → Kd.C k35 W_ A0 l0.length l0) (hc0 : l0.length ≤ c0) (ho2 : Kd.R Kd.bool 4 w w0.heap.size P2_ u9000_ l2) (ho3 : Kd.R (Kd.int .i64) 3 w w0.heap.size P3_ u9001_ l3) (h : provisoref05_leave.f k l0 a1 l2 l3 = some (r1, r2)),
    Calls Try.prog 51 #[.slice A0 l0.length c0, .int .i64 a1, u9000_, u9001_] w fun e w' => ∃ v0_ : Value, e = .returned (v0_) ∧ Kd.R (Kd.int .i64) 3 w' w0.heap.size (fun k_ => ((P2_ k_ ∨ P3_ k_) ∨ w.heap.size ≤ k_)) v0_ r1 ∧ Kd.R Kd.bool 4 w' w0.heap.size (fun k_ => ((P2_ k_ ∨ P3_ k_) ∨ w.heap.size ≤ k_)) u9000_ r2 ∧ Below w0.heap.size w0 w' ∧ Kept w w' (fun k_ => P2_ k_ ∨ P3_ k_) := by
  induction k using Nat.strongRecOn with
  | _ k ih =>
  intro A0 c0 l0 a1 P2_ u9000_ l2 P3_ u9001_ l3 r1 r2 w0 w hB hr0 hc0 ho2 ho3 h
  cases k with
  | zero => exact absurd h (by simp [provisoref05_leave.f])
  | succ k =>
  simp only [provisoref05_leave.f] at h
  have HR0 := Aside0.mk hr0
  have HC0 := Aside0.mk hc0
  clear hr0 hc0
  have HO2 := Aside0.mk (show Kd.R Kd.bool 4 w w0.heap.size (fun k_ => ((P2_ k_ ∨ P3_ k_) ∨ w.heap.size ≤ k_)) u9000_ l2 from Kd.R_mono ho2 (fun k_ hk => (.inl (.inl hk))))
  have HO3 := Aside0.mk (show Kd.R (Kd.int .i64) 3 w w0.heap.size (fun k_ => ((P2_ k_ ∨ P3_ k_) ∨ w.heap.size ≤ k_)) u9001_ l3 from Kd.R_mono ho3 (fun k_ hk => (.inl (.inr hk))))
  have HK := Aside0.mk (Kept.refl w (fun k_ => P2_ k_ ∨ P3_ k_))
  have HW0 := Aside0.mk hB.size
  have HB := Aside0.mk hB
  clear hB
  have H : (if 0 ≤ a1 then (if a1 < (l2.length : Int) then (if a1 < (l0.length : Int) then (provisoref05_leave.l0 k l0 a1 (l2.set (a1 : Int).toNat true) l3 ((rd_T35 l0 a1).f2) (((rd_T35 l0 a1).f2).length : Int) 0) else (none)) else (none)) else (none)) = some (r1, r2) := h
  clear h
  by_cases c5 : 0 ≤ a1
  · rw [if_pos c5] at H
    have c5b0 : decide (0 ≤ a1) = true := decide_eq_true c5
    clear c5
    by_cases c6 : a1 < (l2.length : Int)
    · rw [if_pos c6] at H
      have c6b0 : decide (a1 < (l2.length : Int)) = true := decide_eq_true c6
      clear c6
      obtain ⟨y259, hy259⟩ : ∃ y_ : List Bool, y_ = (l2.set (a1 : Int).toNat true) := ⟨_, rfl⟩
      replace H : (if a1 < (l0.length : Int) then (provisoref05_leave.l0 k l0 a1 y259 l3 ((rd_T35 l0 a1).f2) (((rd_T35 l0 a1).f2).length : Int) 0) else (none)) = some (r1, r2) := by first | (rw [hy259]; with_reducible exact H) | (have H2_ := (Option.bind_some _ _).symm.trans H; rw [hy259]; with_reducible exact H2_) | (have H2_ := (Option.bind_some _ _).symm.trans H; with_reducible exact H2_) | with_reducible exact H | (rw [hy259]; exact H) | exact H
      have Ny259 := Aside0.mk hy259
      clear hy259
      by_cases c8 : a1 < (l0.length : Int)
      · rw [if_pos c8] at H
        have c8b0 : decide (a1 < (l0.length : Int)) = true := decide_eq_true c8
        clear c8
        have H' := Aside0.mk H
        clear H
        have p7 : 0 ≤ (a1 : Int) := of_decide_eq_true (by first | (with_reducible assumption) | assumption)
        have q7 : (a1 : Int) < ((l2.length : Int) : Int) := of_decide_eq_true (by first | (with_reducible assumption) | assumption)
        obtain ⟨go7, co7, eo7, gb7, gl7, cl7, HG7⟩ := Kd.R_form HO2.out (by omega)
        (first | cases eo7 | (injection eo7 with ea_ en_ ec_; (first | subst ea_ | (injection ea_ with ea_; subst ea_)); subst ec_; clear en_))
        have GB7 := Aside0.mk gb7
        have GG7 := Aside0.mk HG7
        clear gb7 gl7 HG7
        have HMgo7 := Aside0.mk (show ((P2_ go7 ∨ P3_ go7) ∨ w.heap.size ≤ go7) from (HO2.out.1 _ rfl))
        obtain ⟨hx7_0, hf7_0⟩ := Kd.R_celln false HO2.out (a1 : Int) p7 q7
        replace p7 := eq_true p7
        replace q7 := eq_true q7
        have HP9 := Kd.R_putg HO2.out (a1 : Int) true
        go_enter Try.func51, Try.ntmps51
        go_wp2_with (first | ((with_reducible refine gate_store (t := 4) (p := 14) rfl ?_); refine store_event (t := 4) (p := 14) (v := ?vo_w10) (w1 := (w.setCell ⟨go7, (a1 : Int).toNat, none⟩ (.bool true))) ?hg ?ho ?hn ?hr ?_; (case ho => rfl); (case hg => rfl); (case hn => rfl); (case hr => first | (go_simp; done) | (go_simp; rfl)); intro w10 hw; have hg : w.grownBy w10 (some go7) := (by rw [hw]; exact HP9.2); have hp_ : Kd.R Kd.bool 4 w10 w0.heap.size (fun k_ => ((P2_ k_ ∨ P3_ k_) ∨ w.heap.size ≤ k_)) (.slice (some ⟨go7, 0, none⟩) l2.length co7) y259 := (by rw [hw, Ny259.out]; exact HP9.1); clear HP9; have n0_ := Aside0.mk (hp_); have n1_ := Aside0.mk (Kd.R_over' (v := (.slice (some ⟨go7, 0, none⟩) l2.length co7)) (by (with_reducible repeat (first | apply Kd.R_alloc | apply Kd.R_drewN | apply Kd.R_drew)); exact HO3.out) (Kd.R_typed HO2.out) (by decide) hg); have n2_ := Aside0.mk ((by rw [hw]; exact below_set (HB.out) GB7.out : Below w0.heap.size w0 w10)); have n3_ := Aside0.mk (Kept.of_grown (S := (fun k_ => P2_ k_ ∨ P3_ k_)) hg (by repeat (first | (with_reducible first | exact HK.out | apply Kept.alloc | apply Kept.drewN | apply Kept.drew) | exact HK.out)) (fun k_ e_ => (HO2.out.1 k_ e_))); clear HO2; clear HO3; clear HB; clear HK; have HO2 := n0_; have HO3 := n1_; have HB := n2_; have HK := n3_; clear n0_ n1_ n2_ n3_; clear hg hw hp_; have p260 : 0 ≤ (a1 : Int) := of_decide_eq_true (by first | (with_reducible assumption) | assumption); have q260 : a1 < (l0.length : Int) := of_decide_eq_true (by first | (with_reducible assumption) | assumption); obtain ⟨ad260, A260_2, c260_2, e260, hx260_0, hx260_1, hx260_2, hl260_2, hi260_2⟩ := at_T35 (Kd.C_kept_now HR0.out HK.out) a1 p260 q260; cases e260; have HR260_2 := Aside0.mk hi260_2; have HC260_2 := Aside0.mk hl260_2; have HRW9 := Aside0.mk (blocks_apart HR0.out HK.out p260 q260 hx260_2); clear hi260_2 hl260_2; replace p260 := eq_true p260; replace q260 := eq_true q260))
        go_loopg [3, 21] k (fun kq v3 v21 w' => ∃ (x2_1 : List Bool) (x3_1 : List Int) (x21_1 : Int), v21 = .int .i64 x21_1 ∧ Aside0 (provisoref05_leave.l0 kq l0 a1 x2_1 x3_1 ((rd_T35 l0 a1).f2) (((rd_T35 l0 a1).f2).length : Int) x21_1 = some (r1, r2)) ∧ Aside0 (kq ≤ k) ∧ Aside0 (Kd.R Kd.bool 4 w' w0.heap.size (fun k_ => ((P2_ k_ ∨ P3_ k_) ∨ w.heap.size ≤ k_)) (.slice (some ⟨go7, 0, none⟩) l2.length co7) x2_1) ∧ Aside0 (Kd.R (Kd.int .i64) 3 w' w0.heap.size (fun k_ => ((P2_ k_ ∨ P3_ k_) ∨ w.heap.size ≤ k_)) v3 x3_1) ∧ Aside0 (Kept w w' (fun k_ => P2_ k_ ∨ P3_ k_)) ∧ Aside0 (Below w0.heap.size w0 w'))
        case atStart => exact ⟨(y259), (l3), (0), (by first | rfl | (simp; done) | (simp [*]; done)), H', ⟨Nat.le_refl _⟩, ⟨by (with_reducible repeat (first | apply Kd.R_alloc | apply Kd.R_drewN | apply Kd.R_drew)); exact HO2.out⟩, ⟨by (with_reducible repeat (first | apply Kd.R_alloc | apply Kd.R_drewN | apply Kd.R_drew)); exact HO3.out⟩, ⟨by repeat (first | (with_reducible first | exact HK.out | apply Kept.alloc | apply Kept.drewN | apply Kept.drew) | exact HK.out)⟩, ⟨by repeat (first | (with_reducible first | exact HB.out | apply below_alloc | apply pw_below_drewN | apply below_drew1) | exact HB.out)⟩⟩
        case round =>
          clear H'
          try clear c2
          try clear p2
          try clear q2
          try clear hx2
          try clear c5
          try clear c5b0
          try clear c6
          try clear c6b0
          try clear p7
          try clear q7
          try clear hx7
          try clear hf7
          try clear c8
          try clear c8b0
          try clear hx260_0
          try clear hx260_1
          try clear hx260_2
          try clear hx7_0
          try clear p260
          try clear p7
          try clear q260
          try clear q7
          obtain ⟨x2_1, x3_1, x21_1, rfl, HA, HK1, HO_2, HO_3, HK, HB⟩ := hrel
          have hl2_1 := (Kd.R_reads' HO_2.out).1
          rw [hl2_1] at HO_2
          (try simp only [hl2_1])
          (try simp only [hl2_1] at HO_3)
          cases gk with
          | zero => exact absurd HA.out (by simp [provisoref05_leave.l0])
          | succ k1 =>
            have H := HA.out
            clear HA
            simp only [provisoref05_leave.l0] at H
            by_cases c11 : x21_1 < (((rd_T35 l0 a1).f2).length : Int)
            · rw [if_pos c11] at H
              have c11b0 : decide (x21_1 < (((rd_T35 l0 a1).f2).length : Int)) = true := decide_eq_true c11
              clear c11
              by_cases c12 : 0 ≤ x21_1
              · rw [if_pos c12] at H
                have c12b0 : decide (0 ≤ x21_1) = true := decide_eq_true c12
                clear c12
                by_cases c13 : x21_1 < (((rd_T35 l0 a1).f2).length : Int)
                · rw [if_pos c13] at H
                  have c13b0 : decide (x21_1 < (((rd_T35 l0 a1).f2).length : Int)) = true := decide_eq_true c13
                  clear c13
                  replace H := Option.bind_eq_some_iff.mp H
                  obtain ⟨t265, A140, H⟩ := H
                  replace H : (if t265 ≥ 0 then (if 0 ≤ t265 then (if t265 < (x2_1.length : Int) then (if rdOf false x2_1 t265 = true then (provisoref05_leave.l0 k1 l0 a1 x2_1 x3_1 ((rd_T35 l0 a1).f2) (((rd_T35 l0 a1).f2).length : Int) (wrap64 (x21_1 + 1))) else ((provisoref05_leave.f k1 l0 t265 x2_1 x3_1).bind fun bt267 => (provisoref05_leave.l0 k1 l0 a1 bt267.2 bt267.1 ((rd_T35 l0 a1).f2) (((rd_T35 l0 a1).f2).length : Int) (wrap64 (x21_1 + 1))))) else (none)) else (none)) else (provisoref05_leave.l0 k1 l0 a1 x2_1 x3_1 ((rd_T35 l0 a1).f2) (((rd_T35 l0 a1).f2).length : Int) (wrap64 (x21_1 + 1)))) = some (r1, r2) := H
                  have A14 := Aside0.mk A140
                  clear A140
                  by_cases c15 : t265 ≥ 0
                  · rw [if_pos c15] at H
                    have c15b0 : decide (0 ≤ t265) = true := decide_eq_true c15
                    clear c15
                    by_cases c16 : 0 ≤ t265
                    · rw [if_pos c16] at H
                      have c16b0 : decide (0 ≤ t265) = true := decide_eq_true c16
                      clear c16
                      by_cases c17 : t265 < (x2_1.length : Int)
                      · rw [if_pos c17] at H
                        have c17b0 : decide (t265 < (x2_1.length : Int)) = true := decide_eq_true c17
                        clear c17
                        obtain ⟨bq18, hbq18⟩ : ∃ b_ : Bool, b_ = (rdOf false x2_1 t265) := ⟨_, rfl⟩
                        replace H : (if bq18 = true then (provisoref05_leave.l0 k1 l0 a1 x2_1 x3_1 ((rd_T35 l0 a1).f2) (((rd_T35 l0 a1).f2).length : Int) (wrap64 (x21_1 + 1))) else ((provisoref05_leave.f k1 l0 t265 x2_1 x3_1).bind fun bt267 => (provisoref05_leave.l0 k1 l0 a1 bt267.2 bt267.1 ((rd_T35 l0 a1).f2) (((rd_T35 l0 a1).f2).length : Int) (wrap64 (x21_1 + 1))))) = some (r1, r2) := by rw [← hbq18] at H; exact H
                        have Nbq18 := Aside0.mk hbq18
                        clear hbq18
                        by_cases c19 : bq18 = true
                        · subst c19
                          have H1 : (provisoref05_leave.l0 k1 l0 a1 x2_1 x3_1 ((rd_T35 l0 a1).f2) (((rd_T35 l0 a1).f2).length : Int) (wrap64 (x21_1 + 1))) = some (r1, r2) := by rw [if_pos rfl] at H; exact H
                          clear H
                          have H := H1
                          clear H1
                          have H' := Aside0.mk H
                          clear H
                          have p264 : 0 ≤ (x21_1 : Int) := of_decide_eq_true (by first | (with_reducible assumption) | assumption)
                          have q264 : x21_1 < (((rd_T35 l0 a1).f2).length : Int) := of_decide_eq_true (by first | (with_reducible assumption) | assumption)
                          obtain ⟨ad264, e264, hx264_0⟩ := Kd.at_int (HRW9.out _ HK.out) x21_1 p264 q264
                          cases e264
                          first | replace hx264_0 := (HB.out.cell (World.block_lt_of_cell? w _ hx264_0)).trans hx264_0 | skip
                          replace p264 := eq_true p264
                          replace q264 := eq_true q264
                          go_wp2_with (first | ((with_reducible refine gate_callee (f := 66) rfl ?_); refine goesL_ (some 27) rfl rfl Try.func66 (by kernel_rfl) rfl #[.slice (some ad260) l0.length c0, .int .i64 (rd ((rd_T35 l0 a1).f2) x21_1)] rfl (by (try simp only [List.map_toArray, List.map_cons, List.map_nil]); first | done | rfl | (simp only [List.length_drop, List.length_take]; rfl)) ?_; (with_reducible refine (provisoref05_from.calls k1 _ _ l0 (rd ((rd_T35 l0 a1).f2) x21_1) t265 _ ?side1 ?side2 A14.out).mono ?_); (case side1 => exact Kd.C_kept_now HR0.out (by repeat (first | (with_reducible first | exact HK.out | apply Kept.alloc | apply Kept.drewN | apply Kept.drew) | exact HK.out))); (case side2 => exact HC0.out); rintro e w20 ⟨rfl, hb⟩; refine ⟨_, rfl, ?_⟩; have n0_ := Aside0.mk (Kd.R_below (by (with_reducible repeat (first | apply Kd.R_alloc | apply Kd.R_drewN | apply Kd.R_drew)); exact HO_2.out) hb); have n1_ := Aside0.mk (Kd.R_below (by (with_reducible repeat (first | apply Kd.R_alloc | apply Kd.R_drewN | apply Kd.R_drew)); exact HO_3.out) hb); have n2_ := Aside0.mk (Kept.below (S := (fun k_ => P2_ k_ ∨ P3_ k_)) (by repeat (first | (with_reducible first | exact HK.out | apply Kept.alloc | apply Kept.drewN | apply Kept.drew) | exact HK.out)) hb); have n3_ := Aside0.mk (below_step (by repeat (first | (with_reducible first | exact HB.out | apply below_alloc | apply pw_below_drewN | apply below_drew1) | exact HB.out)) hb); clear HO_2; clear HO_3; clear HK; clear HB; have HO_2 := n0_; have HO_3 := n1_; have HK := n2_; have HB := n3_; clear n0_ n1_ n2_ n3_; (try clear hb); (try clear hb2); (try clear hk); (try clear hi); have p266 : 0 ≤ (t265 : Int) := of_decide_eq_true (by first | (with_reducible assumption) | assumption); have q266 : t265 < (x2_1.length : Int) := of_decide_eq_true (by first | (with_reducible assumption) | assumption); obtain ⟨ad266, e266, hx266_0⟩ := Kd.at_bool (Kd.R_reads' HO_2.out).2.2 t265 p266 q266; (try rw [← Nbq18.out] at hx266_0); obtain rfl : (⟨go7, 0, none⟩ : Addr) = ad266 := (by injection e266); (first | simp only [add_plain] at hx266_0 | simp only [add_at] at hx266_0 | simp only [Addr.add, Nat.zero_add] at hx266_0 | skip); replace p266 := eq_true p266; replace q266 := eq_true q266))
                          (try simp only [← hl2_1])
                          go_roundg k1
                          case measure => have := HK1.out; omega
                          case rel => exact ⟨(x2_1), (x3_1), (wrap64 (x21_1 + 1)), (by first | rfl | (simp; done) | (simp [*]; done)), H', ⟨by have := HK1.out; omega⟩, ⟨by (try simp only [hl2_1]); (with_reducible repeat (first | apply Kd.R_alloc | apply Kd.R_drewN | apply Kd.R_drew)); exact HO_2.out⟩, ⟨by (try simp only [hl2_1]); (with_reducible repeat (first | apply Kd.R_alloc | apply Kd.R_drewN | apply Kd.R_drew)); exact HO_3.out⟩, ⟨by repeat (first | (with_reducible first | exact HK.out | apply Kept.alloc | apply Kept.drewN | apply Kept.drew) | exact HK.out)⟩, ⟨by repeat (first | (with_reducible first | exact HB.out | apply below_alloc | apply pw_below_drewN | apply below_drew1) | exact HB.out)⟩⟩
                        · replace c19 := Bool.eq_false_iff.mpr c19
                          subst c19
                          have H1 : ((provisoref05_leave.f k1 l0 t265 x2_1 x3_1).bind fun bt267 => (provisoref05_leave.l0 k1 l0 a1 bt267.2 bt267.1 ((rd_T35 l0 a1).f2) (((rd_T35 l0 a1).f2).length : Int) (wrap64 (x21_1 + 1)))) = some (r1, r2) := by rw [if_neg (show ¬ (false = true) by decide)] at H; exact H
                          clear H
                          have H := H1
                          clear H1
                          replace H := Option.bind_eq_some_iff.mp H
                          obtain ⟨⟨t267, t270⟩, A210, H⟩ := H
                          replace H : (provisoref05_leave.l0 k1 l0 a1 t270 t267 ((rd_T35 l0 a1).f2) (((rd_T35 l0 a1).f2).length : Int) (wrap64 (x21_1 + 1))) = some (r1, r2) := H
                          have A21 := Aside0.mk A210
                          clear A210
                          have H' := Aside0.mk H
                          clear H
                          have p264 : 0 ≤ (x21_1 : Int) := of_decide_eq_true (by first | (with_reducible assumption) | assumption)
                          have q264 : x21_1 < (((rd_T35 l0 a1).f2).length : Int) := of_decide_eq_true (by first | (with_reducible assumption) | assumption)
                          obtain ⟨ad264, e264, hx264_0⟩ := Kd.at_int (HRW9.out _ HK.out) x21_1 p264 q264
                          cases e264
                          first | replace hx264_0 := (HB.out.cell (World.block_lt_of_cell? w _ hx264_0)).trans hx264_0 | skip
                          replace p264 := eq_true p264
                          replace q264 := eq_true q264
                          go_wp2_with (first | ((with_reducible refine gate_callee (f := 66) rfl ?_); refine goesL_ (some 27) rfl rfl Try.func66 (by kernel_rfl) rfl #[.slice (some ad260) l0.length c0, .int .i64 (rd ((rd_T35 l0 a1).f2) x21_1)] rfl (by (try simp only [List.map_toArray, List.map_cons, List.map_nil]); first | done | rfl | (simp only [List.length_drop, List.length_take]; rfl)) ?_; (with_reducible refine (provisoref05_from.calls k1 _ _ l0 (rd ((rd_T35 l0 a1).f2) x21_1) t265 _ ?side1 ?side2 A14.out).mono ?_); (case side1 => exact Kd.C_kept_now HR0.out (by repeat (first | (with_reducible first | exact HK.out | apply Kept.alloc | apply Kept.drewN | apply Kept.drew) | exact HK.out))); (case side2 => exact HC0.out); rintro e w22 ⟨rfl, hb⟩; refine ⟨_, rfl, ?_⟩; have n0_ := Aside0.mk (Kd.R_below (by (with_reducible repeat (first | apply Kd.R_alloc | apply Kd.R_drewN | apply Kd.R_drew)); exact HO_2.out) hb); have n1_ := Aside0.mk (Kd.R_below (by (with_reducible repeat (first | apply Kd.R_alloc | apply Kd.R_drewN | apply Kd.R_drew)); exact HO_3.out) hb); have n2_ := Aside0.mk (Kept.below (S := (fun k_ => P2_ k_ ∨ P3_ k_)) (by repeat (first | (with_reducible first | exact HK.out | apply Kept.alloc | apply Kept.drewN | apply Kept.drew) | exact HK.out)) hb); have n3_ := Aside0.mk (below_step (by repeat (first | (with_reducible first | exact HB.out | apply below_alloc | apply pw_below_drewN | apply below_drew1) | exact HB.out)) hb); clear HO_2; clear HO_3; clear HK; clear HB; have HO_2 := n0_; have HO_3 := n1_; have HK := n2_; have HB := n3_; clear n0_ n1_ n2_ n3_; (try clear hb); (try clear hb2); (try clear hk); (try clear hi); have p266 : 0 ≤ (t265 : Int) := of_decide_eq_true (by first | (with_reducible assumption) | assumption); have q266 : t265 < (x2_1.length : Int) := of_decide_eq_true (by first | (with_reducible assumption) | assumption); obtain ⟨ad266, e266, hx266_0⟩ := Kd.at_bool (Kd.R_reads' HO_2.out).2.2 t265 p266 q266; (try rw [← Nbq18.out] at hx266_0); obtain rfl : (⟨go7, 0, none⟩ : Addr) = ad266 := (by injection e266); (first | simp only [add_plain] at hx266_0 | simp only [add_at] at hx266_0 | simp only [Addr.add, Nat.zero_add] at hx266_0 | skip); replace p266 := eq_true p266; replace q266 := eq_true q266; obtain ⟨Ao23, co23, eo23⟩ := Kd.R_slice HO_3.out; subst eo23) | ((with_reducible refine gate_callee (f := 51) rfl ?_); refine goesL_ (some 41) rfl rfl Try.func51 (by kernel_rfl) rfl #[.slice (some ad260) l0.length c0, .int .i64 t265, .slice (some ⟨go7, 0, none⟩) x2_1.length co7, .slice Ao23 x3_1.length co23] rfl (by (try simp only [List.map_toArray, List.map_cons, List.map_nil]); first | done | rfl | (simp only [List.length_drop, List.length_take]; rfl)) ?_; (with_reducible refine (ih k1 (by have := HK1.out; omega) _ _ l0 t265 (fun k_ => some k_ = (.slice (some ⟨go7, 0, none⟩) x2_1.length co7 : Value).ownBlock) (.slice (some ⟨go7, 0, none⟩) x2_1.length co7) x2_1 (fun k_ => some k_ = (.slice Ao23 x3_1.length co23 : Value).ownBlock) (.slice Ao23 x3_1.length co23) x3_1 t267 t270 w0 _ ?side1 ?side2 ?side3 ?side4 ?side5 A21.out).mono ?_); (case side1 => repeat (first | (with_reducible first | exact HB.out | apply below_alloc | apply pw_below_drewN | apply below_drew1) | exact HB.out)); (case side2 => exact Kd.C_kept_call HR0.out (by repeat (first | (with_reducible first | exact HK.out | apply Kept.alloc | apply Kept.drewN | apply Kept.drew) | exact HK.out)) (fun k_ hs_ => Or.elim hs_ (fun e_ => (fun e_ => (HO_2.out.1 k_ e_.symm)) e_) (fun e_ => (fun e_ => (HO_3.out.1 k_ e_.symm)) e_))); (case side3 => exact HC0.out); (case side4 => exact Kd.R_tight rfl HO_2.out); (case side5 => exact Kd.R_tight rfl HO_3.out); rintro e w24 ⟨v268, rfl, ho0, hy0, hb, hkp⟩; refine ⟨_, rfl, ?_⟩; have n0_ := Aside0.mk (Kd.R_reok rfl hy0 (fun k_ e_ => HO_2.out.1 k_ e_)); have n1_ := Aside0.mk (Kd.R_mono (ok' := fun k_ => ((P2_ k_ ∨ P3_ k_) ∨ w.heap.size ≤ k_)) ho0 (fun k_ hk_ => Or.elim hk_ (fun hs_ => Or.elim hs_ (fun hs_ => (HO_2.out.1 k_ (hs_).symm)) (fun hs_ => (HO_3.out.1 k_ (hs_).symm))) (fun hn_ => (.inr (Nat.le_trans (by first | exact HK.out.1 | exact (show Kept w _ (fun k_ => P2_ k_ ∨ P3_ k_) from by repeat (first | (with_reducible first | exact HK.out | apply Kept.alloc | apply Kept.drewN | apply Kept.drew) | exact HK.out)).1) hn_))))); have n2_ := Aside0.mk (Kept.then_ (S := (fun k_ => P2_ k_ ∨ P3_ k_)) (by repeat (first | (with_reducible first | exact HK.out | apply Kept.alloc | apply Kept.drewN | apply Kept.drew) | exact HK.out)) hkp (fun k_ hs_ => Or.elim hs_ (fun e_ => (fun e_ => (HO_2.out.1 k_ e_.symm)) e_) (fun e_ => (fun e_ => (HO_3.out.1 k_ e_.symm)) e_))); have n3_ := Aside0.mk (hb); clear HO_2; clear HK; clear HB; clear HO_3; have HO_2 := n0_; have HO269 := n1_; have HK := n2_; have HB := n3_; clear n0_ n1_ n2_ n3_; (try clear hb); (try clear hkp); (try clear ho0); (try clear hy0)))
                          (try simp only [← hl2_1])
                          go_roundg k1
                          case measure => have := HK1.out; omega
                          case rel => exact ⟨(t270), (t267), (wrap64 (x21_1 + 1)), (by first | rfl | (simp; done) | (simp [*]; done)), H', ⟨by have := HK1.out; omega⟩, ⟨by (try simp only [hl2_1]); (with_reducible repeat (first | apply Kd.R_alloc | apply Kd.R_drewN | apply Kd.R_drew)); exact HO_2.out⟩, ⟨by (try simp only [hl2_1]); (with_reducible repeat (first | apply Kd.R_alloc | apply Kd.R_drewN | apply Kd.R_drew)); exact HO269.out⟩, ⟨by repeat (first | (with_reducible first | exact HK.out | apply Kept.alloc | apply Kept.drewN | apply Kept.drew) | exact HK.out)⟩, ⟨by repeat (first | (with_reducible first | exact HB.out | apply below_alloc | apply pw_below_drewN | apply below_drew1) | exact HB.out)⟩⟩
                      · rw [if_neg c17] at H
                        exact absurd H (by simp)
                    · rw [if_neg c16] at H
                      exact absurd H (by simp)
                  · rw [if_neg c15] at H
                    have c15b0 : decide (0 ≤ t265) = false := decide_eq_false c15
                    clear c15
                    have H' := Aside0.mk H
                    clear H
                    have p264 : 0 ≤ (x21_1 : Int) := of_decide_eq_true (by first | (with_reducible assumption) | assumption)
                    have q264 : x21_1 < (((rd_T35 l0 a1).f2).length : Int) := of_decide_eq_true (by first | (with_reducible assumption) | assumption)
                    obtain ⟨ad264, e264, hx264_0⟩ := Kd.at_int (HRW9.out _ HK.out) x21_1 p264 q264
                    cases e264
                    first | replace hx264_0 := (HB.out.cell (World.block_lt_of_cell? w _ hx264_0)).trans hx264_0 | skip
                    replace p264 := eq_true p264
                    replace q264 := eq_true q264
                    go_wp2_with (first | ((with_reducible refine gate_callee (f := 66) rfl ?_); refine goesL_ (some 27) rfl rfl Try.func66 (by kernel_rfl) rfl #[.slice (some ad260) l0.length c0, .int .i64 (rd ((rd_T35 l0 a1).f2) x21_1)] rfl (by (try simp only [List.map_toArray, List.map_cons, List.map_nil]); first | done | rfl | (simp only [List.length_drop, List.length_take]; rfl)) ?_; (with_reducible refine (provisoref05_from.calls k1 _ _ l0 (rd ((rd_T35 l0 a1).f2) x21_1) t265 _ ?side1 ?side2 A14.out).mono ?_); (case side1 => exact Kd.C_kept_now HR0.out (by repeat (first | (with_reducible first | exact HK.out | apply Kept.alloc | apply Kept.drewN | apply Kept.drew) | exact HK.out))); (case side2 => exact HC0.out); rintro e w25 ⟨rfl, hb⟩; refine ⟨_, rfl, ?_⟩; have n0_ := Aside0.mk (Kd.R_below (by (with_reducible repeat (first | apply Kd.R_alloc | apply Kd.R_drewN | apply Kd.R_drew)); exact HO_2.out) hb); have n1_ := Aside0.mk (Kd.R_below (by (with_reducible repeat (first | apply Kd.R_alloc | apply Kd.R_drewN | apply Kd.R_drew)); exact HO_3.out) hb); have n2_ := Aside0.mk (Kept.below (S := (fun k_ => P2_ k_ ∨ P3_ k_)) (by repeat (first | (with_reducible first | exact HK.out | apply Kept.alloc | apply Kept.drewN | apply Kept.drew) | exact HK.out)) hb); have n3_ := Aside0.mk (below_step (by repeat (first | (with_reducible first | exact HB.out | apply below_alloc | apply pw_below_drewN | apply below_drew1) | exact HB.out)) hb); clear HO_2; clear HO_3; clear HK; clear HB; have HO_2 := n0_; have HO_3 := n1_; have HK := n2_; have HB := n3_; clear n0_ n1_ n2_ n3_; (try clear hb); (try clear hb2); (try clear hk); (try clear hi)))
                    (try simp only [← hl2_1])
                    go_roundg k1
                    case measure => have := HK1.out; omega
                    case rel => exact ⟨(x2_1), (x3_1), (wrap64 (x21_1 + 1)), (by first | rfl | (simp; done) | (simp [*]; done)), H', ⟨by have := HK1.out; omega⟩, ⟨by (try simp only [hl2_1]); (with_reducible repeat (first | apply Kd.R_alloc | apply Kd.R_drewN | apply Kd.R_drew)); exact HO_2.out⟩, ⟨by (try simp only [hl2_1]); (with_reducible repeat (first | apply Kd.R_alloc | apply Kd.R_drewN | apply Kd.R_drew)); exact HO_3.out⟩, ⟨by repeat (first | (with_reducible first | exact HK.out | apply Kept.alloc | apply Kept.drewN | apply Kept.drew) | exact HK.out)⟩, ⟨by repeat (first | (with_reducible first | exact HB.out | apply below_alloc | apply pw_below_drewN | apply below_drew1) | exact HB.out)⟩⟩
                · rw [if_neg c13] at H
                  exact absurd H (by simp)
              · rw [if_neg c12] at H
                exact absurd H (by simp)
            · rw [if_neg c11] at H
              have c11b0 : decide (x21_1 < (((rd_T35 l0 a1).f2).length : Int)) = false := decide_eq_false c11
              clear c11
              by_cases c26 : x3_1.length < 17592186044416
              · rw [if_pos c26] at H
                have LMc26 := Aside0.mk c26
                clear c26
                obtain ⟨y261, hy261⟩ : ∃ y_ : List Int, y_ = (x3_1 ++ [a1]) := ⟨_, rfl⟩
                replace H : (some (y261, x2_1)) = some (r1, r2) := by first | (rw [hy261]; with_reducible exact H) | (have H2_ := (Option.bind_some _ _).symm.trans H; rw [hy261]; with_reducible exact H2_) | (have H2_ := (Option.bind_some _ _).symm.trans H; with_reducible exact H2_) | with_reducible exact H | (rw [hy261]; exact H) | exact H
                have Ny261 := Aside0.mk hy261
                clear hy261
                simp only [Option.some.injEq, Prod.mk.injEq] at H
                obtain ⟨rfl, rfl⟩ := H
                go_wp2_with (first | ((with_reducible refine gate_builtin (b := .append) (xs := #[.tmp 43, .tmp 45]) rfl ?_); at_builtin; refine Kd.R_append (Kd.int .i64) (w0 := w0) w0.heap.size rfl (.tmp 43) (.tmp 45) 27 3 (.int .i64 0) 8 rfl Try.underlying27 info3 rfl (by decide) (by omega) u3 x3_1 a1 [.int .i64 a1] (fun k_ => ((P2_ k_ ∨ P3_ k_) ∨ w.heap.size ≤ k_)) (fun _ => False) rfl rfl ?aP (fun _ hk => hk.elim) ?aF ?aO ?aB ?aS ?aL ?_; (case aP => exact rfl); (case aB => exact (by repeat (first | (with_reducible first | exact HB.out | apply below_alloc | apply pw_below_drewN | apply below_drew1) | exact HB.out))); (case aF => exact (fun k_ hk => (.inr (Nat.le_trans (by first | exact HK.out.1 | exact (show Kept w _ (fun k_ => P2_ k_ ∨ P3_ k_) from by repeat (first | (with_reducible first | exact HK.out | apply Kept.alloc | apply Kept.drewN | apply Kept.drew) | exact HK.out)).1) hk)))); (case aO => exact (by (with_reducible repeat (first | apply Kd.R_alloc | apply Kd.R_drewN | apply Kd.R_drew)); exact HO_3.out)); (case aS => exact (below_size (by repeat (first | (with_reducible first | exact HB.out | apply below_alloc | apply pw_below_drewN | apply below_drew1) | exact HB.out)))); (case aL => have := LMc26.out; omega); intro v262 w27 ho hb hg hat; rw [← Ny261.out] at ho; have n0_ := Aside0.mk (Kd.R_over' (by (with_reducible repeat (first | apply Kd.R_alloc | apply Kd.R_drewN | apply Kd.R_drew)); exact HO_2.out) (Kd.R_typed (by (with_reducible repeat (first | apply Kd.R_alloc | apply Kd.R_drewN | apply Kd.R_drew)); exact HO_3.out)) (by decide) hg); have n1_ := Aside0.mk (hb); have n2_ := Aside0.mk (Kept.of_grown (S := (fun k_ => P2_ k_ ∨ P3_ k_)) hg (by repeat (first | (with_reducible first | exact HK.out | apply Kept.alloc | apply Kept.drewN | apply Kept.drew) | exact HK.out)) (fun k_ e_ => (HO_3.out.1 k_ e_))); have n3_ := Aside0.mk (ho); clear HO_2; clear HB; clear HK; clear HO_3; have HO_2 := n0_; have HB := n1_; have HK := n2_; have HO263 := n3_; clear n0_ n1_ n2_ n3_; clear ho hb hg hat))
                go_ret
                exact ⟨_, by first | rfl | (simp [errW_none, errW_some] <;> rfl) | (simp [*, errW_none, errW_some] <;> rfl), by (with_reducible repeat (first | apply Kd.R_alloc | apply Kd.R_drewN | apply Kd.R_drew)); exact HO263.out, (by first | exact (by (with_reducible repeat (first | apply Kd.R_alloc | apply Kd.R_drewN | apply Kd.R_drew)); exact HO_2.out) | (simp only [hl2_1]; exact (by (with_reducible repeat (first | apply Kd.R_alloc | apply Kd.R_drewN | apply Kd.R_drew)); exact HO_2.out))), by repeat (first | (with_reducible first | exact HB.out | apply below_alloc | apply pw_below_drewN | apply below_drew1) | exact HB.out), by repeat (first | (with_reducible first | exact HK.out | apply Kept.alloc | apply Kept.drewN | apply Kept.drew) | exact HK.out)⟩
              · rw [if_neg c26] at H
                exact absurd H (by simp)
      · rw [if_neg c8] at H
        exact absurd H (by simp)
    · rw [if_neg c6] at H
      exact absurd H (by simp)
  · rw [if_neg c5] at H
    exact absurd H (by simp)

mutual
def provisoref05_Order.l0 : Nat → List (S35) → List Bool → List Int → List Int → Int → Option (List Int)
  | 0, _, _, _, _, _ => none
  | k + 1, x0, x3, x4, x5, x6 => if x6 ≥ 0 then (if 0 ≤ x6 then (if x6 < (x4.length : Int) then (if x5.length < 17592186044416 then (provisoref05_Order.l0 k x0 x3 x4 (x5 ++ [rd x4 x6]) (wrap64 (x6 - 1))) else (none)) else (none)) else (none)) else (provisoref05_Order.l1 k x3 x5 (x0.length : Int) 0)
def provisoref05_Order.l1 : Nat → List Bool → List Int → Int → Int → Option (List Int)
  | 0, _, _, _, _ => none
  | k + 1, x3, x5, x32, x33 => if x33 < x32 then (if 0 ≤ x33 then (if x33 < (x3.length : Int) then (if rdOf false x3 x33 = true then (provisoref05_Order.l1 k x3 x5 x32 (wrap64 (x33 + 1))) else (if x5.length < 17592186044416 then (provisoref05_Order.l1 k x3 (x5 ++ [x33]) x32 (wrap64 (x33 + 1))) else (none))) else (none)) else (none)) else (some x5)
end
def provisoref05_Order.f (k : Nat) (l0 : List (S35)) : Option (List Int) := if (l0.length : Int) = 0 then (some ([] : List Int)) else (if 0 ≤ (l0.length : Int) then (if ((l0.length : Int) : Int).toNat ≤ 281474976710656 then ((provisoref05_leave.f k l0 0 (List.replicate ((l0.length : Int) : Int).toNat false) ([] : List Int)).bind fun bt274 => (provisoref05_Order.l0 k l0 bt274.2 bt274.1 ([] : List Int) (wrap64 ((bt274.1.length : Int) - 1)))) else (none)) else (none))
set_option maxHeartbeats 8000000 in
set_option maxRecDepth 100000 in
theorem provisoref05_Order.calls (k : Nat) (A0 : Option Addr) (c0 : Nat) (l0 : List (S35)) (r : List Int) (w : World) (hr0 : Kd.C k35 w A0 l0.length l0) (hc0 : l0.length ≤ c0) (h : provisoref05_Order.f k l0 = some r) :
    Calls Try.prog 23 #[.slice A0 l0.length c0] w fun e w' => ∃ v0_ : Value, e = .returned (v0_) ∧ Kd.R (Kd.int .i64) 3 w' w.heap.size (fun _ => True) v0_ r ∧ Below w.heap.size w w' := by
  have HR0 := Aside0.mk hr0
  have HC0 := Aside0.mk hc0
  clear hr0 hc0
  have HB := Aside0.mk (Below.refl w.heap.size w)
  have H : (if (l0.length : Int) = 0 then (some ([] : List Int)) else (if 0 ≤ (l0.length : Int) then (if ((l0.length : Int) : Int).toNat ≤ 281474976710656 then ((provisoref05_leave.f k l0 0 (List.replicate ((l0.length : Int) : Int).toNat false) ([] : List Int)).bind fun bt274 => (provisoref05_Order.l0 k l0 bt274.2 bt274.1 ([] : List Int) (wrap64 ((bt274.1.length : Int) - 1)))) else (none)) else (none))) = some r := h
  clear h
  by_cases c2 : (l0.length : Int) = 0
  · rw [if_pos c2] at H
    have c2b0 : ((l0.length : Int) == 0) = true := beq_iff_eq.mpr c2
    have c2b1 : ((l0.length : Int) != 0) = false := bne_eq_false_iff_eq.mpr c2
    clear c2
    obtain rfl := Option.some.inj H
    go_enter Try.func23, Try.ntmps23
    go_wp2
    go_ret
    exact ⟨_, by first | rfl | (simp [errW_none, errW_some] <;> rfl) | (simp [*, errW_none, errW_some] <;> rfl), by first | exact Kd.R_nil _ _ _ _ _ | exact Kd.N_nil _ _ _ _ _ | exact Kd.V_nil _ _ _ _ _ | exact Kd.Q_nil _ _ _ _ _ | exact Kd.S_nil _ _ _ _ _, by repeat (first | (with_reducible first | exact HB.out | apply below_alloc | apply pw_below_drewN | apply below_drew1) | exact HB.out)⟩
  · rw [if_neg c2] at H
    have c2b0 : ((l0.length : Int) == 0) = false := beq_eq_false_iff_ne.mpr c2
    have c2b1 : ((l0.length : Int) != 0) = true := bne_iff_ne.mpr c2
    have c2b2 : ¬ (l0 = []) := fun h_ => c2 (by rw [h_]; rfl)
    by_cases c3 : 0 ≤ (l0.length : Int)
    · rw [if_pos c3] at H
      have c3b0 := eq_true c3
      have c3b1 : decide (0 ≤ (l0.length : Int)) = true := decide_eq_true c3
      clear c3
      by_cases c4 : ((l0.length : Int) : Int).toNat ≤ 281474976710656
      · rw [if_pos c4] at H
        have c4b0 := eq_true c4
        have c4b1 : decide (((l0.length : Int) : Int).toNat ≤ 281474976710656) = true := decide_eq_true c4
        clear c4
        obtain ⟨y271, hy271⟩ : ∃ y_ : List Bool, y_ = (List.replicate ((l0.length : Int) : Int).toNat false) := ⟨_, rfl⟩
        replace H : ((provisoref05_leave.f k l0 0 y271 ([] : List Int)).bind fun bt274 => (provisoref05_Order.l0 k l0 bt274.2 bt274.1 ([] : List Int) (wrap64 ((bt274.1.length : Int) - 1)))) = some r := by first | (rw [hy271]; with_reducible exact H) | (have H2_ := (Option.bind_some _ _).symm.trans H; rw [hy271]; with_reducible exact H2_) | (have H2_ := (Option.bind_some _ _).symm.trans H; with_reducible exact H2_) | with_reducible exact H | (rw [hy271]; exact H) | exact H
        have Ny271 := Aside0.mk hy271
        clear hy271
        replace H := Option.bind_eq_some_iff.mp H
        obtain ⟨⟨t274, t277⟩, A50, H⟩ := H
        replace H : (provisoref05_Order.l0 k l0 t277 t274 ([] : List Int) (wrap64 ((t274.length : Int) - 1))) = some r := H
        have A5 := Aside0.mk A50
        clear A50
        have H' := Aside0.mk H
        clear H
        go_enter Try.func23, Try.ntmps23
        go_wp2_with (first | ((with_reducible refine gate_dst (N := 13) rfl ?_); refine Kd.R_make Kd.bool _ 4 rfl (N := 13) rfl 71 _ _ rfl (l0.length : Int) rfl rfl Try.underlying71 (.bool false) 1 info4 rfl (by decide) (by omega) false (ok := fun _ => True) (okp := fun _ => True) rfl (fun _ hk => hk) trivial (of_decide_eq_true (by first | (with_reducible assumption) | assumption)) (Nat.le_trans (Nat.mul_le_mul_right _ (of_decide_eq_true (by first | (with_reducible assumption) | assumption) : (l0.length : Int).toNat ≤ 281474976710656)) (by omega)) (Below.refl _ _) (Nat.le_refl _) ?_; intro v272 w6 ho7 hb hg_ hnew_; clear hg_ hnew_; (first | rw [← Ny271.out] at ho7 | (simp only [Int.reduceToNat] at ho7; rw [← Ny271.out] at ho7)); have n0_ := Aside0.mk (Kd.R_lower ho7 (below_size (by repeat (first | (with_reducible first | exact HB.out | apply below_alloc | apply pw_below_drewN | apply below_drew1) | exact HB.out)))); have n1_ := Aside0.mk (below_step (by repeat (first | (with_reducible first | exact HB.out | apply below_alloc | apply pw_below_drewN | apply below_drew1) | exact HB.out)) hb); clear HB; have HO273 := n0_; have HB := n1_; clear n0_ n1_; clear hb ho7; obtain ⟨Ao8, co8, eo8⟩ := Kd.R_slice HO273.out; subst eo8) | ((with_reducible refine gate_callee (f := 51) rfl ?_); refine goesL_ (some 16) rfl rfl Try.func51 (by kernel_rfl) rfl #[.slice A0 l0.length c0, .int .i64 0, .slice Ao8 y271.length co8, .slice none 0 0] rfl (by (try simp only [List.map_toArray, List.map_cons, List.map_nil]); first | done | rfl | (simp only [List.length_drop, List.length_take]; rfl)) ?_; (refine (provisoref05_leave.calls k _ _ l0 0 (fun k_ => some k_ = (.slice Ao8 y271.length co8 : Value).ownBlock) (.slice Ao8 y271.length co8) y271 (fun k_ => some k_ = (.slice none 0 0 : Value).ownBlock) (.slice none 0 0) ([] : List Int) t274 t277 w _ ?side1 ?side2 ?side3 ?side4 ?side5 A5.out).mono ?_); (case side1 => repeat (first | (with_reducible first | exact HB.out | apply below_alloc | apply pw_below_drewN | apply below_drew1) | exact HB.out)); (case side2 => exact Kd.C_kept_came k35_heap HR0.out (by repeat (first | (with_reducible first | exact HB.out | apply below_alloc | apply pw_below_drewN | apply below_drew1) | exact HB.out)) (fun k_ hs_ => Or.elim hs_ (fun e_ => (fun e_ => Kd.R_base HO273.out k_ e_.symm) e_) (fun e_ => (fun e_ => by simp [Value.ownBlock] at e_) e_))); (case side3 => exact HC0.out); (case side4 => exact Kd.R_tight rfl HO273.out); (case side5 => exact Kd.R_nil _ _ _ _ _); rintro e w9 ⟨v275, rfl, ho0, hy0, hb, hkp⟩; refine ⟨_, rfl, ?_⟩; have n0_ := Aside0.mk (Kd.R_reok rfl hy0 (fun k_ e_ => HO273.out.1 k_ e_)); have n1_ := Aside0.mk (Kd.R_mono (ok' := fun k_ => True) ho0 (fun k_ hk_ => trivial)); have n2_ := Aside0.mk (hb); clear HO273; clear HB; have HO273 := n0_; have HO276 := n1_; have HB := n2_; clear n0_ n1_ n2_; (try clear hb); (try clear hkp); (try clear ho0); (try clear hy0); obtain ⟨Ao10, co10, eo10⟩ := Kd.R_slice HO276.out; subst eo10))
        go_loopg [5, 6] k (fun kq v5 v6 w' => ∃ (x5_1 : List Int) (x6_1 : Int), v6 = .int .i64 x6_1 ∧ Aside0 (provisoref05_Order.l0 kq l0 t277 t274 x5_1 x6_1 = some r) ∧ Aside0 (kq ≤ k) ∧ Aside0 (Kd.R Kd.bool 4 w' w.heap.size (fun _ => True) (.slice Ao8 y271.length co8) t277) ∧ Aside0 (Kd.R (Kd.int .i64) 3 w' w.heap.size (fun k_ => some k_ ≠ (v5 : Value).ownBlock) (.slice Ao10 t274.length co10) t274) ∧ Aside0 (Kd.R (Kd.int .i64) 3 w' w.heap.size (fun k_ => some k_ ≠ ((.slice Ao10 t274.length co10) : Value).ownBlock) v5 x5_1) ∧ Aside0 (Below w.heap.size w w'))
        case atStart => exact ⟨(([] : List Int)), (wrap64 ((t274.length : Int) - 1)), (by first | rfl | (simp; done) | (simp [*]; done)), H', ⟨Nat.le_refl _⟩, ⟨by (with_reducible repeat (first | apply Kd.R_alloc | apply Kd.R_drewN | apply Kd.R_drew)); exact HO273.out⟩, ⟨by (with_reducible repeat (first | apply Kd.R_alloc | apply Kd.R_drewN | apply Kd.R_drew)); exact Kd.R_mono HO276.out (fun _ hk => (by simp [Value.ownBlock]))⟩, ⟨by first | exact Kd.R_nil _ _ _ _ _ | exact Kd.N_nil _ _ _ _ _ | exact Kd.V_nil _ _ _ _ _ | exact Kd.Q_nil _ _ _ _ _ | exact Kd.S_nil _ _ _ _ _⟩, ⟨by repeat (first | (with_reducible first | exact HB.out | apply below_alloc | apply pw_below_drewN | apply below_drew1) | exact HB.out)⟩⟩
        case round =>
          clear H'
          try clear c2
          try clear c2b0
          try clear c2b1
          try clear c2b2
          try clear p2
          try clear c3
          try clear c3b0
          try clear c3b1
          try clear c4
          try clear c4b0
          try clear c4b1
          try clear c5
          try clear p6
          obtain ⟨x5_1, x6_1, rfl, HA, HK1, HO_3, HO_4, HO_5, HB⟩ := hrel
          have hl3_1 := (Kd.R_reads' HO_3.out).1
          rw [hl3_1] at HO_3
          (try simp only [hl3_1])
          (try simp only [hl3_1] at HO_4)
          (try simp only [hl3_1] at HO_5)
          cases gk with
          | zero => exact absurd HA.out (by simp [provisoref05_Order.l0])
          | succ k1 =>
            have H := HA.out
            clear HA
            simp only [provisoref05_Order.l0] at H
            by_cases c11 : x6_1 ≥ 0
            · rw [if_pos c11] at H
              have c11b0 : decide (0 ≤ x6_1) = true := decide_eq_true c11
              clear c11
              by_cases c12 : 0 ≤ x6_1
              · rw [if_pos c12] at H
                have c12b0 : decide (0 ≤ x6_1) = true := decide_eq_true c12
                clear c12
                by_cases c13 : x6_1 < (t274.length : Int)
                · rw [if_pos c13] at H
                  have c13b0 : decide (x6_1 < (t274.length : Int)) = true := decide_eq_true c13
                  clear c13
                  by_cases c14 : x5_1.length < 17592186044416
                  · rw [if_pos c14] at H
                    have LMc14 := Aside0.mk c14
                    clear c14
                    obtain ⟨y279, hy279⟩ : ∃ y_ : List Int, y_ = (x5_1 ++ [rd t274 x6_1]) := ⟨_, rfl⟩
                    replace H : (provisoref05_Order.l0 k1 l0 t277 t274 y279 (wrap64 (x6_1 - 1))) = some r := by first | (rw [hy279]; with_reducible exact H) | (have H2_ := (Option.bind_some _ _).symm.trans H; rw [hy279]; with_reducible exact H2_) | (have H2_ := (Option.bind_some _ _).symm.trans H; with_reducible exact H2_) | with_reducible exact H | (rw [hy279]; exact H) | exact H
                    have Ny279 := Aside0.mk hy279
                    clear hy279
                    have H' := Aside0.mk H
                    clear H
                    have p278 : 0 ≤ (x6_1 : Int) := of_decide_eq_true (by first | (with_reducible assumption) | assumption)
                    have q278 : x6_1 < (t274.length : Int) := of_decide_eq_true (by first | (with_reducible assumption) | assumption)
                    obtain ⟨ad278, e278, hx278_0⟩ := Kd.at_int (Kd.R_reads' HO_4.out).2.2 x6_1 p278 q278
                    cases e278
                    replace p278 := eq_true p278
                    replace q278 := eq_true q278
                    go_wp2_with (first | ((with_reducible refine gate_builtin (b := .append) (xs := #[.tmp 24, .tmp 29]) rfl ?_); at_builtin; refine Kd.R_append (Kd.int .i64) (w0 := w) w.heap.size rfl (.tmp 24) (.tmp 29) 27 3 (.int .i64 0) 8 rfl Try.underlying27 info3 rfl (by decide) (by omega) u5 x5_1 (rd t274 x6_1) [.int .i64 (rd t274 x6_1)] (fun k_ => some k_ ≠ (.slice (some ad278) t274.length co10 : Value).ownBlock) (fun _ => False) rfl rfl ?aP (fun _ hk => hk.elim) ?aF ?aO ?aB ?aS ?aL ?_; (case aP => exact rfl); (case aB => exact (by repeat (first | (with_reducible first | exact HB.out | apply below_alloc | apply pw_below_drewN | apply below_drew1) | exact HB.out))); (case aF => exact (fun k_ hk => Kd.fresh' (Kd.R_lt (by (with_reducible repeat (first | apply Kd.R_alloc | apply Kd.R_drewN | apply Kd.R_drew)); exact HO_4.out)) k_ hk)); (case aO => exact (by (with_reducible repeat (first | apply Kd.R_alloc | apply Kd.R_drewN | apply Kd.R_drew)); exact HO_5.out)); (case aS => exact (below_size (by repeat (first | (with_reducible first | exact HB.out | apply below_alloc | apply pw_below_drewN | apply below_drew1) | exact HB.out)))); (case aL => have := LMc14.out; omega); intro v280 w15 ho hb hg hat; rw [← Ny279.out] at ho; have n0_ := Aside0.mk (Kd.R_over' (by (with_reducible repeat (first | apply Kd.R_alloc | apply Kd.R_drewN | apply Kd.R_drew)); exact HO_3.out) (Kd.R_typed (by (with_reducible repeat (first | apply Kd.R_alloc | apply Kd.R_drewN | apply Kd.R_drew)); exact HO_5.out)) (by decide) hg); have n1_ := Aside0.mk (Kd.R_after (ok := (fun _ => True)) (by (with_reducible repeat (first | apply Kd.R_alloc | apply Kd.R_drewN | apply Kd.R_drew)); exact Kd.R_mono HO_4.out (fun _ hk => ⟨trivial, hk⟩)) hg hat); have n2_ := Aside0.mk (hb); have n3_ := Aside0.mk (ho); clear HO_3; clear HO_4; clear HB; clear HO_5; have HO_3 := n0_; have HO_4 := n1_; have HB := n2_; have HO281 := n3_; clear n0_ n1_ n2_ n3_; clear ho hb hg hat))
                    (try simp only [← hl3_1])
                    go_roundg k1
                    case measure => have := HK1.out; omega
                    case rel => exact ⟨(y279), (wrap64 (x6_1 - 1)), (by first | rfl | (simp; done) | (simp [*]; done)), H', ⟨by have := HK1.out; omega⟩, ⟨by (try simp only [hl3_1]); (with_reducible repeat (first | apply Kd.R_alloc | apply Kd.R_drewN | apply Kd.R_drew)); exact HO_3.out⟩, ⟨by (try simp only [hl3_1]); (with_reducible repeat (first | apply Kd.R_alloc | apply Kd.R_drewN | apply Kd.R_drew)); exact Kd.R_mono HO_4.out (fun _ hk => hk.2)⟩, ⟨by (try simp only [hl3_1]); (with_reducible repeat (first | apply Kd.R_alloc | apply Kd.R_drewN | apply Kd.R_drew)); exact HO281.out⟩, ⟨by repeat (first | (with_reducible first | exact HB.out | apply below_alloc | apply pw_below_drewN | apply below_drew1) | exact HB.out)⟩⟩
                  · rw [if_neg c14] at H
                    exact absurd H (by simp)
                · rw [if_neg c13] at H
                  exact absurd H (by simp)
              · rw [if_neg c12] at H
                exact absurd H (by simp)
            · rw [if_neg c11] at H
              have c11b0 : decide (0 ≤ x6_1) = false := decide_eq_false c11
              clear c11
              have H' := Aside0.mk H
              clear H
              go_wp2
              go_loopg [5, 33] k1 (fun kq v5 v33 w' => ∃ (x5_2 : List Int) (x33_2 : Int), v33 = .int .i64 x33_2 ∧ Aside0 (provisoref05_Order.l1 kq t277 x5_2 (l0.length : Int) x33_2 = some r) ∧ Aside0 (kq ≤ k1) ∧ Aside0 (Kd.R Kd.bool 4 w' w.heap.size (fun _ => True) (.slice Ao8 t277.length co8) t277) ∧ Aside0 (Kd.R (Kd.int .i64) 3 w' w.heap.size (fun _ => True) v5 x5_2) ∧ Aside0 (Below w.heap.size w w'))
              case atStart => exact ⟨(x5_1), (0), (by first | rfl | (simp; done) | (simp [*]; done)), H', ⟨Nat.le_refl _⟩, ⟨by (try simp only [hl3_1]); (with_reducible repeat (first | apply Kd.R_alloc | apply Kd.R_drewN | apply Kd.R_drew)); exact HO_3.out⟩, ⟨by (try simp only [hl3_1]); (with_reducible repeat (first | apply Kd.R_alloc | apply Kd.R_drewN | apply Kd.R_drew)); exact Kd.R_mono HO_5.out (fun _ hk => trivial)⟩, ⟨by repeat (first | (with_reducible first | exact HB.out | apply below_alloc | apply pw_below_drewN | apply below_drew1) | exact HB.out)⟩⟩
              case round =>
                clear H'
                try clear c1
                try clear c2
                try clear c2b0
                try clear c2b1
                try clear c2b2
                try clear p2
                try clear q2
                try clear hx2
                try clear c3
                try clear c3b0
                try clear c3b1
                try clear c4
                try clear c4b0
                try clear c4b1
                try clear c5
                try clear p6
                try clear c11
                try clear c11b0
                try clear c12
                try clear c12b0
                try clear c13
                try clear c13b0
                try clear c14
                try clear hx278_0
                try clear p2
                try clear p278
                try clear p6
                try clear q278
                obtain ⟨x5_2, x33_2, rfl, HA, HK2, HO_3, HO_5, HB⟩ := hrel
                cases gk with
                | zero => exact absurd HA.out (by simp [provisoref05_Order.l1])
                | succ k2 =>
                  have H := HA.out
                  clear HA
                  simp only [provisoref05_Order.l1] at H
                  by_cases c16 : x33_2 < (l0.length : Int)
                  · rw [if_pos c16] at H
                    have c16b0 : decide (x33_2 < (l0.length : Int)) = true := decide_eq_true c16
                    clear c16
                    by_cases c17 : 0 ≤ x33_2
                    · rw [if_pos c17] at H
                      have c17b0 : decide (0 ≤ x33_2) = true := decide_eq_true c17
                      clear c17
                      by_cases c18 : x33_2 < (t277.length : Int)
                      · rw [if_pos c18] at H
                        have c18b0 : decide (x33_2 < (t277.length : Int)) = true := decide_eq_true c18
                        clear c18
                        obtain ⟨bq19, hbq19⟩ : ∃ b_ : Bool, b_ = (rdOf false t277 x33_2) := ⟨_, rfl⟩
                        replace H : (if bq19 = true then (provisoref05_Order.l1 k2 t277 x5_2 (l0.length : Int) (wrap64 (x33_2 + 1))) else (if x5_2.length < 17592186044416 then (provisoref05_Order.l1 k2 t277 (x5_2 ++ [x33_2]) (l0.length : Int) (wrap64 (x33_2 + 1))) else (none))) = some r := by rw [← hbq19] at H; exact H
                        have Nbq19 := Aside0.mk hbq19
                        clear hbq19
                        by_cases c20 : bq19 = true
                        · subst c20
                          have H1 : (provisoref05_Order.l1 k2 t277 x5_2 (l0.length : Int) (wrap64 (x33_2 + 1))) = some r := by rw [if_pos rfl] at H; exact H
                          clear H
                          have H := H1
                          clear H1
                          have H' := Aside0.mk H
                          clear H
                          have p282 : 0 ≤ (x33_2 : Int) := of_decide_eq_true (by first | (with_reducible assumption) | assumption)
                          have q282 : x33_2 < (t277.length : Int) := of_decide_eq_true (by first | (with_reducible assumption) | assumption)
                          obtain ⟨ad282, e282, hx282_0⟩ := Kd.at_bool (Kd.R_reads' HO_3.out).2.2 x33_2 p282 q282
                          (try rw [← Nbq19.out] at hx282_0)
                          cases e282
                          replace p282 := eq_true p282
                          replace q282 := eq_true q282
                          go_wp2
                          go_roundg k2
                          case measure => have := HK1.out; have := HK2.out; omega
                          case rel => exact ⟨(x5_2), (wrap64 (x33_2 + 1)), (by first | rfl | (simp; done) | (simp [*]; done)), H', ⟨by have := HK1.out; have := HK2.out; omega⟩, ⟨by (try simp only [hl3_1]); (with_reducible repeat (first | apply Kd.R_alloc | apply Kd.R_drewN | apply Kd.R_drew)); exact HO_3.out⟩, ⟨by (try simp only [hl3_1]); (with_reducible repeat (first | apply Kd.R_alloc | apply Kd.R_drewN | apply Kd.R_drew)); exact HO_5.out⟩, ⟨by repeat (first | (with_reducible first | exact HB.out | apply below_alloc | apply pw_below_drewN | apply below_drew1) | exact HB.out)⟩⟩
                        · replace c20 := Bool.eq_false_iff.mpr c20
                          subst c20
                          have H1 : (if x5_2.length < 17592186044416 then (provisoref05_Order.l1 k2 t277 (x5_2 ++ [x33_2]) (l0.length : Int) (wrap64 (x33_2 + 1))) else (none)) = some r := by rw [if_neg (show ¬ (false = true) by decide)] at H; exact H
                          clear H
                          have H := H1
                          clear H1
                          by_cases c21 : x5_2.length < 17592186044416
                          · rw [if_pos c21] at H
                            have LMc21 := Aside0.mk c21
                            clear c21
                            obtain ⟨y283, hy283⟩ : ∃ y_ : List Int, y_ = (x5_2 ++ [x33_2]) := ⟨_, rfl⟩
                            replace H : (provisoref05_Order.l1 k2 t277 y283 (l0.length : Int) (wrap64 (x33_2 + 1))) = some r := by first | (rw [hy283]; with_reducible exact H) | (have H2_ := (Option.bind_some _ _).symm.trans H; rw [hy283]; with_reducible exact H2_) | (have H2_ := (Option.bind_some _ _).symm.trans H; with_reducible exact H2_) | with_reducible exact H | (rw [hy283]; exact H) | exact H
                            have Ny283 := Aside0.mk hy283
                            clear hy283
                            have H' := Aside0.mk H
                            clear H
                            have p282 : 0 ≤ (x33_2 : Int) := of_decide_eq_true (by first | (with_reducible assumption) | assumption)
                            have q282 : x33_2 < (t277.length : Int) := of_decide_eq_true (by first | (with_reducible assumption) | assumption)
                            obtain ⟨ad282, e282, hx282_0⟩ := Kd.at_bool (Kd.R_reads' HO_3.out).2.2 x33_2 p282 q282
                            (try rw [← Nbq19.out] at hx282_0)
                            cases e282
                            replace p282 := eq_true p282
                            replace q282 := eq_true q282
                            go_wp2_with (first | ((with_reducible refine gate_builtin (b := .append) (xs := #[.tmp 41, .tmp 43]) rfl ?_); at_builtin; refine Kd.R_append (Kd.int .i64) (w0 := w) w.heap.size rfl (.tmp 41) (.tmp 43) 27 3 (.int .i64 0) 8 rfl Try.underlying27 info3 rfl (by decide) (by omega) u5 x5_2 x33_2 [.int .i64 x33_2] (fun _ => True) (fun _ => False) rfl rfl ?aP (fun _ hk => hk.elim) ?aF ?aO ?aB ?aS ?aL ?_; (case aP => exact rfl); (case aB => exact (by repeat (first | (with_reducible first | exact HB.out | apply below_alloc | apply pw_below_drewN | apply below_drew1) | exact HB.out))); (case aF => exact (fun _ _ => trivial)); (case aO => exact (by (with_reducible repeat (first | apply Kd.R_alloc | apply Kd.R_drewN | apply Kd.R_drew)); exact HO_5.out)); (case aS => exact (below_size (by repeat (first | (with_reducible first | exact HB.out | apply below_alloc | apply pw_below_drewN | apply below_drew1) | exact HB.out)))); (case aL => have := LMc21.out; omega); intro v284 w22 ho hb hg hat; rw [← Ny283.out] at ho; have n0_ := Aside0.mk (Kd.R_over' (by (with_reducible repeat (first | apply Kd.R_alloc | apply Kd.R_drewN | apply Kd.R_drew)); exact HO_3.out) (Kd.R_typed (by (with_reducible repeat (first | apply Kd.R_alloc | apply Kd.R_drewN | apply Kd.R_drew)); exact HO_5.out)) (by decide) hg); have n1_ := Aside0.mk (hb); have n2_ := Aside0.mk (ho); clear HO_3; clear HB; clear HO_5; have HO_3 := n0_; have HB := n1_; have HO285 := n2_; clear n0_ n1_ n2_; clear ho hb hg hat))
                            go_roundg k2
                            case measure => have := HK1.out; have := HK2.out; omega
                            case rel => exact ⟨(y283), (wrap64 (x33_2 + 1)), (by first | rfl | (simp; done) | (simp [*]; done)), H', ⟨by have := HK1.out; have := HK2.out; omega⟩, ⟨by (try simp only [hl3_1]); (with_reducible repeat (first | apply Kd.R_alloc | apply Kd.R_drewN | apply Kd.R_drew)); exact HO_3.out⟩, ⟨by (try simp only [hl3_1]); (with_reducible repeat (first | apply Kd.R_alloc | apply Kd.R_drewN | apply Kd.R_drew)); exact HO285.out⟩, ⟨by repeat (first | (with_reducible first | exact HB.out | apply below_alloc | apply pw_below_drewN | apply below_drew1) | exact HB.out)⟩⟩
                          · rw [if_neg c21] at H
                            exact absurd H (by simp)
                      · rw [if_neg c18] at H
                        exact absurd H (by simp)
                    · rw [if_neg c17] at H
                      exact absurd H (by simp)
                  · rw [if_neg c16] at H
                    have c16b0 : decide (x33_2 < (l0.length : Int)) = false := decide_eq_false c16
                    clear c16
                    obtain rfl := Option.some.inj H
                    go_wp2
                    go_ret
                    exact ⟨_, by first | rfl | (simp [errW_none, errW_some] <;> rfl) | (simp [*, errW_none, errW_some] <;> rfl), by (with_reducible repeat (first | apply Kd.R_alloc | apply Kd.R_drewN | apply Kd.R_drew)); exact HO_5.out, by repeat (first | (with_reducible first | exact HB.out | apply below_alloc | apply pw_below_drewN | apply below_drew1) | exact HB.out)⟩
      · rw [if_neg c4] at H
        exact absurd H (by simp)
    · rw [if_neg c3] at H
      exact absurd H (by simp)

end Go.Proofs.Ytcffniaieegbgaa.P

end

section
namespace Go.Proofs.Ytcffniaieegbgaa.P
open Go.RowKit Go.Proofs.YtcffniaieegbgaaW.PrintWords Go.Proofs.YtcffniaieegbgaaW.PrintLast Go.Proofs.YtcffniaieegbgaaW.PrintMore
attribute [local go_sem] max2_int min2_int max_two min_two max_three min_three max_four min_four   -- for this text's walks alone
set_option linter.unusedVariables false
set_option linter.unusedSimpArgs false

def provisoplain_SameBlocks.l0 : Nat → List (S35) → List (S35) → Int → Int → Option (Bool)
  | 0, _, _, _, _ => none
  | k + 1, x0, x1, x12, x13 => if x13 < x12 then (if 0 ≤ x13 then (if x13 < (x0.length : Int) then (if x13 < (x1.length : Int) then (if ((rd_T35 x0 x13).f0) = ((rd_T35 x1 x13).f0) then (if ((rd_T35 x0 x13).f1) = ((rd_T35 x1 x13).f1) then ((slices_Equal_int_int.f k ((rd_T35 x0 x13).f2) ((rd_T35 x1 x13).f2)).bind fun t292 => (if t292 = true then (provisoplain_SameBlocks.l0 k x0 x1 x12 (wrap64 (x13 + 1))) else (some false))) else (some false)) else (some false)) else (none)) else (none)) else (none)) else (some true)
def provisoplain_SameBlocks.f (k : Nat) (l0 : List (S35)) (l1 : List (S35)) : Option (Bool) := if (l0.length : Int) = (l1.length : Int) then (provisoplain_SameBlocks.l0 k l0 l1 (l0.length : Int) 0) else (some false)
def provisoplain_SameBlocks.T6 : Bool × List (List Nat × List Nat) := (true, [([], []), ([], []), ([0, 1], [0, 1]), ([2], [2]), ([3], [3]), ([], []), ([], []), ([5, 6], [5, 6]), ([7], [7]), ([8], [8]), ([4, 9], [4, 9]), ([10], [10]), ([11], [11]), ([11], [11]), ([12, 13, 11], [11, 12, 13]), ([14, 11], [11, 14]), ([15, 11], [11, 15]), ([11], [11]), ([11], [11]), ([17, 18, 11], [11, 17, 18]), ([19, 11], [11, 19]), ([20, 11], [11, 20]), ([16, 21, 11], [11, 16, 21]), ([11, 22], [11, 22]), ([23, 11], [23]), ([24], [24]), ([24], [24]), ([25, 26, 24], [24, 25, 26]), ([27, 24], [24, 27]), ([28, 24], [24, 28]), ([24], [24]), ([24], [24]), ([30, 31, 24], [24, 30, 31]), ([32, 24], [24, 32]), ([33, 24], [24, 33]), ([29, 34, 24, 24], [24, 29, 34]), ([35, 24], [24, 35]), ([24, 36], [24, 36])])
def provisoplain_SameBlocks.B6 : List Nat := [0, 0, 3, 7, 15, 0, 0, 96, 224, 480, 1023, 2047, 4095, 4095, 16383, 32767, 65535, 4095, 4095, 397311, 921599, 1970175, 4194303, 8388607, 16777215, 33554431, 33554431, 134217727, 268435455, 536870911, 33554431, 33554431, 3254779903, 7549747199, 16139681791, 34359738367, 68719476735, 137438953471]
theorem provisoplain_SameBlocks.tab6 : rtab .any (opsOf Try.f24 6) = provisoplain_SameBlocks.T6 := by kernel_rfl
theorem provisoplain_SameBlocks.bits6 : waitsOk provisoplain_SameBlocks.T6.2 provisoplain_SameBlocks.B6 = true := by kernel_rfl
end Go.Proofs.Ytcffniaieegbgaa.P
end

