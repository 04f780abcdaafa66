/- Proved: the law HeapStays holds for every input that the row lets in. No condition of ours. -/
import Derived.Test.YtkjagcamikkjkaaBHeapStaysc
import Derived.Sort.OwnSortedInts
import Derived.Shelf.Slices.CompactI
import Derived.Ground.Names2Prog
import Derived.Test.YtkjagcamikkjkaaRows
import Derived.ShutString
import Derived.ChangeOld
import Derived.Lib.SmallJoins
section
namespace Go.Proofs.Ytkjagcamikkjkaa.P
open Go.RowKit Go.Proofs.YtkjagcamikkjkaaW.PrintWords Go.Proofs.YtkjagcamikkjkaaW.PrintLast Go.Proofs.YtkjagcamikkjkaaW.PrintMore
attribute [local go_sem] max2_int min2_int max_two min_two max_three min_three max_four min_four
set_option linter.unusedVariables false
set_option linter.unusedSimpArgs false
section
open Go.Maps Go.Sort Go.Shelf Go.Proofs
theorem sortedB_calls {R : Value → Option (DataW Unit × List MemPlace)} {W : World} {B n : Nat} {D : DataW Unit} (hown : W.ownsMap Try.prog 3 R B n D) (hmax : Maps.size D ≤ 17592186044416) : Calls Try.prog 39 #[.func (.func 62) #[] #[.pointer (some ⟨W.heap.size, 0, none⟩)]] (W.alloc (.cells #[.map (some B)] 76)) fun e w' => ∃ (v : Value) (ss : List Int), e = .returned v ∧ ss.Perm (intKeys D) ∧ w'.ownsRow W.heap.size 3 1 v ss.length ((ss.mergeSort (fun x y => decide (x ≤ y))).map (Value.int .i64)) ∧ Below W.heap.size W w' := by
  have hbl := hown.lt
  have hseq : SeqGives Fence.wide 2 Try.prog 62 #[.pointer (some ⟨W.heap.size, 0, none⟩)] encZ (fun ss => ss.Perm (intKeys D)) (Maps.size D) (W.alloc (.cells #[.map (some B)] 76)) :=
    AnyZI.keys_gives (ρ := Try.keysB_ren) { Try.keysB with } Fence.wide _ trivial rfl (by omega) W.heap.size B n D _ (by simp) (by simp) (by
      obtain ⟨es, clock, hb, Ft, hs, hD⟩ := hown
      exact ⟨es, clock, (Below.heap_alloc _ _ B hbl).trans hb, Ft, hs, hD⟩)
  have cS := AnyZI.sorted_in Try.sortedA Fence.wide 5 trivial trivial trivial trivial rfl (by omega) (sorts_h _) (enters_of Try.func29 (by kernel_rfl) rfl) 62 #[.pointer (some ⟨W.heap.size, 0, none⟩)] trivial (enters_of Try.func62 (by kernel_rfl) rfl) _ _ (by unfold maxLen; omega) (by omega) _ hseq
  refine ((callsIn_wide (n := 5)).1 cS).mono ?_
  rintro e w' ⟨v, ss, rfl, hS, hrow, _, hb⟩
  exact ⟨v, ss, rfl, hS, ownsRow_base_a hrow (by simp), ((Below.refl _ W).alloc (Nat.le_refl _) _).trans (hb.mono (by simp))⟩
end
theorem strict_h {l : List Int} (h : l.Nodup) : (l.mergeSort fun x y => decide (x ≤ y)).Pairwise (· < ·) := by
  have tr : ∀ a b c : Int, decide (a ≤ b) = true → decide (b ≤ c) = true → decide (a ≤ c) = true := fun a b c h1 h2 => by simp only [decide_eq_true_eq] at *; omega
  have tt9 : ∀ a b : Int, (decide (a ≤ b) || decide (b ≤ a)) = true := fun a b => by simp only [Bool.or_eq_true, decide_eq_true_eq]; omega
  have h1 := List.pairwise_mergeSort tr tt9 l
  have h2 : (l.mergeSort fun x y => decide (x ≤ y)).Nodup := (List.mergeSort_perm l _).nodup_iff.2 h
  exact (h1.and h2).imp fun h => by
    have h3 := h.1
    have h4 := h.2
    simp only [decide_eq_true_eq] at h3
    omega
theorem sorted_keys {R : Value → Option (DataW Unit × List MemPlace)} {W W' : World} {B n base : Nat} {D : DataW Unit} (hown : W.ownsMap Try.prog 3 R B n D) {v : Value} {ss : List Int} (hp : ss.Perm (Go.intKeys D)) (hrow : W'.ownsRow base 3 1 v ss.length ((ss.mergeSort (fun x y => decide (x ≤ y))).map (Value.int .i64))) :
    Kd.R (Kd.int .i64) 3 W' base (fun _ => True) v (ss.mergeSort fun x y => decide (x ≤ y)) ∧ (ss.mergeSort fun x y => decide (x ≤ y)).Pairwise (· < ·) ∧ ∀ x, x ∈ (ss.mergeSort fun x y => decide (x ≤ y)) ↔ Maps.has D (.int .i64 x) = true := by
  obtain ⟨k1, k2, _⟩ := keys_facts hown
  refine ⟨Kd.R_of_own (by rw [List.length_mergeSort]; exact hrow) (fun _ _ => trivial), strict_h (hp.nodup_iff.2 k1), fun x => ?_⟩
  rw [List.mem_mergeSort, hp.mem_iff, k2]
set_option maxHeartbeats 1600000 in
set_option maxRecDepth 100000 in
theorem hp_Live (w0 : World) (s : HS) (hlast : s.last < 17592186044416) (W : World) (h : HeapAt w0 s W) : Calls Try.prog 13 #[.pointer (some ⟨s.hb, 0, none⟩)] W fun e w' => ∃ (v : Value) (ls : List Int), e = .returned v ∧ Kd.R (Kd.int .i64) 3 w' W.heap.size (fun _ => True) v ls ∧ ls.Pairwise (· < ·) ∧ (∀ x, x ∈ ls ↔ (s.m x).isSome = true) ∧ Below W.heap.size W w' := by
  obtain ⟨ob, rb, h⟩ := h
  have H := Aside0.mk h
  have HL := Aside0.mk hlast
  clear h hlast
  go_enter Try.func13, Try.ntmps13
  go_wp2_with fail
  refine (hp_made w0 s _ ⟨ob, rb, H.out⟩).mono ?_
  rintro e w1 ⟨rfl, hb⟩
  have HB := Aside0.mk hb
  replace H := Aside0.mk (H.out.step hb)
  clear hb
  obtain ⟨f0, f1, f2, f3, f4⟩ := (show HeapAt w0 s w1 from ⟨ob, rb, H.out⟩).cells
  go_wp2_with fail
  refine (keysA_calls s.B _).mono ?_
  rintro e w2 ⟨rfl, rfl⟩
  obtain ⟨D, hD, hD2, _⟩ := H.out.mp
  go_wp2_with fail
  refine (sortedA_calls hD (Nat.le_trans hD.size_le (Nat.le_of_lt HL.out))).mono ?_
  rintro e w3 ⟨v, ss, rfl, hp, hrow, hb⟩
  obtain ⟨r1, r2, r3⟩ := sorted_keys hD hp hrow
  have HR := Aside0.mk (Kd.R_lower r1 HB.out.size)
  have HS2 := Aside0.mk r2
  have HS3 := Aside0.mk (show ∀ x, x ∈ (ss.mergeSort fun x y => decide (x ≤ y)) ↔ (s.m x).isSome = true from fun x => by rw [r3, hD2]; simp)
  have HB3 := Aside0.mk (below_then HB.out HB.out.size hb)
  clear r1 r2 r3 hp hrow hb hD hD2
  go_wp2
  go_ret
  exact ⟨v, _, rfl, HR.out, HS2.out, HS3.out, HB3.out⟩
end Go.Proofs.Ytkjagcamikkjkaa.P

end

section
namespace Go.Proofs.Ytkjagcamikkjkaa.P
open Go.RowKit Go.Proofs.YtkjagcamikkjkaaW.PrintWords Go.Proofs.YtkjagcamikkjkaaW.PrintLast Go.Proofs.YtkjagcamikkjkaaW.PrintMore
attribute [local go_sem] max2_int min2_int max_two min_two max_three min_three max_four min_four
set_option linter.unusedVariables false
set_option linter.unusedSimpArgs false
set_option maxHeartbeats 1600000 in
set_option maxRecDepth 100000 in
theorem hp_Reach (w0 : World) (s : HS) (k : Nat) (A : Option Addr) (c : Nat) (roots : List Int) (res : Option (List Int)) (W : World) (h : HeapAt w0 s W) (hfo : FieldsOK s.l) (hnl : s.last < 4611686018427387904) (hC : (Kd.int .i64).C W A roots.length roots) (hrk : ∀ y ∈ roots, I64 y) (hrl : roots.length < 17592186044416) (hm : markM k s roots = some res) (hml : ∀ met, res = some met → met.length < 17592186044416) :
    Calls Try.prog 20 #[.pointer (some ⟨s.hb, 0, none⟩), .slice A roots.length c] W fun e w' => Below W.heap.size W w' ∧ ((res = none ∧ e = .returned (.tuple #[.slice none 0 0, .int .i64 141])) ∨ ∃ (met : List Int) (v : Value) (ls : List Int), res = some met ∧ e = .returned (.tuple #[v, .int .i64 0]) ∧ Kd.R (Kd.int .i64) 3 w' W.heap.size (fun _ => True) v ls ∧ ls.Pairwise (· < ·) ∧ ∀ x, x ∈ ls ↔ x ∈ met) := by
  have hmn := map_some_neq
  have H := Aside0.mk h
  have HFO := Aside0.mk hfo
  have HNL := Aside0.mk hnl
  have HC := Aside0.mk hC
  have HRK := Aside0.mk hrk
  have HRL := Aside0.mk hrl
  have HMK := Aside0.mk hm
  have HML := Aside0.mk hml
  clear h hfo hnl hC hrk hrl hm hml
  go_enter Try.func20, Try.ntmps20
  go_wp2_with fail
  refine (hp_made w0 s _ H.out).mono ?_
  rintro e w1 ⟨rfl, hb⟩
  have HB := Aside0.mk hb
  replace H := Aside0.mk (show HeapAt w0 s w1 from by obtain ⟨ob, rb, h⟩ := H.out; exact ⟨ob, rb, h.step hb⟩)
  replace HC := Aside0.mk (Kd.C_below HC.out hb)
  clear hb
  go_wp2_with fail
  refine (hp_mark w0 s k A c roots res _ H.out HFO.out HNL.out HC.out HRK.out HRL.out HMK.out).mono ?_
  rintro e w2 ⟨hb, hp⟩
  replace HB := Aside0.mk (below_then HB.out HB.out.size hb)
  have HSZ := Aside0.mk hb.size
  clear hb
  rcases hp with ⟨hres, rfl⟩ | ⟨met, B, hres, rfl, hB, hU⟩
  · go_wp2
    go_ret2
    exact ⟨HB.out, Or.inl ⟨hres, rfl⟩⟩
  · go_wp2_with fail
    refine (keysB_calls B _).mono ?_
    rintro e w3 ⟨rfl, rfl⟩
    obtain ⟨D, hD, hD2⟩ := hU
    go_wp2_with fail
    refine (sortedB_calls hD (Nat.le_trans hD.size_le (Nat.le_of_lt (HML.out met hres)))).mono ?_
    rintro e w3 ⟨v, ss, rfl, hp, hrow, hb⟩
    obtain ⟨r1, r2, r3⟩ := sorted_keys hD hp hrow
    have HR := Aside0.mk (Kd.R_lower r1 HB.out.size)
    have HS2 := Aside0.mk r2
    have HS3 := Aside0.mk (show ∀ x, x ∈ (ss.mergeSort fun x y => decide (x ≤ y)) ↔ x ∈ met from fun x => by rw [r3, hD2]; simp [memH])
    have HB3 := Aside0.mk (below_then HB.out HB.out.size hb)
    clear r1 r2 r3 hp hrow hb hD hD2
    go_wp2
    go_ret2
    exact ⟨HB3.out, Or.inr ⟨met, v, _, hres, rfl, HR.out, HS2.out, HS3.out⟩⟩
def delM (m : Int → Option (Int × List Int)) (x : Int) : Int → Option (Int × List Int) := fun y => if y = x then none else m y
def goC (met : List Int) : HS → Int → List Int → Int × HS
  | s, n, [] => (n, s)
  | s, n, x :: l => if x ∈ met then goC met s n l else goC met { s with m := delM s.m x } (n + ((((s.m x).getD (0, [])).2.length : Int) + 1)) l
theorem PMap.del_has {D : DataW Unit} {g : Int → Option Nat} {x : Int} (h1 : ∀ x, Maps.has D (.int .i64 x) = (g x).isSome) (h2 : ∀ x b, g x = some b → ∀ z, D.atKey (.int .i64 x) z = .lit (.int .i64 (b : Int))) :
    (∀ y, Maps.has (D.del (.int .i64 x)) (.int .i64 y) = (delP g x y).isSome) ∧ (∀ y b, delP g x y = some b → ∀ z, (D.del (.int .i64 x)).atKey (.int .i64 y) z = .lit (.int .i64 (b : Int))) := by
  refine ⟨fun y => ?_, fun y c hy z => ?_⟩
  · unfold delP
    by_cases e : y = x
    · rw [if_pos e, e, Maps.has_del_same]; rfl
    · rw [if_neg e, Maps.has_del_other (fun e' => e (by cases e'; rfl)), h1]
  · unfold delP at hy
    by_cases e : y = x
    · rw [if_pos e] at hy
      cases hy
    · rw [if_neg e] at hy
      rw [Maps.atKey_del_other (fun e' => e (by cases e'; rfl)), h2 y c hy]
theorem pm_delete {ops : Array Oper} {rest : List Oper} {o : Oper} {a : Act} {Q : Exit → Act → World → Prop} (hgd : o.guard = none) {m x : Operand} (ho : o.op = Op.call { callee := Callee.builtin Builtin.delete, args := #[m, x], argTypes := #[48, 3] }) {W : World} {B n : Nat} {g : Int → Option Nat} (hm : a.eval m = .map (some B)) (hown : PMap W B n g) {k : Int} (hx : a.eval x = .int .i64 k) (hk : I64 k)
    (h : ∀ w1, PMap w1 B n (delP g k) → W.grownBy w1 (some B) → wpList Try.prog ops Q rest (a.put o.dst (.tuple #[])) w1) : wpList Try.prog ops Q (o :: rest) a W := by
  obtain ⟨D, h1, h2, h3⟩ := hown
  have hp := PMap.del_has (x := k) h2 h3
  exact wpList_delete_own W hgd m x _ _ ho _ mkeyed Try.underlying48 _ B n D hm h1 _ _ hx (Go.Maps.keyOf_int_mk Try.underlying3 hk.wf) (fun w1 r1 r2 => h w1 ⟨_, r1, hp.1, hp.2⟩ r2.grown)
theorem HeapIn.less {w0 : World} {s : HS} {ob rb : Int → Nat} {W W1 : World} (H : HeapIn w0 s ob rb W) {x : Int} (hmp : PMap W1 s.B s.last (delP (fun y => (s.m y).map fun _ => ob y) x)) (hg : W.grownBy W1 (some s.B)) :
    HeapIn w0 { s with m := delM s.m x } ob rb W1 := by
  have hB : ∀ (g : Nat) (cs : Array Value) (t : Nat), W.heap[g]? = some (.cells cs t (0, 0)) → W1.heap[g]? = some (.cells cs t (0, 0)) := fun g cs t hh => blk_grown hh hg (fun e => H.mp.ne hh (Option.some.inj e).symm)
  have hold : ∀ y o, delM s.m x y = some o → s.m y = some o := fun y o hy => by
    unfold delM at hy
    by_cases e : y = x
    · rw [if_pos e] at hy; cases hy
    · rw [if_neg e] at hy; exact hy
  refine ⟨hB _ _ _ H.hd, ?_, fun y o hy => ⟨hB _ _ _ (H.obj y o (hold y o hy)).1, hB _ _ _ (H.obj y o (hold y o hy)).2⟩, fun y z p q hp hq hyz => H.inj y z p q (hold y p hp) (hold z q hq) hyz, ⟨H.base.1, H.base.2.1, fun y o hy => H.base.2.2 y o (hold y o hy)⟩, Kd.R_mono (Kd.R_grown (Kd.R_bound H.cls) hg (fun k hk e => ?_)) (fun _ h => h.1), fun y o hy => H.dom y o (hold y o hy), H.num, H.below.grown hg H.below.size (fun k hk => by cases hk; exact H.base.2.1), ⟨Nat.le_trans H.keep.1 hg.size, fun k hf => ⟨(H.keep.2 k hf).1, (hg.block k (Nat.lt_of_lt_of_le (H.keep.2 k hf).1 H.keep.1) (fun e => (H.sep k hf).2.1 (Option.some.inj e))).trans (H.keep.2 k hf).2⟩⟩, fun k hf => ⟨(H.sep k hf).1, (H.sep k hf).2.1, fun y q hq => (H.sep k hf).2.2 y q (hold y q hq)⟩⟩
  · have e : (fun y => (delM s.m x y).map fun _ => ob y) = delP (fun y => (s.m y).map fun _ => ob y) x := by
      funext y
      unfold delM delP
      by_cases e : y = x
      · rw [if_pos e, if_pos e]; rfl
      · rw [if_neg e, if_neg e]
    show PMap W1 s.B s.last (fun y => (delM s.m x y).map fun _ => ob y)
    rw [e]
    exact hmp
  · obtain ⟨_, _, _, q, _, cells, hc⟩ := hk
    exact H.mp.ne hc (Option.some.inj e).symm
theorem rising_same {l r : List Int} (hl : l.Pairwise (· < ·)) (hr : r.Pairwise (· < ·)) (h : ∀ x, x ∈ l ↔ x ∈ r) : l = r :=
  List.Perm.eq_of_pairwise (le := fun a b => a < b) (fun a b _ _ h1 h2 => by omega) hl hr ((List.perm_ext_iff_of_nodup (hl.imp fun h => by omega) (hr.imp fun h => by omega)).2 h)
theorem wrap_c {a : Int} (h : 0 ≤ a) (h2 : a ≤ 72057594037927936) : IntKind.i64.wrap a = a := by rw [IntKind.wrap_i64]; omega
set_option maxHeartbeats 1600000 in
set_option maxRecDepth 100000 in
theorem hp_Collect (w0 : World) (s : HS) (k : Nat) (A : Option Addr) (c : Nat) (roots : List Int) (res : Option (List Int)) (lv : List Int) (W : World) (h : HeapAt w0 s W) (hfo : FieldsOK s.l) (hnl : s.last < 17592186044416) (hC : (Kd.int .i64).C W A roots.length roots) (hrk : ∀ y ∈ roots, I64 y) (hrl : roots.length < 17592186044416) (hm : markM k s roots = some res)
    (hls : lv.Pairwise (· < ·)) (hlm : ∀ x, x ∈ lv ↔ (s.m x).isSome = true) (hll : lv.length < 8796093022208) (hcu : ∀ met, res = some met → (goC met s 0 lv).1 ≤ s.used) :
    Calls Try.prog 12 #[.pointer (some ⟨s.hb, 0, none⟩), .slice A roots.length c] W fun e w' => (res = none ∧ e = .returned (.tuple #[.int .i64 0, .int .i64 141]) ∧ Below W.heap.size W w') ∨ ∃ met : List Int, res = some met ∧ e = .returned (.tuple #[.int .i64 (goC met s 0 lv).1, .int .i64 0]) ∧ HeapAt w0 { (goC met s 0 lv).2 with used := s.used - (goC met s 0 lv).1 } w' := by
  have H := Aside0.mk h
  have HFO := Aside0.mk hfo
  have HNL := Aside0.mk hnl
  have HC := Aside0.mk hC
  have HRK := Aside0.mk hrk
  have HRL := Aside0.mk hrl
  have HMK := Aside0.mk hm
  have HLS := Aside0.mk hls
  have HLM := Aside0.mk hlm
  have HLL := Aside0.mk hll
  have HCU := Aside0.mk hcu
  clear h hfo hnl hC hrk hrl hm hls hlm hll hcu
  go_enter Try.func12, Try.ntmps12
  go_wp2_with fail
  refine (hp_made w0 s _ H.out).mono ?_
  rintro e w1 ⟨rfl, hb⟩
  have HB := Aside0.mk hb
  replace H := Aside0.mk (show HeapAt w0 s w1 from by obtain ⟨ob, rb, h⟩ := H.out; exact ⟨ob, rb, h.step hb⟩)
  replace HC := Aside0.mk (Kd.C_below HC.out hb)
  clear hb
  go_wp2_with fail
  refine (hp_mark w0 s k A c roots res _ H.out HFO.out (by have := HNL.out; omega) HC.out HRK.out HRL.out HMK.out).mono ?_
  rintro e w2 ⟨hb, hp⟩
  replace HB := Aside0.mk (below_then HB.out HB.out.size hb)
  obtain ⟨ob, rb, hh⟩ := H.out
  have HBS := Aside0.mk (show s.B < w1.heap.size from hh.mp.lt)
  replace H := Aside0.mk (hh.step hb)
  clear hb hh
  rcases hp with ⟨hres, rfl⟩ | ⟨met, B, hres, rfl, hB, hU⟩
  · go_wp2
    go_ret2
    exact Or.inl ⟨hres, rfl, HB.out⟩
  · have HU := Aside0.mk hU
    have HBN := Aside0.mk (show ¬ B = s.B from by have := HBS.out; omega)
    have HRES := Aside0.mk hres
    have HCM := Aside0.mk (HCU.out met hres)
    clear hU hB hres HBS HCU
    go_wp2_with fail
    refine (hp_Live w0 s HNL.out _ ⟨ob, rb, H.out⟩).mono ?_
    rintro e w3 ⟨v, ls, rfl, hR, hp1, hp2, hb⟩
    obtain rfl : ls = lv := rising_same hp1 HLS.out (fun x => by rw [hp2, HLM.out])
    clear hp1 hp2
    replace H := Aside0.mk (H.out.step hb)
    replace HU := Aside0.mk (HU.out.block (hb.block _ HU.out.lt))
    obtain ⟨A3, c3, e3⟩ := Kd.R_slice hR
    subst e3
    have HR := Aside0.mk hR
    clear hR hb
    have HSZ := Aside0.mk HB.out.size
    go_wp2_with fail
    go_loopw [8, 27] (fun v8 v27 wr => ∃ (j : Nat) (n : Int) (m : Int → Option (Int × List Int)), v27 = .int .i64 (j : Int) ∧ v8 = .int .i64 n ∧ j ≤ ls.length ∧ Aside0 (0 ≤ n ∧ n ≤ 4097 * (j : Int)) ∧ Aside0 (HeapIn w0 { s with m := m } ob rb wr) ∧ Aside0 (UMap wr B met.length (memH met)) ∧ Aside0 (Kd.R (Kd.int .i64) 3 wr w2.heap.size (fun _ => True) (.slice A3 ls.length c3) ls) ∧ Aside0 (∀ y ∈ ls.drop j, m y = s.m y) ∧ Aside0 (goC met s 0 ls = goC met { s with m := m } n (ls.drop j))) (fun _ v27 _ => ((ls.length : Int) - intOf v27).toNat)
    case atStart => exact ⟨0, 0, s.m, rfl, rfl, Nat.zero_le _, ⟨by omega, by omega⟩, H, HU, HR, ⟨fun _ _ => rfl⟩, ⟨rfl⟩⟩
    case round =>
      rename_i wr
      clear H HU HR
      obtain ⟨j, n, m, rfl, rfl, hj, HN, H, HU, HR, HSAME, HGO⟩ := hrel
      by_cases c1 : j < ls.length
      · obtain ⟨x, hx⟩ : ∃ x, x = rd ls (j : Int) := ⟨_, rfl⟩
        obtain ⟨ad, e1, hxa⟩ := Kd.at_int (Kd.R_reads' HR.out).2.2 (j : Int) (by omega) (by omega)
        cases e1
        rw [← hx, Int.toNat_natCast] at hxa
        have hdr : ls.drop j = x :: ls.drop (j + 1) := by rw [List.drop_eq_getElem_cons c1, hx]; unfold rd; rw [Int.toNat_natCast, List.getD_eq_getElem?_getD, List.getElem?_eq_getElem c1]; rfl
        have hxm : x ∈ ls := List.drop_subset j ls (by rw [hdr]; exact List.mem_cons_self)
        obtain ⟨o, hso⟩ : ∃ o, s.m x = some o := Option.isSome_iff_exists.1 ((HLM.out x).1 hxm)
        have hmx : m x = some o := by rw [HSAME.out x (by rw [hdr]; exact List.mem_cons_self)]; exact hso
        have HSM : Aside0 (({ s with m := m } : HS).m x = some o) := ⟨hmx⟩
        have HSN := Aside0.mk hmx
        have hdm := H.out.dom x o hmx
        have HK : Aside0 (I64 x) := ⟨by have h1 := hdm.1; have h2 := hdm.2.1; have h3 := HNL.out; change x ≤ (s.last : Int) at h2; unfold I64; omega⟩
        have hol := hdm.2.2.1
        have hgo := HGO.out
        rw [hdr] at hgo
        have hnd : ∀ y ∈ ls.drop (j + 1), ¬ y = x := by
          have h1 : (ls.drop j).Pairwise (· < ·) := HLS.out.drop
          rw [hdr, List.pairwise_cons] at h1
          intro y hy e
          have := h1.1 y hy
          omega
        have HSM1 := Aside0.mk (show ∀ y ∈ ls.drop (j + 1), m y = s.m y from fun y hy => HSAME.out y (by rw [hdr]; exact List.mem_cons_of_mem _ hy))
        have HSM2 := Aside0.mk (show ∀ y ∈ ls.drop (j + 1), delM m x y = s.m y from fun y hy => by unfold delM; rw [if_neg (hnd y hy)]; exact HSM1.out y hy)
        have HW := Aside0.mk (wrap_h c1 (by have := HLL.out; omega))
        have HLO := Aside0.mk (show (0 : Int) ≤ (o.2.length : Int) ∧ (o.2.length : Int) ≤ 4096 by omega)
        have hw1 : IntKind.i64.wrap ((o.2.length : Int) + 1) = (o.2.length : Int) + 1 := wrap_c (by omega) (by omega)
        have hw2 : IntKind.i64.wrap (n + ((o.2.length : Int) + 1)) = n + ((o.2.length : Int) + 1) := wrap_c (by have := HN.out; omega) (by have := HN.out; have := HLL.out; omega)
        have c1b : decide ((j : Int) < (ls.length : Int)) = true := decide_eq_true (by omega)
        have c1c : decide (j < ls.length) = true := decide_eq_true c1
        have p5 : (0 ≤ (j : Int)) = True := eq_true (by omega)
        have p6 : ((j : Int) < (ls.length : Int)) = True := eq_true (by omega)
        have HJ := Aside0.mk c1
        have f4 := blk_cell H.out.hd 4
        have g1 := blk_cell (H.out.obj x o HSM.out).1 1
        simp only [HS.cell, List.getElem?_toArray, List.getElem?_cons_zero, List.getElem?_cons_succ] at f4 g1
        simp only [goC] at hgo
        clear hx hdr c1 HSAME hmx hso hdm hol hnd hxm HGO
        by_cases cm : x ∈ met
        · rw [if_pos cm] at hgo
          have HGO := Aside0.mk hgo
          have HMB := Aside0.mk (show memH met x = true from decide_eq_true cm)
          clear hgo cm
          go_wp2_with (first | ((with_reducible refine gate_dst (N := 34) rfl ?_); refine um_look rfl rfl rfl HU.out rfl HK.out ?_; rw [HMB.out]) | ((with_reducible refine gate_dst (N := 11) rfl ?_); refine rw_allocH rfl 79 rfl (cs := #[]) (by kernel_rfl) (Rws.nil _) ?_; intro b5 w_ hX hb9; have hU5 := blk_cell (hX.mem List.mem_cons_self) 0; replace H := Aside0.mk (H.out.step hb9); replace HU := Aside0.mk (HU.out.block (hb9.block _ HU.out.lt)); replace HR := Aside0.mk (Kd.R_below HR.out hb9); clear hX hb9 f4 g1; have f4 := blk_cell H.out.hd 4; have g1 := blk_cell (H.out.obj x o HSM.out).1 1; simp only [HS.cell, List.getElem?_toArray, List.getElem?_cons_zero, List.getElem?_cons_succ] at f4 g1) | ((with_reducible refine gate_dst (N := 45) rfl ?_); refine pm_look rfl rfl rfl H.out.mp rfl HK.out ?_; (try dsimp only); rw [HSN.out]; simp only [Option.map_none, Option.map_some]) | (at_delete; refine pm_delete rfl rfl rfl H.out.mp rfl HK.out ?_; intro w9 hp9 hg9; have HX9 := Aside0.mk (H.out.less hp9 hg9); replace HR := Aside0.mk (Kd.R_mono (Kd.R_grown (Kd.R_bound HR.out) hg9 (fun k hk e => by obtain ⟨_, _, _, q, _, cells, hc⟩ := hk; exact H.out.mp.ne hc (Option.some.inj e).symm)) (fun _ _ => trivial)); replace HU := Aside0.mk (HU.out.block (hg9.block _ HU.out.lt (fun e => HBN.out (Option.some.inj e)))); replace H := HX9; clear HX9 hp9 hg9 f4 g1))
          go_roundw
          case rel => exact ⟨j + 1, n, m, (by rw [HW.out]), rfl, HJ.out, ⟨HN.out.1, (by have := HN.out.2; omega)⟩, H, HU, HR, HSM1, HGO⟩
          case measure => exact meas_h HJ.out HW.out
        · rw [if_neg cm] at hgo
          have HGO := Aside0.mk hgo
          have HMB := Aside0.mk (show memH met x = false from decide_eq_false cm)
          clear hgo cm
          go_wp2_with (first | ((with_reducible refine gate_dst (N := 34) rfl ?_); refine um_look rfl rfl rfl HU.out rfl HK.out ?_; rw [HMB.out]) | ((with_reducible refine gate_dst (N := 11) rfl ?_); refine rw_allocH rfl 79 rfl (cs := #[]) (by kernel_rfl) (Rws.nil _) ?_; intro b5 w_ hX hb9; have hU5 := blk_cell (hX.mem List.mem_cons_self) 0; replace H := Aside0.mk (H.out.step hb9); replace HU := Aside0.mk (HU.out.block (hb9.block _ HU.out.lt)); replace HR := Aside0.mk (Kd.R_below HR.out hb9); clear hX hb9 f4 g1; have f4 := blk_cell H.out.hd 4; have g1 := blk_cell (H.out.obj x o HSM.out).1 1; simp only [HS.cell, List.getElem?_toArray, List.getElem?_cons_zero, List.getElem?_cons_succ] at f4 g1) | ((with_reducible refine gate_dst (N := 45) rfl ?_); refine pm_look rfl rfl rfl H.out.mp rfl HK.out ?_; (try dsimp only); rw [HSN.out]; simp only [Option.map_none, Option.map_some]) | (at_delete; refine pm_delete rfl rfl rfl H.out.mp rfl HK.out ?_; intro w9 hp9 hg9; have HX9 := Aside0.mk (H.out.less hp9 hg9); replace HR := Aside0.mk (Kd.R_mono (Kd.R_grown (Kd.R_bound HR.out) hg9 (fun k hk e => by obtain ⟨_, _, _, q, _, cells, hc⟩ := hk; exact H.out.mp.ne hc (Option.some.inj e).symm)) (fun _ _ => trivial)); replace HU := Aside0.mk (HU.out.block (hg9.block _ HU.out.lt (fun e => HBN.out (Option.some.inj e)))); replace H := HX9; clear HX9 hp9 hg9 f4 g1))
          go_roundw
          case rel => exact ⟨j + 1, n + ((o.2.length : Int) + 1), delM m x, (by rw [HW.out]), (by first | rfl | (simp; done)), HJ.out, ⟨(by have h1 := HN.out; have h2 := HLO.out; constructor <;> omega)⟩, H, HU, HR, HSM2, ⟨(by have e := HGO.out; simp only [HSN.out, Option.getD_some] at e; exact e)⟩⟩
          case measure => exact meas_h HJ.out HW.out
      · have c1b : decide ((j : Int) < (ls.length : Int)) = false := decide_eq_false (by omega)
        have c1c : decide (j < ls.length) = false := decide_eq_false c1
        have hgo := HGO.out
        rw [List.drop_eq_nil_of_le (by omega)] at hgo
        simp only [goC] at hgo
        have HGO2 := Aside0.mk hgo
        have hcm := HCM.out
        rw [hgo] at hcm
        have HNU := Aside0.mk (show n ≤ s.used from hcm)
        have HNM := Aside0.mk (show 0 ≤ s.used ∧ s.used ≤ s.room ∧ s.room ≤ 4096 from H.out.num)
        have hw1 : IntKind.i64.wrap (s.used - n) = s.used - n := wrap_c (by have := HNU.out; omega) (by have := HNM.out; have := HN.out.1; omega)
        have f2 := blk_cell H.out.hd 2
        simp only [HS.cell, List.getElem?_toArray, List.getElem?_cons_zero, List.getElem?_cons_succ] at f2
        clear hgo hcm c1 HGO hj HSAME
        go_wp2_with ((with_reducible refine gate_store (t := 3) (p := 65) rfl ?_); refine head_store rfl rfl 2 rfl rfl H.out (by decide) { s with m := m, used := s.used - n } rfl rfl rfl rfl rfl rfl rfl rfl (Nat.le_refl _) (by have h1 := HNU.out; have h2 := HNM.out; have h3 := HN.out.1; exact ⟨by show 0 ≤ s.used - n; omega, by show s.used - n ≤ s.room; omega, h2.2.2⟩) ?_; intro w9 ho hk; have HZ := Aside0.mk ho; clear ho hk f2)
        go_ret2
        exact Or.inr ⟨met, HRES.out, (by rw [HGO2.out]; rfl), (by rw [HGO2.out]; exact ⟨ob, rb, HZ.out⟩)⟩
end Go.Proofs.Ytkjagcamikkjkaa.P

end

section
namespace Go.Proofs.Ytkjagcamikkjkaa.P
open Go.RowKit Go.Proofs.YtkjagcamikkjkaaW.PrintWords Go.Proofs.YtkjagcamikkjkaaW.PrintLast Go.Proofs.YtkjagcamikkjkaaW.PrintMore
attribute [local go_sem] max2_int min2_int max_two min_two max_three min_three max_four min_four
set_option linter.unusedVariables false
set_option linter.unusedSimpArgs false
def cutM (met : List Int) (l : List Int) (m : Int → Option (Int × List Int)) : Int → Option (Int × List Int) := fun y => if y ∈ l ∧ y ∉ met then none else m y
theorem goC_s (met : List Int) : ∀ (l : List Int) (s : HS) (n : Int), (goC met s n l).2 = { s with m := cutM met l s.m }
  | [], s, n => by
    have : cutM met [] s.m = s.m := by funext y; unfold cutM; simp
    unfold goC; rw [this]
  | x :: l, s, n => by
    unfold goC
    split
    · rename_i h
      rw [goC_s met l s n]
      have : cutM met (x :: l) s.m = cutM met l s.m := by
        funext y
        unfold cutM
        by_cases e : y = x
        · subst e; simp [h]
        · simp [e]
      rw [this]
    · rename_i h
      rw [goC_s met l _ _]
      have : cutM met l (delM s.m x) = cutM met (x :: l) s.m := by
        funext y
        unfold cutM delM
        by_cases e : y = x
        · subst e; simp [h]
        · simp [e]
      show ({ s with m := cutM met l (delM s.m x) } : HS) = _
      rw [this]
def costO (m : Int → Option (Int × List Int)) (x : Int) : Int := (((m x).getD (0, [])).2.length : Int) + 1
def costL (m : Int → Option (Int × List Int)) : List Int → Int
  | [] => 0
  | x :: l => costO m x + costL m l
theorem costO_pos (m : Int → Option (Int × List Int)) (x : Int) : 1 ≤ costO m x := by unfold costO; omega
theorem costL_nonneg (m : Int → Option (Int × List Int)) : ∀ l, 0 ≤ costL m l
  | [] => Int.le_refl _
  | x :: l => by have := costL_nonneg m l; have := costO_pos m x; unfold costL; omega
theorem costL_len (m : Int → Option (Int × List Int)) : ∀ l : List Int, (l.length : Int) ≤ costL m l
  | [] => Int.le_refl _
  | x :: l => by have := costL_len m l; have := costO_pos m x; unfold costL; simp only [List.length_cons]; omega
theorem costL_congr {m m' : Int → Option (Int × List Int)} : ∀ {l : List Int}, (∀ x ∈ l, costO m x = costO m' x) → costL m l = costL m' l
  | [], _ => rfl
  | x :: l, h => by
    unfold costL
    rw [h x List.mem_cons_self, costL_congr (fun y hy => h y (List.mem_cons_of_mem _ hy))]
theorem costL_append (m : Int → Option (Int × List Int)) : ∀ a b : List Int, costL m (a ++ b) = costL m a + costL m b
  | [], b => by simp [costL]
  | x :: a, b => by
    have := costL_append m a b
    simp only [List.cons_append, costL, this]
    omega
theorem costL_split (m : Int → Option (Int × List Int)) (p : Int → Bool) : ∀ l : List Int, costL m l = costL m (l.filter p) + costL m (l.filter fun x => !p x)
  | [] => rfl
  | x :: l => by
    have := costL_split m p l
    cases hp : p x <;> simp [hp, costL, this] <;> omega
theorem goC_n (met : List Int) : ∀ (l : List Int) (s : HS) (n : Int), l.Nodup → (goC met s n l).1 = n + costL s.m (l.filter fun x => !memH met x)
  | [], s, n, _ => by simp [goC, costL]
  | x :: l, s, n, hn => by
    obtain ⟨h1, h2⟩ := List.nodup_cons.1 hn
    unfold goC
    split
    · rename_i h
      rw [goC_n met l s n h2]
      have : memH met x = true := decide_eq_true h
      simp [this]
    · rename_i h
      have hb : memH met x = false := decide_eq_false h
      rw [goC_n met l _ _ h2]
      simp only [List.filter_cons, hb, Bool.not_false, if_true, costL]
      have : costL (delM s.m x) (l.filter fun y => !memH met y) = costL s.m (l.filter fun y => !memH met y) := costL_congr (fun y hy => by
        have hy := (List.mem_filter.1 hy).1
        unfold costO delM
        rw [if_neg (show ¬ y = x from fun e => h1 (e ▸ hy))])
      rw [this]
      unfold costO
      omega
def liveL (s : HS) : List Int := ((List.range s.last).map fun i : Nat => (i : Int) + 1).filter fun x => (s.m x).isSome
theorem range_rising : ∀ (n k : Nat), ((List.range' k n).map fun i : Nat => (i : Int) + 1).Pairwise (· < ·)
  | 0, k => by simp
  | n + 1, k => by
    rw [List.range'_succ, List.map_cons, List.pairwise_cons]
    refine ⟨fun y hy => ?_, range_rising n (k + 1)⟩
    obtain ⟨i, hi, rfl⟩ := List.mem_map.1 hy
    have := (List.mem_range'_1.1 hi).1
    omega
theorem liveL_rising (s : HS) : (liveL s).Pairwise (· < ·) := by
  unfold liveL
  rw [List.range_eq_range']
  exact (range_rising s.last 0).filter _
theorem liveL_mem {s : HS} (hd : ∀ x o, s.m x = some o → 1 ≤ x ∧ x ≤ (s.last : Int)) (x : Int) : x ∈ liveL s ↔ (s.m x).isSome = true := by
  unfold liveL
  rw [List.mem_filter]
  refine ⟨fun h => h.2, fun h => ⟨?_, h⟩⟩
  obtain ⟨o, ho⟩ := Option.isSome_iff_exists.1 h
  have := hd x o ho
  refine List.mem_map.2 ⟨(x - 1).toNat, List.mem_range.2 (by omega), by omega⟩
theorem rising_nodup {l : List Int} (h : l.Pairwise (· < ·)) : l.Nodup := h.imp fun h => by omega
def SumOK (s : HS) : Prop := (∀ x o, s.m x = some o → 1 ≤ x ∧ x ≤ (s.last : Int)) ∧ s.used = costL s.m (liveL s)
theorem SumOK.collect_le {s : HS} (h : SumOK s) (met : List Int) : (goC met s 0 (liveL s)).1 ≤ s.used := by
  rw [goC_n met _ s 0 (rising_nodup (liveL_rising s)), h.2, costL_split s.m (fun x => memH met x) (liveL s)]
  have := costL_nonneg s.m ((liveL s).filter fun x => memH met x)
  omega
theorem SumOK.add {s : HS} (h : SumOK s) (c n : Int) (hn : 0 ≤ n) : SumOK (addM s c n).2.2 := by
  unfold addM
  split
  · exact h
  · refine ⟨fun x o hx => ?_, ?_⟩
    · change updM s.m ((s.last : Int) + 1) (c, List.replicate n.toNat 0) x = some o at hx
      show 1 ≤ x ∧ x ≤ ((s.last + 1 : Nat) : Int)
      unfold updM at hx
      split at hx
      · omega
      · have := h.1 x o hx; omega
    · show s.used + (n + 1) = _
      have hnone : s.m ((s.last : Int) + 1) = none := by
        cases hm : s.m ((s.last : Int) + 1) with
        | none => rfl
        | some o => have := h.1 _ o hm; omega
      have hl : liveL { s with used := s.used + (n + 1), last := s.last + 1, m := updM s.m ((s.last : Int) + 1) (c, List.replicate n.toNat 0) } = liveL s ++ [(s.last : Int) + 1] := by
        unfold liveL
        simp only [List.range_succ, List.map_append, List.map_cons, List.map_nil, List.filter_append]
        congr 1
        · refine List.filter_congr (fun x hx => ?_)
          obtain ⟨i, hi, rfl⟩ := List.mem_map.1 hx
          have := List.mem_range.1 hi
          unfold updM
          rw [if_neg (by omega)]
        · simp [updM]
      show s.used + (n + 1) = costL _ (liveL { s with used := s.used + (n + 1), last := s.last + 1, m := updM s.m ((s.last : Int) + 1) (c, List.replicate n.toNat 0) })
      rw [hl, costL_append]
      have h1 : costL (updM s.m ((s.last : Int) + 1) (c, List.replicate n.toNat 0)) (liveL s) = costL s.m (liveL s) := costL_congr (fun x hx => by
        unfold costO updM
        rw [if_neg]
        intro e
        have hx := (liveL_mem h.1 x).1 hx
        rw [e, hnone] at hx
        cases hx)
      show s.used + (n + 1) = costL (updM s.m ((s.last : Int) + 1) (c, List.replicate n.toNat 0)) (liveL s) + costL (updM s.m ((s.last : Int) + 1) (c, List.replicate n.toNat 0)) [(s.last : Int) + 1]
      rw [h1, ← h.2]
      simp [costL, costO, updM]
      omega
theorem setNum_some {m : Int → Option (Int × List Int)} {x i v : Int} (y : Int) : (setNum m x i v y).isSome = (m y).isSome := by
  unfold setNum
  split
  · rename_i e; rw [e]; simp
  · rfl
theorem setNum_cost {m : Int → Option (Int × List Int)} {x i v : Int} (y : Int) : costO (setNum m x i v) y = costO m y := by
  unfold costO setNum
  split
  · rename_i e
    rw [e]
    cases m x with
    | none => rfl
    | some o => simp
  · rfl
theorem SumOK.put {s : HS} (h : SumOK s) (x i v : Int) : SumOK (putM s x i v).2 := by
  unfold putM
  split
  · split
    · exact h
    · refine ⟨fun y o hy => ?_, ?_⟩
      · have : (s.m y).isSome = true := by rw [← setNum_some (x := x) (i := i) (v := v)]; exact Option.isSome_iff_exists.2 ⟨o, hy⟩
        obtain ⟨o', ho⟩ := Option.isSome_iff_exists.1 this
        exact h.1 y o' ho
      · show s.used = costL (setNum s.m x i v) (liveL { s with m := setNum s.m x i v })
        have hl : liveL { s with m := setNum s.m x i v } = liveL s := by
          unfold liveL
          exact List.filter_congr (fun y _ => setNum_some y)
        rw [hl, h.2]
        exact costL_congr (fun y _ => (setNum_cost y).symm)
  · exact h
def colS (s : HS) (met : List Int) : HS := { (goC met s 0 (liveL s)).2 with used := s.used - (goC met s 0 (liveL s)).1 }
theorem colS_m {s : HS} (hd : ∀ x o, s.m x = some o → 1 ≤ x ∧ x ≤ (s.last : Int)) (met : List Int) (y : Int) : (colS s met).m y = if y ∈ met then s.m y else none := by
  unfold colS
  rw [goC_s]
  show cutM met (liveL s) s.m y = _
  unfold cutM
  by_cases h : y ∈ met
  · simp [h]
  · rw [if_neg h]
    split
    · rfl
    · rename_i h2
      have : y ∉ liveL s := fun h3 => h2 ⟨h3, h⟩
      rw [liveL_mem hd] at this
      cases hm : s.m y with
      | none => rfl
      | some o => rw [hm] at this; exact absurd rfl this
theorem colS_eq (s : HS) (met : List Int) : colS s met = { s with m := cutM met (liveL s) s.m, used := s.used - (goC met s 0 (liveL s)).1 } := by
  unfold colS
  rw [goC_s]
theorem SumOK.collect {s : HS} (h : SumOK s) (met : List Int) : SumOK (colS s met) := by
  have hl : liveL (colS s met) = (liveL s).filter fun x => memH met x := by
    refine rising_same (liveL_rising _) ((liveL_rising s).filter _) (fun x => ?_)
    rw [List.mem_filter, liveL_mem h.1, liveL_mem (s := colS s met) (fun x o hx => by
      rw [colS_m h.1] at hx
      split at hx
      · have := h.1 x o hx; rw [colS_eq]; exact this
      · cases hx), colS_m h.1]
    unfold memH
    by_cases hm : x ∈ met <;> simp [hm]
  refine ⟨fun x o hx => ?_, ?_⟩
  · rw [colS_m h.1] at hx
    split at hx
    · have := h.1 x o hx; rw [colS_eq]; exact this
    · cases hx
  · rw [hl]
    have e : (colS s met).used = s.used - (goC met s 0 (liveL s)).1 := rfl
    rw [e, goC_n met _ s 0 (rising_nodup (liveL_rising s)), h.2, costL_split s.m (fun x => memH met x) (liveL s)]
    have h1 : costL (colS s met).m ((liveL s).filter fun x => memH met x) = costL s.m ((liveL s).filter fun x => memH met x) := costL_congr (fun x hx => by
      have hx : x ∈ met := of_decide_eq_true (List.mem_filter.1 hx).2
      unfold costO
      rw [colS_m h.1, if_pos hx])
    rw [h1]
    omega
end Go.Proofs.Ytkjagcamikkjkaa.P

end

section
namespace Go.Proofs.Ytkjagcamikkjkaa.P
open Go.RowKit Go.Proofs.YtkjagcamikkjkaaW.PrintWords Go.Proofs.YtkjagcamikkjkaaW.PrintLast Go.Proofs.YtkjagcamikkjkaaW.PrintMore
attribute [local go_sem] max2_int min2_int max_two min_two max_three min_three max_four min_four
set_option linter.unusedVariables false
set_option linter.unusedSimpArgs false
def SuccM (s : HS) (x v : Int) : Prop := ∃ (o : Int × List Int) (i : Nat), s.m x = some o ∧ 0 ≤ o.1 ∧ i < (fieldsL s.l o.1).length ∧ isRefH (rd_T29 (fieldsL s.l o.1) (i : Int)).f1 = true ∧ v = o.2.getD i 0 ∧ (s.m v).isSome = true
theorem nodup_le : ∀ {l r : List Int}, l.Nodup → (∀ x ∈ l, x ∈ r) → l.length ≤ r.length
  | [], _, _, _ => Nat.zero_le _
  | x :: l, r, hn, hs => by
    obtain ⟨h1, h2⟩ := List.nodup_cons.1 hn
    have hx := hs x List.mem_cons_self
    have h3 := nodup_le (l := l) (r := r.erase x) h2 (fun y hy => (List.mem_erase_of_ne (show y ≠ x from fun e => h1 (e ▸ hy))).2 (hs y (List.mem_cons_of_mem _ hy)))
    have h4 := List.length_erase_of_mem hx
    have h5 := List.length_pos_of_mem hx
    simp only [List.length_cons]
    omega
structure StOK (s : HS) (st : List Int × List Int) : Prop where
  n1 : st.1.Nodup
  n2 : st.2.Nodup
  sub : ∀ x ∈ st.2, x ∈ st.1
  live : ∀ x ∈ st.1, (s.m x).isSome = true
theorem nodup_snoc {l : List Int} {x : Int} (h : l.Nodup) (hx : x ∉ l) : (l ++ [x]).Nodup := by
  rw [List.nodup_append]
  exact ⟨h, by simp, fun a ha b hb e => hx (by rw [List.mem_singleton.1 hb] at e; exact e ▸ ha)⟩
theorem meetM_ok {s : HS} {st : List Int × List Int} (h : StOK s st) (x : Int) : StOK s (meetM s st x) := by
  unfold meetM
  split
  · rename_i c
    refine ⟨nodup_snoc h.n1 c.2, nodup_snoc h.n2 (fun hx => c.2 (h.sub x hx)), fun y hy => ?_, fun y hy => ?_⟩
    · rcases List.mem_append.1 hy with hy | hy
      · exact List.mem_append_left _ (h.sub y hy)
      · exact List.mem_append_right _ hy
    · rcases List.mem_append.1 hy with hy | hy
      · exact h.live y hy
      · rw [List.mem_singleton.1 hy]; exact c.1
  · exact h
theorem meetM_mem {s : HS} {st : List Int × List Int} (x y : Int) : y ∈ (meetM s st x).1 ↔ y ∈ st.1 ∨ (y = x ∧ (s.m x).isSome = true) := by
  unfold meetM
  split
  · rename_i c
    rw [List.mem_append, List.mem_singleton]
    exact ⟨fun h => h.imp id (fun e => ⟨e, c.1⟩), fun h => h.imp id And.left⟩
  · rename_i c
    refine ⟨.inl, fun h => h.elim id (fun ⟨e, h2⟩ => ?_)⟩
    rw [e]
    exact Classical.byContradiction fun hn => c ⟨h2, hn⟩
theorem meetM_shut {s : HS} {st : List Int × List Int} (x y : Int) (h1 : y ∈ (meetM s st x).1) (h2 : y ∉ (meetM s st x).2) : y ∈ st.1 ∧ y ∉ st.2 := by
  unfold meetM at h1 h2
  split at h1
  · rename_i c
    rw [if_pos c] at h2
    rcases List.mem_append.1 h1 with h | h
    · exact ⟨h, fun h3 => h2 (List.mem_append_left _ h3)⟩
    · exact absurd (List.mem_append_right _ h) h2
  · rename_i c
    rw [if_neg c] at h2
    exact ⟨h1, h2⟩
theorem meetM_count {s : HS} {st : List Int × List Int} (x : Int) : (meetM s st x).1.length + st.2.length = st.1.length + (meetM s st x).2.length := by
  unfold meetM
  split
  · simp only [List.length_append, List.length_singleton]; omega
  · rfl
theorem meetAll_ok {s : HS} {fl : List S29} {nums : List Int} {st : List Int × List Int} (h : StOK s st) : ∀ i, StOK s (meetAll s fl nums i st)
  | 0 => h
  | i + 1 => by
    unfold meetAll
    split
    · exact meetM_ok (meetAll_ok h i) _
    · exact meetAll_ok h i
theorem meetAll_mem {s : HS} {fl : List S29} {nums : List Int} {st : List Int × List Int} (y : Int) : ∀ i, y ∈ (meetAll s fl nums i st).1 ↔ y ∈ st.1 ∨ ∃ j, j < i ∧ isRefH (rd_T29 fl (j : Int)).f1 = true ∧ y = nums.getD j 0 ∧ (s.m y).isSome = true
  | 0 => ⟨.inl, fun h => h.elim id (fun ⟨j, hj, _⟩ => absurd hj (Nat.not_lt_zero _))⟩
  | i + 1 => by
    have ih := meetAll_mem (s := s) (fl := fl) (nums := nums) (st := st) y i
    unfold meetAll
    split
    · rename_i c
      rw [meetM_mem, ih]
      constructor
      · rintro ((h | ⟨j, h1, h2⟩) | ⟨h1, h2⟩)
        · exact .inl h
        · exact .inr ⟨j, by omega, h2⟩
        · exact .inr ⟨i, by omega, c, h1, by rw [h1]; exact h2⟩
      · rintro (h | ⟨j, h1, h2, h3, h4⟩)
        · exact .inl (.inl h)
        · by_cases e : j = i
          · subst e; exact .inr ⟨h3, by rw [← h3]; exact h4⟩
          · exact .inl (.inr ⟨j, by omega, h2, h3, h4⟩)
    · rename_i c
      rw [ih]
      constructor
      · rintro (h | ⟨j, h1, h2⟩)
        · exact .inl h
        · exact .inr ⟨j, by omega, h2⟩
      · rintro (h | ⟨j, h1, h2, h3⟩)
        · exact .inl h
        · by_cases e : j = i
          · subst e; exact absurd h2 c
          · exact .inr ⟨j, by omega, h2, h3⟩
theorem meetAll_shut {s : HS} {fl : List S29} {nums : List Int} {st : List Int × List Int} (y : Int) : ∀ i, y ∈ (meetAll s fl nums i st).1 → y ∉ (meetAll s fl nums i st).2 → y ∈ st.1 ∧ y ∉ st.2
  | 0 => fun h1 h2 => ⟨h1, h2⟩
  | i + 1 => by
    unfold meetAll
    split
    · intro h1 h2
      obtain ⟨h3, h4⟩ := meetM_shut _ y h1 h2
      exact meetAll_shut y i h3 h4
    · exact meetAll_shut y i
theorem meetAll_count {s : HS} {fl : List S29} {nums : List Int} {st : List Int × List Int} : ∀ i, (meetAll s fl nums i st).1.length + st.2.length = st.1.length + (meetAll s fl nums i st).2.length
  | 0 => rfl
  | i + 1 => by
    have ih := meetAll_count (s := s) (fl := fl) (nums := nums) (st := st) i
    unfold meetAll
    split
    · have := meetM_count (s := s) (st := meetAll s fl nums i st) (nums.getD i 0)
      omega
    · exact ih
theorem last_split {l : List Int} (h : ¬ l.length = 0) : l = l.dropLast ++ [l.getD (l.length - 1) 0] := by
  have hne : l ≠ [] := fun e => h (by rw [e]; rfl)
  conv => lhs; rw [← List.dropLast_concat_getLast hne]
  congr 2
  rw [List.getLast_eq_getElem, List.getD_eq_getElem?_getD, List.getElem?_eq_getElem (by omega)]
  rfl
theorem markGo_tells (s : HS) (N : Nat) (hN : ∀ l : List Int, l.Nodup → (∀ x ∈ l, (s.m x).isSome = true) → l.length ≤ N) (hN2 : N < 8796093022208) :
    ∀ (k : Nat) (st : List Int × List Int), StOK s st → (∀ x ∈ st.1, x ∉ st.2 → ∀ v, SuccM s x v → v ∈ st.1) → N - st.1.length + st.2.length < k →
      ∃ r, markGo s k st = some r ∧ r.Nodup ∧ (∀ x ∈ r, (s.m x).isSome = true) ∧ (∀ x ∈ st.1, x ∈ r) ∧ (∀ x ∈ r, ∀ v, SuccM s x v → v ∈ r) ∧ ∀ P : Int → Prop, (∀ x ∈ st.1, P x) → (∀ x v, P x → SuccM s x v → P v) → ∀ x ∈ r, P x
  | 0, _, _, _, h => absurd h (Nat.not_lt_zero _)
  | k + 1, st, hok, hcl, hk => by
    unfold markGo
    by_cases h0 : st.2.length = 0
    · rw [if_pos h0]
      have e : st.2 = [] := List.eq_nil_of_length_eq_zero h0
      exact ⟨st.1, rfl, hok.n1, hok.live, fun _ h => h, fun x hx v hv => hcl x hx (by rw [e]; simp) v hv, fun P h1 _ x hx => h1 x hx⟩
    · rw [if_neg h0]
      have hsp := last_split h0
      obtain ⟨z, hz⟩ : ∃ z, z = st.2.getD (st.2.length - 1) 0 := ⟨_, rfl⟩
      rw [← hz] at hsp ⊢
      obtain ⟨q, hq⟩ : ∃ q, q = st.2.dropLast := ⟨_, rfl⟩
      rw [← hq] at hsp ⊢
      have hz2 : z ∈ st.2 := by rw [hsp]; simp
      have hz1 := hok.sub z hz2
      obtain ⟨o, ho⟩ := Option.isSome_iff_exists.1 (hok.live z hz1)
      have hql : st.2.length = q.length + 1 := by rw [hsp]; simp
      have hm1 := hN st.1 hok.n1 hok.live
      have hm2 := hN st.2 hok.n2 (fun x hx => hok.live x (hok.sub x hx))
      have hfit : (fitM st.1.length && fitM st.2.length) = true := by
        unfold fitM
        rw [decide_eq_true (by omega), decide_eq_true (by omega)]
        rfl
      have hqn : q.Nodup ∧ z ∉ q := by
        have := hok.n2
        rw [hsp, List.nodup_append] at this
        exact ⟨this.1, fun hh => this.2.2 z hh z (by simp) rfl⟩
      have hok' : StOK s (st.1, q) := ⟨hok.n1, hqn.1, fun x hx => hok.sub x (by rw [hsp]; exact List.mem_append_left _ hx), hok.live⟩
      rw [ho]
      simp only [hfit, if_true]
      by_cases hc : o.1 < 0
      · rw [if_pos hc]
        obtain ⟨r, h1, h2, h3, h4, h5, h6⟩ := markGo_tells s N hN hN2 k (st.1, q) hok' (fun x hx hxq v hv => by
          by_cases e : x = z
          · obtain ⟨o', i, ho', hc', _⟩ := hv
            rw [e, ho] at ho'
            cases ho'
            omega
          · exact hcl x hx (fun hh => by rw [hsp] at hh; rcases List.mem_append.1 hh with hh | hh; exact hxq hh; exact e (List.mem_singleton.1 hh)) v hv) (by show N - st.1.length + q.length < k; omega)
        exact ⟨r, h1, h2, h3, h4, h5, h6⟩
      · rw [if_neg hc]
        obtain ⟨st', hst⟩ : ∃ st', st' = meetAll s (fieldsL s.l o.1) o.2 (fieldsL s.l o.1).length (st.1, q) := ⟨_, rfl⟩
        rw [← hst]
        have ok2 : StOK s st' := by rw [hst]; exact meetAll_ok hok' _
        have hmem : ∀ y, y ∈ st'.1 ↔ y ∈ st.1 ∨ SuccM s z y := fun y => by
          rw [hst, meetAll_mem]
          refine or_congr Iff.rfl ⟨fun ⟨j, h1, h2, h3, h4⟩ => ⟨o, j, ho, by omega, h1, h2, h3, h4⟩, fun ⟨o', j, ho', h0', h1, h2, h3, h4⟩ => ?_⟩
          rw [ho] at ho'
          cases ho'
          exact ⟨j, h1, h2, h3, h4⟩
        have hcount : st'.1.length + q.length = st.1.length + st'.2.length := by rw [hst]; exact meetAll_count _
        have hm3 := hN st'.1 ok2.n1 ok2.live
        have hge : st.1.length ≤ st'.1.length := by
          exact nodup_le hok.n1 (fun x hx => (hmem x).2 (.inl hx))
        obtain ⟨r, h1, h2, h3, h4, h5, h6⟩ := markGo_tells s N hN hN2 k st' ok2 (fun x hx hxq v hv => by
          have hsh : x ∈ st.1 ∧ x ∉ q := by
            rw [hst] at hx hxq
            exact meetAll_shut x _ hx hxq
          by_cases e : x = z
          · exact (hmem v).2 (.inr (e ▸ hv))
          · exact (hmem v).2 (.inl (hcl x hsh.1 (fun hh => by rw [hsp] at hh; rcases List.mem_append.1 hh with hh | hh; exact hsh.2 hh; exact e (List.mem_singleton.1 hh)) v hv))) (by omega)
        refine ⟨r, h1, h2, h3, fun x hx => h4 x ((hmem x).2 (.inl hx)), h5, fun P p1 p2 x hx => h6 P (fun y hy => ?_) p2 x hx⟩
        rcases (hmem y).1 hy with hy | hy
        · exact p1 y hy
        · exact p2 z y (p1 z hz1) hy
structure Reached (s : HS) (roots met : List Int) : Prop where
  nd : met.Nodup
  live : ∀ x ∈ met, (s.m x).isSome = true
  has : ∀ x ∈ roots, (s.m x).isSome = true → x ∈ met
  shut : ∀ x ∈ met, ∀ v, SuccM s x v → v ∈ met
  least : ∀ P : Int → Prop, (∀ x ∈ roots, (s.m x).isSome = true → P x) → (∀ x v, P x → SuccM s x v → P v) → ∀ x ∈ met, P x
theorem rootsM_tells (s : HS) : ∀ (roots : List Int) (st : List Int × List Int), StOK s st → (∀ x ∈ st.1, x ∈ st.2) → (∀ x ∈ roots, x ≠ 0 → (s.m x).isSome = true) →
    ∃ st', rootsM s roots st = some st' ∧ StOK s st' ∧ (∀ x ∈ st'.1, x ∈ st'.2) ∧ ∀ y, y ∈ st'.1 ↔ y ∈ st.1 ∨ (y ∈ roots ∧ (s.m y).isSome = true)
  | [], st, h1, h2, _ => ⟨st, rfl, h1, h2, fun y => by simp⟩
  | x :: r, st, h1, h2, h3 => by
    unfold rootsM
    rw [if_neg (fun h => by have := h3 x List.mem_cons_self h.1; rw [h.2] at this; cases this)]
    obtain ⟨st', e1, e2, e3, e4⟩ := rootsM_tells s r (meetM s st x) (meetM_ok h1 x) (fun y hy => Classical.byContradiction fun hn => by
      obtain ⟨q1, q2⟩ := meetM_shut x y hy hn
      exact q2 (h2 y q1)) (fun y hy => h3 y (List.mem_cons_of_mem _ hy))
    refine ⟨st', e1, e2, e3, fun y => ?_⟩
    rw [e4, meetM_mem, List.mem_cons]
    constructor
    · rintro ((h | ⟨h, h'⟩) | ⟨h, h'⟩)
      · exact .inl h
      · exact .inr ⟨.inl h, by rw [h]; exact h'⟩
      · exact .inr ⟨.inr h, h'⟩
    · rintro (h | ⟨h | h, h'⟩)
      · exact .inl (.inl h)
      · exact .inl (.inr ⟨h, by rw [← h]; exact h'⟩)
      · exact .inr ⟨h, h'⟩
theorem rootsM_bad (s : HS) : ∀ (roots : List Int) (st : List Int × List Int), (∃ x ∈ roots, x ≠ 0 ∧ s.m x = none) → rootsM s roots st = none
  | [], _, ⟨x, hx, _⟩ => by cases hx
  | x :: r, st, ⟨y, hy, h⟩ => by
    unfold rootsM
    split
    · rfl
    · rename_i c
      rcases List.mem_cons.1 hy with e | hy
      · exact absurd (e ▸ h) c
      · exact rootsM_bad s r _ ⟨y, hy, h⟩
theorem mark_bad (s : HS) (k : Nat) (roots : List Int) (h : ∃ x ∈ roots, x ≠ 0 ∧ s.m x = none) : markM k s roots = some none := by
  unfold markM
  rw [rootsM_bad s roots _ h]
theorem mark_good (s : HS) (N : Nat) (hN : ∀ l : List Int, l.Nodup → (∀ x ∈ l, (s.m x).isSome = true) → l.length ≤ N) (hN2 : N ≤ 4096) (roots : List Int) (h : ∀ x ∈ roots, x ≠ 0 → (s.m x).isSome = true) : ∃ met, markM 8193 s roots = some (some met) ∧ Reached s roots met := by
  obtain ⟨st, e1, e2, e3, e4⟩ := rootsM_tells s roots ([], []) ⟨by simp, by simp, by simp, by simp⟩ (by simp) h
  have hm2 := hN st.2 e2.n2 (fun x hx => e2.live x (e2.sub x hx))
  obtain ⟨r, h1, h2, h3, h4, h5, h6⟩ := markGo_tells s N hN (by omega) 8193 st e2 (fun x hx hn => absurd (e3 x hx) hn) (by omega)
  refine ⟨r, by unfold markM; rw [e1]; simp only [h1]; rfl, h2, h3, fun x hx hl => h4 x ((e4 x).2 (.inr ⟨hx, hl⟩)), h5, fun P p1 p2 x hx => h6 P (fun y hy => ?_) p2 x hx⟩
  rcases (e4 y).1 hy with hy | ⟨hy, hl⟩
  · cases hy
  · exact p1 y hy hl
theorem SumOK.few {s : HS} (h : SumOK s) {N : Nat} (hu : s.used ≤ N) : ∀ l : List Int, l.Nodup → (∀ x ∈ l, (s.m x).isSome = true) → l.length ≤ N := fun l hn hl => by
  have h1 : l.length ≤ (liveL s).length := nodup_le hn (fun x hx => (liveL_mem h.1 x).2 (hl x hx))
  have h2 := costL_len s.m (liveL s)
  have := h.2
  omega
end Go.Proofs.Ytkjagcamikkjkaa.P

end

section
namespace Go.Proofs.Ytkjagcamikkjkaa.P
open Go.RowKit Go.Proofs.YtkjagcamikkjkaaW.PrintWords Go.Proofs.YtkjagcamikkjkaaW.PrintLast Go.Proofs.YtkjagcamikkjkaaW.PrintMore
attribute [local go_sem] max2_int min2_int max_two min_two max_three min_three max_four min_four
set_option linter.unusedVariables false
set_option linter.unusedSimpArgs false
def slices_Clone_Field_Field.f (l0 : List S29) : Option (List S29) := if l0.length < 5864062014805 then some l0 else none
set_option maxHeartbeats 800000 in
set_option maxRecDepth 100000 in
theorem slices_Clone_Field_Field.calls (A0 : Option Addr) (c0 : Nat) (l0 : List S29) (r : List S29) (w : World) (hr0 : Kd.C k29 w A0 l0.length l0) (hc0 : l0.length ≤ c0) (h : slices_Clone_Field_Field.f l0 = some r) :
    Calls Try.prog 33 #[.slice A0 l0.length c0] w fun e w' => ∃ v0_ : Value, e = .returned v0_ ∧ Kd.R k29 29 w' w.heap.size (fun _ => True) v0_ r ∧ Below w.heap.size w w' := by
  obtain ⟨hlim, rfl⟩ : l0.length < 5864062014805 ∧ r = l0 := by
    unfold slices_Clone_Field_Field.f at h
    split at h
    · rename_i h9
      exact ⟨h9, (Option.some.inj h).symm⟩
    · cases h
  have hnil := Lib.run_eql_slice_nil (P := Try.prog) (h := Try.underlying30)
  have HR := Aside0.mk hr0
  have HL := Aside0.mk hlim
  cases A0 with
  | none =>
    have e0 : r = [] := by
      rcases Nat.eq_zero_or_pos r.length with h0 | h0
      · exact List.length_eq_zero_iff.1 h0
      · obtain ⟨ad, e, _⟩ := hr0.2.2 h0
        cases e
    have E0 := Aside0.mk e0
    clear h hr0 hlim e0
    go_enter Try.func33, Try.ntmps33
    go_wp2
    go_ret
    refine ⟨_, rfl, ?_, Below.refl _ _⟩
    rw [E0.out]
    exact Kd.R_nil _ _ _ _ _
  | some ad =>
    clear h hr0 hlim
    go_enter Try.func33, Try.ntmps33
    go_wp2_with (first | ((with_reducible refine gate_dst (N := 5) rfl ?_); refine Kd.R_lit k29 _ 29 ?hg (N := 5) ?hd (xs := ([] : List S29)) (inner := []) (ok := fun _ => True) (okp := fun _ => True) ?hr ?hp (fun _ hk => hk) trivial (Below.refl _ _) (Nat.le_refl _) (by simp) ?_; (case hd => rfl); (case hg => rfl); (case hr => first | (go_simp; done) | (go_simp; rfl)); (case hp => exact (Reps.none _ _)); intro v1 w1 ho1 hb1 _ _; have n1 := Aside0.mk ho1; have n2 := Aside0.mk hb1; clear ho1 hb1; obtain ⟨A1, c1, e1⟩ := Kd.R_slice n1.out; subst e1) | ((with_reducible refine gate_builtin (b := .append) (xs := #[.tmp 5, .tmp 6]) rfl ?_); at_builtin; refine Kd.R_append_rows k29 (w0 := w) w.heap.size rfl (.tmp 5) (.tmp 6) 30 29 (.agg #[(.string ⟨#[]⟩), (.int .u8 0)]) 24 rfl Try.underlying30 info29 rfl (by decide) (by omega) (.slice A1 (([] : List S29)).length c1) ([] : List S29) r _ _ _ (fun _ => True) (fun _ => False) rfl rfl ?aO ?aR (fun _ _ h => h) (fun _ h => h.elim) ?aF ?aB ?aS ?aL ?_; (case aR => exact Kd.C_below HR.out n2.out); (case aB => exact n2.out); (case aF => exact (fun _ _ => trivial)); (case aO => exact n1.out); (case aS => exact n2.out.size); (case aL => have h9 := HL.out; simp only [List.length_nil]; omega); intro v2 w2 ho2 hb2 _ _; have n3 := Aside0.mk ho2; have n4 := Aside0.mk hb2; clear ho2 hb2))
    go_ret
    exact ⟨_, rfl, n3.out, n4.out⟩
section
variable {P : Program}
theorem run_append1 (w : World) (base : Nat) (t ty e : TypeId) (i : TypeInfo) (z : Value) (ht : P.underlying t = some (.slice e)) (hi : P.info? e = some i) (hz : i.zero = some z) (hzs : z.cells.size = i.size) (hsz : 0 < i.size)
    (v : Value) (n : Nat) (xs : List Value) (hown : w.ownsRow base e i.size v n xs) (a : Addr) (c : Nat) (news : List Value) (hl : news.length = 1 * i.size) (hnews : ∀ j u, news[j]? = some u → w.cell? (a.add j) = some u) (h1 : ∀ u ∈ news, u.oneCell' = true)
    (h63 : n + 1 ≤ maxLen) (hb1 : i.bytes ≤ 140737488355328) (hfit : Builtin.nextslicecap (n + 1) n * i.bytes ≤ 281474976710656) (hbase : base ≤ w.heap.size) :
    ∃ v' w', (Builtin.append_ #[t, t] ty #[v, .slice (some a) 1 c]).run P w = .ok v' w' ∧ w'.ownsRow base e i.size v' (n + 1) (xs ++ news) ∧ w.grownBy w' v.ownBlock ∧ (v'.ownBlock = v.ownBlock ∨ v'.ownBlock = some w.heap.size) := by
  rcases hown.2 with ⟨rfl, rfl⟩ | ⟨g, cap, cur, rfl, hbg, hg, hnc, hcm, hcs, htake⟩
  · obtain ⟨v', w', h2, h3, h4, _, h5⟩ := run_append_own_at (P := P) w base t ty e i z i.size i.bytes ht hi hz rfl rfl hzs hsz _ 0 xs hown a 1 c news hl hnews h1 (by omega) (by omega) hbase
    exact ⟨v', w', h2, h3, h4, h5⟩
  · have hsmall : n + 1 ≤ 9223372036854775807 := by simp only [maxLen] at h63; omega
    have hlen : (xs ++ news).length = (n + 1) * i.size := by rw [List.length_append, hown.1, hl, Nat.add_mul]
    by_cases hroom : n + 1 ≤ cap
    · have hfit2 : n * i.size + news.length ≤ cur.size := by rw [hl, hcs, ← Nat.add_mul]; exact Nat.mul_le_mul_right _ hroom
      have hr := run_append_room (P := P) w t ty e i ht hi g n cap cur hg a 1 c news hl hnews h1 hroom hfit2
      refine ⟨_, _, hr, ⟨hlen, .inr ⟨g, cap, _, rfl, hbg, setRow_heap w g cur _ e _ hg, hroom, hcm, ?_, ?_⟩⟩, ⟨rfl, rfl, rfl, by simp, fun k _ hk => setRow_other w g k _ (fun e => hk (by simp [Value.ownBlock, e]))⟩, Or.inl rfl⟩
      · simp only [List.size_toArray, List.length_append, List.length_take, List.length_drop, Array.length_toList]
        omega
      · rw [htake, ← hlen]
        exact List.take_left
    · have hcap : cap = n := by omega
      subst hcap
      have holds : ∀ j u, xs[j]? = some u → w.cell? ((⟨g, 0, none⟩ : Addr).add j) = some u := hown.cells (g := g) rfl
      have hr := run_append_grow (P := P) w t ty e i z ht hi hz ⟨g, 0, none⟩ cap cap xs hown.1 holds a 1 c news hl hnews (by omega) (by omega) hfit
      have hge := grownCap_ge w (cap + 1) cap e
      have hcm2 : grownCap w (cap + 1) cap e ≤ maxLen := grownCap_le_maxLen w (cap + 1) cap e h63
      refine ⟨_, _, hr, ⟨hlen, .inr ⟨w.heap.size, _, _, rfl, hbase, heap_alloc_new w.drew _, hge, hcm2, ?_, ?_⟩⟩, ⟨rfl, rfl, rfl, by simp, fun k hk _ => heap_alloc_old w.drew _ hk⟩, Or.inr rfl⟩
      · simp only [Array.size_append, List.size_toArray, size_zeroCells, hzs, hown.1, hl, ← Nat.add_mul]
        congr 1
        omega
      · simp only [Array.toList_append, List.append_assoc]
        rw [← List.append_assoc, ← hlen]
        exact List.take_left
section
variable {ops : Array Oper} {rest : List Oper} {o : Oper} {a : Act} {Q : Exit → Act → World → Prop}
theorem R_append1_wp {K : Act → World → Prop} {α : Type} (d : Kd α) {w0 W : World} (base : Nat) (hgd : o.guard = none) (s x : Operand) (t e : TypeId) (z : Value) (bytes : Nat)
    (ho : o.op = .call { callee := .builtin .append, args := #[s, x], argTypes := #[t, t] })
    (ht : P.underlying t = some (.slice e)) (hinfo : (P.info? e).map (fun i => (i.zero, i.size, i.bytes)) = some (some z, d.sz, bytes)) (hz : z.cells.size = d.sz) (hs0 : 0 < d.sz) (hb1 : bytes ≤ 140737488355328)
    (v : Value) (xs : List α) (p : α) (cs : List Value) (ok okp : Nat → Prop) (hs : a.eval s = v) (hx : a.eval x = .slice (some ⟨W.heap.size, 0, none⟩) 1 1) (hp : d.M W base okp p cs) (hokp : ∀ k, okp k → ok k ∧ some k ≠ v.ownBlock) (hfresh : ∀ k, W.heap.size ≤ k → ok k)
    (HO : d.R e W base ok v xs) (HB : Below base w0 W) (hbase : base ≤ W.heap.size) (hl : xs.length + 1 ≤ maxLen) (hfit : Builtin.nextslicecap (xs.length + 1) xs.length * bytes ≤ 281474976710656)
    (h : ∀ v1 w1, d.R e w1 base ok v1 (xs ++ [p]) → Below base w0 w1 → W.grownBy w1 v.ownBlock → (v1.ownBlock = v.ownBlock ∨ ∃ b, v1.ownBlock = some b ∧ W.heap.size ≤ b) → K (a.put o.dst v1) w1) :
    Oper.wp P o a (W.alloc (.cells cs.toArray e)) K Q := by
  obtain ⟨h0, inner, hown, hr⟩ := HO
  obtain ⟨i0, hi, hzz⟩ := Option.map_eq_some_iff.1 hinfo
  simp only [Prod.mk.injEq] at hzz
  obtain ⟨hz0, hz1, hz2⟩ := hzz
  have hcl : cs.length = d.sz := d.K_len (d.K_of_M hp)
  rw [← hz1] at hown hz hs0 hcl
  obtain ⟨v1, w1, hrun, hown1, hg, hat⟩ := run_append1 (P := P) (W.alloc (.cells cs.toArray e)) base t o.type e i0 z ht hi hz0 hz hs0 v xs.length inner (hown.alloc _) ⟨W.heap.size, 0, none⟩ 1 cs (by rw [hcl]; simp)
    (by simpa using World.news_of_block (cs := cs.toArray) (t := e) (fr := (0, 0)) (heap_alloc_new W (.cells cs.toArray e))) (d.K_one (d.K_of_M hp)) hl (by rw [hz2]; exact hb1) (by rw [hz2]; exact hfit) (by simp; omega)
  unfold Oper.wp execOp
  simp only [ho, resolve, invoke, builtin, Sem.run_bind, Sem.run_pure, Result.andThen_ok, List.map_toArray, List.map_cons, List.map_nil, hs, hx, hrun]
  have hg2 : W.grownBy w1 v.ownBlock := World.grownBy.trans (World.grownBy_alloc W _ _) hg
  have hat2 : v1.ownBlock = v.ownBlock ∨ ∃ b, v1.ownBlock = some b ∧ W.heap.size ≤ b := by
    rcases hat with hat | hat
    · exact .inl hat
    · exact .inr ⟨_, hat, by simp⟩
  rw [hz1] at hown1 hown
  exact (h v1 w1 (Kd.R_appended h0 hr hp hokp hfresh hown1 hg2 hat2) ((HB.alloc hbase _).grown hg (by simp; omega) (own_base hown)) hg2 hat2)
end
end
theorem cls_M {W : World} {base : Nat} {ok : Nat → Prop} {x : S32} {v : Value} (h : Kd.R k29 29 W base ok v x.f2) : Kd.M k32 W base ok x [.string x.f0, .int .i64 x.f1, v] :=
  ⟨[.string x.f0], [.int .i64 x.f1, v], rfl, rfl, [.int .i64 x.f1], [v], rfl, rfl, v, rfl, h⟩
theorem cls_fits {n : Nat} (h : n ≤ 4398046511104) : Builtin.nextslicecap (n + 1) n * 48 ≤ 281474976710656 := by
  unfold Builtin.nextslicecap
  split
  · omega
  · split
    · omega
    · have h1 : ∀ r c : Nat, n + 1 ≤ c → Builtin.growBy (n + 1) r c = c := fun r c hc => by
        cases r with
        | zero => rfl
        | succ r => unfold Builtin.growBy; rw [if_pos hc]
      unfold Builtin.growBy
      rw [if_neg (by omega), h1 3 _ (by omega)]
      omega
theorem rd_mem_c {l : List S32} {j : Nat} (h : j < l.length) : rd_T32 l (j : Int) ∈ l := by
  unfold rd_T32
  rw [Int.toNat_natCast, List.getD_eq_getElem?_getD, List.getElem?_eq_getElem h]
  exact List.getElem_mem h
set_option maxHeartbeats 1600000 in
set_option maxRecDepth 100000 in
theorem hp_New (k : Nat) (A0 : Option Addr) (c0 : Nat) (l0 : List S32) (room : Int) (r1 r2 : Int) (w : World) (hr0 : Kd.C k32 w A0 l0.length l0) (hc0 : l0.length ≤ c0) (hl : l0.length < 4398046511104) (hfl : ∀ c ∈ l0, c.f2.length < 5864062014805) (h : types_Check.f k l0 = some (r1, r2)) :
    Calls Try.prog 9 #[.slice A0 l0.length c0, .int .i64 room] w fun e w' => ((room < 0 ∨ room > 4096) ∧ e = .returned (.tuple #[.pointer none, .int .i64 1]) ∧ Below w.heap.size w w') ∨ (0 ≤ room ∧ room ≤ 4096 ∧ r2 ≠ 0 ∧ e = .returned (.tuple #[.pointer none, .int .i64 r2]) ∧ Below w.heap.size w w') ∨ (0 ≤ room ∧ room ≤ 4096 ∧ r2 = 0 ∧ ∃ (hb B : Nat) (vc : Value), e = .returned (.tuple #[.pointer (some ⟨hb, 0, none⟩), .int .i64 0]) ∧ HeapAt w ⟨hb, B, vc, l0, room, 0, 0, fun _ => none, fun _ => False, w⟩ w') := by
  have HR := Aside0.mk hr0
  have HC := Aside0.mk hc0
  have HL := Aside0.mk hl
  have HF := Aside0.mk hfl
  have HK := Aside0.mk h
  clear hr0 hc0 hl hfl h
  by_cases ca : room < 0
  · have d1 : decide (room < 0) = true := decide_eq_true ca
    have HCA := Aside0.mk ca
    clear ca
    go_enter Try.func9, Try.ntmps9
    go_wp2
    go_ret2
    exact Or.inl ⟨Or.inl HCA.out, rfl, Below.refl _ _⟩
  have d1 : decide (room < 0) = false := decide_eq_false ca
  have h0 := Aside0.mk (show 0 ≤ room by omega)
  clear ca
  by_cases cb : room > 4096
  · have d2 : decide (room > 4096) = true := decide_eq_true cb
    have d2b : decide (4096 < room) = true := decide_eq_true cb
    have HCB := Aside0.mk cb
    clear cb
    go_enter Try.func9, Try.ntmps9
    go_wp2
    go_ret2
    exact Or.inl ⟨Or.inr HCB.out, rfl, Below.refl _ _⟩
  have d2 : decide (room > 4096) = false := decide_eq_false cb
  have d2b : decide (4096 < room) = false := decide_eq_false cb
  have h1 := Aside0.mk (show room ≤ 4096 by omega)
  clear cb
  by_cases cr : r2 = 0
  · subst cr
    go_enter Try.func9, Try.ntmps9
    go_wp2_with fail
    refine (types_Check.calls k A0 c0 l0 r1 0 w HR.out HC.out HK.out).mono ?_
    rintro e w1 ⟨rfl, hb⟩
    have HBW := Aside0.mk hb
    clear hb
    go_wp2_with ((with_reducible refine gate_dst (N := 26) rfl ?_); refine pm_make rfl rfl ?_; intro hM; have HM := Aside0.mk hM; have hb9 := below_alloc (Below.refl w1.heap.size w1) (.map #[] 0); have HX := Aside0.mk ((Rws.nil w).step HBW.out); replace HX := Aside0.mk (HX.out.step hb9); have HSZ := Aside0.mk HBW.out.size; have HBB := Aside0.mk (Nat.le_refl w1.heap.size); clear hM hb9; obtain ⟨B, hB⟩ : ∃ B, B = w1.heap.size := ⟨_, rfl⟩; have HBE := Aside0.mk hB; rw [← hB] at HM ⊢; clear hB; generalize w1.alloc (.map #[] 0) = w5 at HX HM ⊢)
    have hX := HX.out.add 50 #[.slice none 0 0, .int .i64 room, .int .i64 0, .int .i64 0, .map (some B)]
    have hb9 := below_alloc (Below.refl w5.heap.size w5) (.cells #[.slice none 0 0, .int .i64 room, .int .i64 0, .int .i64 0, .map (some B)] 50 (0, 0))
    replace HM := Aside0.mk (HM.out.block (hb9.block _ HM.out.lt))
    have HBL : Aside0 (w.heap.size ≤ B) := ⟨by have h1 := HBE.out; have h2 := HSZ.out; omega⟩
    clear hb9 HX HBE HBB
    obtain ⟨hb, hhb⟩ : ∃ hb, hb = w5.heap.size := ⟨_, rfl⟩
    rw [← hhb] at hX ⊢
    clear hhb
    generalize w5.alloc (.cells #[.slice none 0 0, .int .i64 room, .int .i64 0, .int .i64 0, .map (some B)] 50 (0, 0)) = w6 at hX HM ⊢
    have HX := Aside0.mk hX
    clear hX
    go_loopw [31] (fun v31 wr => ∃ (j : Nat) (v : Value), v31 = .int .i64 (j : Int) ∧ j ≤ l0.length ∧ Aside0 (Rws w [(hb, 50, #[v, .int .i64 room, .int .i64 0, .int .i64 0, .map (some B)])] wr) ∧ Aside0 (PMap wr B 0 (fun _ => none)) ∧ Aside0 (Kd.R k32 32 wr w.heap.size (fun _ => True) v (l0.take j))) (fun v31 _ => ((l0.length : Int) - intOf v31).toNat)
    case atStart => exact ⟨0, _, rfl, Nat.zero_le _, HX, HM, ⟨Kd.R_nil _ _ _ _ _⟩⟩
    case round =>
      rename_i wr
      clear HX HM
      obtain ⟨j, v, rfl, hj, HX, HM, HV⟩ := hrel
      have HBW2 := Aside0.mk HX.out.below
      by_cases c1 : j < l0.length
      · have c1b : decide ((j : Int) < (l0.length : Int)) = true := decide_eq_true (by omega)
        have c1c : decide (j < l0.length) = true := decide_eq_true c1
        have p5 : (0 ≤ (j : Int)) = True := eq_true (by omega)
        have p6 : ((j : Int) < (l0.length : Int)) = True := eq_true (by omega)
        have HJ := Aside0.mk c1
        have HW := Aside0.mk (wrap_h c1 (by have := HL.out; omega))
        obtain ⟨x, hx⟩ : ∃ x, x = rd_T32 l0 (j : Int) := ⟨_, rfl⟩
        obtain ⟨ad, A2, c2, e1, hx0, hx1, hx2, hx3, hx4⟩ := at_T32 (Kd.C_below HR.out HBW2.out) (j : Int) (by omega) (by omega)
        cases e1
        rw [← hx, Int.toNat_natCast] at hx0 hx1 hx2
        rw [← hx] at hx3 hx4
        have HF4 := Aside0.mk hx4
        have HF3 := Aside0.mk hx3
        have HXX := Aside0.mk hx
        have HFL := Aside0.mk (HF.out x (by rw [hx]; exact rd_mem_c c1))
        clear c1 hx hx4 hx3
        go_wp2_with fail
        have hX := HX.out.add 32 #[.string x.f0, .int .i64 x.f1, .slice A2 x.f2.length c2]
        have hb9 := below_alloc (Below.refl wr.heap.size wr) (.cells #[.string x.f0, .int .i64 x.f1, .slice A2 x.f2.length c2] 32 (0, 0))
        have hs9 : wr.heap.size < (wr.alloc (.cells #[.string x.f0, .int .i64 x.f1, .slice A2 x.f2.length c2] 32 (0, 0))).heap.size := by simp
        replace HM := Aside0.mk (HM.out.block (hb9.block _ HM.out.lt))
        replace HV := Aside0.mk (Kd.R_mono (Kd.R_below (Kd.R_bound HV.out) hb9) (fun k hk => (show k < wr.heap.size from hk.2.2.1)))
        replace HF4 := Aside0.mk (Kd.C_below HF4.out hb9)
        clear HX hb9 hx0 hx1 hx2
        obtain ⟨b10, hb10⟩ : ∃ b10, b10 = wr.heap.size := ⟨_, rfl⟩
        rw [← hb10] at hX hs9 HV ⊢
        have HB10 := Aside0.mk (show w.heap.size ≤ b10 from by rw [hb10]; exact HBW2.out.size)
        clear hb10
        generalize wr.alloc (.cells #[.string x.f0, .int .i64 x.f1, .slice A2 x.f2.length c2] 32 (0, 0)) = w10 at hX hs9 HM HV HF4 ⊢
        have HX := Aside0.mk hX
        have HS9 := Aside0.mk hs9
        clear hX hs9
        refine (slices_Clone_Field_Field.calls A2 c2 x.f2 x.f2 _ HF4.out HF3.out (by unfold slices_Clone_Field_Field.f; rw [if_pos HFL.out])).mono ?_
        rintro e w11 ⟨v37, rfl, hV, hbb⟩
        replace HX := Aside0.mk (HX.out.step hbb)
        replace HM := Aside0.mk (HM.out.block (hbb.block _ HM.out.lt))
        replace HV := Aside0.mk (Kd.R_below HV.out hbb)
        have HS11 := Aside0.mk hbb.size
        obtain ⟨A9, c9, e9⟩ := Kd.R_slice hV
        subst e9
        have HC9 := Aside0.mk (Kd.R_mono (Kd.R_bound hV) (fun k hk => (show w10.heap.size ≤ k from hk.2.1)))
        clear hV hbb
        go_wp2_with ((with_reducible refine gate_store (t := 30) (p := 38) rfl ?_); refine rw_cell rfl 30 rfl (i := 2) rfl (u := .slice A9 x.f2.length c9) rfl rfl [] HX.out (by show (2 : Nat) < 3; decide) (by kernel_rfl) ?_; intro w12 hX hk9; replace HM := Aside0.mk (HM.out.block (hk9.2 _ HM.out.lt (HM.out.ne (HX.out.mem List.mem_cons_self)))); replace HV := Aside0.mk (Kd.R_step HV.out (fun k ho hk => hk9.2 k hk (Nat.ne_of_lt ho))); replace HC9 := Aside0.mk (Kd.R_step HC9.out (fun k ho hk => hk9.2 k hk (by have := HS9.out; omega))); replace HX : Aside0 (Rws w [(b10, 32, #[.string x.f0, .int .i64 x.f1, .slice A9 x.f2.length c9]), (hb, 50, #[v, .int .i64 room, .int .i64 0, .int .i64 0, .map (some B)])] w12) := ⟨hX⟩; clear hX hk9)
        (try simp only [Act.put, List.setIfInBounds_toArray, List.set_cons_zero, List.set_cons_succ])
        refine wp_region_held_drew (S := fun w' => w'.heap[b10]? = some (.cells #[.string x.f0, .int .i64 x.f1, .slice A9 x.f2.length c9] 32 (0, 0))) (by kernel_rfl) ?_ (fun hHeld => ?_)
        · exact HX.out.mem List.mem_cons_self
        replace HX : Aside0 (Rws w [(b10, 32, #[.string x.f0, .int .i64 x.f1, .slice A9 x.f2.length c9]), (hb, 50, #[v, .int .i64 room, .int .i64 0, .int .i64 0, .map (some B)])] w12.drew) := ⟨HX.out.step (pw_below_drewN (Below.refl _ _) 1)⟩
        replace HM : Aside0 (PMap w12.drew B 0 fun _ => none) := ⟨HM.out⟩
        replace HV := Aside0.mk (Kd.R_step (w1 := w12.drew) HV.out (fun _ _ _ => rfl))
        replace HC9 := Aside0.mk (Kd.R_step (w1 := w12.drew) HC9.out (fun _ _ _ => rfl))
        refine take_dst (i := 0) (v := ?_) 39 rfl rfl (by kernel_rfl) (by kernel_rfl) (by kernel_rfl) (fun _ _ _ h => h) (Or.inl ⟨by rfl, ?_⟩) (by assumption) ?_
        rotate_left
        · intro w hSw
          have g0 := blk_cell hSw 0
          have g1 := blk_cell hSw 1
          have g2 := blk_cell hSw 2
          go_simp
          try with_reducible rfl
        (try simp only [Act.put, List.setIfInBounds_toArray, List.set_cons_zero, List.set_cons_succ])
        refine take_dst (i := 1) (v := ?_) 40 rfl rfl (by kernel_rfl) (by kernel_rfl) (by kernel_rfl) (fun _ _ _ h => h) (Or.inl ⟨by rfl, ?_⟩) (by assumption) ?_
        rotate_left
        · intro w hSw
          have g0 := blk_cell hSw 0
          have g1 := blk_cell hSw 1
          have g2 := blk_cell hSw 2
          go_simp
          try with_reducible rfl
        (try simp only [Act.put, List.setIfInBounds_toArray, List.set_cons_zero, List.set_cons_succ])
        refine take_dst (i := 2) (v := ?_) 41 rfl rfl (by kernel_rfl) (by kernel_rfl) (by kernel_rfl) (fun _ _ _ h => h) (Or.inl ⟨by rfl, ?_⟩) (by assumption) ?_
        rotate_left
        · intro w hSw
          have g0 := blk_cell hSw 0
          have g1 := blk_cell hSw 1
          have g2 := blk_cell hSw 2
          go_simp
          try with_reducible rfl
        (try simp only [Act.put, List.setIfInBounds_toArray, List.set_cons_zero, List.set_cons_succ])
        refine take_dst (i := 3) (v := ?_) 42 rfl rfl (by kernel_rfl) (by kernel_rfl) (by kernel_rfl) (fun _ _ _ h => h) (Or.inl ⟨by rfl, ?_⟩) (by assumption) ?_
        rotate_left
        · intro w hSw
          have g0 := blk_cell hSw 0
          have g1 := blk_cell hSw 1
          have g2 := blk_cell hSw 2
          go_simp
          try with_reducible rfl
        (try simp only [Act.put, List.setIfInBounds_toArray, List.set_cons_zero, List.set_cons_succ])
        refine take_dst (i := 5) (v := ?_) 44 rfl rfl (by kernel_rfl) (by kernel_rfl) (by kernel_rfl) (fun _ _ _ h => h) (Or.inl ⟨by rfl, ?_⟩) (by assumption) ?_
        rotate_left
        · intro w hSw
          have g0 := blk_cell hSw 0
          have g1 := blk_cell hSw 1
          have g2 := blk_cell hSw 2
          go_simp
          try with_reducible rfl
        (try simp only [Act.put, List.setIfInBounds_toArray, List.set_cons_zero, List.set_cons_succ])
        generalize w12.drew = w13 at HX HM HV HC9 hHeld ⊢
        refine wpAnyH_ready (rs := [4, 6]) (by kernel_rfl) (by simp) ?_
        refine AllReadyH.cons rfl (fun K hK => ?_) (AllReadyH.cons rfl (fun K hK => ?_) AllReadyH.nil)
        · have f3 := blk_cell (HX.out.mem (List.mem_cons_of_mem _ List.mem_cons_self)) 0
          simp only [List.getElem?_toArray, List.getElem?_cons_zero, List.getElem?_cons_succ] at f3
          go_simp
          refine hK.out _ _ hHeld (fun hHeld => ?_)
          clear hK K f3
          (try simp only [Act.put, List.setIfInBounds_toArray, List.set_cons_zero, List.set_cons_succ])
          refine wpAnyH_ready (rs := [6]) (by kernel_rfl) (by simp) ?_
          refine AllReadyH.cons rfl (fun K hK => ?_) AllReadyH.nil
          go_simp
          have hb9 := below_alloc (Below.refl w13.heap.size w13) (.cells #[.string x.f0, .int .i64 x.f1, .slice A9 x.f2.length c9] 32 (0, 0))
          refine hK.out _ _ (blk_below hHeld hb9) (fun hHeld => ?_)
          clear hb9 hK K
          (try simp only [Act.put, List.setIfInBounds_toArray, List.set_cons_zero, List.set_cons_succ])
          refine wpAnyH_ready (rs := [7]) (by kernel_rfl) (by simp) ?_
          refine AllReadyH.cons rfl (fun K hK => ?_) AllReadyH.nil
          refine Eq.mpr (if_pos (by rfl)) ?_
          have HOWN := Aside0.mk HV.out.1
          have HB13 := Aside0.mk HX.out.below
          refine R_append1_wp k32 (w0 := w) w.heap.size rfl (.tmp 43) (.tmp 45) 33 32 (.agg #[.string ByteArray.empty, .int .i64 0, .slice none 0 0]) 48 rfl Try.underlying33 (by kernel_rfl) rfl (by show (0 : Nat) < 3; decide) (by decide) v (l0.take j) x [.string x.f0, .int .i64 x.f1, .slice A9 x.f2.length c9] (fun _ => True) (fun k => w10.heap.size ≤ k) rfl rfl (cls_M (Kd.R_lower HC9.out (by have := HS9.out; have := HB10.out; omega))) (fun k hk => ⟨trivial, fun e => by have h9 := HOWN.out k e.symm; have := HS9.out; omega⟩) (fun _ _ => trivial) (Kd.R_mono HV.out (fun _ _ => trivial)) HB13.out HB13.out.size (by have := HL.out; have := HJ.out; rw [List.length_take]; unfold maxLen; omega) (cls_fits (by have := HL.out; have := HJ.out; rw [List.length_take]; omega)) ?_
          intro v1 w14 hR hBl hg hat
          have hx1 := blk_grown (HX.out.mem List.mem_cons_self) hg (fun e => by have := HOWN.out b10 e.symm; omega)
          have hx2 := blk_grown (HX.out.mem (List.mem_cons_of_mem _ List.mem_cons_self)) hg (fun e => by
            obtain ⟨_, _, _, q, hq, cells, hc⟩ := (Kd.R_bound HV.out).1 hb e.symm
            have h9 := HX.out.mem (List.mem_cons_of_mem _ List.mem_cons_self)
            rw [h9] at hc
            injection hc with hc
            injection hc with _ hc
            subst hc
            revert hq
            decide)
          refine hK.out _ _ hx1 (fun hHeld => ?_)
          have HP := Aside0.mk (HM.out.block (hg.block _ HM.out.lt (fun e => by
            obtain ⟨_, _, _, q, hq, cells, hc⟩ := (Kd.R_bound HV.out).1 B e.symm
            exact HM.out.ne hc rfl)))
          have HR1 := Aside0.mk hR
          have HBL1 := Aside0.mk hBl
          have HHB := Aside0.mk (HX.out.lies _ (List.mem_cons_of_mem _ List.mem_cons_self)).2
          have HOV := Aside0.mk hat
          have HX1 : Aside0 (Rws w [(hb, 50, #[v, .int .i64 room, .int .i64 0, .int .i64 0, .map (some B)])] w14) := ⟨⟨fun p hp => by rw [List.mem_singleton.1 hp]; exact ⟨hx2, HHB.out⟩, by simp, hBl⟩⟩
          have HNE := Aside0.mk (show ¬ b10 = hb from fun e => by rw [e] at hx1; rw [hx2] at hx1; injection hx1 with h9; injection h9 with _ h9; revert h9; decide)
          obtain ⟨A14, c14, e14⟩ := Kd.R_slice HR1.out
          subst e14
          clear hR hBl hg hat hK K HX hx1 hx2
          (try simp only [Act.put, List.setIfInBounds_toArray, List.set_cons_zero, List.set_cons_succ])
          refine take_dst (i := 8) (v := ?_) 47 rfl rfl (by kernel_rfl) (by kernel_rfl) (by kernel_rfl) (fun _ _ _ h => h) (Or.inl ⟨by rfl, ?_⟩) (by assumption) ?_
          rotate_left
          · intro w hSw
            go_simp
            try with_reducible rfl
          (try simp only [Act.put, List.setIfInBounds_toArray, List.set_cons_zero, List.set_cons_succ])
          refine take_dst (i := 9) (v := ?_) 48 rfl rfl (by kernel_rfl) (by kernel_rfl) (by kernel_rfl) (fun _ _ _ h => h) (Or.inl ⟨by rfl, ?_⟩) (by assumption) ?_
          rotate_left
          · intro w hSw
            go_simp
            try with_reducible rfl
          (try simp only [Act.put, List.setIfInBounds_toArray, List.set_cons_zero, List.set_cons_succ])
          refine wpAnyH_ready (rs := [10]) (by kernel_rfl) (by simp) ?_
          refine AllReadyH.cons rfl (fun K hK => ?_) AllReadyH.nil
          refine Eq.mpr (if_pos (by rfl)) ?_
          refine rw_cell_wp 33 rfl (g := hb) (i := 0) rfl (u := .slice A14 (l0.take j ++ [x]).length c14) rfl rfl [] HX1.out (by show (0 : Nat) < 5; decide) (by kernel_rfl) ?_
          intro w15 hX15 hk15
          have HX2 : Aside0 (Rws w [(hb, 50, #[.slice A14 (l0.take j ++ [x]).length c14, .int .i64 room, .int .i64 0, .int .i64 0, .map (some B)])] w15) := ⟨hX15⟩
          have HP2 := Aside0.mk (HP.out.block (hk15.2 _ HP.out.lt (HP.out.ne (HX1.out.mem List.mem_cons_self))))
          refine hK.out _ _ (blk_kept hHeld hk15 HNE.out) (fun hHeld => ?_)
          clear hK K
          refine wpAnyH_done (by kernel_rfl) ?_ _
          (try simp only [Act.put, List.setIfInBounds_toArray, List.set_cons_zero, List.set_cons_succ])
          have HTK := Aside0.mk (show l0.take (j + 1) = l0.take j ++ [x] by rw [List.take_add_one, List.getElem?_eq_getElem HJ.out, HXX.out]; unfold rd_T32; rw [Int.toNat_natCast, List.getD_eq_getElem?_getD, List.getElem?_eq_getElem HJ.out]; rfl)
          have HR2 := Aside0.mk (Kd.R_mono (Kd.R_step (Kd.R_bound HR1.out) (fun k ho hk => hk15.2 k hk (fun e => by obtain ⟨_, _, _, q, hq, cells, hc⟩ := ho; rw [e, HX1.out.mem List.mem_cons_self] at hc; injection hc with hc; injection hc with _ hc; subst hc; revert hq; decide))) (fun _ _ => trivial))
          go_wp2
          go_roundw
          case rel => exact ⟨j + 1, .slice A14 (l0.take j ++ [x]).length c14, (by rw [HW.out]), HJ.out, HX2, HP2, ⟨(by rw [HTK.out]; exact HR2.out)⟩⟩
          case measure => exact meas_h HJ.out HW.out
        · go_simp
          have hb9 := below_alloc (Below.refl w13.heap.size w13) (.cells #[.string x.f0, .int .i64 x.f1, .slice A9 x.f2.length c9] 32 (0, 0))
          refine hK.out _ _ (blk_below hHeld hb9) (fun hHeld => ?_)
          have f3 := blk_cell (blk_below (HX.out.mem (List.mem_cons_of_mem _ List.mem_cons_self)) hb9) 0
          simp only [List.getElem?_toArray, List.getElem?_cons_zero, List.getElem?_cons_succ] at f3
          clear hb9 hK K
          (try simp only [Act.put, List.setIfInBounds_toArray, List.set_cons_zero, List.set_cons_succ])
          refine wpAnyH_ready (rs := [4]) (by kernel_rfl) (by simp) ?_
          refine AllReadyH.cons rfl (fun K hK => ?_) AllReadyH.nil
          go_simp
          refine hK.out _ _ hHeld (fun hHeld => ?_)
          clear f3 hK K
          (try simp only [Act.put, List.setIfInBounds_toArray, List.set_cons_zero, List.set_cons_succ])
          refine wpAnyH_ready (rs := [7]) (by kernel_rfl) (by simp) ?_
          refine AllReadyH.cons rfl (fun K hK => ?_) AllReadyH.nil
          refine Eq.mpr (if_pos (by rfl)) ?_
          have HOWN := Aside0.mk HV.out.1
          have HB13 := Aside0.mk HX.out.below
          refine R_append1_wp k32 (w0 := w) w.heap.size rfl (.tmp 43) (.tmp 45) 33 32 (.agg #[.string ByteArray.empty, .int .i64 0, .slice none 0 0]) 48 rfl Try.underlying33 (by kernel_rfl) rfl (by show (0 : Nat) < 3; decide) (by decide) v (l0.take j) x [.string x.f0, .int .i64 x.f1, .slice A9 x.f2.length c9] (fun _ => True) (fun k => w10.heap.size ≤ k) rfl rfl (cls_M (Kd.R_lower HC9.out (by have := HS9.out; have := HB10.out; omega))) (fun k hk => ⟨trivial, fun e => by have h9 := HOWN.out k e.symm; have := HS9.out; omega⟩) (fun _ _ => trivial) (Kd.R_mono HV.out (fun _ _ => trivial)) HB13.out HB13.out.size (by have := HL.out; have := HJ.out; rw [List.length_take]; unfold maxLen; omega) (cls_fits (by have := HL.out; have := HJ.out; rw [List.length_take]; omega)) ?_
          intro v1 w14 hR hBl hg hat
          have hx1 := blk_grown (HX.out.mem List.mem_cons_self) hg (fun e => by have := HOWN.out b10 e.symm; omega)
          have hx2 := blk_grown (HX.out.mem (List.mem_cons_of_mem _ List.mem_cons_self)) hg (fun e => by
            obtain ⟨_, _, _, q, hq, cells, hc⟩ := (Kd.R_bound HV.out).1 hb e.symm
            have h9 := HX.out.mem (List.mem_cons_of_mem _ List.mem_cons_self)
            rw [h9] at hc
            injection hc with hc
            injection hc with _ hc
            subst hc
            revert hq
            decide)
          refine hK.out _ _ hx1 (fun hHeld => ?_)
          have HP := Aside0.mk (HM.out.block (hg.block _ HM.out.lt (fun e => by
            obtain ⟨_, _, _, q, hq, cells, hc⟩ := (Kd.R_bound HV.out).1 B e.symm
            exact HM.out.ne hc rfl)))
          have HR1 := Aside0.mk hR
          have HBL1 := Aside0.mk hBl
          have HHB := Aside0.mk (HX.out.lies _ (List.mem_cons_of_mem _ List.mem_cons_self)).2
          have HOV := Aside0.mk hat
          have HX1 : Aside0 (Rws w [(hb, 50, #[v, .int .i64 room, .int .i64 0, .int .i64 0, .map (some B)])] w14) := ⟨⟨fun p hp => by rw [List.mem_singleton.1 hp]; exact ⟨hx2, HHB.out⟩, by simp, hBl⟩⟩
          have HNE := Aside0.mk (show ¬ b10 = hb from fun e => by rw [e] at hx1; rw [hx2] at hx1; injection hx1 with h9; injection h9 with _ h9; revert h9; decide)
          obtain ⟨A14, c14, e14⟩ := Kd.R_slice HR1.out
          subst e14
          clear hR hBl hg hat hK K HX hx1 hx2
          (try simp only [Act.put, List.setIfInBounds_toArray, List.set_cons_zero, List.set_cons_succ])
          refine take_dst (i := 8) (v := ?_) 47 rfl rfl (by kernel_rfl) (by kernel_rfl) (by kernel_rfl) (fun _ _ _ h => h) (Or.inl ⟨by rfl, ?_⟩) (by assumption) ?_
          rotate_left
          · intro w hSw
            go_simp
            try with_reducible rfl
          (try simp only [Act.put, List.setIfInBounds_toArray, List.set_cons_zero, List.set_cons_succ])
          refine take_dst (i := 9) (v := ?_) 48 rfl rfl (by kernel_rfl) (by kernel_rfl) (by kernel_rfl) (fun _ _ _ h => h) (Or.inl ⟨by rfl, ?_⟩) (by assumption) ?_
          rotate_left
          · intro w hSw
            go_simp
            try with_reducible rfl
          (try simp only [Act.put, List.setIfInBounds_toArray, List.set_cons_zero, List.set_cons_succ])
          refine wpAnyH_ready (rs := [10]) (by kernel_rfl) (by simp) ?_
          refine AllReadyH.cons rfl (fun K hK => ?_) AllReadyH.nil
          refine Eq.mpr (if_pos (by rfl)) ?_
          refine rw_cell_wp 33 rfl (g := hb) (i := 0) rfl (u := .slice A14 (l0.take j ++ [x]).length c14) rfl rfl [] HX1.out (by show (0 : Nat) < 5; decide) (by kernel_rfl) ?_
          intro w15 hX15 hk15
          have HX2 : Aside0 (Rws w [(hb, 50, #[.slice A14 (l0.take j ++ [x]).length c14, .int .i64 room, .int .i64 0, .int .i64 0, .map (some B)])] w15) := ⟨hX15⟩
          have HP2 := Aside0.mk (HP.out.block (hk15.2 _ HP.out.lt (HP.out.ne (HX1.out.mem List.mem_cons_self))))
          refine hK.out _ _ (blk_kept hHeld hk15 HNE.out) (fun hHeld => ?_)
          clear hK K
          refine wpAnyH_done (by kernel_rfl) ?_ _
          (try simp only [Act.put, List.setIfInBounds_toArray, List.set_cons_zero, List.set_cons_succ])
          have HTK := Aside0.mk (show l0.take (j + 1) = l0.take j ++ [x] by rw [List.take_add_one, List.getElem?_eq_getElem HJ.out, HXX.out]; unfold rd_T32; rw [Int.toNat_natCast, List.getD_eq_getElem?_getD, List.getElem?_eq_getElem HJ.out]; rfl)
          have HR2 := Aside0.mk (Kd.R_mono (Kd.R_step (Kd.R_bound HR1.out) (fun k ho hk => hk15.2 k hk (fun e => by obtain ⟨_, _, _, q, hq, cells, hc⟩ := ho; rw [e, HX1.out.mem List.mem_cons_self] at hc; injection hc with hc; injection hc with _ hc; subst hc; revert hq; decide))) (fun _ _ => trivial))
          go_wp2
          go_roundw
          case rel => exact ⟨j + 1, .slice A14 (l0.take j ++ [x]).length c14, (by rw [HW.out]), HJ.out, HX2, HP2, ⟨(by rw [HTK.out]; exact HR2.out)⟩⟩
          case measure => exact meas_h HJ.out HW.out
      · have c1b : decide ((j : Int) < (l0.length : Int)) = false := decide_eq_false (by omega)
        have c1c : decide (j < l0.length) = false := decide_eq_false c1
        have hv := HV.out
        rw [List.take_of_length_le (by omega)] at hv
        have HV2 := Aside0.mk hv
        clear hv c1 hj HV
        go_wp2_with fail
        go_ret2
        exact Or.inr (Or.inr ⟨h0.out, h1.out, trivial, hb, B, v, rfl, fun _ => 0, fun _ => 0, ⟨HX.out.mem List.mem_cons_self, HM.out, fun _ _ h => (by cases h), fun _ _ _ _ h => (by cases h), ⟨(HX.out.lies _ List.mem_cons_self).2, HBL.out, fun _ _ h => (by cases h)⟩, Kd.R_mono HV2.out (fun _ _ h => h), fun _ _ h => (by cases h), ⟨Int.le_refl 0, h0.out, h1.out⟩, HBW2.out, ⟨HBW2.out.size, fun _ h => h.elim⟩, fun _ h => h.elim⟩⟩)
  · have HCR := Aside0.mk cr
    have d3 : (r2 != 0) = true := by rw [bne_iff_ne]; exact cr
    have d4 : (r2 == 0) = false := by rw [beq_eq_false_iff_ne]; exact cr
    clear cr
    go_enter Try.func9, Try.ntmps9
    go_wp2_with fail
    refine (types_Check.calls k A0 c0 l0 r1 r2 w HR.out HC.out HK.out).mono ?_
    rintro e w1 ⟨rfl, hb⟩
    have HBW := Aside0.mk hb
    clear hb
    go_wp2
    go_ret2
    exact Or.inr (Or.inl ⟨h0.out, h1.out, HCR.out, rfl, HBW.out⟩)
end Go.Proofs.Ytkjagcamikkjkaa.P

end

section
namespace Go.Proofs.Ytkjagcamikkjkaa.P
open Go.RowKit Go.Proofs.YtkjagcamikkjkaaW.PrintWords Go.Proofs.YtkjagcamikkjkaaW.PrintLast Go.Proofs.YtkjagcamikkjkaaW.PrintMore
attribute [local go_sem] max2_int min2_int max_two min_two max_three min_three max_four min_four
set_option linter.unusedVariables false
set_option linter.unusedSimpArgs false
theorem C_one9 {α : Type} {d : Kd α} {W : World} {g t : Nat} {cs : Array Value} {x : α} (h : W.heap[g]? = some (.cells cs t (0, 0))) (hK : d.K W x cs.toList) : d.C W (some ⟨g, 0, none⟩) 1 [x] := by
  refine ⟨rfl, by omega, fun _ => ⟨⟨g, 0, none⟩, rfl, fun j p hj => ⟨cs.toList, d.K_len hK, ?_, fun i u hi => ?_⟩⟩⟩
  · cases j with
    | zero => simp at hj; rw [← hj]; exact hK
    | succ j => simp at hj
  · cases j with
    | zero =>
      have h3 : Addr.add ⟨g, 0, none⟩ (0 * d.sz + i) = ⟨g, i, none⟩ := by
        rw [Nat.zero_mul, Nat.zero_add]
        by_cases h0 : i = 0
        · subst h0; rfl
        · simp [Addr.add, h0]
      rw [h3, blk_cell h i]
      simpa using hi
    | succ j => simp at hj
theorem one_cls {W : World} {b1 b2 : Nat} {s1 s2 : ByteArray} {t p : Int} (h1 : W.heap[b1]? = some (.cells #[.string s1, .int .u8 t] 29 (0, 0))) (h2 : W.heap[b2]? = some (.cells #[.string s2, .int .i64 p, .slice (some ⟨b1, 0, none⟩) 1 1] 32 (0, 0))) :
    Kd.C k32 W (some ⟨b2, 0, none⟩) 1 [⟨s2, p, [⟨s1, t⟩]⟩] := by
  refine C_one9 h2 ?_
  have hf : Kd.C k29 W (some ⟨b1, 0, none⟩) 1 [⟨s1, t⟩] := C_one9 h1 (k29_mk W ⟨s1, t⟩)
  exact k32_mk W ⟨s2, p, [⟨s1, t⟩]⟩ (c2 := 1) (Nat.le_refl 1) hf
def oneL (t : Int) : List S32 := [⟨⟨#[110]⟩, -1, [⟨⟨#[110, 101, 120, 116]⟩, t⟩]⟩]
theorem two_alloc (w : World) (t : Int) : ∃ W, W = (w.alloc (.cells #[.string ⟨#[110, 101, 120, 116]⟩, .int .u8 t] 29)).alloc (.cells #[.string ⟨#[110]⟩, .int .i64 (-1), .slice (some ⟨w.heap.size, 0, none⟩) 1 1] 32) ∧ Below w.heap.size w W ∧ Kd.C k32 W (some ⟨w.heap.size + 1, 0, none⟩) (oneL t).length (oneL t) := by
  refine ⟨_, rfl, below_alloc (below_alloc (Below.refl _ _) _) _, one_cls (b1 := w.heap.size) ?_ ?_⟩
  · exact blk_below (blk_new w _) (below_alloc (Below.refl _ _) _)
  · have := blk_new (w.alloc (.cells #[.string ⟨#[110, 101, 120, 116]⟩, .int .u8 t] 29)) (.cells #[.string ⟨#[110]⟩, .int .i64 (-1), .slice (some ⟨w.heap.size, 0, none⟩) 1 1] 32)
    simpa using this
theorem check_one5 : types_Check.f 40 (oneL 5) = some (0, 0) := by decide +kernel
theorem fields_one5 : types_Fields.f (oneL 5) 0 = some [⟨⟨#[110, 101, 120, 116]⟩, 5⟩] := by kernel_rfl
end Go.Proofs.Ytkjagcamikkjkaa.P

end

section
namespace Go.Proofs.Ytkjagcamikkjkaa.P
open Go.RowKit Go.Proofs.YtkjagcamikkjkaaW.PrintWords Go.Proofs.YtkjagcamikkjkaaW.PrintLast Go.Proofs.YtkjagcamikkjkaaW.PrintMore
set_option linter.unusedVariables false
set_option linter.unusedSimpArgs false

theorem w_next {i : Int} {n : Nat} (h0 : 0 ≤ i) (h : i < (n : Int)) (hn : n ≤ 9223372036854775807) : wrap64 (i + 1) = i + 1 := by
  unfold wrap64
  omega

def sign (i c : Int) : Bool :=
  (decide (97 ≤ c) && decide (c ≤ 122)) || (decide (65 ≤ c) && decide (c ≤ 90)) || (decide (0 < i) && ((decide (48 ≤ c) && decide (c ≤ 57)) || decide (c = 95)))
def tailOk (s : ByteArray) : Nat → Bool
  | 0 => true
  | d + 1 => sign ((s.size : Int) - (d + 1)) (bt s ((s.size : Int) - (d + 1))) && tailOk s d
def nameOk (s : ByteArray) : Bool := decide (1 ≤ s.size) && decide (s.size ≤ 24) && tailOk s s.size
theorem str_eq (a b : ByteArray) : a.toList = b.toList ↔ a = b :=
  ⟨fun h => by rw [ByteArray.toList_eq, ByteArray.toList_eq] at h; exact Go.WideShapes.bytes_inj h, fun h => by rw [h]⟩
def words6 : List ByteArray := [⟨#[116, 111, 112]⟩, ⟨#[105, 110, 116]⟩, ⟨#[98, 111, 111, 108]⟩, ⟨#[110, 117, 108, 108]⟩, ⟨#[105, 110, 116, 115]⟩, ⟨#[97, 110, 121]⟩]
def isWordB (s : ByteArray) : Bool := words6.any fun t => decide (t = s)
abbrev Tbl := List S32
def par (l : Tbl) (c : Int) : Int := (rd_T32 l c).f1
def nam (l : Tbl) (c : Int) : ByteArray := (rd_T32 l c).f0
def own (l : Tbl) (c : Int) : List S29 := (rd_T32 l c).f2
def fieldsOf (l : Tbl) (c : Int) : List S29 := (climbL l c).reverse.flatMap fun i => own l i
def hasB (fs : List S29) (s : ByteArray) : Bool := fs.any fun f => decide (f.f0 = s)
def validB (l : Tbl) (a : Int) : Bool := decide (a ≤ 5) || (decide (16 ≤ a) && decide (a - 16 < (l.length : Int)))
def storedB (l : Tbl) (a : Int) : Bool := validB l a && decide (a ≠ 0) && decide (a ≠ 3)
end Go.Proofs.Ytkjagcamikkjkaa.P


end

section
namespace Go.Proofs.Ytkjagcamikkjkaa.P
open Go.RowKit Go.Proofs.YtkjagcamikkjkaaW.PrintWords Go.Proofs.YtkjagcamikkjkaaW.PrintLast Go.Proofs.YtkjagcamikkjkaaW.PrintMore
set_option linter.unusedVariables false
set_option linter.unusedSimpArgs false

def Sane (l : Tbl) : Prop := l.length ≤ 9223372036854775807 ∧ l.length * 48 ≤ 140737488351232 ∧ ∀ x ∈ l, Ok32 x
theorem rd_mem (l : Tbl) (c : Int) (h0 : 0 ≤ c) (h1 : c < (l.length : Int)) : rd_T32 l c ∈ l := by
  have h : c.toNat < l.length := by omega
  simp [rd_T32, List.getD_eq_getElem?_getD, h]
theorem Sane.size {l : Tbl} (h : Sane l) : l.length ≤ 2932031007320 := by have := h.2.1; omega
theorem Sane.nam {l : Tbl} (h : Sane l) {c : Int} (h0 : 0 ≤ c) (h1 : c < (l.length : Int)) : (nam l c).size ≤ 140737488351232 := (h.2.2 _ (rd_mem l c h0 h1)).1
theorem Sane.par {l : Tbl} (h : Sane l) {c : Int} (h0 : 0 ≤ c) (h1 : c < (l.length : Int)) : -9223372036854775808 ≤ par l c ∧ par l c ≤ 9223372036854775807 := by
  have := (h.2.2 _ (rd_mem l c h0 h1)).2.1
  simp [Lit.wf, IntKind.min, IntKind.max, IntKind.signed, IntKind.bits] at this
  exact this
theorem Sane.own {l : Tbl} (h : Sane l) {c : Int} (h0 : 0 ≤ c) (h1 : c < (l.length : Int)) : (own l c).length * 24 ≤ 140737488351232 ∧ ∀ x ∈ own l c, x.f0.size ≤ 140737488351232 ∧ (0 ≤ x.f1 ∧ x.f1 ≤ 255) := by
  obtain ⟨_, h2, h3⟩ := (h.2.2 _ (rd_mem l c h0 h1)).2.2
  refine ⟨h2, fun x hx => ⟨(h3 x hx).1, ?_⟩⟩
  have := (h3 x hx).2
  simp [Lit.wf, IntKind.min, IntKind.max, IntKind.signed, IntKind.bits] at this
  exact this

def fieldFaultFrom (l : Tbl) (all fs : List S29) : Nat → Nat → Int
  | 0, _ => if (fs.length : Int) > 32 - (all.length : Int) then 4 else 0
  | d + 1, i => if nameOk (rd_T29 fs i).f0 = true then (if hasB all (rd_T29 fs i).f0 = true then 20 else if hasB (fs.take i) (rd_T29 fs i).f0 = true then 20 else if storedB l (rd_T29 fs i).f1 = true then fieldFaultFrom l all fs d (i + 1) else 22) else 6
def fieldFault (l : Tbl) (all fs : List S29) : Int := fieldFaultFrom l all fs fs.length 0
def aheadFrom (l : Tbl) (c : Int) : Nat → Bool
  | 0 => false
  | d + 1 => decide (nam l (c - (d + 1)) = nam l c) || aheadFrom l c d
def aheadB (l : Tbl) (c : Int) : Bool := aheadFrom l c c.toNat
def parFault (l : Tbl) (c : Int) : Int := if par l c < -1 then 21 else if par l c ≥ c then 21 else fieldFault l (fieldsOf l (par l c)) (own l c)
def faultB (l : Tbl) (c : Int) : Int :=
  if c ≥ 32 then 4 else if nameOk (nam l c) = true then (if isWordB (nam l c) = true then 6 else if aheadB l c = true then 20 else parFault l c) else 6

def GoodTo (l : Tbl) (n : Int) : Prop := ∀ c : Int, 0 ≤ c → c < n → faultB l c = 0
theorem field_fault_long (l : Tbl) (all fs : List S29) : ∀ (d i : Nat), fieldFaultFrom l all fs d i = 0 → (fs.length : Int) ≤ 32 - all.length
  | 0, i, h => by
    unfold fieldFaultFrom at h
    split at h <;> omega
  | d + 1, i, h => by
    unfold fieldFaultFrom at h
    split at h
    · split at h
      · omega
      · split at h
        · omega
        · split at h
          · exact field_fault_long l all fs d (i + 1) h
          · omega
    · omega
theorem fault_zero {l : Tbl} {c : Int} (h : faultB l c = 0) : c < 32 ∧ nameOk (nam l c) = true ∧ isWordB (nam l c) = false ∧ aheadB l c = false ∧ -1 ≤ par l c ∧ par l c < c ∧ fieldFault l (fieldsOf l (par l c)) (own l c) = 0 := by
  unfold faultB parFault at h
  split at h
  · omega
  · split at h
    · split at h
      · omega
      · split at h
        · omega
        · split at h
          · omega
          · split at h
            · omega
            · rename_i h1 h2 h3 h4 h5 h6
              exact ⟨by omega, h2, by simpa using h3, by simpa using h4, by omega, by omega, h⟩
    · omega
theorem fieldsOf_in (l : Tbl) (c : Int) (h0 : 0 ≤ c) (h1 : c < (l.length : Int)) (h2 : par l c < c) : fieldsOf l c = fieldsOf l (par l c) ++ own l c := by
  unfold fieldsOf
  rw [climbL_in l c h0 h1 h2, List.reverse_cons, List.flatMap_append]
  simp [par]
theorem fieldsOf_out (l : Tbl) (c : Int) (h : ¬ (0 ≤ c ∧ c < (l.length : Int))) : fieldsOf l c = [] := by
  unfold fieldsOf
  rw [climbL_out l c h]
  rfl
theorem GoodTo.fields {l : Tbl} {n : Int} (hn : n ≤ l.length) (h : GoodTo l n) (c : Int) (hc : c < n) : (fieldsOf l c).length ≤ 32 := by
  by_cases h0 : 0 ≤ c
  · obtain ⟨_, _, _, _, h5, h6, h7⟩ := fault_zero (h c h0 hc)
    have := field_fault_long l _ _ _ _ h7
    rw [fieldsOf_in l c h0 (by omega) h6, List.length_append]
    omega
  · rw [fieldsOf_out l c (by omega)]
    simp
def checkFrom (l : Tbl) : Nat → Int → Int × Int
  | 0, _ => (0, 0)
  | d + 1, c => if faultB l c = 0 then checkFrom l d (c + 1) else (c, faultB l c)
def checkB (l : Tbl) : Int × Int := checkFrom l l.length 0
theorem checkFrom_zero (l : Tbl) : ∀ (d : Nat) (c : Int), (checkFrom l d c).2 = 0 ↔ ∀ i : Int, c ≤ i → i < c + d → faultB l i = 0
  | 0, c => by
    constructor
    · intro _ i h1 h2; omega
    · intro _; rfl
  | d + 1, c => by
    unfold checkFrom
    split
    · rename_i e
      rw [checkFrom_zero l d (c + 1)]
      constructor
      · intro h i h1 h2
        by_cases hi : i = c
        · rw [hi]; exact e
        · exact h i (by omega) (by omega)
      · intro h i h1 h2
        exact h i (by omega) (by omega)
    · rename_i e
      constructor
      · intro h; exact absurd h e
      · intro h; exact h c (by omega) (by omega)
def Good (l : Tbl) : Prop := GoodTo l l.length
theorem good_iff (l : Tbl) : (checkB l).2 = 0 ↔ Good l := by
  unfold checkB
  rw [checkFrom_zero l l.length 0]
  unfold Good GoodTo
  simp
theorem Good.short {l : Tbl} (h : Good l) : l.length ≤ 32 := by
  rcases Nat.lt_or_ge 32 l.length with h1 | h1
  · have := (fault_zero (h 32 (by omega) (by omega))).1
    omega
  · exact h1
end Go.Proofs.Ytkjagcamikkjkaa.P


end

section
namespace Go.Proofs.Ytkjagcamikkjkaa.P
open Go.RowKit Go.Proofs.YtkjagcamikkjkaaW.PrintWords Go.Proofs.YtkjagcamikkjkaaW.PrintLast Go.Proofs.YtkjagcamikkjkaaW.PrintMore
set_option linter.unusedVariables false
set_option linter.unusedSimpArgs false

def idxFrom (ws : List ByteArray) (s : ByteArray) : Nat → Nat → Int
  | 0, _ => -1
  | d + 1, i => if s = ws.getD i ByteArray.empty then (i : Int) else idxFrom ws s d (i + 1)
theorem index_tells (ws : List ByteArray) (s : ByteArray) (hw : ws.length ≤ 9223372036854775807) : ∀ (d i : Nat), ws.length - i = d → i ≤ ws.length → Ev (fun k => slices_Index_string_string.l0 k ws s (ws.length : Int) (i : Int)) (idxFrom ws s d i)
  | 0, i, hd, hi => Ev.step (f := fun _ => some (-1)) (fun k => by simp only [slices_Index_string_string.l0]; rw [if_neg (by omega)]) (Ev.now _)
  | d + 1, i, hd, hi => by
    have ih := index_tells ws s hw d (i + 1) (by omega) (by omega)
    unfold idxFrom
    have hrd : rdOf ByteArray.empty ws ((i : Nat) : Int) = ws.getD i ByteArray.empty := by simp [rdOf]
    by_cases e : s = ws.getD i ByteArray.empty
    · rw [if_pos e]
      exact Ev.step (f := fun _ => some _) (fun k => by simp only [slices_Index_string_string.l0]; rw [if_pos (by omega), if_pos (by omega), if_pos (by omega), hrd, if_pos ((str_eq _ _).mpr e)]) (Ev.now _)
    · rw [if_neg e]
      refine Ev.step (fun k => ?_) ih
      simp only [slices_Index_string_string.l0]
      rw [if_pos (by omega), if_pos (by omega), if_pos (by omega), hrd, if_neg (fun h9 => e ((str_eq _ _).mp h9)), w_next (n := ws.length) (by omega) (by omega) (by omega)]
      rfl
theorem words_is : types_words.f = some words6 := rfl
theorem Good.nameOk {l : Tbl} (h : Good l) {c : Int} (h0 : 0 ≤ c) (h1 : c < (l.length : Int)) : nameOk (nam l c) = true ∧ isWordB (nam l c) = false :=
  ⟨(fault_zero (h c h0 h1)).2.1, (fault_zero (h c h0 h1)).2.2.1⟩
end Go.Proofs.Ytkjagcamikkjkaa.P


end

section
namespace Go.Proofs.Ytkjagcamikkjkaa.P
open Go.RowKit Go.Proofs.YtkjagcamikkjkaaW.PrintWords Go.Proofs.YtkjagcamikkjkaaW.PrintLast Go.Proofs.YtkjagcamikkjkaaW.PrintMore
set_option linter.unusedVariables false
set_option linter.unusedSimpArgs false
def classOf (l : List S32) (a : Int) : Int := if a < 16 then -1 else if (a - 16) % 256 ≥ (l.length : Int) then -1 else (a - 16) % 256
theorem class_is (l : List S32) (a : Int) : types_class.f l a = some (classOf l a) := by
  unfold types_class.f classOf
  split
  · rfl
  · split <;> rfl
theorem class_valid (l : Tbl) (a : Int) (ha : 0 ≤ a ∧ a ≤ 255) : classOf l a = if 16 ≤ a ∧ a - 16 < (l.length : Int) then a - 16 else -1 := by
  unfold classOf
  by_cases h1 : a < 16
  · rw [if_pos h1, if_neg (by omega)]
  · rw [if_neg h1, show (a - 16) % 256 = a - 16 by omega]
    by_cases h2 : a - 16 ≥ (l.length : Int)
    · rw [if_pos h2, if_neg (by omega)]
    · rw [if_neg h2, if_pos (by omega)]
theorem rd_class (l : Tbl) (i : Nat) (h : i < l.length) : rd_T32 l (i : Int) = l[i] := by simp [rd_T32, List.getD_eq_getElem?_getD, h]
theorem fields_len {l : Tbl} (hg : Good l) (c : Int) : (fieldsOf l c).length ≤ 32 := by
  by_cases h : c < (l.length : Int)
  · exact GoodTo.fields (Int.le_refl _) hg c h
  · rw [fieldsOf_out l c (by omega)]
    exact Nat.zero_le _
theorem impl_fields' {l : Tbl} (hg : Good l) (c : Int) : types_Fields.f l c = some (fieldsOf l c) := by
  have := hg.short
  have h2 := climbL_length l c
  have h3 := fields_len hg c
  unfold types_Fields.f
  rw [if_pos ⟨by omega, by unfold fieldsOf own at h3; omega⟩]
  rfl
end Go.Proofs.Ytkjagcamikkjkaa.P

end

section
namespace Go.Proofs.Ytkjagcamikkjkaa.P
open Go.RowKit Go.Proofs.YtkjagcamikkjkaaW.PrintWords Go.Proofs.YtkjagcamikkjkaaW.PrintLast Go.Proofs.YtkjagcamikkjkaaW.PrintMore
set_option linter.unusedVariables false
set_option linter.unusedSimpArgs false

theorem impl_name_tail (s : ByteArray) (hn : s.size ≤ 140737488351232) (d : Nat) : ∀ (k : Nat) (i : Int), 0 ≤ i → i ≤ s.size → (s.size : Int) - i = d → 3 * d < k → wire_IsName.l0 k s (s.size : Int) i = some (tailOk s d) := by
  induction d with
  | zero =>
    intro k i h0 h1 hd hk
    obtain ⟨k, rfl⟩ : ∃ m, k = m + 1 := ⟨k - 1, by omega⟩
    simp only [wire_IsName.l0]; rw [if_neg (by omega)]; rfl
  | succ d ih =>
    intro k i h0 h1 hd hk
    obtain ⟨k, rfl⟩ : ∃ m, k = m + 3 := ⟨k - 3, by omega⟩
    have hlt : i < (s.size : Int) := by omega
    have hi : (s.size : Int) - (d + 1) = i := by omega
    have h := ih k (i + 1) (by omega) (by omega) (by omega) (by omega)
    simp only [wire_IsName.l0, wire_IsName.j2, wire_IsName.j3, tailOk, hi]
    rw [if_pos hlt, if_pos h0, if_pos hlt, w_next h0 hlt (by omega)]
    have h' : wire_IsName.l0 k s (s.size : Int) (i + 1) = some (tailOk s d) := h
    rw [h']
    generalize bt s i = c
    generalize tailOk s d = t
    by_cases a1 : 97 ≤ c <;> by_cases a2 : c ≤ 122 <;> by_cases a3 : 65 ≤ c <;> by_cases a4 : c ≤ 90 <;> by_cases a5 : 0 < i <;> by_cases a6 : 48 ≤ c <;> by_cases a7 : c ≤ 57 <;> by_cases a8 : c = 95 <;> (try omega) <;> simp [sign, a1, a2, a3, a4, a5, a6, a7, a8]
theorem impl_name (s : ByteArray) (hn : s.size ≤ 140737488351232) : Ev (fun k => wire_IsName.f k s) (nameOk s) := by
  refine Ev.of (fun k => wire_IsName.mono s k) (k := 3 * s.size + 2) ?_
  have h1 := impl_name_tail s hn s.size (3 * s.size + 1) 0 (by omega) (by omega) (by omega) (by omega)
  unfold wire_IsName.f nameOk
  simp only [wire_IsName.j0, h1]
  by_cases a1 : (s.size : Int) = 0
  · rw [if_pos a1, decide_eq_false (by omega)]
    simp
  · rw [if_neg a1, decide_eq_true (by omega : 1 ≤ s.size)]
    by_cases a3 : (s.size : Int) > 24
    · rw [decide_eq_true a3, decide_eq_false (by omega : ¬ s.size ≤ 24)]
      simp
    · rw [decide_eq_false a3, decide_eq_true (by omega : s.size ≤ 24)]
      simp
def memB (ws : List ByteArray) (s : ByteArray) : Bool := ws.any fun t => decide (t = s)
theorem memB_iff (ws : List ByteArray) (s : ByteArray) : memB ws s = true ↔ s ∈ ws := by
  unfold memB
  rw [List.any_eq_true]
  exact ⟨fun ⟨x, h1, h2⟩ => (of_decide_eq_true h2) ▸ h1, fun h => ⟨s, h, decide_eq_true rfl⟩⟩
theorem idx_mem (ws : List ByteArray) (s : ByteArray) : ∀ (d i : Nat), i + d = ws.length → decide (idxFrom ws s d i ≥ 0) = memB (ws.drop i) s
  | 0, i, h => by
    rw [List.drop_of_length_le (by omega)]
    rfl
  | d + 1, i, h => by
    have hi : i < ws.length := by omega
    have hg : ws.getD i ByteArray.empty = ws[i] := by simp [List.getD_eq_getElem?_getD, hi]
    rw [List.drop_eq_getElem_cons hi]
    show decide ((if s = ws.getD i ByteArray.empty then (i : Int) else idxFrom ws s d (i + 1)) ≥ 0) = _
    rw [hg]
    by_cases e : s = ws[i]
    · rw [if_pos e, decide_eq_true (by omega), (memB_iff _ _).2 (by rw [e]; exact List.mem_cons_self)]
    · rw [if_neg e, idx_mem ws s d (i + 1) (by omega), Bool.eq_iff_iff, memB_iff, memB_iff, List.mem_cons]
      exact ⟨.inr, fun h => h.resolve_left e⟩
theorem impl_contains (ws : List ByteArray) (s : ByteArray) (hw : ws.length ≤ 9223372036854775807) : Ev (fun k => slices_Contains_string_string.f k ws s) (memB ws s) := by
  have h := idx_mem ws s ws.length 0 (by omega)
  rw [List.drop_zero] at h
  rw [← h]
  unfold slices_Contains_string_string.f
  exact Ev.bind (index_tells ws s hw ws.length 0 (by omega) (by omega)) (Ev.now _)
theorem impl_stored (l : Tbl) (a : Int) (ha : 0 ≤ a ∧ a ≤ 255) : types_stored.f l a = some (storedB l a) := by
  unfold types_stored.f storedB
  rw [class_is, Option.bind_some, class_valid l a ha]
  by_cases h1 : a = 1
  · subst h1; simp [validB]
  · by_cases h2 : a = 2
    · subst h2; simp [validB]
    · by_cases h4 : a = 4
      · subst h4; simp [validB]
      · by_cases h5 : a = 5
        · subst h5; simp [validB]
        · rw [if_neg h1, if_neg h2, if_neg h4, if_neg h5]
          by_cases h6 : 16 ≤ a ∧ a - 16 < (l.length : Int)
          · rw [if_pos h6]
            have : a ≠ 0 ∧ a ≠ 3 := by omega
            simp [validB, this.1, this.2, h6.1, h6.2]
          · rw [if_neg h6]
            by_cases h7 : a ≤ 5
            · have : a = 0 ∨ a = 3 := by omega
              rcases this with rfl | rfl <;> simp
            · have : validB l a = false := by
                rw [Bool.eq_false_iff, Ne, show (validB l a = true ↔ _) from by unfold validB; simp; exact Iff.rfl]
                omega
              rw [this]
              simp

theorem hasB_mem (fs : List S29) (s : ByteArray) : hasB fs s = memB (namesOf fs) s := by
  rw [Bool.eq_iff_iff, memB_iff]
  unfold hasB namesOf
  rw [List.any_eq_true, List.mem_map]
  exact ⟨fun ⟨x, h1, h2⟩ => ⟨x, h1, of_decide_eq_true h2⟩, fun ⟨x, h1, h2⟩ => ⟨x, h1, decide_eq_true h2⟩⟩
theorem met_mem (l : Tbl) (line : List Int) (s : ByteArray) : s ∈ metOf l line ↔ s ∈ namesOf (line.reverse.flatMap fun i => own l i) := by
  unfold metOf namesOf own
  rw [List.map_flatMap, List.mem_flatMap, List.mem_flatMap]
  simp only [List.mem_reverse]
theorem met_len (l : Tbl) : ∀ (line : List Int), (metOf l line).length = (line.reverse.flatMap fun i => own l i).length
  | [] => rfl
  | x :: line => by
    have ih := met_len l line
    unfold metOf at ih ⊢
    rw [List.flatMap_cons, List.length_append, ih, List.reverse_cons, List.flatMap_append, List.length_append]
    unfold namesOf own
    simp
    omega
theorem fault_tells (l : Tbl) (all : List S29) (met : List ByteArray) (hm : ∀ s, s ∈ met ↔ s ∈ namesOf all) (hml : met.length = all.length) (h1 : all.length ≤ 32) (fs : List S29) (h2 : fs.length * 24 ≤ 140737488351232) (h3 : ∀ x ∈ fs, x.f0.size ≤ 140737488351232 ∧ (0 ≤ x.f1 ∧ x.f1 ≤ 255)) : ∀ (d i : Nat), i + d = fs.length →
    Ev (fun k => types_fields.l0 k l fs i (met ++ namesOf (fs.take i))) (fieldFaultFrom l all fs d i)
  | 0, i, hd => by
    refine Ev.step (f := fun _ => some (if (fs.length : Int) > 32 - (all.length : Int) then 4 else 0)) (fun k => ?_) (Ev.now _)
    simp only [types_fields.l0]
    rw [if_neg (by omega)]
    have hl : (met ++ namesOf (fs.take i)).length = all.length + fs.length := by
      rw [List.length_append, names_len fs i (by omega), hml]
      omega
    rw [hl]
    by_cases e : (fs.length : Int) > 32 - (all.length : Int)
    · rw [if_pos e, if_pos (by omega)]
    · rw [if_neg e, if_neg (by omega)]
  | d + 1, i, hd => by
    have hi : i < fs.length := by omega
    have ih := fault_tells l all met hm hml h1 fs h2 h3 d (i + 1) (by omega)
    rw [names_next fs i hi, ← List.append_assoc] at ih
    have hx : rd_T29 fs (i : Int) ∈ fs := by
      have : rd_T29 fs (i : Int) = fs[i] := by simp [rd_T29, List.getD_eq_getElem?_getD, hi]
      rw [this]
      exact List.getElem_mem hi
    obtain ⟨q1, q2⟩ := h3 _ hx
    have hlen : (met ++ namesOf (fs.take i)).length = all.length + i := by rw [List.length_append, names_len fs i (by omega), hml]
    unfold fieldFaultFrom
    refine Ev.step (f := fun k => (wire_IsName.f k (rd_T29 fs i).f0).bind fun a => if a = true then ((slices_Contains_string_string.f k (met ++ namesOf (fs.take i)) (rd_T29 fs i).f0).bind fun b => if b = true then some 20 else ((types_stored.f l (rd_T29 fs i).f1).bind fun c => if c = true then types_fields.l0 k l fs (i + 1) (met ++ namesOf (fs.take i) ++ [(rd_T29 fs i).f0]) else some 22)) else some 6) (fun k => ?_) ?_
    · simp only [types_fields.l0]
      rw [if_pos hi, if_pos (by omega)]
    · refine Ev.bind (impl_name _ q1) ?_
      cases nameOk (rd_T29 fs i).f0 with
      | false =>
        show Ev _ (6 : Int)
        exact Ev.congr (fun k => by rw [if_neg (by simp)]) (Ev.now _)
      | true =>
        refine Ev.congr (fun k => by rw [if_pos rfl]) (Ev.bind (impl_contains _ _ (by omega)) ?_)
        rw [if_pos rfl]
        by_cases e1 : hasB all (rd_T29 fs i).f0 = true
        · have e1' := e1
          rw [hasB_mem, memB_iff, ← hm] at e1'
          rw [if_pos e1, (memB_iff _ _).2 (List.mem_append_left _ e1')]
          exact Ev.congr (fun k => by rw [if_pos rfl]) (Ev.now _)
        · by_cases e2 : hasB (fs.take i) (rd_T29 fs i).f0 = true
          · have e2' := e2
            rw [hasB_mem, memB_iff] at e2'
            rw [if_neg e1, if_pos e2, (memB_iff _ _).2 (List.mem_append_right _ e2')]
            exact Ev.congr (fun k => by rw [if_pos rfl]) (Ev.now _)
          · have e3 : ¬ (rd_T29 fs i).f0 ∈ met ++ namesOf (fs.take i) := by
              rw [List.mem_append, hm]
              rw [hasB_mem, memB_iff] at e1 e2
              exact fun h => h.elim e1 e2
            rw [if_neg e1, if_neg e2, Bool.eq_false_iff.mpr (fun h => e3 ((memB_iff _ _).1 h))]
            refine Ev.congr (fun k => by rw [if_neg (by simp), impl_stored l _ q2, Option.bind_some]) ?_
            cases storedB l (rd_T29 fs i).f1 with
            | false =>
              show Ev _ (22 : Int)
              exact Ev.congr (fun k => by rw [if_neg (by simp)]) (Ev.now _)
            | true => exact Ev.congr (fun k => by rw [if_pos rfl]) (by rw [if_pos rfl]; exact ih)
theorem impl_fields_fault (l : Tbl) (hs : Sane l) (c : Int) (h0 : 0 ≤ c) (h1 : c < (l.length : Int)) (hp : par l c < c) (hg : GoodTo l c) : Ev (fun k => types_fields.f k l c) (fieldFault l (fieldsOf l (par l c)) (own l c)) := by
  have hall : (fieldsOf l (par l c)).length ≤ 32 := GoodTo.fields (by omega) hg _ hp
  have hml := met_len l (climbL l (par l c))
  have ho := hs.own h0 h1
  have h := fault_tells l (fieldsOf l (par l c)) (metOf l (climbL l (par l c))) (fun s => met_mem l _ s) hml hall (own l c) ho.1 ho.2 (own l c).length 0 (by omega)
  refine Ev.congr (fun k => ?_) h
  unfold types_fields.f
  have hlim : (metOf l (climbL l (rd_T32 l c).f1)).length < 8796093022208 := by
    have : (metOf l (climbL l (par l c))).length ≤ 32 := by rw [hml]; exact hall
    unfold par at this
    omega
  rw [if_pos ⟨h0, h1, hlim⟩]
  show types_fields.l0 k l (own l c) 0 (metOf l (climbL l (par l c))) = _
  congr 1
  exact (List.append_nil _).symm

theorem ahead_any (l : Tbl) (c : Nat) (hc : c < l.length) : ∀ d : Nat, d ≤ c → aheadFrom l c d = ((l.take c).drop (c - d)).any fun x => x.f0.toList == (rd_T32 l c).f0.toList
  | 0, h => by
    rw [List.drop_of_length_le (by rw [List.length_take]; omega)]
    rfl
  | d + 1, h => by
    have hi : c - (d + 1) < (l.take c).length := by rw [List.length_take]; omega
    have hr : rd_T32 l ((c : Int) - ((d : Int) + 1)) = (l.take c)[c - (d + 1)] := by
      rw [show (c : Int) - ((d : Int) + 1) = ((c - (d + 1) : Nat) : Int) by omega, List.getElem_take]
      exact rd_class l _ (by omega)
    rw [List.drop_eq_getElem_cons hi, List.any_cons, show c - (d + 1) + 1 = c - d by omega, ← ahead_any l c hc d (by omega), ← hr]
    show (decide (nam l ((c : Int) - ((d : Int) + 1)) = nam l c) || aheadFrom l c d) = _
    congr 1
    unfold nam
    rw [Bool.eq_iff_iff, decide_eq_true_iff, beq_iff_eq]
    exact (str_eq _ _).symm
theorem impl_check_tells (l : Tbl) (hs : Sane l) : ∀ (d i : Nat), i + d = l.length → GoodTo l i → Ev (fun k => types_Check.l0 k l i) (checkFrom l d (i : Int))
  | 0, i, hd, hg => by
    exact Ev.step (f := fun _ => some _) (fun k => by simp only [types_Check.l0]; rw [if_neg (by omega)]; rfl) (Ev.now _)
  | d + 1, i, hd, hg => by
    have hi : i < l.length := by omega
    have hw : (rd_T32 l i).f0.size ≤ 140737488351232 := hs.nam (c := (i : Int)) (by omega) (by omega)
    have hfault : Ev (fun k => if i ≥ 32 then some 4 else ((wire_IsName.f k (rd_T32 l i).f0).bind fun a => if a = true then (types_words.f.bind fun ws => (slices_Contains_string_string.f k ws (rd_T32 l i).f0).bind fun b => if b = true then some 6 else (if ((l.take i).any fun x => x.f0.toList == (rd_T32 l i).f0.toList) = true then some 20 else (if (rd_T32 l i).f1 < -1 ∨ (rd_T32 l i).f1 ≥ i then some 21 else types_fields.f k l i))) else some 6)) (faultB l i) := by
      unfold faultB
      by_cases e1 : (i : Int) ≥ 32
      · rw [if_pos e1]
        exact Ev.congr (fun k => by rw [if_pos (by omega)]) (Ev.now _)
      · rw [if_neg e1]
        refine Ev.congr (fun k => by rw [if_neg (by omega)]) (Ev.bind (impl_name _ hw) ?_)
        have hn : nam l i = (rd_T32 l i).f0 := rfl
        rw [hn]
        cases nameOk (rd_T32 l i).f0 with
        | false =>
          show Ev _ (6 : Int)
          exact Ev.congr (fun k => by rw [if_neg (by simp)]) (Ev.now _)
        | true =>
          rw [if_pos rfl]
          refine Ev.congr (fun k => by rw [if_pos rfl, words_is, Option.bind_some]) (Ev.bind (impl_contains words6 _ (by decide)) ?_)
          have hword : isWordB (rd_T32 l i).f0 = memB words6 (rd_T32 l i).f0 := rfl
          rw [hword]
          cases memB words6 (rd_T32 l i).f0 with
          | true =>
            show Ev _ (6 : Int)
            exact Ev.congr (fun k => by rw [if_pos rfl]) (Ev.now _)
          | false =>
            rw [if_neg (by simp)]
            have hah := ahead_any l i hi i (Nat.le_refl _)
            rw [Nat.sub_self, List.drop_zero] at hah
            have hah2 : aheadB l i = aheadFrom l i i := by unfold aheadB; rw [Int.toNat_natCast]
            rw [hah2, hah]
            refine Ev.congr (fun k => by rw [if_neg (by simp)]) ?_
            cases ((l.take i).any fun x => x.f0.toList == (rd_T32 l i).f0.toList) with
            | true =>
              show Ev _ (20 : Int)
              exact Ev.congr (fun k => by rw [if_pos rfl]) (Ev.now _)
            | false =>
              rw [if_neg (by simp)]
              refine Ev.congr (fun k => by rw [if_neg (by simp)]) ?_
              unfold parFault
              by_cases q1 : par l i < -1
              · rw [if_pos q1]
                exact Ev.congr (fun k => by rw [if_pos (.inl q1)]) (Ev.now _)
              · by_cases q2 : par l i ≥ i
                · rw [if_neg q1, if_pos q2]
                  exact Ev.congr (fun k => by rw [if_pos (.inr q2)]) (Ev.now _)
                · rw [if_neg q1, if_neg q2]
                  refine Ev.congr (fun k => by rw [if_neg (fun h => h.elim q1 q2)]) ?_
                  exact impl_fields_fault l hs i (by omega) (by omega) (by omega) hg
    refine Ev.step (fun k => ?_) (Ev.bind hfault (f := fun k e => if e = 0 then types_Check.l0 k l (i + 1) else some ((i : Int), e)) ?_)
    · simp only [types_Check.l0]
      rw [if_pos hi]
    · unfold checkFrom
      by_cases e0 : faultB l i = 0
      · rw [if_pos e0]
        have ih := impl_check_tells l hs d (i + 1) (by omega) (fun c h0 h1 => by
          by_cases e : c = (i : Int)
          · subst e; exact e0
          · exact hg c h0 (by omega))
        exact Ev.congr (fun k => by rw [if_pos e0]) ih
      · rw [if_neg e0]
        exact Ev.congr (fun k => by rw [if_neg e0]) (Ev.now _)
theorem impl_check (l : Tbl) (hs : Sane l) : Ev (fun k => types_Check.f k l) (checkB l) := impl_check_tells l hs l.length 0 (by omega) (fun c h0 h1 => by omega)
end Go.Proofs.Ytkjagcamikkjkaa.P


end

section
namespace Go.Proofs.Ytkjagcamikkjkaa.P
open Go.RowKit Go.Proofs.YtkjagcamikkjkaaW.PrintWords Go.Proofs.YtkjagcamikkjkaaW.PrintLast Go.Proofs.YtkjagcamikkjkaaW.PrintMore
attribute [local go_sem] max2_int min2_int max_two min_two max_three min_three max_four min_four
set_option linter.unusedVariables false
set_option linter.unusedSimpArgs false
theorem good_fields {l : List S32} (hg : Good l) : FieldsOK l := fun c _ _ => impl_fields' hg c
theorem HeapAt.dom {w0 : World} {s : HS} {W : World} (h : HeapAt w0 s W) : ∀ x o, s.m x = some o → ObjOK s.l s.last x o := by
  obtain ⟨ob, rb, h⟩ := h
  exact h.dom
theorem HeapAt.lower {w w1 : World} {s : HS} {W : World} (h : HeapAt w1 s W) (hb : Below w.heap.size w w1) : HeapAt w s W := by
  obtain ⟨ob, rb, h⟩ := h
  have hs := hb.size
  exact ⟨ob, rb, h.hd, h.mp, h.obj, h.inj, ⟨Nat.le_trans hs h.base.1, Nat.le_trans hs h.base.2.1, fun x o hx => ⟨Nat.le_trans hs (h.base.2.2 x o hx).1, Nat.le_trans hs (h.base.2.2 x o hx).2⟩⟩, Kd.R_lower h.cls hs, h.dom, h.num, below_then hb hs h.below, h.keep, h.sep⟩
def BadRoots (s : HS) (roots : List Int) : Prop := ∃ x ∈ roots, x ≠ 0 ∧ s.m x = none
theorem good_roots {s : HS} {roots : List Int} (h : ¬ BadRoots s roots) : ∀ x ∈ roots, x ≠ 0 → (s.m x).isSome = true := fun x hx h0 => by
  cases hm : s.m x with
  | none => exact absurd ⟨x, hx, h0, hm⟩ h
  | some o => rfl
theorem mark_total {s : HS} (h : SumOK s) (hu : s.used ≤ 4096) (roots : List Int) : (BadRoots s roots ∧ markM 8193 s roots = some none) ∨ ∃ met, ¬ BadRoots s roots ∧ markM 8193 s roots = some (some met) ∧ Reached s roots met ∧ met.length ≤ 4096 := by
  by_cases hb : BadRoots s roots
  · exact .inl ⟨hb, mark_bad s _ roots hb⟩
  · obtain ⟨met, h1, h2⟩ := mark_good s 4096 (h.few hu) (Nat.le_refl _) roots (good_roots hb)
    exact .inr ⟨met, hb, h1, h2, h.few hu met h2.nd h2.live⟩
theorem HeapAt.used_le {w0 : World} {s : HS} {W : World} (h : HeapAt w0 s W) : s.used ≤ 4096 := by have := h.num; omega
theorem live_few {s : HS} (h : SumOK s) (hu : s.used ≤ 4096) : (liveL s).length ≤ 4096 := h.few hu _ (rising_nodup (liveL_rising s)) (fun x hx => (liveL_mem h.1 x).1 hx)
theorem hp_LiveS (w0 : World) (s : HS) (hs : SumOK s) (hlast : s.last < 17592186044416) (W : World) (h : HeapAt w0 s W) : Calls Try.prog 13 #[.pointer (some ⟨s.hb, 0, none⟩)] W fun e w' => ∃ v : Value, e = .returned v ∧ Kd.R (Kd.int .i64) 3 w' W.heap.size (fun _ => True) v (liveL s) ∧ Below W.heap.size W w' :=
  (hp_Live w0 s hlast W h).mono fun e w' ⟨v, ls, h1, h2, h3, h4, h5⟩ => by
    obtain rfl : ls = liveL s := rising_same h3 (liveL_rising s) (fun x => by rw [h4, liveL_mem hs.1])
    exact ⟨v, h1, h2, h5⟩
def reachL (s : HS) (met : List Int) : List Int := (liveL s).filter fun x => memH met x
theorem reachL_mem {s : HS} (hs : SumOK s) {met : List Int} (hl : ∀ x ∈ met, (s.m x).isSome = true) (x : Int) : x ∈ reachL s met ↔ x ∈ met := by
  unfold reachL memH
  rw [List.mem_filter, liveL_mem hs.1]
  simp only [decide_eq_true_eq]
  exact ⟨And.right, fun h => ⟨hl x h, h⟩⟩
theorem reachL_rising (s : HS) (met : List Int) : (reachL s met).Pairwise (· < ·) := (liveL_rising s).filter _
theorem hp_ReachS (w0 : World) (s : HS) (hs : SumOK s) (hg : Good s.l) (hlast : s.last < 4611686018427387904) (A : Option Addr) (c : Nat) (roots : List Int) (W : World) (h : HeapAt w0 s W) (hC : (Kd.int .i64).C W A roots.length roots) (hrk : ∀ y ∈ roots, I64 y) (hrl : roots.length < 17592186044416) :
    Calls Try.prog 20 #[.pointer (some ⟨s.hb, 0, none⟩), .slice A roots.length c] W fun e w' => Below W.heap.size W w' ∧ ((BadRoots s roots ∧ e = .returned (.tuple #[.slice none 0 0, .int .i64 141])) ∨ ∃ (met : List Int) (v : Value), ¬ BadRoots s roots ∧ Reached s roots met ∧ e = .returned (.tuple #[v, .int .i64 0]) ∧ Kd.R (Kd.int .i64) 3 w' W.heap.size (fun _ => True) v (reachL s met)) := by
  rcases mark_total hs h.used_le roots with ⟨hb, hm⟩ | ⟨met, hb, hm, hR, hl⟩
  · exact (hp_Reach w0 s 8193 A c roots none W h (good_fields hg) hlast hC hrk hrl hm (fun _ h => by cases h)).mono fun e w' ⟨h1, h2⟩ => ⟨h1, by
      rcases h2 with ⟨_, h2⟩ | ⟨met, _, _, h2, _⟩
      · exact .inl ⟨hb, h2⟩
      · cases h2⟩
  · exact (hp_Reach w0 s 8193 A c roots (some met) W h (good_fields hg) hlast hC hrk hrl hm (fun m h => by cases h; omega)).mono fun e w' ⟨h1, h2⟩ => ⟨h1, by
      rcases h2 with ⟨h2, _⟩ | ⟨met', v, ls, h2, h3, h4, h5, h6⟩
      · cases h2
      · cases h2
        obtain rfl : ls = reachL s met := rising_same h5 (reachL_rising s met) (fun x => by rw [h6, reachL_mem hs hR.live])
        exact .inr ⟨met, v, hb, hR, h3, h4⟩⟩
theorem hp_CollectS (w0 : World) (s : HS) (hs : SumOK s) (hg : Good s.l) (hlast : s.last < 17592186044416) (A : Option Addr) (c : Nat) (roots : List Int) (W : World) (h : HeapAt w0 s W) (hC : (Kd.int .i64).C W A roots.length roots) (hrk : ∀ y ∈ roots, I64 y) (hrl : roots.length < 17592186044416) :
    Calls Try.prog 12 #[.pointer (some ⟨s.hb, 0, none⟩), .slice A roots.length c] W fun e w' => (BadRoots s roots ∧ e = .returned (.tuple #[.int .i64 0, .int .i64 141]) ∧ HeapAt w0 s w') ∨ ∃ met : List Int, ¬ BadRoots s roots ∧ Reached s roots met ∧ e = .returned (.tuple #[.int .i64 (goC met s 0 (liveL s)).1, .int .i64 0]) ∧ HeapAt w0 (colS s met) w' := by
  have hlf := live_few hs h.used_le
  rcases mark_total hs h.used_le roots with ⟨hb, hm⟩ | ⟨met, hb, hm, hR, hl⟩
  · exact (hp_Collect w0 s 8193 A c roots none (liveL s) W h (good_fields hg) hlast hC hrk hrl hm (liveL_rising s) (fun x => liveL_mem hs.1 x) (by omega) (fun _ h => by cases h)).mono fun e w' h2 => by
      rcases h2 with ⟨_, h2, h3⟩ | ⟨met, h2, _⟩
      · exact .inl ⟨hb, h2, h.step h3⟩
      · cases h2
  · exact (hp_Collect w0 s 8193 A c roots (some met) (liveL s) W h (good_fields hg) hlast hC hrk hrl hm (liveL_rising s) (fun x => liveL_mem hs.1 x) (by omega) (fun m _ => hs.collect_le m)).mono fun e w' h2 => by
      rcases h2 with ⟨h2, _⟩ | ⟨met', h2, h3, h4⟩
      · cases h2
      · cases h2
        exact .inr ⟨met, hb, hR, h3, h4⟩
structure LifeS (l0 : List S32) (room : Int) (j : Nat) (s : HS) : Prop where
  l : s.l = l0
  good : Good l0
  room : s.room = room
  sum : SumOK s
  last : s.last ≤ j
  fr : ∀ k, ¬ s.fr k
theorem addM_last (s : HS) (c n : Int) : (addM s c n).2.2.last ≤ s.last + 1 ∧ (addM s c n).2.2.l = s.l ∧ (addM s c n).2.2.room = s.room ∧ (addM s c n).2.2.fr = s.fr ∧ (addM s c n).2.2.hb = s.hb := by
  unfold addM
  split
  · exact ⟨Nat.le_succ _, rfl, rfl, rfl, rfl⟩
  · exact ⟨Nat.le_refl _, rfl, rfl, rfl, rfl⟩
theorem LifeS.addM {l0 : List S32} {room : Int} {j : Nat} {s : HS} (h : LifeS l0 room j s) (c n : Int) (hn : 0 ≤ n) : LifeS l0 room (j + 1) (addM s c n).2.2 := by
  obtain ⟨h1, h2, h3, h4, _⟩ := addM_last s c n
  exact ⟨h2.trans h.l, h.good, h3.trans h.room, h.sum.add c n hn, by have := h.last; omega, by rw [h4]; exact h.fr⟩
theorem LifeS.up {l0 : List S32} {room : Int} {j : Nat} {s : HS} (h : LifeS l0 room j s) : LifeS l0 room (j + 1) s := ⟨h.l, h.good, h.room, h.sum, Nat.le_succ_of_le h.last, h.fr⟩
theorem LifeS.record {l0 : List S32} {room : Int} {j : Nat} {s : HS} (h : LifeS l0 room j s) (c : Int) : LifeS l0 room (j + 1) (recordM s c).2.2 := by
  unfold recordM
  split
  · exact h.up
  · exact h.addM _ _ (by omega)
theorem recordM_hb (s : HS) (c : Int) : (recordM s c).2.2.hb = s.hb := by
  unfold recordM
  split
  · rfl
  · exact (addM_last _ _ _).2.2.2.2
theorem rowM_hb (s : HS) (c : Int) : (rowM s c).2.2.hb = s.hb := by
  unfold rowM
  split
  · rfl
  · exact (addM_last _ _ _).2.2.2.2
theorem LifeS.row {l0 : List S32} {room : Int} {j : Nat} {s : HS} (h : LifeS l0 room j s) (n : Int) : LifeS l0 room (j + 1) (rowM s n).2.2 := by
  unfold rowM
  split
  · exact h.up
  · exact h.addM _ _ (by omega)
theorem putM_keeps (s : HS) (x i v : Int) : (putM s x i v).2.last = s.last ∧ (putM s x i v).2.l = s.l ∧ (putM s x i v).2.room = s.room ∧ (putM s x i v).2.fr = s.fr ∧ (putM s x i v).2.hb = s.hb := by
  unfold putM
  split
  · split
    · exact ⟨rfl, rfl, rfl, rfl, rfl⟩
    · exact ⟨rfl, rfl, rfl, rfl, rfl⟩
  · exact ⟨rfl, rfl, rfl, rfl, rfl⟩
theorem LifeS.put {l0 : List S32} {room : Int} {j : Nat} {s : HS} (h : LifeS l0 room j s) (x i v : Int) : LifeS l0 room (j + 1) (putM s x i v).2 := by
  obtain ⟨h1, h2, h3, h4, _⟩ := putM_keeps s x i v
  exact ⟨h2.trans h.l, h.good, h3.trans h.room, h.sum.put x i v, by have := h.last; omega, by rw [h4]; exact h.fr⟩
theorem colS_hb (s : HS) (met : List Int) : (colS s met).hb = s.hb := by rw [colS_eq]
theorem LifeS.collect {l0 : List S32} {room : Int} {j : Nat} {s : HS} (h : LifeS l0 room j s) (met : List Int) : LifeS l0 room (j + 1) (colS s met) := by
  refine ⟨?_, h.good, ?_, h.sum.collect met, ?_, ?_⟩ <;> rw [colS_eq]
  · exact h.l
  · exact h.room
  · exact Nat.le_succ_of_le h.last
  · exact h.fr
theorem LifeS.start (hb B : Nat) (vc : Value) {l0 : List S32} (hg : Good l0) (room : Int) (W : World) : LifeS l0 room 0 ⟨hb, B, vc, l0, room, 0, 0, fun _ => none, fun _ => False, W⟩ :=
  ⟨rfl, hg, rfl, ⟨fun x o h => (by cases h), (by unfold liveL; rfl)⟩, Nat.le_refl _, fun _ h => h⟩
end Go.Proofs.Ytkjagcamikkjkaa.P

end

section
namespace Go.Proofs.Ytkjagcamikkjkaa.P
open Go.RowKit Go.Proofs.YtkjagcamikkjkaaW.PrintWords Go.Proofs.YtkjagcamikkjkaaW.PrintLast Go.Proofs.YtkjagcamikkjkaaW.PrintMore
attribute [local go_sem] max2_int min2_int max_two min_two max_three min_three max_four min_four
set_option linter.unusedVariables false
set_option linter.unusedSimpArgs false
def awS (hb B : Nat) (vc : Value) (w : World) : HS := ⟨hb, B, vc, oneL 5, 9, 0, 0, fun _ => none, fun _ => False, w⟩
def awS1 (hb B : Nat) (vc : Value) (w : World) : HS := ⟨hb, B, vc, oneL 5, 9, 2, 1, updM (fun _ => none) 1 (0, [0]), fun _ => False, w⟩
def awS2 (hb B : Nat) (vc : Value) (w : World) : HS := ⟨hb, B, vc, oneL 5, 9, 5, 2, updM (updM (fun _ => none) 1 (0, [0])) 2 (-1, [0, 0]), fun _ => False, w⟩
def awS3 (hb B : Nat) (vc : Value) (w : World) : HS := ⟨hb, B, vc, oneL 5, 9, 5, 2, setNum (updM (updM (fun _ => none) 1 (0, [0])) 2 (-1, [0, 0])) 1 0 2, fun _ => False, w⟩
theorem aw_record (hb B : Nat) (vc : Value) (w : World) : recordM (awS hb B vc w) 0 = (1, 0, awS1 hb B vc w) := by kernel_rfl
theorem aw_row (hb B : Nat) (vc : Value) (w : World) : rowM (awS1 hb B vc w) 2 = (2, 0, awS2 hb B vc w) := by kernel_rfl
theorem aw_put (hb B : Nat) (vc : Value) (w : World) : putM (awS2 hb B vc w) 1 0 2 = (0, awS3 hb B vc w) := by kernel_rfl
set_option maxHeartbeats 1600000 in
set_option maxRecDepth 100000 in
theorem awake_calls (w : World) : Calls Try.prog 14 #[] w fun e w' => e = .returned (.bool true) ∧ Below w.heap.size w w' := by
  go_enter Try.func14, Try.ntmps14
  go_wp2_with fail
  obtain ⟨W, hW, hb, hC⟩ := two_alloc w 5
  rw [← hW]
  have HB := Aside0.mk hb
  clear hW hb
  refine (hp_New 40 _ 1 (oneL 5) 9 0 0 W hC (by decide) (by decide) (by decide) check_one5).mono ?_
  rintro e w3 (⟨h, _⟩ | ⟨_, _, h, _⟩ | ⟨_, _, _, hb, B, vc, rfl, hH⟩)
  · omega
  · omega
  have H : Aside0 (HeapAt W (awS hb B vc W) w3) := ⟨hH⟩
  clear hH hC
  go_wp2_with fail
  refine (hp_Record W (awS hb B vc W) 0 _ fields_one5 (show (0 : Nat) < 4611686018427387904 by decide) w3 H.out).mono ?_
  rw [aw_record]
  rintro e w4 ⟨rfl, hH⟩
  replace H := Aside0.mk hH
  clear hH
  go_wp2_with fail
  refine (hp_Row W (awS1 hb B vc W) 2 (by decide) (show (1 : Nat) < 4611686018427387904 by decide) w4 H.out).mono ?_
  rw [aw_row]
  rintro e w5 ⟨rfl, hH⟩
  replace H := Aside0.mk hH
  clear hH
  go_wp2_with fail
  refine (hp_Put W (awS2 hb B vc W) 1 0 2 (by constructor <;> decide) w5 H.out).mono ?_
  rw [aw_put]
  rintro e w6 ⟨rfl, hH⟩
  replace H := Aside0.mk hH
  clear hH
  go_wp2_with fail
  refine (hp_Used W (awS3 hb B vc W) w6 H.out).mono ?_
  rintro e w7 ⟨rfl, hb7⟩
  replace H := Aside0.mk (H.out.step hb7)
  clear hb7
  unfold awS3
  go_wp2_with fail
  go_ret
  exact ⟨rfl, below_then HB.out HB.out.size H.out.below⟩
end Go.Proofs.Ytkjagcamikkjkaa.P

end

section
namespace Go.Proofs.Ytkjagcamikkjkaa.P
open Go.RowKit Go.Proofs.YtkjagcamikkjkaaW.PrintWords Go.Proofs.YtkjagcamikkjkaaW.PrintLast Go.Proofs.YtkjagcamikkjkaaW.PrintMore
attribute [local go_sem] max2_int min2_int max_two min_two max_three min_three max_four min_four
set_option linter.unusedVariables false
set_option linter.unusedSimpArgs false
theorem rd_mem_a {l : List S89} {j : Nat} (h : j < l.length) : rd_T89 l (j : Int) ∈ l := by
  unfold rd_T89
  rw [Int.toNat_natCast, List.getD_eq_getElem?_getD, List.getElem?_eq_getElem h]
  exact List.getElem_mem h
theorem sane_long {l : List S32} (h : Sane l) : l.length < 4398046511104 ∧ ∀ c ∈ l, c.f2.length < 5864062014805 := by
  have h1 := h.size
  refine ⟨by omega, fun c hc => ?_⟩
  have := (h.2.2 c hc).2.2
  have := this.2.1
  omega
theorem hp_NewS (A0 : Option Addr) (c0 : Nat) (l0 : List S32) (room : Int) (w : World) (hr0 : Kd.C k32 w A0 l0.length l0) (hc0 : l0.length ≤ c0) (hs : Sane l0) :
    Calls Try.prog 9 #[.slice A0 l0.length c0, .int .i64 room] w fun e w' => (∃ n : Int, n ≠ 0 ∧ e = .returned (.tuple #[.pointer none, .int .i64 n]) ∧ Below w.heap.size w w') ∨ (∃ (hb B : Nat) (vc : Value), e = .returned (.tuple #[.pointer (some ⟨hb, 0, none⟩), .int .i64 0]) ∧ HeapAt w ⟨hb, B, vc, l0, room, 0, 0, fun _ => none, fun _ => False, w⟩ w' ∧ LifeS l0 room 0 ⟨hb, B, vc, l0, room, 0, 0, fun _ => none, fun _ => False, w⟩) := by
  obtain ⟨h1, h2⟩ := sane_long hs
  obtain ⟨k, hk⟩ := impl_check l0 hs
  have hk := hk k (Nat.le_refl k)
  refine (hp_New k A0 c0 l0 room (checkB l0).1 (checkB l0).2 w hr0 hc0 h1 h2 hk).mono ?_
  rintro e w' (⟨h, h3, h4⟩ | ⟨_, _, h, h3, h4⟩ | ⟨_, _, h, hb, B, vc, h3, h4⟩)
  · exact .inl ⟨1, by decide, h3, h4⟩
  · exact .inl ⟨_, h, h3, h4⟩
  · exact .inr ⟨hb, B, vc, h3, h4, LifeS.start hb B vc ((good_iff l0).1 h) room w⟩
theorem int_wf {n : Int} (h : (Lit.int .i64 n).wf = true) : I64 n := by
  simp [Lit.wf, IntKind.min, IntKind.max, IntKind.signed, IntKind.bits] at h
  exact h
set_option maxHeartbeats 1600000 in
set_option maxRecDepth 100000 in
theorem lived_calls (A0 : Option Addr) (c0 : Nat) (l0 : List S32) (room : Int) (A2 : Option Addr) (c2 : Nat) (acts : List S89) (w : World) (hr0 : Kd.C k32 w A0 l0.length l0) (hc0 : l0.length ≤ c0) (hr2 : Kd.C k89 w A2 acts.length acts) (hc2 : acts.length ≤ c2) (hs : Sane l0) (ha : acts.length * 56 ≤ 140737488351232) (hax : ∀ x ∈ acts, Ok89 x) :
    Calls Try.prog 15 #[.agg #[.slice A0 l0.length c0, .int .i64 room, .slice A2 acts.length c2]] w fun e w' => (e = .returned (.pointer none) ∧ Below w.heap.size w w') ∨ ∃ s : HS, e = .returned (.pointer (some ⟨s.hb, 0, none⟩)) ∧ HeapAt w s w' ∧ LifeS l0 room acts.length s := by
  have HR := Aside0.mk hr0
  have HC := Aside0.mk hc0
  have HA := Aside0.mk hr2
  have HC2 := Aside0.mk hc2
  have HSA := Aside0.mk hs
  have HAL := Aside0.mk ha
  have HAX := Aside0.mk hax
  clear hr0 hc0 hr2 hc2 hs ha hax
  go_enter Try.func15, Try.ntmps15
  go_wp2_with ((with_reducible refine gate_dst (N := 1) rfl ?_); refine rw_box rfl 43 rfl (cs := #[.slice A0 l0.length c0, .int .i64 room, .slice A2 acts.length c2]) rfl (Rws.nil w) ?_; intro b1 w1 hX; have HX := Aside0.mk hX; clear hX; have f0 := blk_cell (HX.out.mem List.mem_cons_self) 0; have f1 := blk_cell (HX.out.mem List.mem_cons_self) 1; have f2 := blk_cell (HX.out.mem List.mem_cons_self) 2; simp only [List.getElem?_toArray, List.getElem?_cons_zero, List.getElem?_cons_succ] at f0 f1 f2)
  have HB1 := Aside0.mk HX.out.below
  refine (hp_NewS A0 c0 l0 room w1 (Kd.C_below HR.out HB1.out) HC.out HSA.out).mono ?_
  rintro e w3 (⟨n, h, rfl, hb⟩ | ⟨hb, B, vc, rfl, hH, hL⟩)
  · have HB3 := Aside0.mk (below_then HB1.out HB1.out.size hb)
    have d1 : (n != 0) = true := by rw [bne_iff_ne]; exact h
    have d2 : (n == 0) = false := by rw [beq_eq_false_iff_ne]; exact h
    clear hb h
    go_wp2_with fail
    go_ret
    exact Or.inl ⟨rfl, HB3.out⟩
  have H := Aside0.mk hH
  have L := Aside0.mk hL
  have HX3 := Aside0.mk (HX.out.step H.out.below)
  clear hH hL f0 f1 f2
  have f0 := blk_cell (HX3.out.mem List.mem_cons_self) 0
  have f1 := blk_cell (HX3.out.mem List.mem_cons_self) 1
  have f2 := blk_cell (HX3.out.mem List.mem_cons_self) 2
  simp only [List.getElem?_toArray, List.getElem?_cons_zero, List.getElem?_cons_succ] at f0 f1 f2
  go_wp2_with fail
  go_loopw [20] (fun v20 wr => ∃ (j : Nat) (s : HS), v20 = .int .i64 (j : Int) ∧ j ≤ acts.length ∧ Aside0 (s.hb = hb) ∧ Aside0 (HeapAt w1 s wr) ∧ Aside0 (LifeS l0 room j s)) (fun v20 _ => ((acts.length : Int) - intOf v20).toNat)
  case atStart => exact ⟨0, _, rfl, Nat.zero_le _, ⟨rfl⟩, H, L⟩
  case round =>
    rename_i wr
    clear H L HX3 f0 f1 f2
    obtain ⟨j, s, rfl, hj, HHB, H, L⟩ := hrel
    have HBW := Aside0.mk (below_then HB1.out HB1.out.size H.out.below)
    by_cases c1 : j < acts.length
    · have c1b : decide ((j : Int) < (acts.length : Int)) = true := decide_eq_true (by omega)
      have c1c : decide (j < acts.length) = true := decide_eq_true c1
      have p5 : (0 ≤ (j : Int)) = True := eq_true (by omega)
      have p6 : ((j : Int) < (acts.length : Int)) = True := eq_true (by omega)
      have HJ := Aside0.mk c1
      have HW := Aside0.mk (wrap_h c1 (by have := HAL.out; omega))
      have hlast := L.out.last
      have HLT := Aside0.mk (show s.last < 4398046511104 by have := HAL.out; omega)
      obtain ⟨x, hx⟩ : ∃ x, x = rd_T89 acts (j : Int) := ⟨_, rfl⟩
      obtain ⟨ad, A4, c4, e1, hx0, hx1, hx2, hx3, hx4, hx5, hx6⟩ := at_T89 (Kd.C_below HA.out HBW.out) (j : Int) (by omega) (by omega)
      cases e1
      rw [← hx, Int.toNat_natCast] at hx0 hx1 hx2 hx3 hx4
      rw [← hx] at hx5 hx6
      have HF5 := Aside0.mk hx5
      have HF6 := Aside0.mk hx6
      have HXO := Aside0.mk (HAX.out x (by rw [hx]; exact rd_mem_a c1))
      clear c1 hx hx5 hx6 hlast
      go_wp2_with fail
      · replace HF6 := Aside0.mk (Kd.C_below HF6.out (below_alloc (Below.refl wr.heap.size wr) (.cells #[.int .i64 x.f0, .int .i64 x.f1, .int .i64 x.f2, .int .i64 x.f3, .slice A4 x.f4.length c4] 89)))
        replace H := Aside0.mk (H.out.step (below_alloc (Below.refl wr.heap.size wr) (.cells #[.int .i64 x.f0, .int .i64 x.f1, .int .i64 x.f2, .int .i64 x.f3, .slice A4 x.f4.length c4] 89)))
        clear hx0 hx1 hx2 hx3 hx4
        generalize wr.alloc (.cells #[.int .i64 x.f0, .int .i64 x.f1, .int .i64 x.f2, .int .i64 x.f3, .slice A4 x.f4.length c4] 89) = w4 at H HF6 ⊢
        have hcall := hp_Record w1 s x.f1 _ (by rw [L.out.l]; exact impl_fields' L.out.good x.f1) (by have := HLT.out; omega) w4 H.out
        rw [HHB.out] at hcall
        refine hcall.mono ?_
        clear hcall
        rintro e w5 ⟨rfl, hH⟩
        replace H := Aside0.mk hH
        replace L := Aside0.mk (L.out.record x.f1)
        replace HHB : Aside0 (((recordM s x.f1).2.2).hb = hb) := ⟨by rw [recordM_hb]; exact HHB.out⟩
        clear hH
        go_wp2_with fail
        go_roundw
        case rel => exact ⟨j + 1, _, (by rw [HW.out]), HJ.out, HHB, H, L⟩
        case measure => exact meas_h HJ.out HW.out
      · replace HF6 := Aside0.mk (Kd.C_below HF6.out (below_alloc (Below.refl wr.heap.size wr) (.cells #[.int .i64 x.f0, .int .i64 x.f1, .int .i64 x.f2, .int .i64 x.f3, .slice A4 x.f4.length c4] 89)))
        replace H := Aside0.mk (H.out.step (below_alloc (Below.refl wr.heap.size wr) (.cells #[.int .i64 x.f0, .int .i64 x.f1, .int .i64 x.f2, .int .i64 x.f3, .slice A4 x.f4.length c4] 89)))
        clear hx0 hx1 hx2 hx3 hx4
        generalize wr.alloc (.cells #[.int .i64 x.f0, .int .i64 x.f1, .int .i64 x.f2, .int .i64 x.f3, .slice A4 x.f4.length c4] 89) = w4 at H HF6 ⊢
        have hcall := hp_Row w1 s x.f1 (int_wf HXO.out.2.1).2 (by have := HLT.out; omega) w4 H.out
        rw [HHB.out] at hcall
        refine hcall.mono ?_
        clear hcall
        rintro e w5 ⟨rfl, hH⟩
        replace H := Aside0.mk hH
        replace L := Aside0.mk (L.out.row x.f1)
        replace HHB : Aside0 (((rowM s x.f1).2.2).hb = hb) := ⟨by rw [rowM_hb]; exact HHB.out⟩
        clear hH
        go_wp2_with fail
        go_roundw
        case rel => exact ⟨j + 1, _, (by rw [HW.out]), HJ.out, HHB, H, L⟩
        case measure => exact meas_h HJ.out HW.out
      · replace HF6 := Aside0.mk (Kd.C_below HF6.out (below_alloc (Below.refl wr.heap.size wr) (.cells #[.int .i64 x.f0, .int .i64 x.f1, .int .i64 x.f2, .int .i64 x.f3, .slice A4 x.f4.length c4] 89)))
        replace H := Aside0.mk (H.out.step (below_alloc (Below.refl wr.heap.size wr) (.cells #[.int .i64 x.f0, .int .i64 x.f1, .int .i64 x.f2, .int .i64 x.f3, .slice A4 x.f4.length c4] 89)))
        clear hx0 hx1 hx2 hx3 hx4
        generalize wr.alloc (.cells #[.int .i64 x.f0, .int .i64 x.f1, .int .i64 x.f2, .int .i64 x.f3, .slice A4 x.f4.length c4] 89) = w4 at H HF6 ⊢
        have hcall := hp_Put w1 s x.f1 x.f2 x.f3 (int_wf HXO.out.2.1) w4 H.out
        rw [HHB.out] at hcall
        refine hcall.mono ?_
        clear hcall
        rintro e w5 ⟨rfl, hH⟩
        replace H := Aside0.mk hH
        replace L := Aside0.mk (L.out.put x.f1 x.f2 x.f3)
        replace HHB : Aside0 (((putM s x.f1 x.f2 x.f3).2).hb = hb) := ⟨by rw [(putM_keeps s x.f1 x.f2 x.f3).2.2.2.2]; exact HHB.out⟩
        clear hH
        go_wp2_with fail
        go_roundw
        case rel => exact ⟨j + 1, _, (by rw [HW.out]), HJ.out, HHB, H, L⟩
        case measure => exact meas_h HJ.out HW.out
      · replace HF6 := Aside0.mk (Kd.C_below HF6.out (below_alloc (Below.refl wr.heap.size wr) (.cells #[.int .i64 x.f0, .int .i64 x.f1, .int .i64 x.f2, .int .i64 x.f3, .slice A4 x.f4.length c4] 89)))
        replace H := Aside0.mk (H.out.step (below_alloc (Below.refl wr.heap.size wr) (.cells #[.int .i64 x.f0, .int .i64 x.f1, .int .i64 x.f2, .int .i64 x.f3, .slice A4 x.f4.length c4] 89)))
        clear hx0 hx1 hx2 hx3 hx4
        generalize wr.alloc (.cells #[.int .i64 x.f0, .int .i64 x.f1, .int .i64 x.f2, .int .i64 x.f3, .slice A4 x.f4.length c4] 89) = w4 at H HF6 ⊢
        have hcall := hp_CollectS w1 s L.out.sum (by rw [L.out.l]; exact L.out.good) (by have := HLT.out; omega) A4 c4 x.f4 w4 H.out HF6.out (fun y hy => int_wf (HXO.out.2.2.2.2.2.2 y hy)) (by have := HXO.out.2.2.2.2.2.1; omega)
        rw [HHB.out] at hcall
        refine hcall.mono ?_
        clear hcall
        rintro e w5 (⟨_, rfl, hH⟩ | ⟨met, _, _, rfl, hH⟩)
        · replace H := Aside0.mk hH
          replace L := Aside0.mk L.out.up
          clear hH
          go_wp2_with fail
          go_roundw
          case rel => exact ⟨j + 1, _, (by rw [HW.out]), HJ.out, HHB, H, L⟩
          case measure => exact meas_h HJ.out HW.out
        · replace H := Aside0.mk hH
          replace L := Aside0.mk (L.out.collect met)
          replace HHB : Aside0 ((colS s met).hb = hb) := ⟨by rw [colS_hb]; exact HHB.out⟩
          clear hH
          go_wp2_with fail
          go_roundw
          case rel => exact ⟨j + 1, _, (by rw [HW.out]), HJ.out, HHB, H, L⟩
          case measure => exact meas_h HJ.out HW.out
      · replace H := Aside0.mk (H.out.step (below_alloc (Below.refl wr.heap.size wr) (.cells #[.int .i64 x.f0, .int .i64 x.f1, .int .i64 x.f2, .int .i64 x.f3, .slice A4 x.f4.length c4] 89)))
        replace L := Aside0.mk L.out.up
        go_roundw
        case rel => exact ⟨j + 1, _, (by rw [HW.out]), HJ.out, HHB, H, L⟩
        case measure => exact meas_h HJ.out HW.out
    · have c1b : decide ((j : Int) < (acts.length : Int)) = false := decide_eq_false (by omega)
      have c1c : decide (j < acts.length) = false := decide_eq_false c1
      have hje : j = acts.length := by omega
      rw [hje] at L
      clear c1 hj hje
      go_wp2_with fail
      go_ret
      exact Or.inr ⟨s, (by rw [HHB.out]; rfl), H.out.lower HB1.out, L.out⟩
end Go.Proofs.Ytkjagcamikkjkaa.P

end

section
namespace Go.Proofs.Ytkjagcamikkjkaa.P
open Go.RowKit Go.Proofs.YtkjagcamikkjkaaW.PrintWords Go.Proofs.YtkjagcamikkjkaaW.PrintLast Go.Proofs.YtkjagcamikkjkaaW.PrintMore
attribute [local go_sem] max2_int min2_int max_two min_two max_three min_three max_four min_four
set_option linter.unusedVariables false
set_option linter.unusedSimpArgs false
theorem wrap_one {i n : Nat} (h : i < n) (hn : n ≤ 9223372036854775807) : wrap64 ((i : Int) + 1) = ((i + 1 : Nat) : Int) := by unfold wrap64; omega
theorem drop_at {l : List Int} {i : Nat} (h : i < l.length) : l.drop i = rd l (i : Int) :: l.drop (i + 1) := by
  rw [List.drop_eq_getElem_cons h]
  congr 1
  show l[i] = l.getD (i : Int).toNat 0
  rw [Int.toNat_natCast, List.getD_eq_getElem?_getD, List.getElem?_eq_getElem h]
  rfl
theorem index_go (l : List Int) (hl : l.length ≤ 9223372036854775807) (x : Int) : ∀ (d i : Nat), l.length - i = d → i ≤ l.length → ∃ r : Int, Ev (fun k => slices_Index_int_int.l0 k l x (l.length : Int) (i : Int)) r ∧ (0 ≤ r ↔ x ∈ l.drop i) ∧ r < (l.length : Int) ∧ (0 ≤ r → rd l r = x)
  | 0, i, hd, hi => by
    obtain rfl : i = l.length := by omega
    refine ⟨-1, Ev.step (f := fun _ => some (-1)) (fun k => ?_) (Ev.now _), ?_, by omega, fun h => by omega⟩
    · simp only [slices_Index_int_int.l0]
      rw [if_neg (by omega)]
    · rw [List.drop_length]
      exact ⟨fun h => by omega, fun h => by cases h⟩
  | d + 1, i, hd, hi => by
    have h1 : i < l.length := by omega
    rw [drop_at h1]
    by_cases h2 : x = rd l (i : Int)
    · refine ⟨(i : Int), Ev.step (f := fun _ => some (i : Int)) (fun k => ?_) (Ev.now _), ⟨fun _ => by rw [h2]; simp, fun _ => by omega⟩, by omega, fun _ => h2.symm⟩
      simp only [slices_Index_int_int.l0]
      rw [if_pos (by omega), if_pos (by omega), if_pos (by omega), if_pos h2]
    · obtain ⟨r, hr, hm, hb, hx⟩ := index_go l hl x d (i + 1) (by omega) (by omega)
      refine ⟨r, Ev.step (fun k => ?_) hr, ?_, hb, hx⟩
      · simp only [slices_Index_int_int.l0]
        rw [if_pos (by omega), if_pos (by omega), if_pos (by omega), if_neg h2, wrap_one h1 hl]
      · rw [hm, List.mem_cons]
        exact ⟨fun h => .inr h, fun h => h.resolve_left h2⟩
theorem index_ev (l : List Int) (hl : l.length ≤ 9223372036854775807) (x : Int) : ∃ r : Int, Ev (fun k => slices_Index_int_int.f k l x) r ∧ (0 ≤ r ↔ x ∈ l) ∧ r < (l.length : Int) ∧ (0 ≤ r → rd l r = x) := by
  have h := index_go l hl x l.length 0 (by omega) (by omega)
  rw [List.drop_zero] at h
  exact h
theorem contains_ev (l : List Int) (hl : l.length ≤ 9223372036854775807) (x : Int) : Ev (fun k => slices_Contains_int_int.f k l x) (decide (x ∈ l)) := by
  obtain ⟨r, h1, h2, _⟩ := index_ev l hl x
  refine Ev.congr (f := fun k => (slices_Index_int_int.f k l x).bind fun t => some (decide (t ≥ 0))) (fun k => rfl) (Ev.bind h1 ?_)
  have e : decide (r ≥ 0) = decide (x ∈ l) := by
    by_cases h : x ∈ l
    · rw [decide_eq_true h, decide_eq_true (h2.2 h)]
    · rw [decide_eq_false h, decide_eq_false (fun h9 => h (h2.1 h9))]
  simp only [e]
  exact Ev.now _
theorem eq_ints (l : List Int) (hl : l.length ≤ 9223372036854775807) : ∀ (d i : Nat), l.length - i = d → i ≤ l.length → Ev (fun k => slices_Equal_int_int.l0 k l l (l.length : Int) (i : Int)) true
  | 0, i, hd, hi => by
    refine Ev.step (f := fun _ => some true) (fun k => ?_) (Ev.now _)
    simp only [slices_Equal_int_int.l0]
    rw [if_neg (by omega)]
  | d + 1, i, hd, hi => by
    have ih := eq_ints l hl d (i + 1) (by omega) (by omega)
    refine Ev.step (fun k => ?_) ih
    simp only [slices_Equal_int_int.l0]
    rw [if_pos (by omega), if_pos (by omega), if_pos (by omega), if_pos (by omega), if_pos True.intro, wrap_one (n := l.length) (by omega) hl]
theorem ints_ev (l : List Int) (hl : l.length ≤ 9223372036854775807) : Ev (fun k => slices_Equal_int_int.f k l l) true := by
  refine Ev.congr (fun k => ?_) (eq_ints l hl l.length 0 (by omega) (by omega))
  unfold slices_Equal_int_int.f
  rw [if_pos rfl]
  rfl
theorem ct_Contains (A : Option Addr) (c : Nat) (l : List Int) (x : Int) (w : World) (hr : Kd.C (Kd.int .i64) w A l.length l) (hc : l.length ≤ c) :
    Calls Try.prog 27 #[.slice A l.length c, .int .i64 x] w fun e w' => e = .returned (.bool (decide (x ∈ l))) ∧ Below w.heap.size w w' := by
  obtain ⟨k, hk⟩ := (contains_ev l (Kd.C_max hr) x).rounds
  exact (slices_Contains_int_int.calls k A c l x _ w hr hc hk).mono fun e w' h => ⟨h.1, h.2.below⟩
theorem ct_EqualSelf (A : Option Addr) (c : Nat) (A1 : Option Addr) (c1 : Nat) (l : List Int) (w : World) (hr : Kd.C (Kd.int .i64) w A l.length l) (hc : l.length ≤ c) (hr1 : Kd.C (Kd.int .i64) w A1 l.length l) (hc1 : l.length ≤ c1) :
    Calls Try.prog 30 #[.slice A l.length c, .slice A1 l.length c1] w fun e w' => e = .returned (.bool true) ∧ Below w.heap.size w w' := by
  obtain ⟨k, hk⟩ := (ints_ev l (Kd.C_max hr)).rounds
  exact (slices_Equal_int_int.calls k A c l A1 c1 l _ w hr hc hr1 hc1 hk).mono fun e w' h => ⟨h.1, h.2.below⟩
theorem int_fits {n : Nat} (h : n ≤ 17592186060800) : Builtin.nextslicecap (n + 1) n * 8 ≤ 281474976710656 := by
  unfold Builtin.nextslicecap
  split
  · omega
  · split
    · omega
    · have h1 : ∀ r c : Nat, n + 1 ≤ c → Builtin.growBy (n + 1) r c = c := fun r c hc => by
        cases r with
        | zero => rfl
        | succ r => unfold Builtin.growBy; rw [if_pos hc]
      unfold Builtin.growBy
      rw [if_neg (by omega), h1 3 _ (by omega)]
      omega
section
variable {ops : Array Oper} {rest : List Oper} {o : Oper} {a : Act} {Q : Exit → Act → World → Prop}
theorem ap_int (hgd : o.guard = none) {s x : Operand} (ho : o.op = .call { callee := .builtin .append, args := #[s, x], argTypes := #[37, 37] }) {w0 W : World} (base : Nat) {v : Value} {xs : List Int} (p : Int) (HO : Kd.R (Kd.int .i64) 3 W base (fun _ => True) v xs) (hs : a.eval s = v) (hx : a.eval x = .slice (some ⟨W.heap.size, 0, none⟩) 1 1)
    (HB : Below base w0 W) (hbase : base ≤ W.heap.size) (hl : xs.length ≤ 17592186060800)
    (h : ∀ v1 w1, Kd.R (Kd.int .i64) 3 w1 base (fun _ => True) v1 (xs ++ [p]) → Below base w0 w1 → wpList Try.prog ops Q rest (a.put o.dst v1) w1) : wpList Try.prog ops Q (o :: rest) a (W.alloc (.cells #[.int .i64 p] 3)) :=
  wpList_plain hgd fun K hK => R_append1_wp (Kd.int .i64) (w0 := w0) base hgd s x 37 3 (.int .i64 0) 8 ho Try.underlying37 info3 rfl (by decide) (by decide) v xs p [.int .i64 p] (fun _ => True) (fun _ => False) hs hx rfl (fun _ h => h.elim) (fun _ _ => trivial) HO HB hbase (by unfold maxLen; omega) (int_fits hl) (fun v1 w1 h1 h2 _ _ => hK _ _ (h v1 w1 h1 h2))
end
end Go.Proofs.Ytkjagcamikkjkaa.P

end

section
namespace Go.Proofs.Ytkjagcamikkjkaa.P
open Go.RowKit Go.Proofs.YtkjagcamikkjkaaW.PrintWords Go.Proofs.YtkjagcamikkjkaaW.PrintLast Go.Proofs.YtkjagcamikkjkaaW.PrintMore
attribute [local go_sem] max2_int min2_int max_two min_two max_three min_three max_four min_four
set_option linter.unusedVariables false
set_option linter.unusedSimpArgs false
set_option maxHeartbeats 1600000 in
set_option maxRecDepth 100000 in
theorem live_calls (w0 : World) (s : HS) (hs : SumOK s) (hlast : s.last < 17592186044416) (A : Option Addr) (c : Nat) (l : List Int) (w : World) (h : HeapAt w0 s w) (hC : (Kd.int .i64).C w A l.length l) (hc : l.length ≤ c) (hl : l.length < 17592186044416) :
    Calls Try.prog 22 #[.pointer (some ⟨s.hb, 0, none⟩), .slice A l.length c] w fun e w' => ∃ v : Value, e = .returned v ∧ Kd.R (Kd.int .i64) 3 w' w.heap.size (fun _ => True) v (l.filter fun x => (s.m x).isSome) ∧ Below w.heap.size w w' := by
  have H := Aside0.mk h
  have HSM := Aside0.mk hs
  have HLA := Aside0.mk hlast
  have HR := Aside0.mk hC
  have HC := Aside0.mk hc
  have HL := Aside0.mk hl
  clear h hs hlast hC hc hl
  go_enter Try.func22, Try.ntmps22
  go_wp2
  go_loopw [5, 10] (fun v5 v10 wr => ∃ (j : Nat) (v : Value), v10 = .int .i64 (j : Int) ∧ v5 = v ∧ j ≤ l.length ∧ Aside0 (Below w.heap.size w wr) ∧ Aside0 (Kd.R (Kd.int .i64) 3 wr w.heap.size (fun _ => True) v ((l.take j).filter fun x => (s.m x).isSome))) (fun _ v10 _ => ((l.length : Int) - intOf v10).toNat)
  case atStart => exact ⟨0, _, rfl, rfl, Nat.zero_le _, ⟨Below.refl _ _⟩, ⟨Kd.R_nil _ _ _ _ _⟩⟩
  case round =>
    rename_i wr
    obtain ⟨j, v, rfl, rfl, hj, HB, HV⟩ := hrel
    obtain ⟨Av, cv, ev⟩ := Kd.R_slice HV.out
    subst ev
    by_cases c1 : j < l.length
    · obtain ⟨x, hx⟩ : ∃ x, x = rd l (j : Int) := ⟨_, rfl⟩
      obtain ⟨ad, e1, hxa⟩ := Kd.at_int (Kd.C_below HR.out HB.out) (j : Int) (by omega) (by omega)
      cases e1
      rw [← hx, Int.toNat_natCast] at hxa
      have HTK := Aside0.mk (show (l.take (j + 1)).filter (fun x => (s.m x).isSome) = (l.take j).filter (fun x => (s.m x).isSome) ++ (if (s.m x).isSome = true then [x] else []) by
        rw [List.take_succ_eq_append_getElem c1, List.filter_append]
        congr 1
        have e9 : l[j] = x := by rw [hx]; unfold rd; rw [Int.toNat_natCast, List.getD_eq_getElem?_getD, List.getElem?_eq_getElem c1]; rfl
        rw [e9]
        by_cases h9 : (s.m x).isSome = true
        · rw [if_pos h9]; simp [h9]
        · rw [if_neg h9]; simp at h9; simp [h9])
      have HVL := Aside0.mk (show ((l.take j).filter fun x => (s.m x).isSome).length ≤ 17592186060800 by
        have h1 := List.length_filter_le (fun x => (s.m x).isSome) (l.take j)
        have h2 := List.length_take_le j l
        have h3 := HL.out
        omega)
      have c1b : decide ((j : Int) < (l.length : Int)) = true := decide_eq_true (by omega)
      have c1c : decide (j < l.length) = true := decide_eq_true c1
      have p5 : (0 ≤ (j : Int)) = True := eq_true (by omega)
      have p6 : ((j : Int) < (l.length : Int)) = True := eq_true (by omega)
      have HJ := Aside0.mk c1
      have HW := Aside0.mk (wrap_h c1 (by have := HL.out; omega))
      clear hx c1
      go_wp2_with fail
      refine (hp_LiveS w0 s HSM.out HLA.out wr (H.out.step HB.out)).mono ?_
      rintro e w5 ⟨u, rfl, hU, hb⟩
      replace HB := Aside0.mk (below_step HB.out hb)
      replace HV := Aside0.mk (Kd.R_below HV.out hb)
      obtain ⟨Au, cu, eu, hcu, hUC⟩ := Kd.R_reads hU
      subst eu
      have HU := Aside0.mk hUC
      have HUC := Aside0.mk hcu
      clear hU hb hcu hUC hxa
      go_wp2_with fail
      refine (ct_Contains Au cu (liveL s) x w5 HU.out HUC.out).mono ?_
      rintro e w6 ⟨rfl, hb⟩
      replace HB := Aside0.mk (below_step HB.out hb)
      replace HV := Aside0.mk (Kd.R_below HV.out hb)
      have hmm := liveL_mem HSM.out.1 x
      clear hb HU
      by_cases cm : x ∈ liveL s
      · have d1 : decide (x ∈ liveL s) = true := decide_eq_true cm
        replace HTK := HTK.out
        rw [if_pos (hmm.1 cm)] at HTK
        replace HTK := Aside0.mk HTK
        clear hmm cm
        go_wp2_with ((with_reducible refine gate_dst (N := 21) rfl ?_); refine ap_int rfl rfl (w0 := w) w.heap.size x HV.out rfl rfl HB.out HB.out.size HVL.out ?_; intro v9 w9 hV hb9; replace HV := Aside0.mk hV; replace HB := Aside0.mk hb9; clear hV hb9; obtain ⟨A9, c9, e9⟩ := Kd.R_slice HV.out; subst e9)
        go_roundw
        case rel => exact ⟨j + 1, _, (by rw [HW.out]), rfl, HJ.out, HB, ⟨by rw [HTK.out]; have h9 := HV.out; simp only [List.length_append, List.length_singleton] at h9; exact h9⟩⟩
        case measure => exact meas_h HJ.out HW.out
      · have d1 : decide (x ∈ liveL s) = false := decide_eq_false cm
        replace HTK := HTK.out
        rw [if_neg (fun h => cm (hmm.2 h)), List.append_nil] at HTK
        replace HTK := Aside0.mk HTK
        clear hmm cm
        go_wp2_with fail
        go_roundw
        case rel => exact ⟨j + 1, _, (by rw [HW.out]), rfl, HJ.out, HB, ⟨by rw [HTK.out]; exact HV.out⟩⟩
        case measure => exact meas_h HJ.out HW.out
    · have c1b : decide ((j : Int) < (l.length : Int)) = false := decide_eq_false (by omega)
      have c1c : decide (j < l.length) = false := decide_eq_false c1
      obtain ⟨ys, hys⟩ : ∃ ys, ys = (l.take j).filter fun x => (s.m x).isSome := ⟨_, rfl⟩
      rw [← hys] at HV ⊢
      rw [List.take_of_length_le (by omega)] at hys
      have HE := Aside0.mk hys
      clear hys c1 hj
      go_wp2_with fail
      go_ret
      exact ⟨_, rfl, by rw [← HE.out]; exact HV.out, HB.out⟩
end Go.Proofs.Ytkjagcamikkjkaa.P

end

section
namespace Go.Proofs.Ytkjagcamikkjkaa.P
open Go.RowKit Go.Proofs.YtkjagcamikkjkaaW.PrintWords Go.Proofs.YtkjagcamikkjkaaW.PrintLast Go.Proofs.YtkjagcamikkjkaaW.PrintMore
attribute [local go_sem] max2_int min2_int max_two min_two max_three min_three max_four min_four
set_option linter.unusedVariables false
set_option linter.unusedSimpArgs false
def placesM (s : HS) (x : Int) : List Int := if x = 0 then [] else ((s.m x).getD (0, [])).2
theorem lenM_places (s : HS) (x : Int) : (lenM s x).1 = ((placesM s x).length : Int) := by
  unfold lenM placesM
  by_cases h : x = 0
  · rw [if_pos h, if_pos h]; rfl
  · rw [if_neg h, if_neg h]
    cases s.m x <;> rfl
theorem getM_places {s : HS} {x : Int} {j : Nat} (h : j < (placesM s x).length) : getM s x (j : Int) = (rd (placesM s x) (j : Int), 0) := by
  by_cases h0 : x = 0
  · unfold placesM at h
    rw [if_pos h0] at h
    exact absurd h (Nat.not_lt_zero _)
  · cases hm : s.m x with
    | none =>
      unfold placesM at h
      rw [if_neg h0, hm] at h
      exact absurd h (Nat.not_lt_zero _)
    | some o =>
      have hp : placesM s x = o.2 := by unfold placesM; rw [if_neg h0, hm]; rfl
      rw [hp] at h ⊢
      have he := placeE_in (i := (j : Int)) h0 hm ⟨by omega, by omega⟩
      unfold getM numAt
      rw [if_pos he, hm]
      rfl
set_option maxHeartbeats 1600000 in
set_option maxRecDepth 100000 in
theorem places_calls (w0 : World) (s : HS) (x : Int) (hk : I64 x) (w : World) (h : HeapAt w0 s w) :
    Calls Try.prog 25 #[.pointer (some ⟨s.hb, 0, none⟩), .int .i64 x] w fun e w' => ∃ v : Value, e = .returned v ∧ Kd.R (Kd.int .i64) 3 w' w.heap.size (fun _ => True) v (placesM s x) ∧ Below w.heap.size w w' := by
  have HPL := Aside0.mk (show (placesM s x).length ≤ 4096 by
    unfold placesM
    split
    · simp
    · cases hm : s.m x with
      | none => simp
      | some o => exact (h.dom x o hm).2.2.1)
  have H := Aside0.mk h
  have HK := Aside0.mk hk
  have hlm := lenM_places s x
  obtain ⟨l, hl⟩ : ∃ l, l = placesM s x := ⟨_, rfl⟩
  rw [← hl] at hlm HPL ⊢
  have HGP := Aside0.mk (show ∀ j : Nat, j < l.length → getM s x (j : Int) = (rd l (j : Int), 0) by rw [hl]; exact fun j hj => getM_places hj)
  have HLM := Aside0.mk hlm
  clear h hk hl hlm
  go_enter Try.func25, Try.ntmps25
  go_wp2_with fail
  refine (hp_Len w0 s x HK.out w H.out).mono ?_
  rw [HLM.out]
  rintro e w3 ⟨rfl, hb⟩
  have HB := Aside0.mk hb
  clear hb
  go_wp2_with fail
  go_loopw [7, 18] (fun v7 v18 wr => ∃ (j : Nat) (v : Value) (zs : List Int), v18 = .int .i64 (j : Int) ∧ v7 = v ∧ j ≤ l.length ∧ Aside0 (Below w.heap.size w wr) ∧ Aside0 (zs = l.take j) ∧ Aside0 (Kd.R (Kd.int .i64) 3 wr w.heap.size (fun _ => True) v zs)) (fun _ v18 _ => ((l.length : Int) - intOf v18).toNat)
  case atStart => exact ⟨0, _, [], rfl, rfl, Nat.zero_le _, HB, ⟨rfl⟩, ⟨Kd.R_nil _ _ _ _ _⟩⟩
  case round =>
    rename_i wr
    clear HB
    obtain ⟨j, v, zs, rfl, rfl, hj, HB, HZ, HV⟩ := hrel
    obtain ⟨Av, cv, ev⟩ := Kd.R_slice HV.out
    subst ev
    by_cases c1 : j < l.length
    · obtain ⟨y, hy⟩ : ∃ y, y = rd l (j : Int) := ⟨_, rfl⟩
      have hg := HGP.out j c1
      rw [← hy] at hg
      have HG := Aside0.mk hg
      have HTK := Aside0.mk (show zs ++ [y] = l.take (j + 1) by
        rw [List.take_succ_eq_append_getElem c1, hy, HZ.out]
        unfold rd
        rw [Int.toNat_natCast, List.getD_eq_getElem?_getD, List.getElem?_eq_getElem c1]
        rfl)
      have HVL := Aside0.mk (show zs.length ≤ 17592186060800 by
        rw [HZ.out]
        have h2 := List.length_take_le j l
        have h3 := HPL.out
        omega)
      have c1b : decide ((j : Int) < (l.length : Int)) = true := decide_eq_true (by omega)
      have c1c : decide (j < l.length) = true := decide_eq_true c1
      have HJ := Aside0.mk c1
      have HW := Aside0.mk (wrap_h c1 (by have := HPL.out; omega))
      clear hy c1 hg
      go_wp2_with fail
      refine (hp_Get w0 s x (j : Int) HK.out wr (H.out.step HB.out)).mono ?_
      rw [HG.out]
      rintro e w5 ⟨rfl, hb⟩
      replace HB := Aside0.mk (below_step HB.out hb)
      replace HV := Aside0.mk (Kd.R_below HV.out hb)
      clear hb
      go_wp2_with ((with_reducible refine gate_dst (N := 31) rfl ?_); refine ap_int rfl rfl (w0 := w) w.heap.size y HV.out rfl rfl HB.out HB.out.size HVL.out ?_; intro v9 w9 hV hb9; replace HV := Aside0.mk hV; replace HB := Aside0.mk hb9; clear hV hb9; obtain ⟨A9, c9, e9⟩ := Kd.R_slice HV.out; subst e9)
      go_roundw
      case rel => exact ⟨j + 1, _, zs ++ [y], (by rw [HW.out]), rfl, HJ.out, HB, HTK, ⟨by have h9 := HV.out; first | exact h9 | (simp only [List.length_append, List.length_singleton] at h9; exact h9)⟩⟩
      case measure => exact meas_h HJ.out HW.out
    · have c1b : decide ((j : Int) < (l.length : Int)) = false := decide_eq_false (by omega)
      have c1c : decide (j < l.length) = false := decide_eq_false c1
      have HE := Aside0.mk (show zs = l by rw [HZ.out, List.take_of_length_le (by omega)])
      clear c1 hj
      go_wp2_with fail
      go_ret
      exact ⟨_, rfl, by rw [← HE.out]; exact HV.out, HB.out⟩
end Go.Proofs.Ytkjagcamikkjkaa.P

end

section
namespace Go.Proofs.Ytkjagcamikkjkaa.P
open Go.RowKit Go.Proofs.YtkjagcamikkjkaaW.PrintWords Go.Proofs.YtkjagcamikkjkaaW.PrintLast Go.Proofs.YtkjagcamikkjkaaW.PrintMore
attribute [local go_sem] max2_int min2_int max_two min_two max_three min_three max_four min_four
set_option linter.unusedVariables false
set_option linter.unusedSimpArgs false
theorem live_good {s : HS} (l : List Int) : ¬ BadRoots s (l.filter fun x => (s.m x).isSome) := by
  rintro ⟨x, hx, _, h⟩
  have := (List.mem_filter.1 hx).2
  rw [h] at this
  cases this
theorem Reached.sub {s : HS} {r1 r2 m1 m2 : List Int} (h1 : Reached s r1 m1) (h2 : Reached s r2 m2) (hs : ∀ x ∈ r1, x ∈ r2) : ∀ x ∈ m1, x ∈ m2 :=
  h1.least (fun x => x ∈ m2) (fun x hx hl => h2.has x (hs x hx) hl) (fun x v hx hv => h2.shut x hx v hv)
theorem Reached.both {s : HS} {r1 r2 m1 m2 m : List Int} (h1 : Reached s r1 m1) (h2 : Reached s r2 m2) (h : Reached s (r1 ++ r2) m) : ∀ x, x ∈ m ↔ x ∈ m1 ∨ x ∈ m2 := fun x =>
  ⟨h.least (fun x => x ∈ m1 ∨ x ∈ m2) (fun x hx hl => (List.mem_append.1 hx).imp (fun q => h1.has x q hl) (fun q => h2.has x q hl)) (fun x v hx hv => hx.imp (fun q => h1.shut x q v hv) (fun q => h2.shut x q v hv)) x,
   fun hx => hx.elim (Reached.sub h1 h (fun x hx => List.mem_append_left _ hx) x) (Reached.sub h2 h (fun x hx => List.mem_append_right _ hx) x)⟩
end Go.Proofs.Ytkjagcamikkjkaa.P

end

section
namespace Go.Proofs.Ytkjagcamikkjkaa.P
open Go.RowKit Go.Proofs.YtkjagcamikkjkaaW.PrintWords Go.Proofs.YtkjagcamikkjkaaW.PrintLast Go.Proofs.YtkjagcamikkjkaaW.PrintMore
attribute [local go_sem] max2_int min2_int max_two min_two max_three min_three max_four min_four
set_option linter.unusedVariables false
set_option linter.unusedSimpArgs false
def SuccAt (s : HS) (x : Int) (i : Nat) (v : Int) : Prop := ∃ o : Int × List Int, s.m x = some o ∧ 0 ≤ o.1 ∧ i < (fieldsL s.l o.1).length ∧ isRefH (rd_T29 (fieldsL s.l o.1) (i : Int)).f1 = true ∧ v = o.2.getD i 0 ∧ (s.m v).isSome = true
theorem SuccM.at_ {s : HS} {x v : Int} (h : SuccM s x v) : ∃ i, SuccAt s x i v := by
  obtain ⟨o, i, h⟩ := h
  exact ⟨i, o, h⟩
theorem SuccAt.is {s : HS} {x v : Int} {i : Nat} (h : SuccAt s x i v) : SuccM s x v := by
  obtain ⟨o, h⟩ := h
  exact ⟨o, i, h⟩
structure Named (s : HS) (rs m done nz : List Int) : Prop where
  sub : ∀ y ∈ nz, y ∈ m
  has : ∀ y ∈ rs, y ∈ nz
  shut : ∀ x ∈ done, ∀ v, SuccM s x v → v ∈ nz
theorem Named.all {s : HS} {rs m done nz : List Int} (hm : Reached s rs m) (h : Named s rs m done nz) (hd : ∀ x ∈ m, x ∈ done) : ∀ x ∈ m, x ∈ nz := fun x hx =>
  (hm.least (fun x => x ∈ m ∧ x ∈ nz) (fun y hy hl => ⟨hm.has y hy hl, h.has y hy⟩) (fun y v hy hv => ⟨hm.shut y hy.1 v hv, h.shut y (hd y hy.1) v hv⟩) x hx).2
section
variable {ops : Array Oper} {rest : List Oper} {o : Oper} {a : Act} {Q : Exit → Act → World → Prop}
def MidKept (a b : Nat) (w W : World) : Prop := b ≤ W.heap.size ∧ ∀ k, a ≤ k → k < b → W.heap[k]? = w.heap[k]?
theorem MidKept.step {a b : Nat} {w W W1 : World} (h : MidKept a b w W) (hb : Below W.heap.size W W1) : MidKept a b w W1 := ⟨Nat.le_trans h.1 hb.size, fun k h1 h2 => (hb.block k (Nat.lt_of_lt_of_le h2 h.1)).trans (h.2 k h1 h2)⟩
theorem MidKept.grown {a b : Nat} {w W W1 : World} {r : Option Nat} (h : MidKept a b w W) (hg : W.grownBy W1 r) (hr : ∀ k, r = some k → k < a ∨ b ≤ k) : MidKept a b w W1 := ⟨Nat.le_trans h.1 hg.size, fun k h1 h2 => (hg.block k (Nat.lt_of_lt_of_le h2 h.1) (fun e => by have := hr k e.symm; omega)).trans (h.2 k h1 h2)⟩
theorem MidKept.C {α : Type} {d : Kd α} {e a : Nat} {w W : World} {xs : List α} {A : Option Addr} {c : Nat} (hR : d.R e w a (fun _ => True) (.slice A xs.length c) xs) (h : MidKept a w.heap.size w W) : d.C W A xs.length xs := by
  have h1 : d.R e W a (fun k => a ≤ k) (.slice A xs.length c) xs := Kd.R_step (Kd.R_mono (Kd.R_bound hR) (fun k hk => hk.2.1)) (fun k hk hlt => h.2 k hk hlt)
  obtain ⟨A', c', e9, _, h9⟩ := Kd.R_reads h1
  injection e9 with e9 _ _
  rw [e9]
  exact h9
end
end Go.Proofs.Ytkjagcamikkjkaa.P

end

section
namespace Go.Proofs.Ytkjagcamikkjkaa.P
open Go.RowKit Go.Proofs.YtkjagcamikkjkaaW.PrintWords Go.Proofs.YtkjagcamikkjkaaW.PrintLast Go.Proofs.YtkjagcamikkjkaaW.PrintMore
attribute [local go_sem] max2_int min2_int max_two min_two max_three min_three max_four min_four
set_option linter.unusedVariables false
set_option linter.unusedSimpArgs false
theorem add0 (g m : Nat) : (⟨g, 0, none⟩ : Addr).add m = ⟨g, m, none⟩ := by
  unfold Addr.add
  split
  · rename_i h; first | (subst h; rfl) | (rw [h]) | simp_all
  · simp
theorem R_addr {α : Type} {d : Kd α} {e : Nat} {w : World} {base : Nat} {ok : Nat → Prop} {v : Value} {xs : List α} (h : d.R e w base ok v xs) (hb : ∃ b, v.ownBlock = some b) : ∃ g cap, v = .slice (some ⟨g, 0, none⟩) xs.length cap ∧ w.heap.size > g ∧ base ≤ g := by
  obtain ⟨h0, inner, ho, hr⟩ := h
  have hlt := own_lt ho
  rcases ho.2 with ⟨rfl, _⟩ | ⟨g, cap, cur, rfl, hbg, _⟩
  · obtain ⟨b, hb⟩ := hb
    simp [Value.ownBlock] at hb
  · exact ⟨g, cap, rfl, hlt g (by simp [Value.ownBlock]), hbg⟩
section
variable {ops : Array Oper} {rest : List Oper} {o : Oper} {a : Act} {Q : Exit → Act → World → Prop}
theorem int_put (hgd : o.guard = none) {p x : Operand} (ho : o.op = .store 3 p x) (hN : o.dst = none) {w0 W : World} {base g n cap : Nat} {ok : Nat → Prop} {xs : List Int} {b : Int} (i : Nat) (HO : Kd.R (Kd.int .i64) 3 W base ok (.slice (some ⟨g, 0, none⟩) n cap) xs) (hi : i < n) (HB : Below base w0 W) (haddr : a.eval p = .pointer (some ⟨g, i, none⟩)) (hx : a.eval x = .int .i64 b)
    (h : ∀ w1, Kd.R (Kd.int .i64) 3 w1 base ok (.slice (some ⟨g, 0, none⟩) n cap) (xs.set i b) → Below base w0 w1 → W.grownBy w1 (some g) → wpList Try.prog ops Q rest a w1) : wpList Try.prog ops Q (o :: rest) a W := by
  obtain ⟨c, hcl, _, hcc⟩ := Kd.R_getA HO 0 (i : Int) (by omega) (by omega)
  obtain ⟨q, rfl⟩ := List.length_eq_one_iff.1 (hcl.trans rfl)
  refine Kd.R_store (Kd.int .i64) base hN hgd 3 p x ho 3 (i : Int) 0 xs b (.int .i64 b) [.int .i64 b] [q] ok (fun _ => False) haddr (by show i = i * 1 + 0; omega) hx rfl (by kernel_rfl) (by intro q hq; rw [List.mem_singleton.1 hq]; rfl) HO (by omega) (by omega) rfl (fun j u hj => by have := hcc j u hj; rw [add0] at this; exact this) (by show 0 + 1 ≤ 1; omega) rfl (fun _ hk => hk.elim) HB ?_
  intro w1 h1 h2 h3
  exact h w1 (by rw [Int.toNat_natCast] at h1; exact h1) h2 h3
theorem ints_put (hgd : o.guard = none) {p x : Operand} (ho : o.op = .store 37 p x) (hN : o.dst = none) {w0 W : World} {base g n cap : Nat} {ok okp : Nat → Prop} {xs : List (List Int)} {l : List Int} {v : Value} (i : Nat) (HO : Kd.R (Kd.slice 3 (Kd.int .i64)) 37 W base ok (.slice (some ⟨g, 0, none⟩) n cap) xs) (hi : i < n) (HB : Below base w0 W) (haddr : a.eval p = .pointer (some ⟨g, i, none⟩)) (hx : a.eval x = v) (hv : Kd.R (Kd.int .i64) 3 W base okp v l) (hokp : ∀ k, okp k → ok k ∧ k ≠ g)
    (h : ∀ w1, Kd.R (Kd.slice 3 (Kd.int .i64)) 37 w1 base ok (.slice (some ⟨g, 0, none⟩) n cap) (xs.set i l) → Below base w0 w1 → W.grownBy w1 (some g) → wpList Try.prog ops Q rest a w1) : wpList Try.prog ops Q (o :: rest) a W := by
  obtain ⟨c, hcl, _, hcc⟩ := Kd.R_getA HO [] (i : Int) (by omega) (by omega)
  obtain ⟨q, rfl⟩ := List.length_eq_one_iff.1 (hcl.trans rfl)
  obtain ⟨A, cc, e9⟩ := Kd.R_slice hv
  refine Kd.R_store (Kd.slice 3 (Kd.int .i64)) base hN hgd 37 p x ho 37 (i : Int) 0 xs l v [v] [q] ok okp haddr (by show i = i * 1 + 0; omega) hx (by rw [e9]; rfl) (by kernel_rfl) (by intro q hq; rw [List.mem_singleton.1 hq, e9]; rfl) HO (by omega) (by omega) rfl (fun j u hj => by have := hcc j u hj; rw [add0] at this; exact this) (by show 0 + 1 ≤ 1; omega) ⟨v, rfl, hv⟩ hokp HB ?_
  intro w1 h1 h2 h3
  exact h w1 (by rw [Int.toNat_natCast] at h1; exact h1) h2 h3
end
theorem ints_at {w : World} {A : Option Addr} {n : Nat} {xs : List (List Int)} (h : Kd.C (Kd.slice 3 (Kd.int .i64)) w A n xs) (i : Nat) (hi : i < n) : ∃ ad A0 c0, A = some ad ∧ w.cell? (ad.add i) = some (.slice A0 (xs.getD i []).length c0) ∧ (xs.getD i []).length ≤ c0 ∧ (Kd.int .i64).C w A0 (xs.getD i []).length (xs.getD i []) := by
  obtain ⟨ad, c, e, _, hK, hc0⟩ := Kd.C_get h ([] : List Int) (i : Int) (by omega) (by omega)
  obtain ⟨A0, c0, rfl, l0, g0⟩ := hK
  have hq := hc0 0 _ rfl
  rw [Int.toNat_natCast] at hq l0 g0
  exact ⟨ad, A0, c0, e, by rwa [show i * (Kd.slice 3 (Kd.int .i64)).sz + 0 = i from Nat.mul_one i] at hq, l0, g0⟩
theorem getD_set {α : Type} (l : List α) (i j : Nat) (x d : α) (h : i < l.length) : (l.set i x).getD j d = if j = i then x else l.getD j d := by
  rw [List.getD_eq_getElem?_getD, List.getElem?_set]
  by_cases e : i = j
  · subst e
    simp [h]
  · rw [if_neg e, if_neg (fun q => e q.symm), List.getD_eq_getElem?_getD]
theorem HeapAt.freeze {w0 : World} {s : HS} {w3 wk : World} (h : HeapAt w0 s w3) (hb : Below w3.heap.size w3 wk) : HeapAt w0 { s with fr := fun k => w3.heap.size ≤ k ∧ k < wk.heap.size, w9 := wk } wk := by
  obtain ⟨ob, rb, h⟩ := h
  have h2 := h.step hb
  refine ⟨ob, rb, h2.hd, h2.mp, h2.obj, h2.inj, h2.base, ?_, h2.dom, h2.num, h2.below, ⟨Nat.le_refl _, fun k hk => ⟨hk.2, rfl⟩⟩, fun k hk => ?_⟩
  · exact Kd.R_mono (Kd.R_step (w1 := wk) (Kd.R_mono (Kd.R_bound h.cls) (fun k hk => (show k < w3.heap.size from hk.2.2.1))) (fun k _ hlt => hb.block k hlt)) (fun k hk hf => by
      have := hf.1
      omega)
  · have k1 := blk_lt h.hd
    have k2 := h.mp.lt
    have k0 : w3.heap.size ≤ k := hk.1
    exact ⟨show k ≠ s.hb by omega, show k ≠ s.B by omega, fun x o hx => by have k3 := blk_lt (h.obj x o hx).1; have k4 := blk_lt (h.obj x o hx).2; exact ⟨by omega, by omega⟩⟩
theorem HeapAt.kept {w0 : World} {s : HS} {w3 wk : World} {W : World} (h : HeapAt w0 s W) (hf : s.fr = fun k => w3.heap.size ≤ k ∧ k < wk.heap.size) (h9 : s.w9 = wk) : MidKept w3.heap.size wk.heap.size wk W := by
  obtain ⟨ob, rb, h⟩ := h
  have hk := h.keep
  rw [h9] at hk
  exact ⟨hk.1, fun k h1 h2 => (hk.2 k (by rw [hf]; exact ⟨h1, h2⟩)).2⟩
theorem MidKept.Cat {α : Type} {d : Kd α} {e a b : Nat} {w w2 W : World} {ok : Nat → Prop} {xs : List α} {A : Option Addr} {c n : Nat} (hR : d.R e w b ok (.slice A n c) xs) (hab : a ≤ b) (hw : Below w.heap.size w w2) (h : MidKept a w2.heap.size w2 W) : d.C W A xs.length xs ∧ xs.length ≤ c ∧ n = xs.length := by
  have h1 : d.R e w2 b (fun k => a ≤ k ∧ k < w2.heap.size) (.slice A n c) xs := Kd.R_mono (Kd.R_bound (Kd.R_below hR hw)) (fun k hk => ⟨Nat.le_trans hab hk.2.1, hk.2.2.1⟩)
  have h2 : d.R e W b (fun k => a ≤ k ∧ k < w2.heap.size) (.slice A n c) xs := Kd.R_step h1 (fun k hk _ => h.2 k hk.1 hk.2)
  obtain ⟨A', c', e9, h8, h9⟩ := Kd.R_reads h2
  injection e9 with e9 e7 e8
  subst e9 e8
  exact ⟨h9, h8, e7⟩
end Go.Proofs.Ytkjagcamikkjkaa.P

end

section
namespace Go.Proofs.Ytkjagcamikkjkaa.P
open Go.RowKit Go.Proofs.YtkjagcamikkjkaaW.PrintWords Go.Proofs.YtkjagcamikkjkaaW.PrintLast Go.Proofs.YtkjagcamikkjkaaW.PrintMore
attribute [local go_sem] max2_int min2_int max_two min_two max_three min_three max_four min_four
set_option linter.unusedVariables false
set_option linter.unusedSimpArgs false
theorem colS_l (s : HS) (met : List Int) : (colS s met).l = s.l := by rw [colS_eq]
theorem colS_last (s : HS) (met : List Int) : (colS s met).last = s.last := by rw [colS_eq]
theorem colS_live {s : HS} (hs : SumOK s) {rs met : List Int} (h : Reached s rs met) : liveL (colS s met) = reachL s met := rising_same (liveL_rising _) (reachL_rising s met) (fun x => by
  rw [liveL_mem (hs.collect met).1, reachL_mem hs h.live, colS_m hs.1]
  by_cases hx : x ∈ met
  · rw [if_pos hx]; exact ⟨fun _ => hx, fun _ => h.live x hx⟩
  · rw [if_neg hx]; exact ⟨fun q => (by cases q), fun q => absurd q hx⟩)
theorem colS_class {s : HS} (hs : SumOK s) {met : List Int} {x : Int} (hx : x ∈ met) : classM (colS s met) x = classM s x := by
  unfold classM
  rw [colS_m hs.1, if_pos hx]
theorem colS_places {s : HS} (hs : SumOK s) {met : List Int} {x : Int} (hx : x ∈ met) : placesM (colS s met) x = placesM s x := by
  unfold placesM
  rw [colS_m hs.1, if_pos hx]
theorem colS_again {s : HS} (hs : SumOK s) {rs met met2 : List Int} (h : Reached s rs met) (h2 : Reached (colS s met) rs met2) : (goC met2 (colS s met) 0 (liveL (colS s met))).1 = 0 := by
  have hall : ∀ x ∈ met, x ∈ met ∧ x ∈ met2 := h.least (fun x => x ∈ met ∧ x ∈ met2) (fun x hx hl => by
    have hm := h.has x hx hl
    exact ⟨hm, h2.has x hx (by rw [colS_m hs.1, if_pos hm]; exact hl)⟩) (fun x v hx hv => by
    have hvm := h.shut x hx.1 v hv
    refine ⟨hvm, h2.shut x hx.2 v ?_⟩
    obtain ⟨o, i, h1, h3, h4, h5, h6, h7⟩ := hv
    exact ⟨o, i, (by rw [colS_m hs.1, if_pos hx.1]; exact h1), h3, (by rw [colS_l]; exact h4), (by rw [colS_l]; exact h5), h6, (by rw [colS_m hs.1, if_pos hvm]; exact h7)⟩)
  rw [goC_n _ _ _ _ (rising_nodup (liveL_rising _)), List.filter_eq_nil_iff.2 (fun x hx => by
    have hx2 : x ∈ met2 := (hall x (by
      have := (liveL_mem (hs.collect met).1 x).1 hx
      rw [colS_m hs.1] at this
      by_cases hm : x ∈ met
      · exact hm
      · rw [if_neg hm] at this; cases this)).2
    unfold memH
    rw [decide_eq_true hx2]
    simp)]
  rfl
theorem colS_good {s : HS} (hs : SumOK s) {rs met : List Int} (h : Reached s rs met) (hr : ∀ x ∈ rs, (s.m x).isSome = true) : ¬ BadRoots (colS s met) rs := fun ⟨x, hx, _, h2⟩ => by
  rw [colS_m hs.1, if_pos (h.has x hx (hr x hx))] at h2
  have := hr x hx
  rw [h2] at this
  cases this
def provisolaw14_HeapStays.Facts (l0 : List S32) (room : Int) (acts : List S89) (roots : List Int) : Prop := Sane l0 ∧ (acts.length * 56 ≤ 140737488351232 ∧ ∀ x ∈ acts, Ok89 x) ∧ (roots.length < 17592186044416 ∧ ∀ x ∈ roots, I64 x)
set_option maxHeartbeats 1600000 in
set_option maxRecDepth 100000 in
theorem provisolaw14_HeapStays.calls (A0 : Option Addr) (c0 : Nat) (l0 : List S32) (room : Int) (A2 : Option Addr) (c2 : Nat) (acts : List S89) (A3 : Option Addr) (c3 : Nat) (roots : List Int) (w : World) (hr0 : Kd.C k32 w A0 l0.length l0) (hc0 : l0.length ≤ c0) (hr2 : Kd.C k89 w A2 acts.length acts) (hc2 : acts.length ≤ c2) (hr3 : Kd.C (Kd.int .i64) w A3 roots.length roots) (hc3 : roots.length ≤ c3) (h : provisolaw14_HeapStays.Facts l0 room acts roots) :
    Calls Try.prog 8 #[.agg #[.slice A0 l0.length c0, .int .i64 room, .slice A2 acts.length c2], .slice A3 roots.length c3] w fun e w' => e = .returned (.bool true) ∧ Below w.heap.size w w' := by
  have HR := Aside0.mk hr0
  have HC := Aside0.mk hc0
  have HA := Aside0.mk hr2
  have HC2 := Aside0.mk hc2
  have HRR := Aside0.mk hr3
  have HC3 := Aside0.mk hc3
  have HFA := Aside0.mk h
  clear hr0 hc0 hr2 hc2 hr3 hc3 h
  go_enter Try.func8, Try.ntmps8
  go_wp2_with ((with_reducible refine gate_dst (N := 2) rfl ?_); refine rw_box rfl 43 rfl (cs := #[.slice A0 l0.length c0, .int .i64 room, .slice A2 acts.length c2]) rfl (Rws.nil w) ?_; intro b1 w1 hX; have HX := Aside0.mk hX; clear hX)
  refine (awake_calls _).mono ?_
  rintro e w2 ⟨rfl, hb⟩
  replace HX := Aside0.mk (HX.out.step hb)
  clear hb
  have f0 := blk_cell (HX.out.mem List.mem_cons_self) 0
  have f1 := blk_cell (HX.out.mem List.mem_cons_self) 1
  have f2 := blk_cell (HX.out.mem List.mem_cons_self) 2
  simp only [List.getElem?_toArray, List.getElem?_cons_zero, List.getElem?_cons_succ] at f0 f1 f2
  go_wp2_with fail
  have HB2 := Aside0.mk HX.out.below
  refine (lived_calls A0 c0 l0 room A2 c2 acts w2 (Kd.C_below HR.out HX.out.below) HC.out (Kd.C_below HA.out HX.out.below) HC2.out HFA.out.1 HFA.out.2.1.1 HFA.out.2.1.2).mono ?_
  clear f0 f1 f2
  rintro e w3 (⟨rfl, hb⟩ | ⟨s, rfl, hH, hL⟩)
  · replace HX := Aside0.mk (HX.out.step hb)
    clear hb
    go_wp2_with fail
    go_ret
    exact ⟨rfl, HX.out.below⟩
  replace HX := Aside0.mk (HX.out.step hH.below)
  have HB := Aside0.mk HX.out.below
  have H := Aside0.mk hH
  have L := Aside0.mk hL
  clear hH hL
  have HLA := Aside0.mk (show s.last < 4398046511104 by have h1 := L.out.last; have h2 := HFA.out.2.1.1; omega)
  go_wp2_with fail
  refine (live_calls w2 s L.out.sum (by have := HLA.out; omega) A3 c3 roots w3 H.out (Kd.C_below HRR.out HB.out) HC3.out HFA.out.2.2.1).mono ?_
  rintro e w4 ⟨v, rfl, hV, hb⟩
  obtain ⟨rs, hrs⟩ : ∃ rs, rs = roots.filter fun x => (s.m x).isSome := ⟨_, rfl⟩
  have HRS := Aside0.mk (show ∀ x ∈ rs, (s.m x).isSome = true by rw [hrs]; exact fun x hx => (List.mem_filter.1 hx).2)
  have HGD := Aside0.mk (show ¬ BadRoots s rs by rw [hrs]; exact live_good roots)
  have HRK := Aside0.mk (show ∀ x ∈ rs, I64 x by rw [hrs]; exact fun x hx => HFA.out.2.2.2 x (List.mem_filter.1 hx).1)
  have HRL := Aside0.mk (show rs.length < 17592186044416 by rw [hrs]; exact Nat.lt_of_le_of_lt (List.length_filter_le _ _) HFA.out.2.2.1)
  rw [← hrs] at hV
  obtain ⟨Ar, cr, er, hcr, hCr⟩ := Kd.R_reads hV
  subst er
  have hVR := hV
  have HV := Aside0.mk hCr
  have HCR := Aside0.mk hcr
  have HW3 := Aside0.mk hb
  clear hV hb hrs hcr hCr
  go_wp2_with fail
  refine (hp_ReachS w2 s L.out.sum (by rw [L.out.l]; exact L.out.good) (by have := HLA.out; omega) Ar cr rs w4 (H.out.step HW3.out) HV.out HRK.out HRL.out).mono ?_
  rintro e w5 ⟨hb, ⟨hbad, _⟩ | ⟨m0, v0, _, hm0, rfl, hR0⟩⟩
  · exact absurd hbad HGD.out
  have HW5 := Aside0.mk (below_step HW3.out hb)
  have H5 := Aside0.mk (H.out.step HW5.out)
  have HX5 := Aside0.mk (HX.out.step HW5.out)
  have HV5 := Aside0.mk (Kd.C_below HV.out hb)
  obtain ⟨B0, d0, e0, hd0, hC0⟩ := Kd.R_reads hR0
  subst e0
  have HRV := Aside0.mk hVR
  obtain ⟨ls, hls⟩ : ∃ ls, ls = reachL s m0 := ⟨_, rfl⟩
  rw [← hls] at hC0 hd0 hR0 ⊢
  have M0 := Aside0.mk hm0
  have LS := Aside0.mk (show (∀ x, x ∈ ls ↔ x ∈ m0) ∧ ls.Pairwise (· < ·) ∧ ls.length ≤ 4096 by
    rw [hls]
    exact ⟨reachL_mem L.out.sum hm0.live, reachL_rising s m0, Nat.le_trans (List.length_filter_le _ _) (live_few L.out.sum H5.out.used_le)⟩)
  have LC := Aside0.mk (show costL s.m ls ≤ 4096 by
    rw [hls]
    have h1 := costL_split s.m (fun x => memH m0 x) (liveL s)
    have h2 := costL_nonneg s.m ((liveL s).filter fun x => !memH m0 x)
    have h3 := L.out.sum.2
    have h4 := H5.out.used_le
    unfold reachL
    omega)
  have HC0 := Aside0.mk hC0
  have HD0 := Aside0.mk hd0
  have HR0 := Aside0.mk hR0
  have HW45 := Aside0.mk hb
  have HEL := Aside0.mk hls
  clear hb hm0 hR0 hls hC0 hd0
  go_wp2_with (first
    | ((with_reducible refine gate_dst (N := 37) rfl ?_); refine Kd.R_make (Kd.slice 3 (Kd.int .i64)) (w0 := w5) w5.heap.size 37 rfl rfl 70 _ _ rfl (ls.length : Int) rfl rfl Try.underlying70 (.slice none 0 0) 24 (by kernel_rfl) rfl (by decide) (by decide) [] (ok := fun _ => True) (okp := fun _ => False) ⟨_, rfl, Kd.R_nil _ _ _ _ _⟩ (fun _ h => h.elim) trivial (by omega) (by have := LS.out.2.2; omega) (Below.refl _ _) (Nat.le_refl _) ?_; intro v8 w6 hR8 hb6 _ hown; rw [Int.toNat_natCast] at hR8; obtain ⟨g8, c8, e8, hg8, hbg8⟩ := R_addr hR8 ⟨_, hown.choose_spec.1⟩; rw [List.length_replicate] at e8; subst e8; have HR8 := Aside0.mk hR8; have HB6 := Aside0.mk hb6; have HG8 := Aside0.mk hg8; clear hR8 hb6 hown hg8 hbg8)
    | ((with_reducible refine gate_dst (N := 40) rfl ?_); refine Kd.R_make (Kd.int .i64) (w0 := w5) w5.heap.size 3 rfl rfl 37 _ _ rfl (ls.length : Int) rfl rfl Try.underlying37 (.int .i64 0) 8 info3 rfl (by decide) (by decide) 0 (ok := fun k => k ≠ g8) (okp := fun _ => False) rfl (fun _ h => h.elim) (by have := HG8.out; omega) (by omega) (by have := LS.out.2.2; omega) HB6.out HB6.out.size ?_; intro v9 w7 hR9 hb7 hg7 hown; rw [Int.toNat_natCast] at hR9; obtain ⟨g9, c9, e9, hg9, hbg9⟩ := R_addr hR9 ⟨_, hown.choose_spec.1⟩; rw [List.length_replicate] at e9; subst e9; have HR9 := Aside0.mk hR9; have HB7 := Aside0.mk hb7; have HG9 := Aside0.mk (show g9 ≠ g8 from hR9.1 g9 rfl); replace HR8 := Aside0.mk (Kd.R_grown (ok := fun k => k < w6.heap.size) (Kd.R_mono (Kd.R_bound HR8.out) (fun k hk => hk.2.2.1)) hg7 (fun k _ e => by cases e)); have HG96 := Aside0.mk (show w6.heap.size ≤ g9 by obtain ⟨b, h1, h2⟩ := hown; simp [Value.ownBlock] at h1; omega); have HG97 := Aside0.mk hg9; clear hR9 hb7 hg7 hown hg9 hbg9))
  have HS7 := Aside0.mk (show g8 < w7.heap.size ∧ g9 < w7.heap.size by have h1 := HG8.out; have h2 := HG97.out; have h3 := HG96.out; exact ⟨by omega, h2⟩)
  replace HR8 := Aside0.mk (Kd.R_mono (ok' := fun k => k ≠ g9) HR8.out (fun k hk => by have := HG96.out; omega))
  have HLT := Aside0.mk (show ∀ i : Nat, i < ls.length → I64 (rd ls (i : Int)) ∧ rd ls (i : Int) ∈ m0 by
    intro i hi
    have hm : rd ls (i : Int) ∈ ls := by unfold rd; rw [Int.toNat_natCast, List.getD_eq_getElem?_getD, List.getElem?_eq_getElem hi]; exact List.getElem_mem hi
    have hm0 := (LS.out.1 _).1 hm
    obtain ⟨o, ho⟩ := Option.isSome_iff_exists.1 (M0.out.live _ hm0)
    have h1 := L.out.sum.1 _ o ho
    have h2 := HLA.out
    exact ⟨by unfold I64; omega, hm0⟩)
  clear HB6
  go_loopw [43] (fun v43 wr => ∃ (i : Nat) (l8 : List (List Int)) (l9 : List Int), v43 = .int .i64 (i : Int) ∧ i ≤ ls.length ∧ Aside0 (Below w5.heap.size w5 wr) ∧ Aside0 (w7.heap.size ≤ wr.heap.size) ∧ Aside0 (Kd.R (Kd.slice 3 (Kd.int .i64)) 37 wr w5.heap.size (fun k => k ≠ g9) (.slice (some ⟨g8, 0, none⟩) ls.length c8) l8) ∧ Aside0 (Kd.R (Kd.int .i64) 3 wr w5.heap.size (fun k => k ≠ g8) (.slice (some ⟨g9, 0, none⟩) ls.length c9) l9) ∧ Aside0 (l8.length = ls.length ∧ l9.length = ls.length) ∧ Aside0 (∀ i' : Nat, i' < i → l8.getD i' [] = placesM s (rd ls (i' : Int)) ∧ l9.getD i' 0 = (classM s (rd ls (i' : Int))).1)) (fun v43 _ => ((ls.length : Int) - intOf v43).toNat)
  case atStart => exact ⟨0, _, _, rfl, Nat.zero_le _, HB7, ⟨Nat.le_refl _⟩, HR8, HR9, ⟨by simp⟩, ⟨fun _ h => absurd h (Nat.not_lt_zero _)⟩⟩
  case round =>
    rename_i wr
    clear HB7 HR8 HR9
    obtain ⟨i, l8, l9, rfl, hi, HB7, HSZ, HR8, HR9, HLN, HPT⟩ := hrel
    by_cases c1 : i < ls.length
    · obtain ⟨x, hx⟩ : ∃ x, x = rd ls (i : Int) := ⟨_, rfl⟩
      obtain ⟨ad, e1, hxa⟩ := Kd.at_int (Kd.C_below HC0.out HB7.out) (i : Int) (by omega) (by omega)
      cases e1
      have hk9 := HLT.out i c1
      rw [← hx, Int.toNat_natCast] at hxa
      rw [← hx] at hk9
      have HK := Aside0.mk hk9
      have HXX := Aside0.mk hx
      have c1b : decide ((i : Int) < (ls.length : Int)) = true := decide_eq_true (by omega)
      have c1c : decide (i < ls.length) = true := decide_eq_true c1
      have p5 : (0 ≤ (i : Int)) = True := eq_true (by omega)
      have p6 : ((i : Int) < (ls.length : Int)) = True := eq_true (by omega)
      have HJ := Aside0.mk c1
      have HW := Aside0.mk (wrap_h c1 (by have := LS.out.2.2; omega))
      clear hx c1 hk9
      go_wp2_with fail
      refine (places_calls w2 s x HK.out.1 wr (H5.out.step HB7.out)).mono ?_
      rintro e w8 ⟨vp, rfl, hP, hb⟩
      have hsw := HB7.out.size
      replace HB7 := Aside0.mk (below_step HB7.out hb)
      replace HR8 := Aside0.mk (Kd.R_below HR8.out hb)
      replace HR9 := Aside0.mk (Kd.R_below HR9.out hb)
      have HP := Aside0.mk (Kd.R_lower (Kd.R_mono (ok' := fun k => k ≠ g9 ∧ k ≠ g8 ∧ w7.heap.size ≤ k) (Kd.R_bound hP) (fun k hk => by have h1 := HS7.out; have h2 := HSZ.out; have h3 := hk.2.1; exact ⟨by omega, by omega, by omega⟩)) hsw)
      obtain ⟨Ap, cp, ep⟩ := Kd.R_slice HP.out
      subst ep
      have HSZ8 := Aside0.mk hb.size
      clear hP hb hsw hxa
      go_wp2_with ((with_reducible refine gate_store (t := 37) (p := 53) rfl ?_); refine ints_put rfl rfl rfl (w0 := w5) i HR8.out HJ.out HB7.out rfl rfl HP.out (fun k hk => ⟨hk.1, hk.2.1⟩) ?_; intro w9 h1 h2 h3; replace HR8 := Aside0.mk h1; replace HB7 := Aside0.mk h2; replace HR9 := Aside0.mk (Kd.R_grown HR9.out h3 (fun k hk e => hk (Option.some.inj e))); have HSZ9 := Aside0.mk h3.size; clear h1 h2 h3 HP)
      refine (hp_Class w2 s x HK.out.1 w9 (H5.out.step HB7.out)).mono ?_
      rintro e w10 ⟨rfl, hb⟩
      replace HB7 := Aside0.mk (below_step HB7.out hb)
      replace HR8 := Aside0.mk (Kd.R_below HR8.out hb)
      replace HR9 := Aside0.mk (Kd.R_below HR9.out hb)
      have HSZ10 := Aside0.mk hb.size
      clear hb
      go_wp2_with ((with_reducible refine gate_store (t := 3) (p := 62) rfl ?_); refine int_put rfl rfl rfl (w0 := w5) i HR9.out HJ.out HB7.out rfl rfl ?_; intro w11 h1 h2 h3; replace HR9 := Aside0.mk h1; replace HB7 := Aside0.mk h2; replace HR8 := Aside0.mk (Kd.R_grown HR8.out h3 (fun k hk e => hk (Option.some.inj e))); have HSZ11 := Aside0.mk h3.size; clear h1 h2 h3)
      go_roundw
      case rel => exact ⟨i + 1, _, _, (by rw [HW.out]), HJ.out, HB7, ⟨by have h1 := HSZ.out; have h2 := HSZ8.out; have h3 := HSZ9.out; have h4 := HSZ10.out; have h5 := HSZ11.out; omega⟩, HR8, HR9, ⟨by simp only [List.length_set]; exact HLN.out⟩, ⟨fun i' hi' => by
        have h1 := HLN.out
        have h2 := HJ.out
        rw [getD_set _ _ _ _ _ (by omega), getD_set _ _ _ _ _ (by omega)]
        by_cases e9 : i' = i
        · subst e9
          rw [if_pos rfl, if_pos rfl, ← HXX.out]
          exact ⟨rfl, rfl⟩
        · rw [if_neg e9, if_neg e9]
          exact HPT.out i' (by omega)⟩⟩
      case measure => exact meas_h HJ.out HW.out
    · have c1b : decide ((i : Int) < (ls.length : Int)) = false := decide_eq_false (by omega)
      have c1c : decide (i < ls.length) = false := decide_eq_false c1
      replace HPT := Aside0.mk (show ∀ i' : Nat, i' < ls.length → l8.getD i' [] = placesM s (rd ls (i' : Int)) ∧ l9.getD i' 0 = (classM s (rd ls (i' : Int))).1 from fun i' hi' => HPT.out i' (by omega))
      clear c1 hi
      go_wp2_with fail
      refine (hp_Used w2 s wr (H5.out.step HB7.out)).mono ?_
      rintro e w8 ⟨rfl, hb⟩
      replace HB7 := Aside0.mk (below_step HB7.out hb)
      replace HR8 := Aside0.mk (Kd.R_below HR8.out hb)
      replace HR9 := Aside0.mk (Kd.R_below HR9.out hb)
      clear hb
      have HB38 := Aside0.mk (below_then HW5.out HW5.out.size HB7.out)
      obtain ⟨s1, hs1⟩ : ∃ s1 : HS, s1 = { s with fr := fun k => w3.heap.size ≤ k ∧ k < w8.heap.size, w9 := w8 } := ⟨_, rfl⟩
      have HF := Aside0.mk (show HeapAt w2 s1 w8 by rw [hs1]; exact H.out.freeze HB38.out)
      have HSU := Aside0.mk (show SumOK s1 by rw [hs1]; exact L.out.sum)
      have HS1 := Aside0.mk (show s1.hb = s.hb ∧ s1.l = s.l ∧ s1.last = s.last ∧ s1.m = s.m ∧ s1.used = s.used ∧ (s1.fr = fun k => w3.heap.size ≤ k ∧ k < w8.heap.size) ∧ s1.w9 = w8 by rw [hs1]; exact ⟨rfl, rfl, rfl, rfl, rfl, rfl, rfl⟩)
      have HM1 := Aside0.mk (show ∀ met, Reached s1 rs met → Reached s rs met by rw [hs1]; exact fun met h => ⟨h.nd, h.live, h.has, h.shut, h.least⟩)
      have HE1 := Aside0.mk (show (∀ x, placesM s1 x = placesM s x) ∧ (∀ x, classM s1 x = classM s x) ∧ (∀ met, reachL s1 met = reachL s met) by rw [hs1]; exact ⟨fun _ => rfl, fun _ => rfl, fun _ => rfl⟩)
      clear hs1
      have hvv := Kd.C_below HV5.out HB7.out
      go_wp2_with fail
      have hcall := hp_CollectS w2 s1 HSU.out (by rw [HS1.out.2.1, L.out.l]; exact L.out.good) (by rw [HS1.out.2.2.1]; have := HLA.out; omega) Ar cr rs w8 HF.out hvv HRK.out HRL.out
      rw [HS1.out.1] at hcall
      refine hcall.mono ?_
      clear hcall hvv
      rintro e w9 (⟨⟨x9, hx9, _, hn9⟩, _, _⟩ | ⟨met, _, hreach, rfl, hH⟩)
      · exfalso
        have := HRS.out x9 hx9
        rw [HS1.out.2.2.2.1] at hn9
        rw [hn9] at this
        cases this
      have hreach0 := HM1.out met hreach
      have hmm : ∀ x, x ∈ met ↔ x ∈ m0 := fun x => ⟨Reached.sub hreach0 M0.out (fun _ h => h) x, Reached.sub M0.out hreach0 (fun _ h => h) x⟩
      have HMK := Aside0.mk (HeapAt.kept hH (by rw [colS_eq]; exact HS1.out.2.2.2.2.2.1) (by rw [colS_eq]; exact HS1.out.2.2.2.2.2.2))
      have hliv : liveL (colS s1 met) = ls := by
        rw [colS_live HSU.out hreach, HE1.out.2.2, HEL.out]
        exact rising_same (reachL_rising s met) (reachL_rising s m0) (fun x => by rw [reachL_mem L.out.sum hreach0.live, reachL_mem L.out.sum M0.out.live, hmm])
      obtain ⟨n0, hn0⟩ : ∃ n0, n0 = (goC met s1 0 (liveL s1)).1 := ⟨_, rfl⟩
      have huse : (colS s1 met).used = s.used - n0 := by rw [hn0, ← HS1.out.2.2.2.2.1]; rfl
      obtain ⟨s2, hs2⟩ : ∃ s2, s2 = colS s1 met := ⟨_, rfl⟩
      have HHB2 := Aside0.mk (show s2.hb = s.hb by rw [hs2, colS_hb]; exact HS1.out.1)
      have HL2 := Aside0.mk (show s2.l = s.l by rw [hs2, colS_l]; exact HS1.out.2.1)
      have HLA2 := Aside0.mk (show s2.last = s.last by rw [hs2, colS_last]; exact HS1.out.2.2.1)
      have HSU2 := Aside0.mk (show SumOK s2 by rw [hs2]; exact HSU.out.collect met)
      have HPL2 := Aside0.mk (show ∀ x ∈ m0, placesM s2 x = placesM s x by rw [hs2]; exact fun x hx => (colS_places HSU.out ((hmm x).2 hx)).trans (HE1.out.1 x))
      have HCL2 := Aside0.mk (show ∀ x ∈ m0, classM s2 x = classM s x by rw [hs2]; exact fun x hx => (colS_class HSU.out ((hmm x).2 hx)).trans (HE1.out.2.1 x))
      have HGD2 := Aside0.mk (show ¬ BadRoots s2 rs by rw [hs2]; exact colS_good HSU.out hreach (fun x hx => by rw [HS1.out.2.2.2.1]; exact HRS.out x hx))
      have HAG2 := Aside0.mk (show ∀ met2, Reached s2 rs met2 → (goC met2 s2 0 (liveL s2)).1 = 0 by rw [hs2]; exact fun met2 h2 => colS_again HSU.out hreach h2)
      rw [← hs2] at hH hliv huse
      rw [← hn0]
      have H2 := Aside0.mk hH
      have HLV2 := Aside0.mk hliv
      have HUS2 := Aside0.mk huse
      have hw1 : IntKind.i64.wrap (s.used - n0) = s.used - n0 := wrap_c (by have := H2.out.num; omega) (by have := H2.out.num; omega)
      clear hreach hreach0 hmm hliv huse hn0 hs2 hH
      go_wp2_with fail
      have hcall := hp_Used w2 s2 w9 H2.out
      rw [HHB2.out, HUS2.out] at hcall
      refine hcall.mono ?_
      clear hcall
      rintro e w10 ⟨rfl, hb⟩
      replace H2 := Aside0.mk (H2.out.step hb)
      replace HMK := Aside0.mk (HMK.out.step hb)
      clear hb
      go_wp2_with fail
      have hcall := hp_LiveS w2 s2 HSU2.out (by rw [HLA2.out]; have := HLA.out; omega) w10 H2.out
      rw [HHB2.out, HLV2.out] at hcall
      refine hcall.mono ?_
      clear hcall
      rintro e w11 ⟨vl, rfl, hV, hb⟩
      replace H2 := Aside0.mk (H2.out.step hb)
      replace HMK := Aside0.mk (HMK.out.step hb)
      obtain ⟨Al, cl, el, hcl, hCl⟩ := Kd.R_reads hV
      subst el
      have HLC := Aside0.mk hCl
      have HLD := Aside0.mk hcl
      clear hb hV hCl hcl
      go_wp2_with fail
      have hls := MidKept.Cat HR0.out HW3.out.size HB7.out HMK.out
      refine (ct_EqualSelf Al cl B0 d0 ls w11 HLC.out HLD.out hls.1 hls.2.1).mono ?_
      rintro e w12 ⟨rfl, hb⟩
      replace H2 := Aside0.mk (H2.out.step hb)
      replace HMK := Aside0.mk (HMK.out.step hb)
      clear hb hls
      go_wp2_with fail
      have hls := MidKept.Cat HR0.out HW3.out.size HB7.out HMK.out
      have HLS2 := Aside0.mk hls.1
      have h8 := MidKept.Cat HR8.out HW5.out.size (Below.refl _ _) HMK.out
      have h9 := MidKept.Cat HR9.out HW5.out.size (Below.refl _ _) HMK.out
      rw [← h8.2.2] at h8
      rw [← h9.2.2] at h9
      have HC8 := Aside0.mk h8.1
      have HC9 := Aside0.mk h9.1
      clear hls h8 h9
      go_loopw [91] (fun v91 wr => ∃ (j : Nat), v91 = .int .i64 (j : Int) ∧ j ≤ ls.length ∧ Aside0 (Below w12.heap.size w12 wr)) (fun v91 _ => ((ls.length : Int) - intOf v91).toNat)
      case atStart => exact ⟨0, rfl, Nat.zero_le _, ⟨Below.refl _ _⟩⟩
      case round =>
        obtain ⟨j, rfl, hj, HBZ⟩ := hrel
        by_cases c2 : j < ls.length
        · obtain ⟨x, hx⟩ : ∃ x, x = rd ls (j : Int) := ⟨_, rfl⟩
          obtain ⟨ad2, e2, hya⟩ := Kd.at_int (Kd.C_below HLS2.out HBZ.out) (j : Int) (by omega) (by omega)
          cases e2
          have hk9 := HLT.out j c2
          have hpt := HPT.out j c2
          rw [← hx, Int.toNat_natCast] at hya
          rw [← hx] at hk9 hpt
          have HK2 := Aside0.mk hk9
          have HP2 := Aside0.mk hpt
          have c2b : decide ((j : Int) < (ls.length : Int)) = true := decide_eq_true (by omega)
          have c2c : decide (j < ls.length) = true := decide_eq_true c2
          have p5 : (0 ≤ (j : Int)) = True := eq_true (by omega)
          have p6 : ((j : Int) < (ls.length : Int)) = True := eq_true (by omega)
          have HJ2 := Aside0.mk c2
          have HW2 := Aside0.mk (wrap_h c2 (by have := LS.out.2.2; omega))
          clear hx c2 hk9 hpt
          go_wp2_with fail
          have hcall := hp_Class w2 s2 x HK2.out.1 _ (H2.out.step HBZ.out)
          rw [HHB2.out, HCL2.out x HK2.out.2] at hcall
          refine hcall.mono ?_
          clear hcall
          rintro e w13 ⟨rfl, hb⟩
          replace HBZ := Aside0.mk (below_step HBZ.out hb)
          clear hb hya
          obtain ⟨cl9, hcl9⟩ : ∃ cl9, cl9 = (classM s x).1 := ⟨_, rfl⟩
          rw [← hcl9]
          have hx9 := (Kd.at_int (Kd.C_below HC9.out HBZ.out) (j : Int) (by omega) (by have := HJ2.out; omega))
          obtain ⟨ad9, e9, hxa9⟩ := hx9
          cases e9
          rw [Int.toNat_natCast, show rd l9 (j : Int) = cl9 by rw [hcl9, ← HP2.out.2]; rfl] at hxa9
          clear hcl9
          have hlt8 := Kd.C_lt HC8.out (by have := HJ2.out; omega) (by decide)
          have hlt9 := Kd.C_lt HC9.out (by have := HJ2.out; omega) (by decide)
          obtain ⟨ad8, A8, c8', e8, hxa8, hx8c, hx8C⟩ := ints_at HC8.out j (by have := HJ2.out; omega)
          cases e8
          rw [HP2.out.1] at hxa8 hx8c hx8C
          rw [add0] at hxa8 hxa9
          have HX8 := Aside0.mk hx8C
          have HX8C := Aside0.mk hx8c
          have HC9j : w12.cell? ⟨g9, j, none⟩ = some (.int .i64 cl9) := by
            have h1 : w13.cell? ⟨g9, j, none⟩ = w12.cell? ⟨g9, j, none⟩ := by unfold World.cell?; rw [HBZ.out.block g9 hlt9]
            rw [← h1]; exact hxa9
          have HSS := Aside0.mk (show ∀ W' : World, Below w12.heap.size w12 W' → W'.cell? ⟨g9, j, none⟩ = some (.int .i64 cl9) ∧ W'.cell? ⟨g8, j, none⟩ = some (.slice A8 (placesM s x).length c8') from fun W' hW => ⟨by
            have h1 : W'.cell? ⟨g9, j, none⟩ = w12.cell? ⟨g9, j, none⟩ := by unfold World.cell?; rw [hW.block g9 hlt9]
            rw [h1]; exact HC9j, by
            have h1 : W'.cell? ⟨g8, j, none⟩ = w12.cell? ⟨g8, j, none⟩ := by unfold World.cell?; rw [hW.block g8 hlt8]
            rw [h1]; exact hxa8⟩)
          clear hx8C hx8c hlt8 hlt9 HC9j hxa8 hxa9
          go_wp2_with fail
          (try simp only [Act.put, List.setIfInBounds_toArray, List.set_cons_zero, List.set_cons_succ])
          refine wp_region_held_drew (S := fun w' => w'.cell? ⟨g9, j, none⟩ = some (.int .i64 cl9) ∧ w'.cell? ⟨g8, j, none⟩ = some (.slice A8 (placesM s x).length c8')) (by kernel_rfl) ?_ (fun hHeld => ?_)
          · exact HSS.out _ (pw_below_drewN HBZ.out 1)
          have HBD := Aside0.mk (show Below w12.heap.size w12 w13.drew from pw_below_drewN HBZ.out 1)
          refine take_dst (i := 0) (v := ?_) 102 rfl rfl (by kernel_rfl) (by kernel_rfl) (by kernel_rfl) (fun _ _ _ h => h) (Or.inl ⟨by rfl, ?_⟩) (by assumption) ?_
          rotate_left
          · intro w hSw
            obtain ⟨q1, q2⟩ := hSw
            go_simp
            try with_reducible rfl
          (try simp only [Act.put, List.setIfInBounds_toArray, List.set_cons_zero, List.set_cons_succ])
          refine take_dst (i := 1) (v := ?_) 103 rfl rfl (by kernel_rfl) (by kernel_rfl) (by kernel_rfl) (fun _ _ _ h => h) (Or.inl ⟨by rfl, ?_⟩) (by assumption) ?_
          rotate_left
          · intro w hSw
            obtain ⟨q1, q2⟩ := hSw
            go_simp
            try with_reducible rfl
          (try simp only [Act.put, List.setIfInBounds_toArray, List.set_cons_zero, List.set_cons_succ])
          refine take_dst (i := 2) (v := ?_) 104 rfl rfl (by kernel_rfl) (by kernel_rfl) (by kernel_rfl) (fun _ _ _ h => h) (Or.inl ⟨by rfl, ?_⟩) (by assumption) ?_
          rotate_left
          · intro w hSw
            obtain ⟨q1, q2⟩ := hSw
            go_simp
            try with_reducible rfl
          (try simp only [Act.put, List.setIfInBounds_toArray, List.set_cons_zero, List.set_cons_succ])
          refine take_dst (i := 3) (v := ?_) 105 rfl rfl (by kernel_rfl) (by kernel_rfl) (by kernel_rfl) (fun _ _ _ h => h) (Or.inl ⟨by rfl, ?_⟩) (by assumption) ?_
          rotate_left
          · intro w hSw
            obtain ⟨q1, q2⟩ := hSw
            go_simp
            try with_reducible rfl
          (try simp only [Act.put, List.setIfInBounds_toArray, List.set_cons_zero, List.set_cons_succ])
          refine take_dst (i := 4) (v := ?_) 106 rfl rfl (by kernel_rfl) (by kernel_rfl) (by kernel_rfl) (fun _ _ _ h => h) (Or.inl ⟨by rfl, ?_⟩) (by assumption) ?_
          rotate_left
          · intro w hSw
            obtain ⟨q1, q2⟩ := hSw
            go_simp
            try with_reducible rfl
          (try simp only [Act.put, List.setIfInBounds_toArray, List.set_cons_zero, List.set_cons_succ])
          refine take_dst (i := 5) (v := ?_) 107 rfl rfl (by kernel_rfl) (by kernel_rfl) (by kernel_rfl) (fun _ _ _ h => h) (Or.inl ⟨by rfl, ?_⟩) (by assumption) ?_
          rotate_left
          · intro w hSw
            obtain ⟨q1, q2⟩ := hSw
            go_simp
            try with_reducible rfl
          (try simp only [Act.put, List.setIfInBounds_toArray, List.set_cons_zero, List.set_cons_succ])
          refine take_dst (i := 6) (v := ?_) 108 rfl rfl (by kernel_rfl) (by kernel_rfl) (by kernel_rfl) (fun _ _ _ h => h) (Or.inl ⟨by rfl, ?_⟩) (by assumption) ?_
          rotate_left
          · intro w hSw
            obtain ⟨q1, q2⟩ := hSw
            go_simp
            try with_reducible rfl
          (try simp only [Act.put, List.setIfInBounds_toArray, List.set_cons_zero, List.set_cons_succ])
          refine take_dst (i := 7) (v := ?_) 109 rfl rfl (by kernel_rfl) (by kernel_rfl) (by kernel_rfl) (fun _ _ _ h => h) (Or.inl ⟨by rfl, ?_⟩) (by assumption) ?_
          rotate_left
          · intro w hSw
            obtain ⟨q1, q2⟩ := hSw
            go_simp
            try with_reducible rfl
          (try simp only [Act.put, List.setIfInBounds_toArray, List.set_cons_zero, List.set_cons_succ])
          refine take_dst (i := 8) (v := ?_) 110 rfl rfl (by kernel_rfl) (by kernel_rfl) (by kernel_rfl) (fun _ _ _ h => h) (Or.inl ⟨by rfl, ?_⟩) (by assumption) ?_
          rotate_left
          · intro w hSw
            obtain ⟨q1, q2⟩ := hSw
            go_simp
            try with_reducible rfl
          (try simp only [Act.put, List.setIfInBounds_toArray, List.set_cons_zero, List.set_cons_succ])
          refine take_dst (i := 10) (v := ?_) 112 rfl rfl (by kernel_rfl) (by kernel_rfl) (by kernel_rfl) (fun _ _ _ h => h) (Or.inl ⟨by rfl, ?_⟩) (by assumption) ?_
          rotate_left
          · intro w hSw
            obtain ⟨q1, q2⟩ := hSw
            go_simp
            try with_reducible rfl
          (try simp only [Act.put, List.setIfInBounds_toArray, List.set_cons_zero, List.set_cons_succ])
          refine take_dst (i := 11) (v := ?_) 113 rfl rfl (by kernel_rfl) (by kernel_rfl) (by kernel_rfl) (fun _ _ _ h => h) (Or.inl ⟨by rfl, ?_⟩) (by assumption) ?_
          rotate_left
          · intro w hSw
            obtain ⟨q1, q2⟩ := hSw
            go_simp
            try with_reducible rfl
          (try simp only [Act.put, List.setIfInBounds_toArray, List.set_cons_zero, List.set_cons_succ])
          refine take_dst (i := 12) (v := ?_) 114 rfl rfl (by kernel_rfl) (by kernel_rfl) (by kernel_rfl) (fun _ _ _ h => h) (Or.inl ⟨by rfl, ?_⟩) (by assumption) ?_
          rotate_left
          · intro w hSw
            obtain ⟨q1, q2⟩ := hSw
            go_simp
            try with_reducible rfl
          (try simp only [Act.put, List.setIfInBounds_toArray, List.set_cons_zero, List.set_cons_succ])
          refine take_dst (i := 13) (v := ?_) 115 rfl rfl (by kernel_rfl) (by kernel_rfl) (by kernel_rfl) (fun _ _ _ h => h) (Or.inl ⟨by rfl, ?_⟩) (by assumption) ?_
          rotate_left
          · intro w hSw
            obtain ⟨q1, q2⟩ := hSw
            go_simp
            try with_reducible rfl
          (try simp only [Act.put, List.setIfInBounds_toArray, List.set_cons_zero, List.set_cons_succ])
          refine wpAnyH_ready (rs := [9]) (by kernel_rfl) (by simp) ?_
          refine AllReadyH.cons rfl (fun K hK => ?_) AllReadyH.nil
          go_simp
          have hcall := places_calls w2 s2 x HK2.out.1 w13.drew (H2.out.step HBD.out)
          rw [HHB2.out, HPL2.out x HK2.out.2] at hcall
          refine hcall.mono ?_
          clear hcall
          rintro e w14 ⟨vq, rfl, hQ, hb⟩
          replace HBD := Aside0.mk (below_step HBD.out hb)
          obtain ⟨Aq, cq, eq9, hcq, hCq⟩ := Kd.R_reads hQ
          subst eq9
          have HQC := Aside0.mk hCq
          have HQD := Aside0.mk hcq
          clear hQ hb hCq hcq
          go_simp
          refine hK.out _ _ (HSS.out w14 HBD.out) (fun hHeld => ?_)
          (try simp only [Act.put, List.setIfInBounds_toArray, List.set_cons_zero, List.set_cons_succ])
          clear hK K
          refine wpAnyH_ready (rs := [14]) (by kernel_rfl) (by simp) ?_
          refine AllReadyH.cons rfl (fun K hK => ?_) AllReadyH.nil
          go_simp
          refine (ct_EqualSelf Aq cq A8 c8' (placesM s x) w14 HQC.out HQD.out (Kd.C_below HX8.out HBD.out) HX8C.out).mono ?_
          rintro e w15 ⟨rfl, hb⟩
          replace HBD := Aside0.mk (below_step HBD.out hb)
          clear hb
          go_simp
          refine hK.out _ _ (HSS.out w15 HBD.out) (fun hHeld => ?_)
          (try simp only [Act.put, List.setIfInBounds_toArray, List.set_cons_zero, List.set_cons_succ])
          clear hK K
          refine take_dst (i := 15) (v := ?_) 117 rfl rfl (by kernel_rfl) (by kernel_rfl) (by kernel_rfl) (fun _ _ _ h => h) (Or.inl ⟨by rfl, ?_⟩) (by assumption) ?_
          rotate_left
          · intro w hSw
            obtain ⟨q1, q2⟩ := hSw
            go_simp
            try with_reducible rfl
          (try simp only [Act.put, List.setIfInBounds_toArray, List.set_cons_zero, List.set_cons_succ])
          refine take_dst (i := 16) (v := ?_) 118 rfl rfl (by kernel_rfl) (by kernel_rfl) (by kernel_rfl) (fun _ _ _ h => h) (Or.inl ⟨by rfl, ?_⟩) (by assumption) ?_
          rotate_left
          · intro w hSw
            obtain ⟨q1, q2⟩ := hSw
            go_simp
            try with_reducible rfl
          (try simp only [Act.put, List.setIfInBounds_toArray, List.set_cons_zero, List.set_cons_succ])
          refine wpAnyH_done (by kernel_rfl) ?_ _
          go_wp2_with fail
          go_roundw
          case rel => exact ⟨j + 1, (by rw [HW2.out]), HJ2.out, HBD⟩
          case measure => exact meas_h HJ2.out HW2.out
        · have c2b : decide ((j : Int) < (ls.length : Int)) = false := decide_eq_false (by omega)
          have c2c : decide (j < ls.length) = false := decide_eq_false c2
          clear c2 hj
          have hrr := MidKept.Cat HRV.out (Nat.le_refl _) (below_then HW45.out HW45.out.size HB7.out) HMK.out
          have HRR2 := Aside0.mk hrr.1
          clear hrr
          go_wp2_with fail
          have hcall := hp_CollectS w2 s2 HSU2.out (by rw [HL2.out, L.out.l]; exact L.out.good) (by rw [HLA2.out]; have := HLA.out; omega) Ar cr rs _ (H2.out.step HBZ.out) (Kd.C_below HRR2.out HBZ.out) HRK.out HRL.out
          rw [HHB2.out] at hcall
          refine hcall.mono ?_
          clear hcall
          rintro e w13 (⟨hbad, _, _⟩ | ⟨met2, _, hreach2, rfl, hH⟩)
          · exact absurd hbad HGD2.out
          rw [HAG2.out met2 hreach2]
          have HBW := Aside0.mk hH.below
          clear hreach2 hH
          go_wp2_with fail
          go_ret
          exact ⟨rfl, below_then HB2.out HB2.out.size HBW.out⟩
end Go.Proofs.Ytkjagcamikkjkaa.P

end

section
namespace Go.Proofs.Ytkjagcamikkjkaa.P
open Go.RowKit Go.Proofs.YtkjagcamikkjkaaW.PrintWords
def provisolaw14_HeapStays.Pure : Prop := ∀ (a0_0 : List (S32)) (a0_1 : Int) (a0_2 : List (S89)) (l1 : List (Int)), (fun l : List (S32) => l.length ≤ 9223372036854775807 ∧ l.length * 48 ≤ 140737488351232 ∧ ∀ x ∈ l, Ok32 x) a0_0 → (fun n : Int => (Lit.int .i64 n).wf = true) a0_1 → (fun l : List (S89) => l.length ≤ 9223372036854775807 ∧ l.length * 56 ≤ 140737488351232 ∧ ∀ x ∈ l, Ok89 x) a0_2 → (fun l : List (Int) => l.length ≤ 9223372036854775807 ∧ l.length * 8 ≤ 140737488351232 ∧ ∀ x ∈ l, (fun n : Int => (Lit.int .i64 n).wf = true) x) l1 → provisolaw14_HeapStays.Facts a0_0 a0_1 a0_2 l1
end Go.Proofs.Ytkjagcamikkjkaa.P

end

section
namespace Go.Proofs.Ytkjagcamikkjkaa.Pure
open Go.RowKit Go.Proofs.Ytkjagcamikkjkaa.P Go.Proofs.YtkjagcamikkjkaaW.PrintWords
theorem HeapStays : provisolaw14_HeapStays.Pure := fun a0 a1 a2 l1 h0 _ h2 h3 => ⟨h0, ⟨h2.2.1, h2.2.2⟩, ⟨by have := h3.2.1; omega, fun x hx => int_wf (h3.2.2 x hx)⟩⟩
end Go.Proofs.Ytkjagcamikkjkaa.Pure

end

section
namespace Go.Proofs.Ytkjagcamikkjkaa.heapStays
open Go.ChangeShapes Go.WideShapes Go.ChangeAt Go.RowKit Go.Proofs.YtkjagcamikkjkaaW.PrintWords Go.Proofs.Ytkjagcamikkjkaa.Sees Go.Proofs.Ytkjagcamikkjkaa.P
open Go.ChangeMaps (open_string shut_string)
set_option linter.unusedVariables false
set_option linter.unusedSimpArgs false
theorem own : ownKnob Try.prog.godebug = none := by kernel_rfl
theorem laidOut : laidOutB Try.prog = true := by kernel_rfl
set_option maxRecDepth 100000 in
theorem lifted (os : Os) (started : os.Started) (H : Type) (enc : TypeId × Value → H) :
    ReturnsInHanded {} Try.checked os 8 .any (Rows.heapStaysSpec.pre6 enc Try.prog Try.f8 Rows.heapStaysRow.domain false) (Rows.heapStaysSpec.post enc Try.prog Try.f8 false true false false) := by
  refine returnsInHanded_of_change_sized (C := Try.checked) own started (by kernel_rfl) Try.func8
    (ChangeSpec.witness6 (enc := enc) (C := Try.checked) false ⟨#[], #[.agg #[.slice none 0 0, .int .i64 0, .slice none 0 0], .slice none 0 0], []⟩ 8 (by kernel_rfl) (by kernel_rfl) (by kernel_rfl) (by kernel_rfl)) ?_
  intro W base args ds gs before hval0 hW hcnd hsz0 _
  have hsz : (DataW.weightsEach Try.prog (Try.f8.params.toList ++ Rows.heapStaysSpec.plain.varTypes Try.prog) (ds ++ gs)).all (· ≤ reachBytes) = true := hsz0
  have hval : ∀ (j : Nat) t v, Try.f8.params[j]? = some t → args[j]? = some v → Value.okWide Try.prog W .any base t v := hval0
  have hW' := hW
  obtain ⟨p, q, hA0, hV, rfl, hfz, hnd⟩ := hW
  have hA : DataW.TrodAll enc Try.prog W 0 (fun _ => true) true Try.f8.params.toList args.toList ds p := hA0
  rw [Try.params8] at hA hval hsz
  obtain ⟨v0, vs0, d0, ds0, p0, q0, hargs, rfl, rfl, h0, r0⟩ := trodAll_cons hA
  obtain ⟨v1, vs1, d1, ds1, p1, q1, rfl, rfl, rfl, h1, r1⟩ := trodAll_cons r0
  obtain ⟨rfl, rfl, rfl⟩ := trodAll_nil r1
  obtain rfl : args = #[v0, v1] := by cases args; simp_all
  obtain ⟨rfl, rfl⟩ := trodVars_none hV
  have k0 := h0
  have lt0 : ∀ x ∈ p0, x.block < W.heap.size := by obtain ⟨m, hm⟩ := k0; exact DataW.trod_lt m _ _ _ hm
  obtain ⟨y0, hy0, oy0⟩ := see_arg (j := 0) (t := 43) (sees_struct (fun y => y) (fun y => y) (fun _ => rfl) Try.underlying43 (by kernel_rfl) (sees_more rfl (by kernel_rfl) (sees_slice (B := 48) Try.underlying33 (by kernel_rfl) (by kernel_rfl) sees32) (sees_more rfl (by kernel_rfl) (sees_int Try.underlying3) (sees_last rfl (by kernel_rfl) (sees_slice (B := 56) Try.underlying41 (by kernel_rfl) (by kernel_rfl) sees89))))) hsz rfl rfl h0
  obtain ⟨cs0, rfl, hcs0⟩ := okWide_struct Try.underlying43 (hval 0 43 v0 rfl rfl)
  obtain ⟨_, _, e0, ⟨AA0_0, CC0_0, rfl, HH0_0, RR0_0⟩, ⟨_, _, rfl, rfl, ⟨AA0_1, CC0_1, rfl, HH0_1, RR0_1⟩⟩⟩ := hy0
  obtain rfl : cs0 = #[.slice AA0_0 (y0.1).length CC0_0, .int .i64 (y0.2.1), .slice AA0_1 (y0.2.2).length CC0_1] := by have e_ := congrArg List.toArray e0; simpa [Value.cells] using e_
  have k1 := h1
  have lt1 : ∀ x ∈ p1, x.block < W.heap.size := by obtain ⟨m, hm⟩ := k1; exact DataW.trod_lt m _ _ _ hm
  obtain ⟨y1, hy1, oy1⟩ := see_arg (j := 1) (t := 37) (sees_slice (B := 8) Try.underlying37 (by kernel_rfl) (by kernel_rfl) (sees_int Try.underlying3)) hsz rfl rfl h1
  obtain ⟨a1, len1, cap1, rfl⟩ := okWide_slice Try.underlying37 (hval 1 37 v1 rfl rfl)
  obtain ⟨rfl, hc1, hr1⟩ := see_slice rfl hy1
  clear hA0 hval0 hsz0 hsz
  have hk := Pure.HeapStays y0.1 y0.2.1 y0.2.2 y1 oy0.1 oy0.2.1 oy0.2.2 oy1
  refine (provisolaw14_HeapStays.calls _ _ y0.1 (y0.2.1) _ _ y0.2.2 _ _ y1 W RR0_0 HH0_0 RR0_1 HH0_1 hr1 hc1 hk).mono ?_
  rintro e W' ⟨rfl, bel0⟩
  have bel : Below W.heap.size W W' := bel0
  exact ⟨_, rfl, _, _, _, [], _, [], hW', trodAll_mk1 (shut_bool Try.underlying4 _), (trodAll_cons_mk (Below.trod laidOut (by kernel_rfl) (of_decide_eq_true (by kernel_rfl)) k0 bel lt0) (trodAll_cons_mk (Below.trod laidOut (by kernel_rfl) (of_decide_eq_true (by kernel_rfl)) k1 bel lt1) trodAll_mk0)), rfl, bel.frame _, fun h => by cases h⟩
theorem over : Rows.heapStaysRow.holds Try.pinned (OpenSpec.ofChange Rows.heapStaysSpec) :=
  OpenClaim.holds_of_wide 8 Try.f8 rfl rfl rfl rfl rfl rfl rfl ⟨rfl, rfl, rfl, rfl, rfl⟩ rfl rfl rfl rfl rfl (by kernel_rfl) Try.func8 (by kernel_rfl)
    (of_decide_eq_true (by kernel_rfl)) (by unfold Func.isWrapper; first | (rw [if_pos (by decide +kernel)]; kernel_rfl) | (rw [if_neg (by decide +kernel)]; exact ⟨rfl, rfl⟩))
    (fun os started H enc _ => lifted os started H enc)
theorem proved : Rows.HeapStaysSaid := over
end Go.Proofs.Ytkjagcamikkjkaa.heapStays
namespace Go.Proofs.Ytkjagcamikkjkaa
theorem heapStays_holds : Rows.HeapStaysSaid := heapStays.proved
end Go.Proofs.Ytkjagcamikkjkaa

end

