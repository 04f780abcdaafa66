/- Proved: the law FlowAhead holds for every input that the row lets in. No condition of ours. -/
import Derived.Test.YtcffniaieegbgaaBFlowAheadg
import Derived.Test.YtcffniaieegbgaaRows
import Derived.ShutString
import Derived.ChangeOld
import Derived.Lib.SmallJoins
section
namespace Go.Proofs.Ytcffniaieegbgaa.Pure
open Go.RowKit Go.Proofs.Ytcffniaieegbgaa.P Go.Proofs.YtcffniaieegbgaaW.PrintWords
set_option linter.unusedSimpArgs false
set_option linter.unusedVariables false
theorem ext_getD {a b : List Int} (hl : a.length = b.length) (h : ∀ p, p < a.length → a.getD p 0 = b.getD p 0) : a = b := by
  refine List.ext_getElem hl (fun p h1 h2 => ?_)
  have := h p h1
  rw [List.getD_eq_getElem?_getD, List.getD_eq_getElem?_getD, List.getElem?_eq_getElem h1, List.getElem?_eq_getElem h2] at this
  exact this
theorem getD_setI (m : List Int) (j i : Nat) (x : Int) (hj : j < m.length) : (m.set j x).getD i 0 = if i = j then x else m.getD i 0 := by
  simp only [List.getD_eq_getElem?_getD, List.getElem?_set]
  by_cases e : j = i
  · subst e
    rw [if_pos rfl, if_pos hj, if_pos rfl]; rfl
  · rw [if_neg e, if_neg (Ne.symm e)]
theorem rdI (l : List Int) (i : Nat) : rd l (i : Int) = l.getD i 0 := by unfold rd; rw [Int.toNat_natCast]
theorem turn_end (l : List Int) (i : Nat) (xs : List Int) (hlt : ¬ i + i + 1 < l.length) (hi : i + i ≤ l.length + 1) (h0 : 0 < l.length) (hxl : xs.length = l.length) (hx : ∀ p, p < l.length → xs.getD p 0 = if p < i ∨ l.length - i ≤ p then l.getD (l.length - 1 - p) 0 else l.getD p 0) : Ev (fun k => slices_Reverse_int_int.l0 k xs (i : Int) ((l.length : Int) - 1 - (i : Int))) l.reverse := by
  have hr : xs = l.reverse := by
    refine ext_getD (by simp [hxl]) (fun p hp => ?_)
    rw [hx p (by omega)]
    have hrev : l.reverse.getD p 0 = l.getD (l.length - 1 - p) 0 := by
      rw [List.getD_eq_getElem?_getD, List.getD_eq_getElem?_getD, List.getElem?_reverse (by omega)]
    rw [hrev]
    by_cases e3 : p < i ∨ l.length - i ≤ p
    · rw [if_pos e3]
    · rw [if_neg e3, show l.length - 1 - p = p by omega]
  rw [← hr]
  refine Ev.step (f := fun _ => some xs) (fun k => ?_) (Ev.now _)
  simp only [slices_Reverse_int_int.l0]
  rw [if_neg (by omega)]
theorem turn_go (l : List Int) (hl : l.length ≤ 9223372036854775807) : ∀ (d i : Nat) (xs : List Int), l.length - i = d → 0 < l.length → i + i ≤ l.length + 1 → xs.length = l.length → (∀ p, p < l.length → xs.getD p 0 = if p < i ∨ l.length - i ≤ p then l.getD (l.length - 1 - p) 0 else l.getD p 0) → Ev (fun k => slices_Reverse_int_int.l0 k xs (i : Int) ((l.length : Int) - 1 - (i : Int))) l.reverse
  | 0, i, xs, hd, h0, hi, hxl, hx => turn_end l i xs (by omega) hi h0 hxl hx
  | d + 1, i, xs, hd, h0, hi, hxl, hx => by
    by_cases hlt : i + i + 1 < l.length
    · obtain ⟨q, hq⟩ : ∃ q : Nat, q = l.length - 1 - i := ⟨_, rfl⟩
      have hqi : (l.length : Int) - 1 - (i : Int) = (q : Int) := by omega
      rw [hqi]
      have hw1 : wrap64 ((i : Int) + 1) = ((i + 1 : Nat) : Int) := wrap_one (n := l.length) (by omega) hl
      have hw2 : wrap64 ((q : Int) - 1) = (l.length : Int) - 1 - ((i + 1 : Nat) : Int) := by unfold wrap64; omega
      have ih := turn_go l hl d (i + 1) ((xs.set i (xs.getD q 0)).set q (xs.getD i 0)) (by omega) h0 (by omega) (by simp [hxl]) (fun p hp => ?_)
      · refine Ev.step (fun k => ?_) ih
        simp only [slices_Reverse_int_int.l0]
        rw [if_pos (by omega), if_pos (by omega), if_pos (by omega), if_pos (by omega), if_pos (by omega), hw1, hw2, rdI, rdI, Int.toNat_natCast, Int.toNat_natCast]
      · rw [getD_setI _ _ _ _ (by simp; omega), getD_setI _ _ _ _ (by omega)]
        by_cases e1 : p = q
        · rw [if_pos e1, if_pos (by omega), hx i (by omega), if_neg (by omega), e1, show l.length - 1 - q = i by omega]
        · rw [if_neg e1]
          by_cases e2 : p = i
          · rw [if_pos e2, if_pos (by omega), hx q (by omega), if_neg (by omega), e2, ← hq]
          · rw [if_neg e2, hx p hp]
            by_cases e3 : p < i ∨ l.length - i ≤ p
            · rw [if_pos e3, if_pos (by omega)]
            · rw [if_neg e3, if_neg (by omega)]
    · exact turn_end l i xs hlt hi h0 hxl hx
theorem turn_ev (l : List Int) (hl : l.length ≤ 9223372036854775807) : Ev (fun k => slices_Reverse_int_int.f k l) l.reverse := by
  unfold slices_Reverse_int_int.f
  by_cases h0 : 0 < l.length
  · have h := turn_go l hl l.length 0 l (by omega) h0 (by omega) rfl (fun p hp => by rw [if_neg (by omega)])
    rw [show wrap64 ((l.length : Int) - 1) = (l.length : Int) - 1 - ((0 : Nat) : Int) by unfold wrap64; omega]
    exact h
  · obtain rfl : l = [] := List.eq_nil_of_length_eq_zero (by omega)
    refine Ev.step (f := fun _ => some []) (fun k => ?_) (Ev.now _)
    simp only [slices_Reverse_int_int.l0]
    rw [if_neg (by unfold wrap64; simp)]
theorem left_go (l : List S35) (met : List Bool) (left : List Int) (hl : left.length ≤ 4398046511104) (R : List Int) : ∀ (m : Nat) (acc : List Int), m ≤ left.length → acc.length + m ≤ 4398046511104 → Ev (fun k => provisoref05_Order.l1 k met (acc ++ (left.take m).reverse) (l.length : Int) 0) R → Ev (fun k => provisoref05_Order.l0 k l met left acc ((m : Int) - 1)) R
  | 0, acc, hm, ha, h => by
    refine Ev.step (fun k => ?_) h
    simp only [provisoref05_Order.l0]
    rw [if_neg (by omega), List.take_zero, List.reverse_nil, List.append_nil]
  | m + 1, acc, hm, ha, h => by
    have hs : left.take (m + 1) = left.take m ++ [rd left (m : Int)] := by rw [take_snoc (show m < left.length by omega) (0 : Int), rdI]
    have ih := left_go l met left hl R m (acc ++ [rd left (m : Int)]) (by omega) (by simp; omega) (by rw [List.append_assoc, List.singleton_append]; rw [hs, List.reverse_append] at h; exact h)
    refine Ev.step (fun k => ?_) ih
    simp only [provisoref05_Order.l0]
    rw [show ((m + 1 : Nat) : Int) - 1 = (m : Int) by omega, if_pos (by omega), if_pos (by omega), if_pos (by omega), if_pos (by omega), show wrap64 ((m : Int) - 1) = (m : Int) - 1 by unfold wrap64; omega]
theorem rest_go (met : List Bool) (hm : met.length ≤ 4398046511104) (v : List Int) (hv : v.length ≤ 4398046511104) : ∀ (d i : Nat), met.length - i = d → i ≤ met.length → Ev (fun k => provisoref05_Order.l1 k met (v ++ restL (gOf met) i) (met.length : Int) (i : Int)) (v ++ restL (gOf met) met.length)
  | 0, i, hd, hi => by
    obtain rfl : i = met.length := by omega
    refine Ev.step (f := fun _ => some (v ++ restL (gOf met) met.length)) (fun k => ?_) (Ev.now _)
    simp only [provisoref05_Order.l1]
    rw [if_neg (by omega)]
  | d + 1, i, hd, hi => by
    have ih := rest_go met hm v hv d (i + 1) (by omega) (by omega)
    have hrl := restL_len (gOf met) i
    have hrb : rdOf false met (i : Int) = met.getD i false := by unfold rdOf; rw [Int.toNat_natCast]
    have hlt : (v ++ restL (gOf met) i).length < 17592186044416 := by rw [List.length_append]; omega
    refine Ev.step (fun k => ?_) ih
    simp only [provisoref05_Order.l1]
    rw [if_pos (by omega), if_pos (by omega), if_pos (by omega), hrb, restL, wrap_one (n := met.length) (by omega) (by omega)]
    have hgo := gOf_get met i
    cases hb : met.getD i false with
    | true => rw [if_pos rfl, if_neg (fun h => by rw [hgo, hb] at h; cases h)]
    | false => rw [if_neg (by decide), if_pos (hgo.2 hb), if_pos hlt, List.append_assoc]
theorem restL_mem (g : List Int) (x : Int) : ∀ n, x ∈ restL g n ↔ ∃ j : Nat, j < n ∧ x = (j : Int) ∧ g.getD j 0 = 0
  | 0 => ⟨fun h => (by cases h), fun ⟨j, h, _⟩ => (by omega)⟩
  | n + 1 => by
    have ih := restL_mem g x n
    unfold restL
    constructor
    · intro h
      split at h
      · rename_i h0
        rcases List.mem_append.1 h with h | h
        · obtain ⟨j, a, b, c⟩ := ih.1 h
          exact ⟨j, by omega, b, c⟩
        · exact ⟨n, by omega, List.mem_singleton.1 h, h0⟩
      · obtain ⟨j, a, b, c⟩ := ih.1 h
        exact ⟨j, by omega, b, c⟩
    · rintro ⟨j, a, b, c⟩
      by_cases e : j = n
      · subst e
        rw [if_pos c, b]
        exact List.mem_append_right _ (List.mem_singleton.2 rfl)
      · have := ih.2 ⟨j, by omega, b, c⟩
        split
        · exact List.mem_append_left _ this
        · exact this
theorem restL_count (met : List Bool) : ∀ n, n ≤ met.length → (restL (gOf met) n).length = (met.take n).count false
  | 0, _ => by simp [restL]
  | n + 1, h => by
    have ih := restL_count met n (by omega)
    have hs : met.take (n + 1) = met.take n ++ [met.getD n false] := take_snoc (show n < met.length by omega) false
    have hg := gOf_get met n
    unfold restL
    rw [hs, List.count_append]
    cases hb : met.getD n false with
    | true => rw [if_neg (fun e => by rw [hg, hb] at e; cases e), ih]; simp
    | false => rw [if_pos (hg.2 hb), List.length_append, ih]; simp
theorem order_ev (l : List S35) (hl : l.length < 4398046511104) (hx : ∀ x ∈ l, x.f2.length ≤ 9223372036854775807) (hok : bsOk l = true) (h0 : 0 < l.length) : ∃ (met : List Bool) (d : List Nat), Dfs l (List.replicate l.length false) met [] (d.map fun j => ((j : Nat) : Int)) d ∧ met.getD 0 false = true ∧ (∃ e, d = e ++ [0]) ∧ Ev (fun k => flow_Order.f k l) ((d.map fun j => ((j : Nat) : Int)).reverse ++ restL (gOf met) l.length) ∧ Ev (fun k => provisoref05_Order.f k l) ((d.map fun j => ((j : Nat) : Int)).reverse ++ restL (gOf met) l.length) := by
  have hcf : (List.replicate l.length false).count false = l.length := by simp
  obtain ⟨met, out, d, ⟨h1, h2⟩, h3, h4, h5⟩ := into_go l (by omega) hx (l.length + 1) (List.replicate l.length false) [] 0 (by omega) (by simp) (by simp; omega) h0 (by rw [List.getD_eq_getElem?_getD, List.getElem?_replicate, if_pos h0]; rfl) (fun g hg => by
    rw [List.getD_eq_getElem?_getD, List.getElem?_replicate] at hg
    split at hg <;> simp at hg)
  have hout : out = d.map fun j => ((j : Nat) : Int) := by rw [h3.ext, List.nil_append]
  subst hout
  have hlen : met.length = l.length := by rw [h3.len]; simp
  have hcnt := h3.cnt
  rw [hcf] at hcnt
  simp only [List.length_map, List.length_nil] at hcnt
  have hrl := restL_len (gOf met) l.length
  refine ⟨met, d, h3, h4, h5, ?_, ?_⟩
  · refine Ev.congr (f := fun k => (startL k l).bind fun s => (slices_Reverse_int_int.f k s.2).bind fun v => if v.length ≤ 4398046511104 then some (v ++ restL s.1 l.length) else none) (fun k => ?_) (Ev.bind (a := (gOf met, d.map fun j => ((j : Nat) : Int))) ?_ (Ev.bind (turn_ev _ (by simp; omega)) ?_))
    · unfold flow_Order.f
      rw [if_pos ⟨hl, hok⟩]
    · refine Ev.congr (fun k => ?_) h1
      unfold startL
      rw [if_neg (by omega), ← gOf_none]
    · refine Ev.congr (fun k => ?_) (Ev.now _)
      rw [if_pos (by simp; omega)]
  · refine Ev.congr (f := fun k => (provisoref05_leave.f k l 0 (List.replicate l.length false) ([] : List Int)).bind fun bt => provisoref05_Order.l0 k l bt.2 bt.1 ([] : List Int) (wrap64 ((bt.1.length : Int) - 1))) (fun k => ?_) (Ev.bind h2 ?_)
    · unfold provisoref05_Order.f
      rw [if_neg (by omega), if_pos (by omega), Int.toNat_natCast, if_pos (by omega)]
    · simp only []
      rw [show wrap64 (((d.map fun j => ((j : Nat) : Int)).length : Int) - 1) = (d.length : Int) - 1 by rw [List.length_map]; unfold wrap64; omega]
      have hg := left_go l met (d.map fun j => ((j : Nat) : Int)) (by simp; omega) ((d.map fun j => ((j : Nat) : Int)).reverse ++ restL (gOf met) l.length) d.length [] (by simp) (by simp; omega) ?_
      · exact hg
      · rw [List.nil_append, List.take_of_length_le (by simp)]
        have hr := rest_go met (by omega) (d.map fun j => ((j : Nat) : Int)).reverse (by simp; omega) met.length 0 rfl (Nat.zero_le _)
        rw [restL, List.append_nil, hlen] at hr
        exact hr
theorem order_nil : Ev (fun k => flow_Order.f k []) [] ∧ Ev (fun k => provisoref05_Order.f k []) [] := by
  refine ⟨?_, ?_⟩
  · refine Ev.congr (f := fun k => (slices_Reverse_int_int.f k []).bind fun v => if v.length ≤ 4398046511104 then some (v ++ []) else none) (fun k => ?_) (Ev.bind (turn_ev [] (by simp)) (Ev.congr (f := fun _ => some []) (fun k => by simp) (Ev.now _)))
    unfold flow_Order.f
    rw [if_pos ⟨by decide, rfl⟩]
    rfl
  · refine Ev.congr (f := fun k => some []) (fun k => ?_) (Ev.now _)
    unfold provisoref05_Order.f
    rw [if_pos (by rfl)]
theorem blkL_f2 (l : List S46) : ∀ x ∈ blkL l, x.f2.length ≤ 2 := by
  have h : ∀ (d i fr : Nat), ∀ x ∈ blocksL l fr i d, x.f2.length ≤ 2 := by
    intro d
    induction d with
    | zero => intro i fr x hx; simp [blocksL] at hx
    | succ d ih =>
      intro i fr x hx
      unfold blocksL at hx
      split at hx
      · exact ih _ _ x hx
      · rcases List.mem_cons.1 hx with rfl | hx
        · exact Nat.le_trans (List.length_filter_le _ _) (nextL_len _)
        · exact ih _ _ x hx
  intro x hx
  unfold blkL at hx
  split at hx
  · exact h _ _ _ x hx
  · cases hx
end Go.Proofs.Ytcffniaieegbgaa.Pure

end

section
namespace Go.Proofs.Ytcffniaieegbgaa.Pure
open Go.RowKit Go.Proofs.Ytcffniaieegbgaa.P Go.Proofs.YtcffniaieegbgaaW.PrintWords
set_option linter.unusedSimpArgs false
set_option linter.unusedVariables false
theorem afrom_go (l : List S35) (hl : l.length ≤ 9223372036854775807) (a : Int) : ∀ (d i : Nat), l.length - i = d → i ≤ l.length → Ev (fun k => provisolaw05_from.l0 k a l (l.length : Int) (i : Int)) ((firstB (l.drop i) i a).getD (-1))
  | 0, i, hd, hi => by
    obtain rfl : i = l.length := by omega
    refine Ev.step (f := fun _ => some (-1)) (fun k => ?_) (by rw [List.drop_length]; exact Ev.now _)
    simp only [provisolaw05_from.l0]
    rw [if_neg (by omega)]
  | d + 1, i, hd, hi => by
    have h1 : i < l.length := by omega
    rw [drop_atB h1]
    unfold firstB
    by_cases h2 : (rd_T35 l (i : Int)).f0 = a
    · rw [if_pos h2]
      refine Ev.step (f := fun _ => some (i : Int)) (fun k => ?_) (Ev.now _)
      simp only [provisolaw05_from.l0]
      rw [if_pos (by omega), if_pos (by omega), if_pos (by omega), if_pos h2]
    · rw [if_neg h2]
      have ih := afrom_go l hl a d (i + 1) (by omega) (by omega)
      refine Ev.step (fun k => ?_) ih
      simp only [provisolaw05_from.l0]
      rw [if_pos (by omega), if_pos (by omega), if_pos (by omega), if_neg h2, wrap_one h1 hl]
theorem afrom_ev (l : List S35) (hl : l.length ≤ 9223372036854775807) (a : Int) : Ev (fun k => provisolaw05_from.f k l a) (plb l a) := by
  have h := afrom_go l hl a l.length 0 (by omega) (by omega)
  rw [List.drop_zero] at h
  exact h
def Places (l : List S35) (o : List Int) : Prop := ∀ x ∈ o, ∃ j : Nat, x = (j : Int) ∧ j < l.length
theorem ring_visit (l : List S35) (hl : l.length ≤ 4398046511104) (nx : List Int) (hnx : nx.length ≤ 9223372036854775807) (i : Int) : ∀ (d n : Nat) (met : List Bool) (op : List Int), nx.length - n = d → n ≤ nx.length → met.length = l.length → op.length + met.count false ≤ 4398046511105 → Places l op → ∃ met' op',
    (∀ R, Ev (fun k => provisolaw05_ring.l1 k l i met' op' (l.length : Int) i) R → Ev (fun k => provisolaw05_ring.l2 k l i met op (l.length : Int) i nx (nx.length : Int) (n : Int)) R) ∧ met'.length = l.length ∧ op'.length + met'.count false = op.length + met.count false ∧ Places l op' ∧ (∀ j, met.getD j false = true → met'.getD j false = true) ∧ (∀ x ∈ op, x ∈ op') ∧ (∀ a ∈ nx.drop n, ∀ s : Nat, firstB l 0 a = some (s : Int) → met'.getD s false = true) ∧ (∀ s : Nat, met'.getD s false = true → met.getD s false = true ∨ (s : Int) ∈ op')
  | 0, n, met, op, hd, hn, hm, ho, hp => by
    obtain rfl : n = nx.length := by omega
    refine ⟨met, op, fun R hR => ?_, hm, rfl, hp, fun _ h => h, fun _ h => h, fun a ha => (by rw [List.drop_length] at ha; cases ha), fun s h => .inl h⟩
    refine Ev.step (fun k => ?_) hR
    simp only [provisolaw05_ring.l2]
    rw [if_neg (by omega)]
  | d + 1, n, met, op, hd, hn, hm, ho, hp => by
    have h1 : n < nx.length := by omega
    have ih := ring_visit l hl nx hnx i d (n + 1)
    rw [drop_at h1]
    have hfr := afrom_ev l (by omega) (rd nx (n : Int))
    unfold plb at hfr
    have hstep : ∀ v : Int, Ev (fun k => provisolaw05_from.f k l (rd nx (n : Int))) v → ∀ R, Ev (fun k => if v ≥ 0 then (if 0 ≤ v then (if v < (met.length : Int) then (if rdOf false met v = true then provisolaw05_ring.l2 k l i met op (l.length : Int) i nx (nx.length : Int) ((n + 1 : Nat) : Int) else (if op.length < 17592186044416 then provisolaw05_ring.l2 k l i (met.set v.toNat true) (op ++ [v]) (l.length : Int) i nx (nx.length : Int) ((n + 1 : Nat) : Int) else none)) else none) else none) else provisolaw05_ring.l2 k l i met op (l.length : Int) i nx (nx.length : Int) ((n + 1 : Nat) : Int)) R → Ev (fun k => provisolaw05_ring.l2 k l i met op (l.length : Int) i nx (nx.length : Int) (n : Int)) R := by
      intro v hv R hR
      refine Ev.step (f := fun k => (provisolaw05_from.f k l (rd nx (n : Int))).bind (fun v => if v ≥ 0 then (if 0 ≤ v then (if v < (met.length : Int) then (if rdOf false met v = true then provisolaw05_ring.l2 k l i met op (l.length : Int) i nx (nx.length : Int) ((n + 1 : Nat) : Int) else (if op.length < 17592186044416 then provisolaw05_ring.l2 k l i (met.set v.toNat true) (op ++ [v]) (l.length : Int) i nx (nx.length : Int) ((n + 1 : Nat) : Int) else none)) else none) else none) else provisolaw05_ring.l2 k l i met op (l.length : Int) i nx (nx.length : Int) ((n + 1 : Nat) : Int))) (fun k => ?_) (Ev.bind hv hR)
      simp only [provisolaw05_ring.l2]
      rw [if_pos (by omega), if_pos (by omega), if_pos (by omega), wrap_one h1 hnx]
    cases hf : firstB l 0 (rd nx (n : Int)) with
    | none =>
      rw [hf] at hfr
      obtain ⟨met', op', h2, h3, h4, h5, h6, h7, h8, h9⟩ := ih met op (by omega) (by omega) hm ho hp
      refine ⟨met', op', fun R hR => hstep _ hfr R ?_, h3, h4, h5, h6, h7, fun a ha s hs => ?_, h9⟩
      · refine Ev.congr (fun k => ?_) (h2 R hR)
        simp only [Option.getD_none]
        rw [if_neg (by decide)]
      · rcases List.mem_cons.1 ha with rfl | ha
        · rw [hf] at hs; cases hs
        · exact h8 a ha s hs
    | some v =>
      obtain ⟨j, e3, hj⟩ := firstB_lt l 0 _ v hf
      rw [Nat.zero_add] at e3
      subst e3
      rw [hf, Option.getD_some] at hfr
      have hrb : rdOf false met (j : Int) = met.getD j false := by unfold rdOf; rw [Int.toNat_natCast]
      cases hmj : met.getD j false with
      | true =>
        obtain ⟨met', op', h2, h3, h4, h5, h6, h7, h8, h9⟩ := ih met op (by omega) (by omega) hm ho hp
        refine ⟨met', op', fun R hR => hstep _ hfr R ?_, h3, h4, h5, h6, h7, fun a ha s hs => ?_, h9⟩
        · refine Ev.congr (fun k => ?_) (h2 R hR)
          rw [if_pos (by omega), if_pos (by omega), if_pos (by omega), hrb, hmj, if_pos rfl]
        · rcases List.mem_cons.1 ha with rfl | ha
          · rw [hf] at hs
            have : j = s := by have := Option.some.inj hs; omega
            rw [← this]
            exact h6 j hmj
          · exact h8 a ha s hs
      | false =>
        have hsc := set_count met j (by omega) hmj
        have hget := fun g => getD_set met j g (by omega)
        obtain ⟨met', op', h2, h3, h4, h5, h6, h7, h8, h9⟩ := ih (met.set j true) (op ++ [(j : Int)]) (by omega) (by omega) (by rw [List.length_set]; exact hm) (by rw [List.length_append, List.length_singleton]; omega) (fun x hx => by
          rcases List.mem_append.1 hx with hx | hx
          · exact hp x hx
          · exact ⟨j, List.mem_singleton.1 hx, hj⟩)
        refine ⟨met', op', fun R hR => hstep _ hfr R ?_, h3, by rw [h4, List.length_append, List.length_singleton]; omega, h5, fun g hg => h6 g (by rw [hget]; split; rfl; exact hg), fun x hx => h7 x (List.mem_append_left _ hx), fun a ha s hs => ?_, fun s hs => ?_⟩
        · refine Ev.congr (fun k => ?_) (h2 R hR)
          rw [if_pos (by omega), if_pos (by omega), if_pos (by omega), hrb, hmj, if_neg (by decide), if_pos (by omega), Int.toNat_natCast]
        · rcases List.mem_cons.1 ha with rfl | ha
          · rw [hf] at hs
            have : j = s := by have := Option.some.inj hs; omega
            rw [← this]
            exact h6 j (by rw [hget, if_pos rfl])
          · exact h8 a ha s hs
        · rcases h9 s hs with h10 | h10
          · rw [hget] at h10
            by_cases e : s = j
            · rw [e]; exact .inr (h7 _ (List.mem_append_right _ (List.mem_singleton.2 rfl)))
            · rw [if_neg e] at h10; exact .inl h10
          · exact .inr h10
def Closing (l : List S35) (i : Nat) (met : List Bool) (op : List Int) : Prop := ∀ j : Nat, j < l.length → (met.getD j false = true ∨ j = i) → (j : Int) ∈ op ∨ ∀ s, Leads l j s → met.getD s false = true
theorem ring_bfs (l : List S35) (hl : l.length ≤ 4398046511104) (hx : ∀ x ∈ l, x.f2.length ≤ 9223372036854775807) (i : Nat) (hi : i < l.length) : ∀ (m : Nat) (met : List Bool) (op : List Int), op.length + met.count false ≤ m → op.length + met.count false ≤ 4398046511105 → met.length = l.length → Places l op → Closing l i met op → ∃ met', met'.length = l.length ∧ Closing l i met' [] ∧ ∀ R, Ev (fun k => if rdOf false met' (i : Int) = true then some true else provisolaw05_ring.l0 k l (l.length : Int) ((i + 1 : Nat) : Int)) R → Ev (fun k => provisolaw05_ring.l1 k l (i : Int) met op (l.length : Int) (i : Int)) R := by
  intro m
  induction m with
  | zero =>
    intro met op hm _ hlen hp hc
    obtain rfl : op = [] := List.eq_nil_of_length_eq_zero (by omega)
    refine ⟨met, hlen, hc, fun R hR => Ev.step (fun k => ?_) hR⟩
    simp only [provisolaw05_ring.l1]
    rw [if_neg (by simp), if_pos (by omega), if_pos (by omega), wrap_one hi (by omega)]
  | succ m ih =>
    intro met op hm hb hlen hp hc
    cases op with
    | nil =>
      refine ⟨met, hlen, hc, fun R hR => Ev.step (fun k => ?_) hR⟩
      simp only [provisolaw05_ring.l1]
      rw [if_neg (by simp), if_pos (by omega), if_pos (by omega), wrap_one hi (by omega)]
    | cons q op =>
      obtain ⟨j, rfl, hj⟩ := hp q List.mem_cons_self
      rw [List.length_cons] at hm hb
      obtain ⟨m1, o1, h2, h3, h4, h5, h6, h7, h8, h9⟩ := ring_visit l hl (rd_T35 l (j : Int)).f2 (hx _ (rdB_mem hj)) (i : Int) _ 0 met op rfl (Nat.zero_le _) hlen (by omega) (fun x hx => hp x (List.mem_cons_of_mem _ hx))
      rw [List.drop_zero] at h8
      obtain ⟨m2, k1, k2, k3⟩ := ih m1 o1 (by omega) (by omega) h3 h5 (fun g hg hgm => by
        by_cases hgj : g = j
        · right
          rintro s ⟨a, ha, hf⟩
          rw [hgj] at ha
          exact h8 a ha s hf
        · have hgm' : (met.getD g false = true ∨ g = i) ∨ (g : Int) ∈ o1 := by
            rcases hgm with hgm | hgm
            · rcases h9 g hgm with h | h
              · exact .inl (.inl h)
              · exact .inr h
            · exact .inl (.inr hgm)
          rcases hgm' with hgm' | hgm'
          · rcases hc g hg hgm' with h | h
            · rcases List.mem_cons.1 h with h | h
              · exact absurd (by omega) hgj
              · exact .inl (h7 _ h)
            · exact .inr (fun s hs => h6 s (h s hs))
          · exact .inl hgm')
      refine ⟨m2, k1, k2, fun R hR => ?_⟩
      refine Ev.step (fun k => ?_) (h2 R (k3 R hR))
      have hq : rd ((j : Int) :: op) 0 = (j : Int) := rfl
      simp only [provisolaw05_ring.l1, hq]
      rw [if_pos (by rw [List.length_cons]; omega), if_pos (by rw [List.length_cons]; omega), if_pos (by rw [List.length_cons]; omega), if_pos (by omega), if_pos (by omega)]
      rfl
def NoRing (l : List S35) (j : Nat) : Prop := ∀ s, Leads l j s → ¬ Star l s j
theorem leads_lt {l : List S35} {i s : Nat} (h : Leads l i s) : s < l.length := by
  obtain ⟨a, _, hf⟩ := h
  obtain ⟨j, e, hj⟩ := firstB_lt l 0 a _ hf
  omega
theorem closing_ring {l : List S35} {i : Nat} (hi : i < l.length) {met : List Bool} (h : Closing l i met []) (hm : met.getD i false = false) : NoRing l i := by
  have hcl : ∀ j, j < l.length → (met.getD j false = true ∨ j = i) → ∀ s, Leads l j s → met.getD s false = true := fun j hj hg => (h j hj hg).resolve_left (fun hh => by cases hh)
  have hst : ∀ a b, Star l a b → a < l.length → met.getD a false = true → met.getD b false = true := by
    intro a b hab
    induction hab with
    | refl a => exact fun _ h => h
    | step h1 _ ih => exact fun ha hm => ih (leads_lt h1) (hcl _ ha (.inl hm) _ h1)
  intro s hs hst2
  have h1 := hcl i hi (.inr rfl) s hs
  have := hst s i hst2 (leads_lt hs) h1
  rw [hm] at this
  cases this
theorem ring_go (l : List S35) (hl : l.length ≤ 4398046511104) (hx : ∀ x ∈ l, x.f2.length ≤ 9223372036854775807) : ∀ (d i : Nat), l.length - i = d → i ≤ l.length → ∃ b, Ev (fun k => provisolaw05_ring.l0 k l (l.length : Int) (i : Int)) b ∧ (b = false → ∀ j, i ≤ j → j < l.length → NoRing l j)
  | 0, i, hd, hi => by
    refine ⟨false, Ev.step (f := fun _ => some false) (fun k => ?_) (Ev.now _), fun _ j h1 h2 => (by omega)⟩
    simp only [provisolaw05_ring.l0]
    rw [if_neg (by omega)]
  | d + 1, i, hd, hi => by
    have h1 : i < l.length := by omega
    obtain ⟨b, hb, hbn⟩ := ring_go l hl hx d (i + 1) (by omega) (by omega)
    obtain ⟨met, k1, k2, k3⟩ := ring_bfs l hl hx i h1 (l.length + 1) (List.replicate l.length false) [(i : Int)] (by simp; omega) (by simp; omega) (by simp) (fun x hx => ⟨i, List.mem_singleton.1 hx, h1⟩) (fun j hj hg => by
      rcases hg with hg | hg
      · rw [List.getD_eq_getElem?_getD, List.getElem?_replicate] at hg
        split at hg <;> simp at hg
      · rw [hg]; exact .inl (List.mem_singleton.2 rfl))
    have hrb : rdOf false met (i : Int) = met.getD i false := by unfold rdOf; rw [Int.toNat_natCast]
    have hstep : ∀ R, Ev (fun k => provisolaw05_ring.l1 k l (i : Int) (List.replicate l.length false) [(i : Int)] (l.length : Int) (i : Int)) R → Ev (fun k => provisolaw05_ring.l0 k l (l.length : Int) (i : Int)) R := fun R hR => by
      refine Ev.step (fun k => ?_) hR
      simp only [provisolaw05_ring.l0]
      rw [if_pos (by omega), if_pos (by omega), Int.toNat_natCast, if_pos (by omega)]
    cases hmi : met.getD i false with
    | true =>
      refine ⟨true, hstep _ (k3 true ?_), fun h => by cases h⟩
      refine Ev.congr (fun k => ?_) (Ev.now true)
      rw [hrb, hmi, if_pos rfl]
    | false =>
      refine ⟨b, hstep _ (k3 b ?_), fun h j h2 h3 => ?_⟩
      · refine Ev.congr (fun k => ?_) hb
        rw [hrb, hmi, if_neg (by decide)]
      · by_cases e : j = i
        · rw [e]; exact closing_ring h1 k2 hmi
        · exact hbn h j (by omega) h3
theorem ring_ev (l : List S35) (hl : l.length ≤ 4398046511104) (hx : ∀ x ∈ l, x.f2.length ≤ 9223372036854775807) : ∃ b, Ev (fun k => provisolaw05_ring.f k l) b ∧ (b = false → ∀ j, j < l.length → NoRing l j) := by
  obtain ⟨b, h1, h2⟩ := ring_go l hl hx l.length 0 (by omega) (by omega)
  exact ⟨b, h1, fun h j hj => h2 h j (Nat.zero_le _) hj⟩
structure InB (ls : List S46) (x : S35) (p : Nat) : Prop where
  ex : ∃ fr e, x = blkOf ls fr e ∧ fr ≤ p ∧ p ≤ e ∧ e < ls.length ∧ goesOn ls e = false ∧ ∀ q, fr ≤ q → q < e → goesOn ls q = true
theorem blocks_all (ls : List S46) : ∀ (d i fr : Nat), i + d = ls.length → fr ≤ i → (∀ q, fr ≤ q → q < i → goesOn ls q = true) → ∀ x ∈ blocksL ls fr i d, ∃ f e, x = blkOf ls f e ∧ fr ≤ f ∧ f ≤ e ∧ i ≤ e ∧ e < ls.length ∧ goesOn ls e = false ∧ (∀ q, f ≤ q → q < e → goesOn ls q = true) ∧ (f = fr ∨ i < f)
  | 0, i, fr, hd, hf, hg, x, hx => by simp [blocksL] at hx
  | d + 1, i, fr, hd, hf, hg, x, hx => by
    rw [blocksL] at hx
    by_cases hgi : goesOn ls i = true
    · rw [if_pos hgi] at hx
      obtain ⟨f, e, h1, h2, h3, h4, h5, h6, h7, h8⟩ := blocks_all ls d (i + 1) fr (by omega) (by omega) (fun q h1 h2 => by
        by_cases e : q = i
        · rw [e]; exact hgi
        · exact hg q h1 (by omega)) x hx
      exact ⟨f, e, h1, h2, h3, by omega, h5, h6, h7, by omega⟩
    · rw [if_neg hgi] at hx
      rcases List.mem_cons.1 hx with rfl | hx
      · exact ⟨fr, i, rfl, Nat.le_refl _, hf, Nat.le_refl _, by omega, by simpa using hgi, hg, .inl rfl⟩
      · obtain ⟨f, e, h1, h2, h3, h4, h5, h6, h7, h8⟩ := blocks_all ls d (i + 1) (i + 1) (by omega) (Nat.le_refl _) (fun q h1 h2 => by omega) x hx
        exact ⟨f, e, h1, by omega, h3, by omega, h5, h6, h7, by omega⟩
theorem blocks_apartL {ls : List S46} (hr : ∀ i j : Nat, i < j → j < ls.length → (atD ls i).f0 < (atD ls j).f0) : ∀ (d i fr : Nat), i + d = ls.length → fr ≤ i → (∀ q, fr ≤ q → q < i → goesOn ls q = true) → (blocksL ls fr i d).Pairwise (fun x y => x.f1 < y.f0)
  | 0, i, fr, hd, hf, hg => by simp [blocksL]
  | d + 1, i, fr, hd, hf, hg => by
    rw [blocksL]
    by_cases hgi : goesOn ls i = true
    · rw [if_pos hgi]
      exact blocks_apartL hr d (i + 1) fr (by omega) (by omega) (fun q h1 h2 => by
        by_cases e : q = i
        · rw [e]; exact hgi
        · exact hg q h1 (by omega))
    · rw [if_neg hgi, List.pairwise_cons]
      refine ⟨fun y hy => ?_, blocks_apartL hr d (i + 1) (i + 1) (by omega) (Nat.le_refl _) (fun q h1 h2 => by omega)⟩
      obtain ⟨f, e, rfl, h2, h3, h4, h5, _⟩ := blocks_all ls d (i + 1) (i + 1) (by omega) (Nat.le_refl _) (fun q h1 h2 => by omega) y hy
      have h9 := hr i f (by omega) (by omega)
      unfold blkOf
      rw [rdN, rdN, rdN]
      exact h9
theorem rdB_get {l : List S35} {i : Nat} (h : i < l.length) : rd_T35 l (i : Int) = l[i] := by
  unfold rd_T35
  rw [Int.toNat_natCast, List.getD_eq_getElem?_getD, List.getElem?_eq_getElem h]
  rfl
theorem firstB_at : ∀ (l : List S35) (j i : Nat) (x : Int), firstB l j x = some ((j + i : Nat) : Int) → i < l.length → (l.getD i z35).f0 = x
  | [], j, i, x, h, hi => by simp at hi
  | y :: r, j, i, x, h, hi => by
    unfold firstB at h
    split at h
    · rename_i he
      have : i = 0 := by have := Option.some.inj h; omega
      subst this
      exact he
    · cases i with
      | zero =>
        exfalso
        obtain ⟨q, hq, _⟩ := firstB_lt r (j + 1) x _ h
        omega
      | succ i =>
        have := firstB_at r (j + 1) i x (by rw [h]; congr 1; omega) (by simpa using hi)
        exact this
theorem firstB_of_mem : ∀ (l : List S35) (j : Nat) (x : Int), x ∈ l.map (·.f0) → ∃ v, firstB l j x = some v
  | [], j, x, h => by cases h
  | y :: r, j, x, h => by
    unfold firstB
    split
    · exact ⟨_, rfl⟩
    · rename_i hne
      rw [List.map_cons, List.mem_cons] at h
      exact firstB_of_mem r (j + 1) x (h.resolve_left (fun e => hne e.symm))
theorem seq_rise {l : List Int} {ls : List S46} {n : Nat} (h : Seq l ls n) : ∀ i j : Nat, i < j → j < ls.length → (atD ls i).f0 < (atD ls j).f0 := fun i j hij hj => by
  have := h.lt (j - i - 1) i (by omega)
  rw [show i + (j - i - 1) + 1 = j by omega] at this
  exact this
theorem reach_blocks {l : List Int} {ls : List S46} {n : Nat} (h : Seq l ls n) (hn : n ≤ 4096) (h0 : 0 < ls.length) (V : Nat → Prop) (hV0 : V 0) (hVc : ∀ i s, V i → Leads (blocksL ls 0 0 ls.length) i s → V s) {a : Int} (ha : Rch ls 0 a) : ∃ b p, V b ∧ b < (blocksL ls 0 0 ls.length).length ∧ InB ls (rd_T35 (blocksL ls 0 0 ls.length) (b : Int)) p ∧ (atD ls p).f0 = a := by
  induction ha with
  | base _ =>
    obtain ⟨e, h1, h2, h3, h4, h5⟩ := blocks_head ls 0 (ls.length - 1) 0 (by omega)
    rw [show ls.length - 1 + 1 = ls.length by omega] at h5
    refine ⟨0, 0, hV0, by rw [h5]; simp, ⟨0, e, ?_, Nat.le_refl _, Nat.zero_le _, h2, h4, fun q a b => h3 q a b⟩, h.first (fun e => by rw [e] at h0; simp at h0)⟩
    rw [h5]
    rfl
  | @step a a' _ hb hs ih =>
    obtain ⟨b, p, hv, hbl, ⟨fr, e, hx, h1, h2, h3, h4, h5⟩, hpa⟩ := ih
    have hplace := h.place (show p < ls.length by omega)
    unfold nxA at hb
    rw [← hpa, show (atD ls p).f0 = (ls.getD p z46).f0 from rfl, hplace] at hb
    simp only [] at hb
    rw [rdN] at hb
    by_cases hpe : p < e
    · have hp1 := plain_next h hn (h5 p h1 hpe)
      rw [show atD ls p = ls.getD p z46 from rfl, hp1, List.mem_singleton] at hb
      exact ⟨b, p + 1, hv, hbl, ⟨fr, e, hx, by omega, by omega, h3, h4, h5⟩, hb.symm⟩
    · obtain rfl : p = e := by omega
      have hmem := next_from h h3 h4 (show a' ∈ nextL (ls.getD p z46) from hb) hs
      obtain ⟨v, hv2⟩ := firstB_of_mem _ 0 a' hmem
      obtain ⟨s, e3, hsl⟩ := firstB_lt _ 0 _ v hv2
      rw [Nat.zero_add] at e3
      subst e3
      have hld : Leads (blocksL ls 0 0 ls.length) b s := by
        refine ⟨a', ?_, hv2⟩
        rw [hx]
        unfold blkOf
        rw [rdN]
        exact List.mem_filter.2 ⟨hb, hs⟩
      have hf0 := firstB_at _ 0 s a' (by rw [Nat.zero_add]; exact hv2) hsl
      have hmem2 : rd_T35 (blocksL ls 0 0 ls.length) (s : Int) ∈ blocksL ls 0 0 ls.length := rdB_mem hsl
      obtain ⟨f2, e2, g1, g2, g3, g4, g5, g6, g7, _⟩ := blocks_all ls ls.length 0 0 (by omega) (Nat.le_refl _) (fun q h1 h2 => by omega) _ hmem2
      refine ⟨s, f2, hVc b s hv hld, hsl, ⟨f2, e2, g1, Nat.le_refl _, g3, g5, g6, g7⟩, ?_⟩
      rw [← hf0]
      have : (rd_T35 (blocksL ls 0 0 ls.length) (s : Int)).f0 = (atD ls f2).f0 := by rw [g1]; unfold blkOf; rw [rdN]
      rw [← this]
      unfold rd_T35
      rw [Int.toNat_natCast]
theorem reach_visited {l : List Int} {ls : List S46} {n : Nat} (h : Seq l ls n) (hn : n ≤ 4096) (h0 : 0 < ls.length) (V : Nat → Prop) (hV0 : V 0) (hVc : ∀ i s, V i → Leads (blocksL ls 0 0 ls.length) i s → V s) {i : Nat} (hi : i < (blocksL ls 0 0 ls.length).length) (ha : Rch ls 0 (rd_T35 (blocksL ls 0 0 ls.length) (i : Int)).f0) : V i := by
  obtain ⟨b, p, hv, hbl, ⟨fr, e, hx, h1, h2, h3, h4, h5⟩, hpa⟩ := reach_blocks h hn h0 V hV0 hVc ha
  have hr := seq_rise h
  have hap := blocks_apartL hr ls.length 0 0 (by omega) (Nat.le_refl _) (fun q h1 h2 => by omega)
  have hle : ∀ a b : Nat, a ≤ b → b < ls.length → (atD ls a).f0 ≤ (atD ls b).f0 := fun a b hab hb => by
    by_cases e : a = b
    · rw [e]; exact Int.le_refl _
    · exact Int.le_of_lt (hr a b (by omega) hb)
  have hb0 : (rd_T35 (blocksL ls 0 0 ls.length) (b : Int)).f0 = (atD ls fr).f0 := by rw [hx]; unfold blkOf; rw [rdN]
  have hb1 : (rd_T35 (blocksL ls 0 0 ls.length) (b : Int)).f1 = (atD ls e).f0 := by rw [hx]; unfold blkOf; rw [rdN, rdN]
  have k1 := hle fr p h1 (by omega)
  have k2 := hle p e h2 h3
  obtain ⟨f2, e2, g1, g2, g3, g4, g5, g6, g7, _⟩ := blocks_all ls ls.length 0 0 (by omega) (Nat.le_refl _) (fun q h1 h2 => by omega) _ (rdB_mem hi)
  have hi0 : (rd_T35 (blocksL ls 0 0 ls.length) (i : Int)).f0 = (atD ls f2).f0 := by rw [g1]; unfold blkOf; rw [rdN]
  have hi1 : (rd_T35 (blocksL ls 0 0 ls.length) (i : Int)).f1 = (atD ls e2).f0 := by rw [g1]; unfold blkOf; rw [rdN, rdN]
  have k3 := hle f2 e2 g3 g5
  rcases Nat.lt_trichotomy b i with hbi | hbi | hbi
  · exfalso
    have := List.pairwise_iff_getElem.1 hap b i hbl hi hbi
    rw [← rdB_get hbl, ← rdB_get hi] at this
    omega
  · rw [← hbi]; exact hv
  · exfalso
    have := List.pairwise_iff_getElem.1 hap i b hi hbl hbi
    rw [← rdB_get hbl, ← rdB_get hi] at this
    omega
end Go.Proofs.Ytcffniaieegbgaa.Pure

end

section
namespace Go.Proofs.Ytcffniaieegbgaa.Pure
open Go.RowKit Go.Proofs.Ytcffniaieegbgaa.P Go.Proofs.YtcffniaieegbgaaW.PrintWords
set_option linter.unusedSimpArgs false
set_option linter.unusedVariables false
structure Ordr (n : Nat) (R : List Int) : Prop where
  len : R.length = n
  all : ∀ j : Nat, j < n → (j : Int) ∈ R
  nodup : R.Nodup
theorem cast_nodup {d : List Nat} (h : d.Nodup) : (d.map fun j => ((j : Nat) : Int)).Nodup := by
  unfold List.Nodup at h ⊢
  rw [List.pairwise_map]
  exact h.imp (fun hh e => hh (by omega))
theorem rev_nodup {d : List Int} (h : d.Nodup) : d.reverse.Nodup := by
  unfold List.Nodup at h ⊢
  rw [List.pairwise_reverse]
  exact h.imp (fun hh e => hh e.symm)
theorem restL_nodup (g : List Int) : ∀ n, (restL g n).Nodup
  | 0 => List.nodup_nil
  | n + 1 => by
    have ih := restL_nodup g n
    unfold restL
    split
    · rw [List.nodup_append]
      refine ⟨ih, by simp, fun a ha b hb e => ?_⟩
      obtain ⟨j, h1, h2, _⟩ := (restL_mem g a n).1 ha
      rw [List.mem_singleton.1 hb] at e
      omega
    · exact ih
theorem order_is {l : List S35} {met : List Bool} {d : List Nat} (h : Dfs l (List.replicate l.length false) met [] (d.map fun j => ((j : Nat) : Int)) d) : Ordr l.length ((d.map fun j => ((j : Nat) : Int)).reverse ++ restL (gOf met) l.length) := by
  have hlen : met.length = l.length := by rw [h.len]; simp
  have hcnt := h.cnt
  have hcf : (List.replicate l.length false).count false = l.length := by simp
  rw [hcf] at hcnt
  simp only [List.length_map, List.length_nil] at hcnt
  have hrc := restL_count met l.length (by omega)
  rw [← hlen, List.take_length, hlen] at hrc
  have hf : ∀ j, j < l.length → (List.replicate l.length false).getD j false = false := fun j hj => by rw [List.getD_eq_getElem?_getD, List.getElem?_replicate, if_pos hj]; rfl
  refine ⟨by rw [List.length_append, List.length_reverse, List.length_map, hrc]; omega, fun j hj => ?_, ?_⟩
  · rw [List.mem_append, List.mem_reverse]
    cases hb : met.getD j false with
    | true => exact .inl (List.mem_map.2 ⟨j, (h.new j).2 ⟨hf j hj, hb⟩, rfl⟩)
    | false => exact .inr ((restL_mem _ _ _).2 ⟨j, hj, rfl, (gOf_get met j).2 hb⟩)
  · rw [List.nodup_append]
    refine ⟨rev_nodup (cast_nodup h.nodup), restL_nodup _ _, fun a ha b hb e => ?_⟩
    rw [List.mem_reverse] at ha
    obtain ⟨j, hj, rfl⟩ := List.mem_map.1 ha
    obtain ⟨q, h1, h2, h3⟩ := (restL_mem _ _ _).1 hb
    have : j = q := by omega
    subst this
    have := ((h.new j).1 hj).2
    rw [(gOf_get met j).1 h3] at this
    cases this
theorem nodup_at {R : List Int} (h : R.Nodup) {p q : Nat} (hp : p < R.length) (hq : q < R.length) (e : R.getD p 0 = R.getD q 0) : p = q := by
  rw [List.getD_eq_getElem?_getD, List.getD_eq_getElem?_getD, List.getElem?_eq_getElem hp, List.getElem?_eq_getElem hq] at e
  rcases Nat.lt_trichotomy p q with h1 | h1 | h1
  · exact absurd e (List.pairwise_iff_getElem.1 h p q hp hq h1)
  · exact h1
  · exact absurd e.symm (List.pairwise_iff_getElem.1 h q p hq hp h1)
theorem place_is {n : Nat} {R : List Int} (h : Ordr n R) (hn : n ≤ 4398046511104) {j : Nat} (hj : j < n) : ∃ p : Nat, Ev (fun k => slices_Index_int_int.f k R (j : Int)) (p : Int) ∧ p < n ∧ R.getD p 0 = (j : Int) := by
  obtain ⟨r, h1, h2, h3, h4⟩ := index_ev R (by rw [h.len]; omega) (j : Int)
  have h0 := h2.2 (h.all j hj)
  obtain ⟨p, rfl⟩ : ∃ p : Nat, r = (p : Int) := ⟨r.toNat, by omega⟩
  rw [h.len] at h3
  refine ⟨p, h1, by omega, ?_⟩
  have := h4 h0
  rw [rdI] at this
  exact this
theorem ahead_of {l : List S35} {met : List Bool} {d : List Nat} (h : Dfs l (List.replicate l.length false) met [] (d.map fun j => ((j : Nat) : Int)) d) {i s : Nat} (hi : i ∈ d) (hs : Leads l i s) (hnr : NoRing l i) {p q : Nat} (hp : p < l.length) (hq : q < l.length) (ep : ((d.map fun j => ((j : Nat) : Int)).reverse ++ restL (gOf met) l.length).getD p 0 = (i : Int)) (eq : ((d.map fun j => ((j : Nat) : Int)).reverse ++ restL (gOf met) l.length).getD q 0 = (s : Int)) : p < q := by
  have ho := order_is h
  obtain ⟨a, b, hd⟩ := List.append_of_mem hi
  have hsa : (s : Int) ∈ a.map fun j => ((j : Nat) : Int) := by
    rcases h.topo a i b hd s hs with h1 | h1
    · simpa using h1
    · exact absurd h1 (hnr s hs)
  generalize hR : (d.map fun j => ((j : Nat) : Int)).reverse ++ restL (gOf met) l.length = R at ho ep eq
  have hRf : R = (b.map fun j => ((j : Nat) : Int)).reverse ++ (i : Int) :: ((a.map fun j => ((j : Nat) : Int)).reverse ++ restL (gOf met) l.length) := by
    rw [← hR, hd]
    simp
  have hbl : R.getD b.length 0 = (i : Int) := by
    rw [hRf, List.getD_eq_getElem?_getD, List.getElem?_append_right (by simp)]
    simp
  have hb : b.length < R.length := by rw [hRf]; simp
  have e1 := nodup_at ho.nodup (by rw [ho.len]; exact hp) hb (ep.trans hbl.symm)
  rcases Nat.lt_or_ge p q with hlt | hge
  · exact hlt
  exfalso
  have hnd := ho.nodup
  have hin : (s : Int) ∈ (b.map fun j => ((j : Nat) : Int)).reverse ++ [(i : Int)] := by
    rw [← eq, hRf]
    rw [show (b.map fun j => ((j : Nat) : Int)).reverse ++ (i : Int) :: ((a.map fun j => ((j : Nat) : Int)).reverse ++ restL (gOf met) l.length) = ((b.map fun j => ((j : Nat) : Int)).reverse ++ [(i : Int)]) ++ ((a.map fun j => ((j : Nat) : Int)).reverse ++ restL (gOf met) l.length) by simp]
    have hql : q < ((b.map fun j => ((j : Nat) : Int)).reverse ++ [(i : Int)]).length := by simp; omega
    rw [List.getD_eq_getElem?_getD, List.getElem?_append_left hql, List.getElem?_eq_getElem hql]
    exact List.getElem_mem hql
  rw [hRf, show (b.map fun j => ((j : Nat) : Int)).reverse ++ (i : Int) :: ((a.map fun j => ((j : Nat) : Int)).reverse ++ restL (gOf met) l.length) = ((b.map fun j => ((j : Nat) : Int)).reverse ++ [(i : Int)]) ++ ((a.map fun j => ((j : Nat) : Int)).reverse ++ restL (gOf met) l.length) by simp, List.nodup_append] at hnd
  exact hnd.2.2 (s : Int) hin (s : Int) (List.mem_append_left _ (List.mem_reverse.2 hsa)) rfl
theorem ahead_l2 (bs : List S35) (hl : bs.length ≤ 4398046511104) (pl rch : List Int) (hrl : rch.length ≤ 9223372036854775807) (hpl : pl.length = bs.length) (i : Nat) (hi : i < bs.length) (nx : List Int) (hnx : nx.length ≤ 9223372036854775807) (f0 f1 : Int) (f2 : List Int) (hok : f0 ∈ rch → ∀ a ∈ nx, ∀ s : Nat, firstB bs 0 a = some (s : Int) → ¬ pl.getD s 0 < pl.getD i 0) (R : Bool) (hR : Ev (fun k => provisolaw05_FlowAhead.l1 k bs pl rch bs (bs.length : Int) ((i + 1 : Nat) : Int)) R) : ∀ (d n : Nat), nx.length - n = d → n ≤ nx.length → Ev (fun k => provisolaw05_FlowAhead.l2 k bs pl rch (i : Int) bs (bs.length : Int) (i : Int) nx (nx.length : Int) (n : Int) f0 f1 f2) R
  | 0, n, hd, hn => by
    obtain rfl : n = nx.length := by omega
    refine Ev.step (fun k => ?_) hR
    simp only [provisolaw05_FlowAhead.l2]
    rw [if_neg (by omega), wrap_one hi (by omega)]
  | d + 1, n, hd, hn => by
    have h1 : n < nx.length := by omega
    have ih := ahead_l2 bs hl pl rch hrl hpl i hi nx hnx f0 f1 f2 hok R hR d (n + 1) (by omega) (by omega)
    refine Ev.step (f := fun k => (provisolaw05_from.f k bs (rd nx (n : Int))).bind fun t253 => ((slices_Contains_int_int.f k rch f0).bind fun t254 => (if t254 = true then (if t253 ≥ 0 then (if 0 ≤ t253 then (if t253 < (pl.length : Int) then (if 0 ≤ (i : Int) then (if (i : Int) < (pl.length : Int) then (if (rd pl t253) < (rd pl (i : Int)) then (some false) else (provisolaw05_FlowAhead.l2 k bs pl rch (i : Int) bs (bs.length : Int) (i : Int) nx (nx.length : Int) ((n + 1 : Nat) : Int) f0 f1 f2)) else (none)) else (none)) else (none)) else (none)) else (provisolaw05_FlowAhead.l2 k bs pl rch (i : Int) bs (bs.length : Int) (i : Int) nx (nx.length : Int) ((n + 1 : Nat) : Int) f0 f1 f2)) else (provisolaw05_FlowAhead.l2 k bs pl rch (i : Int) bs (bs.length : Int) (i : Int) nx (nx.length : Int) ((n + 1 : Nat) : Int) f0 f1 f2)))) (fun k => ?_) (Ev.bind (afrom_ev bs (by omega) _) (Ev.bind (contains_ev rch hrl f0) ?_))
    · simp only [provisolaw05_FlowAhead.l2]
      rw [if_pos (by omega), if_pos (by omega), if_pos (by omega), wrap_one h1 hnx]
    · refine Ev.congr (fun k => ?_) ih
      by_cases hc : f0 ∈ rch
      · rw [if_pos (decide_eq_true hc)]
        unfold plb
        cases hf : firstB bs 0 (rd nx (n : Int)) with
        | none => rw [Option.getD_none, if_neg (by decide)]
        | some v =>
          obtain ⟨j, e3, hj⟩ := firstB_lt bs 0 _ v hf
          rw [Nat.zero_add] at e3
          subst e3
          have hno := hok hc _ (rd_mem h1) j hf
          rw [Option.getD_some, if_pos (by omega), if_pos (by omega), if_pos (by omega), if_pos (by omega), if_pos (by omega), rdI, rdI, if_neg hno]
      · rw [if_neg (by rw [decide_eq_true_eq]; exact hc)]
theorem ahead_l1 (bs : List S35) (hl : bs.length ≤ 4398046511104) (hx : ∀ x ∈ bs, x.f2.length ≤ 9223372036854775807) (pl rch : List Int) (hrl : rch.length ≤ 9223372036854775807) (hpl : pl.length = bs.length) (hok : ∀ i : Nat, i < bs.length → (rd_T35 bs (i : Int)).f0 ∈ rch → ∀ s : Nat, Leads bs i s → ¬ pl.getD s 0 < pl.getD i 0) : ∀ (d i : Nat), bs.length - i = d → i ≤ bs.length → Ev (fun k => provisolaw05_FlowAhead.l1 k bs pl rch bs (bs.length : Int) (i : Int)) true
  | 0, i, hd, hi => by
    refine Ev.step (f := fun _ => some true) (fun k => ?_) (Ev.now _)
    simp only [provisolaw05_FlowAhead.l1]
    rw [if_neg (by omega)]
  | d + 1, i, hd, hi => by
    have h1 : i < bs.length := by omega
    have ih := ahead_l1 bs hl hx pl rch hrl hpl hok d (i + 1) (by omega) (by omega)
    refine Ev.step (fun k => ?_) (ahead_l2 bs hl pl rch hrl hpl i h1 (rd_T35 bs (i : Int)).f2 (hx _ (rdB_mem h1)) (rd_T35 bs (i : Int)).f0 (rd_T35 bs (i : Int)).f1 (rd_T35 bs (i : Int)).f2 (fun hc a ha s hs => hok i h1 hc s ⟨a, ha, hs⟩) true ih _ 0 rfl (Nat.zero_le _))
    simp only [provisolaw05_FlowAhead.l1]
    rw [if_pos (by omega), if_pos (by omega), if_pos (by omega)]
    rfl
theorem ahead_l0 (ls : List S46) (bs : List S35) (R : List Int) (n : Nat) (hn : n ≤ 4398046511104) (hR : Ordr n R) (g : Nat → Nat) (hg : ∀ j, j < n → Ev (fun k => slices_Index_int_int.f k R (j : Int)) (g j : Int)) (P : List Int) (hP : P.length = n) (hPg : ∀ j, j < n → P.getD j 0 = (g j : Int)) (r : Bool) (hE : Ev (fun k => (provisolaw05_ring.f k bs).bind fun t246 => (if t246 = true then (some true) else ((provisoref05_Reach.f k ls 0).bind fun t247 => (provisolaw05_FlowAhead.l1 k bs P t247 bs (bs.length : Int) 0)))) r) : ∀ (d i : Nat) (pl : List Int), n - i = d → i ≤ n → pl.length = n → (∀ j, j < i → pl.getD j 0 = (g j : Int)) → Ev (fun k => provisolaw05_FlowAhead.l0 k ls bs R pl (n : Int) (i : Int)) r
  | 0, i, pl, hd, hi, hpl, hj => by
    obtain rfl : i = n := by omega
    have : pl = P := ext_getD (by omega) (fun p hp => by rw [hj p (by omega), hPg p (by omega)])
    rw [this]
    refine Ev.step (fun k => ?_) hE
    simp only [provisolaw05_FlowAhead.l0]
    rw [if_neg (by omega)]
  | d + 1, i, pl, hd, hi, hpl, hj => by
    have h1 : i < n := by omega
    have ih := ahead_l0 ls bs R n hn hR g hg P hP hPg r hE d (i + 1) (pl.set i (g i : Int)) (by omega) (by omega) (by rw [List.length_set]; exact hpl) (fun j hj2 => by
      rw [getD_setI _ _ _ _ (by omega)]
      by_cases e : j = i
      · rw [if_pos e, e]
      · rw [if_neg e]; exact hj j (by omega))
    have hrd : rd (pl.set i (g i : Int)) (i : Int) = (g i : Int) := by rw [rdI, getD_setI _ _ _ _ (by omega), if_pos rfl]
    refine Ev.step (f := fun k => (slices_Index_int_int.f k R (i : Int)).bind fun t243 => (if 0 ≤ (i : Int) then (if (i : Int) < (pl.length : Int) then ((some (pl.set (i : Int).toNat t243 : List Int)).bind fun y244 => (if (rd y244 (i : Int)) < 0 then (some false) else (provisolaw05_FlowAhead.l0 k ls bs R y244 (n : Int) (wrap64 ((i : Int) + 1))))) else (none)) else (none))) (fun k => ?_) (Ev.bind (hg i h1) ?_)
    · simp only [provisolaw05_FlowAhead.l0]
      rw [if_pos (by omega)]
    · refine Ev.congr (fun k => ?_) ih
      rw [if_pos (by omega), if_pos (by omega), Int.toNat_natCast, Option.bind_some, hrd, if_neg (by omega), wrap_one h1 (by omega)]
theorem rise_of {l : List S46} (h : ∀ i j : Nat, i < j → j < l.length → (atD l i).f0 < (atD l j).f0) : ∀ n, n ≤ l.length → riseTo l n = true
  | 0, _ => rfl
  | n + 1, hn => by
    rw [riseTo, rise_of h n (by omega), Bool.true_and]
    cases n with
    | zero => rfl
    | succ n =>
      have := h n (n + 1) (by omega) (by omega)
      rw [rdN, rdN, show n + 1 - 1 = n by omega, decide_eq_false (show ¬ (atD l (n + 1)).f0 ≤ (atD l n).f0 by omega)]
      simp
theorem FlowAhead : provisolaw05_FlowAhead.PureR := by
  intro l ⟨_, hl, hok⟩
  obtain ⟨ls, a, e, e1, e2, hr⟩ := scan_ev l (bytes_of hok)
  suffices h : Ev (fun k => provisolaw05_FlowAhead.f k l) true by
    obtain ⟨K, h⟩ := h
    exact ⟨K, h K (Nat.le_refl _)⟩
  have hnil : Ev (fun k => provisolaw05_FlowAhead.j0 k ls true) true := by
    refine Ev.step (f := fun k => (flow_Order.f k ([] : List S35)).bind fun t227 => (some ((t227.length : Int) == 0))) (fun k => ?_) (Ev.bind order_nil.1 (Ev.now _))
    simp only [provisolaw05_FlowAhead.j0, if_true]
  unfold provisolaw05_FlowAhead.f
  refine Ev.bind e2 ?_
  rcases hr with ⟨rfl, rfl, h4096, hs⟩ | ⟨h1, rfl⟩
  · simp only [if_true]
    have hlen := hs.le.1
    have hseq := hs
    by_cases h0 : ls.length = 0
    · rw [show ((ls.length : Int) == 0) = true by rw [h0]; rfl]
      exact hnil
    · rw [show ((ls.length : Int) == 0) = false by rw [beq_eq_false_iff_ne]; omega]
      have hrise : riseTo ls ls.length = true := rise_of (seq_rise hs) _ (Nat.le_refl _)
      have hbk : blkL ls = blocksL ls 0 0 ls.length := by unfold blkL; rw [if_pos hrise]
      have hrb := rblocks_ev ls (by omega)
      have hf2 := blkL_f2 ls
      have hbl := blkL_len ls
      rw [hbk] at hrb hf2 hbl
      have hso := hs.ok h4096
      have hI : ∀ x ∈ ls, 0 ≤ x.f0 ∧ x.f0 ≤ 4096 ∧ I64 x.f2 := fun x hx => by
        obtain ⟨g1, g2, g3, g4⟩ := hs.all x hx
        have := szOf_range x.f1
        exact ⟨g1, by omega, g4⟩
      have hpos : 0 < (blocksL ls 0 0 ls.length).length := by
        obtain ⟨e, _, _, _, _, h5⟩ := blocks_head ls 0 (ls.length - 1) 0 (by omega)
        rw [show ls.length - 1 + 1 = ls.length by omega] at h5
        rw [h5]; simp
      have hbo : bsOk (blocksL ls 0 0 ls.length) = true := List.all_eq_true.2 fun x hx => by
        obtain ⟨f, e, rfl, _, _, _, he, _⟩ := blocks_all ls ls.length 0 0 (by omega) (Nat.le_refl _) (fun q h1 h2 => by omega) x hx
        have hfr := hI _ (getD_mem (show f < ls.length by omega))
        have hfe := hI _ (getD_mem he)
        rw [Bool.and_eq_true]
        unfold blkOf
        rw [rdN, rdN]
        have hi64 : ∀ y : Int, I64 y → i64B y = true := fun y hy => by unfold i64B; rw [decide_eq_true hy.1, decide_eq_true hy.2]; rfl
        refine ⟨hi64 _ ⟨by have := hfr.1; show _ ≤ (atD ls f).f0; show _ ≤ (ls.getD f z46).f0; omega, by have := hfr.2.1; show (ls.getD f z46).f0 ≤ _; omega⟩, List.all_eq_true.2 fun y hy => ?_⟩
        have hy2 := (List.mem_filter.1 hy).1
        exact hi64 _ (nextL_ok (show I64 (atD ls e).f2 from hfe.2.2) y hy2)
      generalize hbs : blocksL ls 0 0 ls.length = bs at hrb hf2 hbl hpos hbo
      have hf2' : ∀ x ∈ bs, x.f2.length ≤ 9223372036854775807 := fun x hx => by have := hf2 x hx; omega
      obtain ⟨met, d, h3, hm0, ⟨d0, hd0⟩, h6, _⟩ := order_ev bs (by omega) hf2' hbo hpos
      have ho := order_is h3
      obtain ⟨b, hb, hbn⟩ := ring_ev bs (by omega) hf2'
      obtain ⟨rch, hrc, hrp, hrm⟩ := rreach_ev ls (by omega) 0
      have hrcl : rch.length ≤ ls.length := Rch.le (strict_nodup hrp) (fun x hx => (hrm x).1 hx)
      have hR0 : rd ((d.map fun j => ((j : Nat) : Int)).reverse ++ restL (gOf met) bs.length) 0 = 0 := by rw [hd0]; simp [rd]
      generalize hR : (d.map fun j => ((j : Nat) : Int)).reverse ++ restL (gOf met) bs.length = R at h6 ho hR0
      have hch : ∀ j : Nat, ∃ p : Nat, j < bs.length → (Ev (fun k => slices_Index_int_int.f k R (j : Int)) (p : Int) ∧ p < bs.length ∧ R.getD p 0 = (j : Int)) := fun j => by
        by_cases hj : j < bs.length
        · obtain ⟨p, hp⟩ := place_is ho (by omega) hj
          exact ⟨p, fun _ => hp⟩
        · exact ⟨0, fun h => absurd h hj⟩
      obtain ⟨g, hg⟩ : ∃ g : Nat → Nat, ∀ j, j < bs.length → (Ev (fun k => slices_Index_int_int.f k R (j : Int)) (g j : Int) ∧ g j < bs.length ∧ R.getD (g j) 0 = (j : Int)) := ⟨fun j => (hch j).choose, fun j hj => (hch j).choose_spec hj⟩
      have hPl : ((List.range bs.length).map fun j => ((g j : Nat) : Int)).length = bs.length := by simp
      have hPg : ∀ j, j < bs.length → ((List.range bs.length).map fun j => ((g j : Nat) : Int)).getD j 0 = (g j : Int) := fun j hj => by
        rw [List.getD_eq_getElem?_getD, List.getElem?_map, List.getElem?_range hj]; rfl
      have hfin : Ev (fun k => (provisolaw05_ring.f k bs).bind fun t246 => (if t246 = true then (some true) else ((provisoref05_Reach.f k ls 0).bind fun t247 => (provisolaw05_FlowAhead.l1 k bs ((List.range bs.length).map fun j => ((g j : Nat) : Int)) t247 bs (bs.length : Int) 0)))) true := by
        refine Ev.bind hb ?_
        cases b with
        | true => simp only [if_true]; exact Ev.now _
        | false =>
          simp only [Bool.false_eq_true, if_false]
          refine Ev.bind hrc ?_
          refine ahead_l1 bs (by omega) hf2' _ rch (by omega) hPl (fun i hi hc s hs => ?_) _ 0 rfl (Nat.zero_le _)
          have hsl := leads_lt hs
          rw [hPg s hsl, hPg i hi]
          have hvis : met.getD i false = true := by
            have hc2 := (hrm _).1 hc
            rw [← hbs] at hi hc2
            refine reach_visited hseq h4096 (by omega) (fun j => met.getD j false = true) hm0 (fun i s hv hl2 => ?_) hi hc2
            rw [hbs] at hl2
            have hil : i < bs.length := by
              rcases Nat.lt_or_ge i bs.length with h | h
              · exact h
              · exfalso
                have hml : met.length = bs.length := by rw [h3.len]; simp
                rw [List.getD_eq_getElem?_getD, List.getElem?_eq_none (by omega)] at hv
                cases hv
            exact h3.closed i ((h3.new i).2 ⟨by rw [List.getD_eq_getElem?_getD, List.getElem?_replicate, if_pos hil]; rfl, hv⟩) s hl2
          have hid : i ∈ d := (h3.new i).2 ⟨by rw [List.getD_eq_getElem?_getD, List.getElem?_replicate, if_pos hi]; rfl, hvis⟩
          have := ahead_of h3 hid hs (hbn rfl i hi) (hg i hi).2.1 (hg s hsl).2.1 (by rw [hR]; exact (hg i hi).2.2) (by rw [hR]; exact (hg s hsl).2.2)
          omega
      have hmain := ahead_l0 ls bs R bs.length (by omega) ho g (fun j hj => (hg j hj).1) _ hPl hPg true hfin bs.length 0 (List.replicate bs.length 0) (by omega) (by omega) (by simp) (fun j hj => by omega)
      refine Ev.step (f := fun k => (provisoref05_Blocks.f k ls).bind fun t230 => ((provisoref05_Blocks.f k ls).bind fun t233 => ((flow_Order.f k t233).bind fun t236 => (if (t236.length : Int) = (t230.length : Int) then (if 0 < (t236.length : Int) then (provisolaw05_FlowAhead.j1 k ls t230 t236 ((rd t236 0) != 0)) else (none)) else (provisolaw05_FlowAhead.j1 k ls t230 t236 true))))) (fun k => ?_) (Ev.bind hrb (Ev.bind hrb (Ev.bind h6 ?_)))
      · simp only [provisolaw05_FlowAhead.j0]
        rw [if_neg (by decide)]
      · refine Ev.congr (f := fun k => provisolaw05_FlowAhead.j1 k ls bs R false) (fun k => ?_) (Ev.step (fun k => ?_) hmain)
        · rw [if_pos (by rw [ho.len]), if_pos (by rw [ho.len]; omega), hR0]
          rfl
        · simp only [provisolaw05_FlowAhead.j1]
          rw [if_neg (by decide), if_pos (by omega), Int.toNat_natCast, if_pos (by omega), Option.bind_some, List.length_replicate]
          rfl
  · simp only [if_neg h1]
    exact hnil
end Go.Proofs.Ytcffniaieegbgaa.Pure

end

section
namespace Go.Proofs.Ytcffniaieegbgaa.flowAhead
open Go.ChangeShapes Go.WideShapes Go.ChangeAt Go.RowKit Go.Proofs.YtcffniaieegbgaaW.PrintWords Go.Proofs.Ytcffniaieegbgaa.Sees Go.Proofs.Ytcffniaieegbgaa.P
open Go.ChangeMaps (open_string shut_string)
set_option linter.unusedVariables false
set_option linter.unusedSimpArgs false
theorem own : ownKnob Try.prog.godebug = none := by kernel_rfl
theorem laidOut : laidOutB Try.prog = true := by kernel_rfl
set_option maxRecDepth 100000 in
theorem lifted (os : Os) (started : os.Started) (H : Type) (enc : TypeId × Value → H) :
    ReturnsInHanded {} Try.checked os 3 .any (Rows.flowAheadSpec.pre6 enc Try.prog Try.f3 Rows.flowAheadRow.domain false) (Rows.flowAheadSpec.post enc Try.prog Try.f3 false true false false) := by
  refine returnsInHanded_of_change_sized (C := Try.checked) own started (by kernel_rfl) Try.func3
    (ChangeSpec.witness6 (enc := enc) (C := Try.checked) false ⟨#[], #[.slice none 0 0], []⟩ 8 (by kernel_rfl) (by kernel_rfl) (by kernel_rfl) (by kernel_rfl)) ?_
  intro W base args ds gs before hval0 hW hcnd hsz0 _
  have hsz : (DataW.weightsEach Try.prog (Try.f3.params.toList ++ Rows.flowAheadSpec.plain.varTypes Try.prog) (ds ++ gs)).all (· ≤ reachBytes) = true := hsz0
  have hval : ∀ (j : Nat) t v, Try.f3.params[j]? = some t → args[j]? = some v → Value.okWide Try.prog W .any base t v := hval0
  have hW' := hW
  obtain ⟨p, q, hA0, hV, rfl, hfz, hnd⟩ := hW
  have hA : DataW.TrodAll enc Try.prog W 0 (fun _ => true) true Try.f3.params.toList args.toList ds p := hA0
  rw [Try.params3] at hA hval hsz
  obtain ⟨v0, vs0, d0, ds0, p0, q0, hargs, rfl, rfl, h0, r0⟩ := trodAll_cons hA
  obtain ⟨rfl, rfl, rfl⟩ := trodAll_nil r0
  obtain rfl : args = #[v0] := by cases args; simp_all
  obtain ⟨rfl, rfl⟩ := trodVars_none hV
  have k0 := h0
  have lt0 : ∀ x ∈ p0, x.block < W.heap.size := by obtain ⟨m, hm⟩ := k0; exact DataW.trod_lt m _ _ _ hm
  obtain ⟨y0, hy0, oy0⟩ := see_arg (j := 0) (t := 22) (sees_slice (B := 1) Try.underlying22 (by kernel_rfl) (by kernel_rfl) (sees_int Try.underlying5)) hsz rfl rfl h0
  obtain ⟨a0, len0, cap0, rfl⟩ := okWide_slice Try.underlying22 (hval 0 22 v0 rfl rfl)
  obtain ⟨rfl, hc0, hr0⟩ := see_slice rfl hy0
  clear hA0 hval0 hsz0 hsz
  obtain ⟨k, hk⟩ := Pure.FlowAhead y0 oy0
  refine (provisolaw05_FlowAhead.calls k _ _ y0 true W hr0 hc0 hk).mono ?_
  rintro e W' ⟨rfl, bel0⟩
  have bel : Below W.heap.size W W' := bel0
  exact ⟨_, rfl, _, _, _, [], _, [], hW', trodAll_mk1 (shut_bool Try.underlying4 _), (trodAll_cons_mk (Below.trod laidOut (by kernel_rfl) (of_decide_eq_true (by kernel_rfl)) k0 bel lt0) trodAll_mk0), rfl, bel.frame _, fun h => by cases h⟩
theorem over : Rows.flowAheadRow.holds Try.pinned (OpenSpec.ofChange Rows.flowAheadSpec) :=
  OpenClaim.holds_of_wide 3 Try.f3 rfl rfl rfl rfl rfl rfl rfl ⟨rfl, rfl, rfl, rfl, rfl⟩ rfl rfl rfl rfl rfl (by kernel_rfl) Try.func3 (by kernel_rfl)
    (of_decide_eq_true (by kernel_rfl)) (by unfold Func.isWrapper; first | (rw [if_pos (by decide +kernel)]; kernel_rfl) | (rw [if_neg (by decide +kernel)]; exact ⟨rfl, rfl⟩))
    (fun os started H enc _ => lifted os started H enc)
theorem proved : Rows.FlowAheadSaid := over
end Go.Proofs.Ytcffniaieegbgaa.flowAhead
namespace Go.Proofs.Ytcffniaieegbgaa
theorem flowAhead_holds : Rows.FlowAheadSaid := flowAhead.proved
end Go.Proofs.Ytcffniaieegbgaa

end

