/- Proved: the law WireSums holds for every input that the row lets in. No condition of ours. -/
import Derived.Test.YtklbkonehcjmjaaBWireSumsb
import Derived.Test.YtklbkonehcjmjaaProg
import Derived.WalkSpells
import Derived.Test.YtklbkonehcjmjaaRows
import Derived.ShutString
import Derived.ChangeOld
import Derived.Lib.SmallJoins
section
namespace Go.Proofs.Ytklbkonehcjmjaa.P
open Go.RowKit Go.Proofs.YtklbkonehcjmjaaW.PrintWords Go.Proofs.YtklbkonehcjmjaaW.PrintLast Go.Proofs.YtklbkonehcjmjaaW.PrintMore
attribute [local go_sem] max2_int min2_int max_two min_two max_three min_three max_four min_four   -- for this text's walks alone
set_option linter.unusedVariables false
set_option linter.unusedSimpArgs false



theorem info5 : (Try.prog.info? 5).map (fun i => (i.zero, i.size, i.bytes)) = some (some (.int .u8 0), 1, 1) := by kernel_rfl
end Go.Proofs.Ytklbkonehcjmjaa.P

end

section
namespace Go.Proofs.Ytklbkonehcjmjaa.P
open Go.RowKit Go.Proofs.YtklbkonehcjmjaaW.PrintWords Go.Proofs.YtklbkonehcjmjaaW.PrintLast Go.Proofs.YtklbkonehcjmjaaW.PrintMore
attribute [local go_sem] max2_int min2_int max_two min_two max_three min_three max_four min_four   -- for this text's walks alone
set_option linter.unusedVariables false
set_option linter.unusedSimpArgs false

def slices_Clone_byte_byte.f (l0 : List Int) : Option (List Int) := if l0.length < 140737488355328 then some l0 else none
set_option maxHeartbeats 800000 in
set_option maxRecDepth 100000 in
theorem slices_Clone_byte_byte.calls (A0 : Option Addr) (c0 : Nat) (l0 : List Int) (r : List Int) (w : World) (hr0 : Kd.C (Kd.int .u8) w A0 l0.length l0) (hc0 : l0.length ≤ c0) (h : slices_Clone_byte_byte.f l0 = some r) :
    Calls Try.prog 17 #[.slice A0 l0.length c0] w fun e w' => ∃ v0_ : Value, e = .returned v0_ ∧ Kd.R (Kd.int .u8) 5 w' w.heap.size (fun _ => True) v0_ r ∧ Below w.heap.size w w' := by
  obtain ⟨hlim, rfl⟩ : l0.length < 140737488355328 ∧ r = l0 := by
    unfold slices_Clone_byte_byte.f at h
    split at h
    · rename_i h9
      exact ⟨h9, (Option.some.inj h).symm⟩
    · cases h
  have hnil := Lib.run_eql_slice_nil (P := Try.prog) (h := Try.underlying23)
  have HR := Aside0.mk hr0
  have HL := Aside0.mk hlim
  cases A0 with
  | none =>
    have e0 : r = [] := by
      rcases Nat.eq_zero_or_pos r.length with h0 | h0
      · exact List.length_eq_zero_iff.1 h0
      · obtain ⟨ad, e, _⟩ := hr0.2.2 h0
        cases e
    have E0 := Aside0.mk e0
    clear h hr0 hlim e0
    go_enter Try.func17, Try.ntmps17
    go_wp2
    go_ret
    refine ⟨_, rfl, ?_, Below.refl _ _⟩
    rw [E0.out]
    exact Kd.R_nil _ _ _ _ _
  | some ad =>
    clear h hr0 hlim
    go_enter Try.func17, Try.ntmps17
    go_wp2_with (first | ((with_reducible refine gate_dst (N := 5) rfl ?_); refine Kd.R_lit (Kd.int .u8) _ 5 ?hg (N := 5) ?hd (xs := ([] : List Int)) (inner := []) (ok := fun _ => True) (okp := fun _ => True) ?hr ?hp (fun _ hk => hk) trivial (Below.refl _ _) (Nat.le_refl _) (by simp) ?_; (case hd => rfl); (case hg => rfl); (case hr => first | (go_simp; done) | (go_simp; rfl)); (case hp => exact (Reps.none _ _)); intro v1 w1 ho1 hb1 _ _; have n1 := Aside0.mk ho1; have n2 := Aside0.mk hb1; clear ho1 hb1; obtain ⟨A1, c1, e1⟩ := Kd.R_slice n1.out; subst e1) | ((with_reducible refine gate_builtin (b := .append) (xs := #[.tmp 5, .tmp 6]) rfl ?_); at_builtin; refine Kd.R_append_rows (Kd.int .u8) (w0 := w) w.heap.size rfl (.tmp 5) (.tmp 6) 23 5 (.int .u8 0) 1 rfl Try.underlying23 info5 rfl (by decide) (by omega) (.slice A1 (([] : List Int)).length c1) ([] : List Int) r _ _ _ (fun _ => True) (fun _ => False) rfl rfl ?aO ?aR (fun _ _ h => h) (fun _ h => h.elim) ?aF ?aB ?aS ?aL ?_; (case aR => exact Kd.C_below HR.out n2.out); (case aB => exact n2.out); (case aF => exact (fun _ _ => trivial)); (case aO => exact n1.out); (case aS => exact n2.out.size); (case aL => have h9 := HL.out; simp only [List.length_nil]; omega); intro v2 w2 ho2 hb2 _ _; have n3 := Aside0.mk ho2; have n4 := Aside0.mk hb2; clear ho2 hb2))
    go_ret
    exact ⟨_, rfl, n3.out, n4.out⟩

theorem C_of_lit {W : World} {gb : Nat} {cs : Array Value} {t : TypeId} {xs : List Int} (h : W.heap[gb]? = some (.cells cs t (0, 0))) (hl : xs.length ≤ 9223372036854775807) (hx : ∀ (j : Nat) (p : Int), xs[j]? = some p → cs[j]? = some (.int .u8 p)) : Kd.C (Kd.int .u8) W (some ⟨gb, 0, none⟩) xs.length xs :=
  ⟨rfl, hl, fun _ => ⟨⟨gb, 0, none⟩, rfl, fun j p hj => ⟨[.int .u8 p], rfl, rfl, fun i u hu => by
    cases i with
    | zero =>
      obtain rfl := Option.some.inj hu
      have h2 := (blk_cell h j).trans (hx j p hj)
      rcases Nat.eq_zero_or_pos j with rfl | hj0
      · simpa [Addr.add, show (Kd.int .u8).sz = 1 from rfl] using h2
      · have : ¬ j = 0 := by omega
        simpa [Addr.add, show (Kd.int .u8).sz = 1 from rfl, this] using h2
    | succ i => cases hu⟩⟩⟩
set_option maxHeartbeats 1600000 in
set_option maxRecDepth 100000 in
theorem Roomy_calls (A0 : Option Addr) (c0 : Nat) (l0 : List Int) (w : World) (hr0 : Kd.C (Kd.int .u8) w A0 l0.length l0) (hc0 : l0.length ≤ c0) (hlim : l0.length ≤ 140737488351232) :
    Calls Try.prog 13 #[.slice A0 l0.length c0] w fun e w' => ∃ A c, e = .returned (.tuple #[.slice A l0.length c, .slice A (l0.length + 4) c]) ∧ l0.length + 4 ≤ c ∧ Kd.R (Kd.int .u8) 5 w' w.heap.size (fun _ => True) (.slice A (l0.length + 4) c) (l0 ++ [165, 90, 195, 60]) ∧ Below w.heap.size w w' := by
  have HR := Aside0.mk hr0
  have HC := Aside0.mk hc0
  have HL := Aside0.mk hlim
  have HCL : Aside0 (slices_Clone_byte_byte.f l0 = some l0) := ⟨by unfold slices_Clone_byte_byte.f; rw [if_pos (by omega)]⟩
  clear hr0 hc0
  go_enter Try.func13, Try.ntmps13
  go_wp2_with fail
  refine (slices_Clone_byte_byte.calls A0 c0 l0 l0 _ HR.out HC.out HCL.out).mono ?_
  rintro e w1 ⟨v, rfl, hR, hb⟩
  obtain ⟨A1, c1, rfl⟩ := Kd.R_slice hR
  have n1 := Aside0.mk (Kd.R_below hR (below_alloc (Below.refl _ _) (.cells #[.int .u8 165, .int .u8 90, .int .u8 195, .int .u8 60] 5)))
  have n2 := Aside0.mk (below_alloc hb (.cells #[.int .u8 165, .int .u8 90, .int .u8 195, .int .u8 60] 5))
  have n3 : Aside0 (Kd.C (Kd.int .u8) (w1.alloc (.cells #[.int .u8 165, .int .u8 90, .int .u8 195, .int .u8 60] 5)) (some ⟨w1.heap.size, 0, none⟩) [165, 90, 195, 60].length [165, 90, 195, 60]) := ⟨C_of_lit (blk_new _ _) (by decide) (fun j p hj => by
    match j, hj with
    | 0, hj => obtain rfl := Option.some.inj hj; rfl
    | 1, hj => obtain rfl := Option.some.inj hj; rfl
    | 2, hj => obtain rfl := Option.some.inj hj; rfl
    | 3, hj => obtain rfl := Option.some.inj hj; rfl
    | j + 4, hj => simp at hj)⟩
  clear hR hb
  go_wp2_with (first | ((with_reducible refine gate_builtin (b := .append) (xs := #[.tmp 6, .tmp 7]) rfl ?_); at_builtin; refine Kd.R_append_rows (Kd.int .u8) (w0 := w) w.heap.size rfl (.tmp 6) (.tmp 7) 23 5 (.int .u8 0) 1 rfl Try.underlying23 info5 rfl (by decide) (by omega) (.slice A1 l0.length c1) l0 [165, 90, 195, 60] (some ⟨w1.heap.size, 0, none⟩) 4 4 (fun _ => True) (fun _ => False) rfl rfl n1.out n3.out (fun _ _ h => h) (fun _ h => h.elim) (fun _ _ => trivial) n2.out n2.out.size (by have := HL.out; omega) ?_; intro v1 w2 ho hb hg hat; obtain ⟨Av, cv, hcl, e7⟩ : ∃ A c, l0.length + 4 ≤ c ∧ v1 = .slice A (l0.length + 4) c := (by obtain ⟨A, c, e, h, _⟩ := Kd.R_reads ho; rw [List.length_append] at e h; exact ⟨A, c, h, e⟩); subst e7; have HO := Aside0.mk ho; have HB := Aside0.mk hb; have p1 : l0.length ≤ cv := (by omega); clear ho hb hg hat))
  go_ret2
  exact ⟨Av, cv, rfl, hcl, HO.out, HB.out⟩

section
variable {P : Program} {ops : Array Oper} {rest : List Oper} {o : Oper} {a : Act} {Q : Exit → Act → World → Prop}
theorem run_alloc_row {W : World} {t : TypeId} (ho : o.op = .alloc t) (cs : Array Value) (hz : (P.info? t).map (·.zero) = some (some (.agg cs))) : (execOp a.eval o).run P W = .ok (.value (.pointer (some ⟨W.heap.size, 0, none⟩))) (W.alloc (.cells cs t (0, 0))) := by
  unfold execOp
  cases hq : P.info? t with
  | none => simp [hq] at hz
  | some i =>
    have hs : i.zero = some (.agg cs) := by simpa [hq] using hz
    simp only [ho]
    simp [Instr.alloc, zeroValue, typeInfo, hq, hs, newVar, newRow, Value.cells, Sem.run_bind]
theorem alloc_row (hgd : o.guard = none) {W : World} (t : TypeId) (ho : o.op = .alloc t) (cs : Array Value) (hz : (P.info? t).map (·.zero) = some (some (.agg cs)))
    (h : ∀ g, g = W.heap.size → ∀ w1, w1.heap[g]? = some (.cells cs t (0, 0)) → Below W.heap.size W w1 → wpList P ops Q rest (a.put o.dst (.pointer (some ⟨g, 0, none⟩))) w1) : wpList P ops Q (o :: rest) a W :=
  Kd.event_run hgd (run_alloc_row ho cs hz) (h _ rfl _ (blk_new W _) (below_alloc (Below.refl _ _) _))
theorem store_row (hgd : o.guard = none) {W : World} (ty : TypeId) (x y : Operand) (ho : o.op = .store ty x y) (g : Nat) (hx : a.eval x = .pointer (some ⟨g, 0, none⟩)) (cs : Array Value) (hy : a.eval y = .agg cs)
    {t : TypeId} {old : Array Value} (hb : W.heap[g]? = some (.cells old t (0, 0))) (hi : (P.info? ty).map (·.size) = some cs.size) (hs : old.size = cs.size) (h1 : cs.all (·.oneCell') = true)
    (h : ∀ w1, w1.heap[g]? = some (.cells cs t (0, 0)) → Kept W w1 (fun k => k = g) → (∀ (B : Nat) (w0 : World), B ≤ g → Below B w0 W → Below B w0 w1) → wpList P ops Q rest (a.put o.dst undef) w1) : wpList P ops Q (o :: rest) a W := by
  refine wpList_plain hgd fun K hK => ?_
  unfold Oper.wp execOp
  simp only [ho, hx, hy, Instr.storeAt, Instr.sureAddr, Sem.run_bind, Sem.run_pure, Result.andThen_ok, run_storeVar_row W g t ty old cs hb hi hs h1]
  refine hK _ _ (h _ (setRow_heap W g old cs t (0, 0) hb) ⟨by simp, fun i _ hn => setRow_other W g i cs hn⟩ (fun B w0 hB hw => ⟨hw.os, hw.tape, hw.output, by simpa using hw.size, fun k hk => (setRow_other W g k cs (by omega)).trans (hw.block k hk)⟩))
end
def crc1 (c : Int) : Int := if (bits .and .u32 c 1 != 0) = true then bits .xor .u32 (c / 2) 3988292384 else c / 2
def crcN : Nat → Int → Int
  | 0, c => c
  | n + 1, c => crc1 (crcN n c)
def tabTo (i : Nat) : List Value := (List.range 256).map (fun j => .int .u32 (if j < i then crcN 8 (j : Int) else 0))
theorem tabTo_succ (i : Nat) (h : i < 256) : (tabTo i).toArray.setIfInBounds i (.int .u32 (crcN 8 (i : Int))) = (tabTo (i + 1)).toArray := by
  apply Array.ext_getElem?
  intro j
  rw [Array.getElem?_setIfInBounds]
  simp only [List.size_toArray, List.getElem?_toArray, tabTo, List.getElem?_map]
  by_cases hj : i = j
  · subst hj
    simp [h]
  · simp only [hj, if_false]
    by_cases hb : j < 256
    · simp only [List.getElem?_range hb, Option.map_some]
      by_cases h2 : j < i
      · rw [if_pos h2, if_pos (by omega)]
      · rw [if_neg h2, if_neg (by omega)]
    · rw [List.getElem?_eq_none (by simp; omega)]
      rfl
theorem tabTo_at (i j : Nat) (h : j < 256) : (tabTo i).toArray[j]? = some (.int .u32 (if j < i then crcN 8 (j : Int) else 0)) := by
  simp [tabTo, h]
theorem tabTo_length (i : Nat) : (tabTo i).length = 256 := by simp [tabTo]
set_option maxHeartbeats 1600000 in
set_option maxRecDepth 100000 in
theorem words_calls (w : World) : Calls Try.prog 44 #[] w fun e w' => e = .returned (.agg (tabTo 256).toArray) ∧ Below w.heap.size w w' := by
  have hz : (Try.prog.info? 84).map (·.zero) = some (some (.agg (tabTo 0).toArray)) := by kernel_rfl
  have HZ := Aside0.mk hz
  clear hz
  go_enter Try.func44, Try.ntmps44
  go_wp2_with (first | ((with_reducible refine gate_dst (N := 0) rfl ?_); refine alloc_row rfl 84 rfl _ HZ.out ?_; intro g0 hg0 w1 hb0 hw1; have HG0 := Aside0.mk hg0; have HB0 := Aside0.mk hb0; have HW1 := Aside0.mk hw1; clear hg0 hb0 hw1) | ((with_reducible refine gate_dst (N := 1) rfl ?_); refine alloc_row rfl 84 rfl _ HZ.out ?_; intro g1 hg1 w2 hb1 hw2; have HG1 := Aside0.mk hg1; have HB1 := Aside0.mk hb1; have HW2 := Aside0.mk hw2; clear hg1 hb1 hw2))
  have HN : Aside0 (g0 ≠ g1 ∧ w.heap.size ≤ g1 ∧ w.heap.size ≤ g0) := ⟨by have := blk_lt HB0.out; have := HG1.out; omega, by have := HW1.out.size; have := HG1.out; omega, by have := HG0.out; omega⟩
  go_loopw [5] (fun v5 wr => ∃ i : Nat, v5 = .int .i64 (i : Int) ∧ i ≤ 256 ∧ Aside0 (wr.heap[g1]? = some (.cells (tabTo i).toArray 84 (0, 0))) ∧ Aside0 (wr.heap[g0]? = some (.cells (tabTo 0).toArray 84 (0, 0))) ∧ Aside0 (Below w.heap.size w wr)) (fun v5 _ => (256 - intOf v5).toNat)
  case atStart => exact ⟨0, rfl, Nat.zero_le _, HB1, ⟨blk_below HB0.out HW2.out⟩, ⟨below_step HW1.out HW2.out⟩⟩
  case round =>
    obtain ⟨i, rfl, hi, HT, H0, HW⟩ := hrel
    by_cases c1 : i < 256
    · have c1b : decide ((i : Int) < 256) = true := decide_eq_true (by omega)
      have c2 : (i : Int) % 4294967296 = (i : Int) := by omega
      have p1 : (0 ≤ (i : Int)) = True := eq_true (by omega)
      have p2 : ((i : Int) < 256) = True := eq_true (by omega)
      clear HZ HG0 HB0 HW1 HB1 HW2
      go_wp2
      go_loopw [10, 3] (fun v10 v3 wr2 => ∃ k : Nat, v10 = .int .i64 (k : Int) ∧ k ≤ 8 ∧ v3 = .int .u32 (crcN k (i : Int)) ∧ wr2 = wr) (fun v10 _ _ => (8 - intOf v10).toNat)
      case atStart => exact ⟨0, rfl, Nat.zero_le _, rfl, rfl⟩
      case round =>
        obtain ⟨k, rfl, hk, rfl, rfl⟩ := hrel
        by_cases d1 : k < 8
        · have d1b : decide ((k : Int) < 8) = true := decide_eq_true (by omega)
          have hc : crcN (k + 1) (i : Int) = crc1 (crcN k (i : Int)) := rfl
          generalize crcN k (i : Int) = c at hc ⊢
          have HC := Aside0.mk hc
          clear hc
          go_wp2
          all_goals
            rename_i h
            exact ⟨⟨k + 1, rfl, by omega, by rw [HC.out, crc1, h]; rfl, trivial⟩, by simp [intOf]; omega⟩
        · have d1b : decide ((k : Int) < 8) = false := decide_eq_false (by omega)
          obtain rfl : k = 8 := by omega
          have hc : wr.cell? ⟨g1, i, none⟩ = some (.int .u32 0) := (blk_cell HT.out i).trans (by rw [tabTo_at i i c1, if_neg (Nat.lt_irrefl _)])
          have hf := blk_frozen HT.out i
          go_wp2
          exact ⟨⟨i + 1, rfl, by omega, ⟨by rw [← tabTo_succ i c1]; exact blk_set HT.out i _⟩, ⟨blk_far H0.out (by simpa using HN.out.1) _⟩, ⟨HW.out.setCell HN.out.2.1 _⟩⟩, by simp [intOf]; omega⟩
    · have c1b : decide ((i : Int) < 256) = false := decide_eq_false (by omega)
      obtain rfl : i = 256 := by omega
      have HI : Aside0 ((Try.prog.info? 84).map (·.size) = some (tabTo 256).toArray.size) := ⟨by rw [List.size_toArray, tabTo_length]; kernel_rfl⟩
      go_wp2_with (first | ((with_reducible refine gate_dst (N := 25) rfl ?_); refine wpList_load_row rfl 84 (.tmp 1) rfl g1 rfl 84 _ (0, 0) _ HT.out Try.underlying84 rfl HI.out ?_) | ((with_reducible refine gate_ (.store 84 (.tmp 0) (.tmp 25)) rfl ?_); refine store_row rfl 84 (.tmp 0) (.tmp 25) rfl g0 rfl (tabTo 256).toArray rfl H0.out HI.out (by simp [tabTo]) (all_oneCell_toArray (fun v hv => by obtain ⟨x, _, rfl⟩ := List.mem_map.1 hv; rfl)) ?_; intro w5 hb5 hk5 hw5; have HB5 := Aside0.mk hb5; have HW5 := Aside0.mk hw5; clear hb5 hk5 hw5))
      exact bodyPost_ret (results_cell_row rfl _ _ g0 84 _ (0, 0) _ rfl HB5.out Try.underlying84 rfl HI.out) rfl ⟨rfl, HW5.out _ _ HN.out.2.2 HW.out⟩
def tabStep (c x : Int) : Int := bits .xor .u32 (crcN 8 (bits .xor .u8 (c % 256) x)) (c / 256)
def sumFrom (c : Int) (l : List Int) : Int := l.foldl tabStep c
theorem xor8_range (a b : Int) : 0 ≤ bits .xor .u8 a b ∧ bits .xor .u8 a b < 256 := by
  unfold bits
  rw [IntKind.wrap_u8]
  omega
set_option maxHeartbeats 1600000 in
set_option maxRecDepth 100000 in
theorem Sum_calls (A0 : Option Addr) (c0 : Nat) (l0 : List Int) (w : World) (hr0 : Kd.C (Kd.int .u8) w A0 l0.length l0) (hc0 : l0.length ≤ c0) : Calls Try.prog 14 #[.slice A0 l0.length c0] w fun e w' => e = .returned (.int .i64 (wrap64 (bits .xor .u32 4294967295 (sumFrom 4294967295 l0)))) ∧ Below w.heap.size w w' := by
  have HR := Aside0.mk hr0
  have hlen : l0.length ≤ 9223372036854775807 := hr0.2.1
  have HZ : Aside0 ((Try.prog.info? 84).map (·.zero) = some (some (.agg (tabTo 0).toArray))) := ⟨by kernel_rfl⟩
  have HI : Aside0 ((Try.prog.info? 84).map (·.size) = some (tabTo 256).toArray.size) := ⟨by rw [List.size_toArray, tabTo_length]; kernel_rfl⟩
  clear hr0
  go_enter Try.func14, Try.ntmps14
  go_wp2_with fail
  refine (words_calls _).mono ?_
  rintro e w1 ⟨rfl, hb1⟩
  have HB1 := Aside0.mk hb1
  clear hb1
  go_wp2_with (first | ((with_reducible refine gate_dst (N := 3) rfl ?_); refine alloc_row rfl 84 rfl _ HZ.out ?_; intro g hg w2 hb2 hw2; have HG := Aside0.mk hg; have HB2 := Aside0.mk hb2; have HW2 := Aside0.mk hw2; clear hg hb2 hw2) | ((with_reducible refine gate_ (.store 84 (.tmp 3) (.tmp 7)) rfl ?_); refine store_row rfl 84 (.tmp 3) (.tmp 7) rfl g rfl (tabTo 256).toArray rfl HB2.out HI.out (by simp [tabTo]) (all_oneCell_toArray (fun v hv => by obtain ⟨x, _, rfl⟩ := List.mem_map.1 hv; rfl)) ?_; intro w5 hb5 hk5 hw5; have HB5 := Aside0.mk hb5; have HW5 := Aside0.mk hw5; clear hb5 hk5 hw5))
  have hb6 : Below w.heap.size w w5 := HW5.out _ _ (by have := HG.out; have := HB1.out.size; omega) (below_step HB1.out HW2.out)
  have HB6 := Aside0.mk hb6
  clear hb6 HB1 HB2 HW2 HW5 HZ HI HG
  go_loopw [10, 4] (fun v10 v4 wr => ∃ (i : Nat) (c : Int), v10 = .int .i64 (i : Int) ∧ i ≤ l0.length ∧ v4 = .int .u32 c ∧ Aside0 (sumFrom c (l0.drop i) = sumFrom 4294967295 l0) ∧ wr = w5) (fun v10 _ _ => ((l0.length : Int) - intOf v10).toNat)
  case atStart => exact ⟨0, 4294967295, rfl, Nat.zero_le _, rfl, ⟨rfl⟩, rfl⟩
  case round =>
    obtain ⟨i, c, rfl, hi, rfl, HS, rfl⟩ := hrel
    by_cases c1 : i < l0.length
    · have c1b : decide ((i : Int) < (l0.length : Int)) = true := decide_eq_true (by omega)
      obtain ⟨ad, e1, hx⟩ := Kd.at_int HR.out (i : Int) (by omega) (by omega)
      cases e1
      replace hx := (HB6.out.cell (World.block_lt_of_cell? _ _ hx)).trans hx
      simp only [Int.toNat_natCast] at hx
      have p5 : (0 ≤ (i : Int)) = True := eq_true (by omega)
      have p6 : ((i : Int) < (l0.length : Int)) = True := eq_true (by omega)
      have hz : rd l0 (i : Int) = l0[i] := by simp [rd, List.getD_eq_getElem?_getD, c1]
      have HZ2 := Aside0.mk hz
      clear hz
      generalize rd l0 (i : Int) = x at hx HZ2
      obtain ⟨q, hq⟩ : ∃ q : Nat, (q : Int) = bits .xor .u8 (c % 256) x := ⟨(bits .xor .u8 (c % 256) x).toNat, by have := xor8_range (c % 256) x; omega⟩
      have hq8 : q < 256 := by have := xor8_range (c % 256) x; omega
      have hq1 : bits .xor .u8 (c % 256) x = (q : Int) := hq.symm
      have HQ := Aside0.mk hq
      have p7 : (0 ≤ (q : Int)) = True := eq_true (by omega)
      have p8 : ((q : Int) < 256) = True := eq_true (by omega)
      have hc : wr.cell? ⟨g, q, none⟩ = some (.int .u32 (crcN 8 (q : Int))) := (blk_cell HB5.out q).trans (by rw [tabTo_at 256 q hq8, if_pos hq8])
      clear hq
      go_wp2
      exact ⟨⟨i + 1, tabStep c x, rfl, by omega, by unfold tabStep; rw [← HQ.out], ⟨by rw [← HS.out, List.drop_eq_getElem_cons c1, ← HZ2.out]; rfl⟩, trivial⟩, by simp [intOf]; omega⟩
    · have c1b : decide ((i : Int) < (l0.length : Int)) = false := decide_eq_false (by omega)
      have e1 : Aside0 (i = l0.length) := ⟨by omega⟩
      have hsg : IntKind.u32.signed = false := rfl
      go_wp2
      go_ret
      refine ⟨?_, HB6.out⟩
      have hS := HS.out
      rw [e1.out, List.drop_length] at hS
      rw [← hS]
      rfl
theorem Kd.R_from_ {base : Nat} {W : World} {ok : Nat → Prop} {v : Value} {xs : List Int} (h : Kd.R (Kd.int .u8) 5 W base ok v xs) (k : Nat) (hk : v.ownBlock = some k) : base ≤ k := by
  obtain ⟨_, inner, ho, _⟩ := h
  exact own_base ho k hk


end Go.Proofs.Ytklbkonehcjmjaa.P

end

section
namespace Go.Proofs.Ytklbkonehcjmjaa.P
open Go.RowKit Go.Proofs.YtklbkonehcjmjaaW.PrintWords Go.Proofs.YtklbkonehcjmjaaW.PrintLast Go.Proofs.YtklbkonehcjmjaaW.PrintMore
attribute [local go_sem] max2_int min2_int max_two min_two max_three min_three max_four min_four   -- for this text's walks alone
set_option linter.unusedVariables false
set_option linter.unusedSimpArgs false

mutual
def provisoref01_Sum.l0 : Nat → Int → List Int → Int → Int → Option (Int)
  | 0, _, _, _, _ => none
  | k + 1, x3, x8, x9, x10 => if x10 < x9 then (if 0 ≤ x10 then (if x10 < (x8.length : Int) then (provisoref01_Sum.l1 k (Go.bits .xor .u32 x3 ((rd x8 x10) % 4294967296)) 0 x8 x9 x10) else (none)) else (none)) else (some (wrap64 (Go.bits .xor .u32 x3 4294967295)))
def provisoref01_Sum.l1 : Nat → Int → Int → List Int → Int → Int → Option (Int)
  | 0, _, _, _, _, _ => none
  | k + 1, x3, x6, x8, x9, x10 => if x6 < 8 then (if (Int.tmod x3 2) = 1 then (provisoref01_Sum.l1 k (Go.bits .xor .u32 ((Int.tdiv x3 2) % 4294967296) 3988292384) (wrap64 (x6 + 1)) x8 x9 x10) else (provisoref01_Sum.l1 k ((Int.tdiv x3 2) % 4294967296) (wrap64 (x6 + 1)) x8 x9 x10)) else (provisoref01_Sum.l0 k x3 x8 x9 (wrap64 (x10 + 1)))
end
def provisoref01_Sum.f (k : Nat) (l0 : List Int) : Option (Int) := provisoref01_Sum.l0 k 4294967295 l0 (l0.length : Int) 0
set_option maxHeartbeats 8000000 in
set_option maxRecDepth 100000 in
theorem provisoref01_Sum.calls (k : Nat) (A0 : Option Addr) (c0 : Nat) (l0 : List Int) (r : Int) (w : World) (hr0 : Kd.C (Kd.int .u8) w A0 l0.length l0) (hc0 : l0.length ≤ c0) (h : provisoref01_Sum.f k l0 = some r) :
    Calls Try.prog 15 #[.slice A0 l0.length c0] w fun e w' => e = .returned (.int .i64 r) ∧ Drawn0 w w' := by
  have HR0 := Aside0.mk hr0
  have HC0 := Aside0.mk hc0
  clear hr0 hc0
  have H : (provisoref01_Sum.l0 k 4294967295 l0 (l0.length : Int) 0) = some r := h
  clear h
  have H' := Aside0.mk H
  clear H
  go_enter Try.func15, Try.ntmps15
  go_wp2
  go_loopg [3, 10] k (fun kq v3 v10 w' => ∃ (x3_1 : Int) (x10_1 : Int), v3 = .int .u32 x3_1 ∧ v10 = .int .i64 x10_1 ∧ Aside0 (provisoref01_Sum.l0 kq x3_1 l0 (l0.length : Int) x10_1 = some r) ∧ Aside0 (kq ≤ k) ∧ Drawn0 w w')
  case atStart => exact ⟨(4294967295), (0), (by first | rfl | (simp; done) | (simp [*]; done)), (by first | rfl | (simp; done) | (simp [*]; done)), H', ⟨Nat.le_refl _⟩, by repeat (first | exact Drawn0.refl _ | apply Drawn0.step)⟩
  case round =>
    clear H'
    try clear c1
    obtain ⟨x3_1, x10_1, rfl, rfl, HA, HK1, ⟨m1, rfl⟩⟩ := hrel
    cases gk with
    | zero => exact absurd HA.out (by simp [provisoref01_Sum.l0])
    | succ k1 =>
      have H := HA.out
      clear HA
      simp only [provisoref01_Sum.l0] at H
      by_cases c2 : x10_1 < (l0.length : Int)
      · rw [if_pos c2] at H
        have c2b0 : decide (x10_1 < (l0.length : Int)) = true := decide_eq_true c2
        clear c2
        by_cases c3 : 0 ≤ x10_1
        · rw [if_pos c3] at H
          have c3b0 : decide (0 ≤ x10_1) = true := decide_eq_true c3
          clear c3
          by_cases c4 : x10_1 < (l0.length : Int)
          · rw [if_pos c4] at H
            have c4b0 : decide (x10_1 < (l0.length : Int)) = true := decide_eq_true c4
            clear c4
            have H' := Aside0.mk H
            clear H
            have p103 : 0 ≤ (x10_1 : Int) := of_decide_eq_true (by first | (with_reducible assumption) | assumption)
            have q103 : x10_1 < (l0.length : Int) := of_decide_eq_true (by first | (with_reducible assumption) | assumption)
            obtain ⟨ad103, e103, hx103_0⟩ := Kd.at_int HR0.out x10_1 p103 q103
            cases e103
            replace p103 := eq_true p103
            replace q103 := eq_true q103
            go_wp2
            go_loopg [3, 6] k1 (fun kq v3 v6 w' => ∃ (x3_2 : Int) (x6_2 : Int), v3 = .int .u32 x3_2 ∧ v6 = .int .i64 x6_2 ∧ Aside0 (provisoref01_Sum.l1 kq x3_2 x6_2 l0 (l0.length : Int) x10_1 = some r) ∧ Aside0 (kq ≤ k1) ∧ Drawn0 w w')
            case atStart => exact ⟨(Go.bits .xor .u32 x3_1 ((rd l0 x10_1) % 4294967296)), (0), (by first | rfl | (simp; done) | (simp [*]; done)), (by first | rfl | (simp; done) | (simp [*]; done)), H', ⟨Nat.le_refl _⟩, by repeat (first | exact Drawn0.refl _ | apply Drawn0.step)⟩
            case round =>
              clear H'
              try clear c1
              try clear p1
              try clear q1
              try clear hx1
              try clear c2
              try clear c2b0
              try clear p2
              try clear c3
              try clear c3b0
              try clear c4
              try clear c4b0
              try clear hx103_0
              try clear p103
              try clear q103
              obtain ⟨x3_2, x6_2, rfl, rfl, HA, HK2, ⟨m2, rfl⟩⟩ := hrel
              cases gk with
              | zero => exact absurd HA.out (by simp [provisoref01_Sum.l1])
              | succ k2 =>
                have H := HA.out
                clear HA
                simp only [provisoref01_Sum.l1] at H
                by_cases c5 : x6_2 < 8
                · rw [if_pos c5] at H
                  have c5b0 : decide (x6_2 < 8) = true := decide_eq_true c5
                  clear c5
                  by_cases c6 : (Int.tmod x3_2 2) = 1
                  · rw [if_pos c6] at H
                    have c6b0 : ((Int.tmod x3_2 2) == 1) = true := beq_iff_eq.mpr c6
                    have c6b1 : ((Int.tmod x3_2 2) != 1) = false := bne_eq_false_iff_eq.mpr c6
                    clear c6
                    have H' := Aside0.mk H
                    clear H
                    go_wp2
                    go_roundg k2
                    case measure => have := HK1.out; have := HK2.out; omega
                    case rel => exact ⟨(Go.bits .xor .u32 ((Int.tdiv x3_2 2) % 4294967296) 3988292384), (wrap64 (x6_2 + 1)), (by first | rfl | (simp; done) | (simp [*]; done)), (by first | rfl | (simp; done) | (simp [*]; done)), H', ⟨by have := HK1.out; have := HK2.out; omega⟩, by repeat (first | exact Drawn0.refl _ | apply Drawn0.step)⟩
                  · rw [if_neg c6] at H
                    have c6b0 : ((Int.tmod x3_2 2) == 1) = false := beq_eq_false_iff_ne.mpr c6
                    have c6b1 : ((Int.tmod x3_2 2) != 1) = true := bne_iff_ne.mpr c6
                    have H' := Aside0.mk H
                    clear H
                    go_wp2
                    go_roundg k2
                    case measure => have := HK1.out; have := HK2.out; omega
                    case rel => exact ⟨((Int.tdiv x3_2 2) % 4294967296), (wrap64 (x6_2 + 1)), (by first | rfl | (simp; done) | (simp [*]; done)), (by first | rfl | (simp; done) | (simp [*]; done)), H', ⟨by have := HK1.out; have := HK2.out; omega⟩, by repeat (first | exact Drawn0.refl _ | apply Drawn0.step)⟩
                · rw [if_neg c5] at H
                  have c5b0 : decide (x6_2 < 8) = false := decide_eq_false c5
                  clear c5
                  have H' := Aside0.mk H
                  clear H
                  go_wp2
                  go_roundg k2
                  case measure => have := HK1.out; have := HK2.out; omega
                  case rel => exact ⟨(x3_2), (wrap64 (x10_1 + 1)), (by first | rfl | (simp; done) | (simp [*]; done)), (by first | rfl | (simp; done) | (simp [*]; done)), H', ⟨by have := HK1.out; have := HK2.out; omega⟩, by repeat (first | exact Drawn0.refl _ | apply Drawn0.step)⟩
          · rw [if_neg c4] at H
            exact absurd H (by simp)
        · rw [if_neg c3] at H
          exact absurd H (by simp)
      · rw [if_neg c2] at H
        have c2b0 : decide (x10_1 < (l0.length : Int)) = false := decide_eq_false c2
        clear c2
        obtain rfl := Option.some.inj H
        go_wp2
        go_ret
        exact ⟨by first | rfl | (simp; done) | (simp [*]; done), by repeat (first | exact Drawn0.refl _ | apply Drawn0.step)⟩

def slices_Equal_byte_byte.l0 : Nat → List Int → List Int → Int → Int → Option (Bool)
  | 0, _, _, _, _ => none
  | k + 1, x0, x1, x12, x13 => if x13 < x12 then (if 0 ≤ x13 then (if x13 < (x0.length : Int) then (if x13 < (x1.length : Int) then (if (rd x0 x13) = (rd x1 x13) then (slices_Equal_byte_byte.l0 k x0 x1 x12 (wrap64 (x13 + 1))) else (some false)) else (none)) else (none)) else (none)) else (some true)
def slices_Equal_byte_byte.f (k : Nat) (l0 : List Int) (l1 : List Int) : Option (Bool) := if (l0.length : Int) = (l1.length : Int) then (slices_Equal_byte_byte.l0 k l0 l1 (l0.length : Int) 0) else (some false)
set_option maxHeartbeats 8000000 in
set_option maxRecDepth 100000 in
theorem slices_Equal_byte_byte.calls (k : Nat) (A0 : Option Addr) (c0 : Nat) (l0 : List Int) (A1 : Option Addr) (c1 : Nat) (l1 : List Int) (r : Bool) (w : World) (hr0 : Kd.C (Kd.int .u8) w A0 l0.length l0) (hc0 : l0.length ≤ c0) (hr1 : Kd.C (Kd.int .u8) w A1 l1.length l1) (hc1 : l1.length ≤ c1) (h : slices_Equal_byte_byte.f k l0 l1 = some r) :
    Calls Try.prog 28 #[.slice A0 l0.length c0, .slice A1 l1.length c1] w fun e w' => e = .returned (.bool r) ∧ Drawn0 w w' := by
  have HR0 := Aside0.mk hr0
  have HC0 := Aside0.mk hc0
  clear hr0 hc0
  have HR1 := Aside0.mk hr1
  have HC1 := Aside0.mk hc1
  clear hr1 hc1
  have H : (if (l0.length : Int) = (l1.length : Int) then (slices_Equal_byte_byte.l0 k l0 l1 (l0.length : Int) 0) else (some false)) = some r := h
  clear h
  by_cases c3 : (l0.length : Int) = (l1.length : Int)
  · rw [if_pos c3] at H
    have c3b0 : ((l0.length : Int) == (l1.length : Int)) = true := beq_iff_eq.mpr c3
    have c3b1 : ((l0.length : Int) != (l1.length : Int)) = false := bne_eq_false_iff_eq.mpr c3
    have c3b2 : (l0.length == l1.length) = true := by first | simpa using c3 | (simp at c3 ⊢; omega)
    clear c3
    have H' := Aside0.mk H
    clear H
    go_enter Try.func28, Try.ntmps28
    go_wp2
    repeat (go_quiet (fail); try go_wp2)
    go_loopg [13] k (fun kq v13 w' => ∃ (x13_1 : Int), v13 = .int .i64 x13_1 ∧ Aside0 (slices_Equal_byte_byte.l0 kq l0 l1 (l0.length : Int) x13_1 = some r) ∧ Aside0 (kq ≤ k) ∧ Drawn0 w w')
    case atStart => exact ⟨(0), (by first | rfl | (simp; done) | (simp [*]; done)), H', ⟨Nat.le_refl _⟩, by repeat (first | exact Drawn0.refl _ | apply Drawn0.step)⟩
    case round =>
      clear H'
      try clear c1
      try clear c2
      try clear p2
      try clear c3
      try clear c3b0
      try clear c3b1
      try clear c3b2
      obtain ⟨x13_1, rfl, HA, HK1, ⟨m1, rfl⟩⟩ := hrel
      cases gk with
      | zero => exact absurd HA.out (by simp [slices_Equal_byte_byte.l0])
      | succ k1 =>
        have H := HA.out
        clear HA
        simp only [slices_Equal_byte_byte.l0] at H
        by_cases c4 : x13_1 < (l0.length : Int)
        · rw [if_pos c4] at H
          have c4b0 : decide (x13_1 < (l0.length : Int)) = true := decide_eq_true c4
          clear c4
          by_cases c5 : 0 ≤ x13_1
          · rw [if_pos c5] at H
            have c5b0 : decide (0 ≤ x13_1) = true := decide_eq_true c5
            clear c5
            by_cases c6 : x13_1 < (l0.length : Int)
            · rw [if_pos c6] at H
              have c6b0 : decide (x13_1 < (l0.length : Int)) = true := decide_eq_true c6
              clear c6
              by_cases c7 : x13_1 < (l1.length : Int)
              · rw [if_pos c7] at H
                have c7b0 : decide (x13_1 < (l1.length : Int)) = true := decide_eq_true c7
                clear c7
                by_cases c8 : (rd l0 x13_1) = (rd l1 x13_1)
                · rw [if_pos c8] at H
                  have c8b0 : ((rd l0 x13_1) == (rd l1 x13_1)) = true := beq_iff_eq.mpr c8
                  have c8b1 : ((rd l0 x13_1) != (rd l1 x13_1)) = false := bne_eq_false_iff_eq.mpr c8
                  clear c8
                  have H' := Aside0.mk H
                  clear H
                  have p104 : 0 ≤ (x13_1 : Int) := of_decide_eq_true (by first | (with_reducible assumption) | assumption)
                  have q104 : x13_1 < (l0.length : Int) := of_decide_eq_true (by first | (with_reducible assumption) | assumption)
                  obtain ⟨ad104, e104, hx104_0⟩ := Kd.at_int HR0.out x13_1 p104 q104
                  cases e104
                  replace p104 := eq_true p104
                  replace q104 := eq_true q104
                  have p105 : 0 ≤ (x13_1 : Int) := of_decide_eq_true (by first | (with_reducible assumption) | assumption)
                  have q105 : x13_1 < (l1.length : Int) := of_decide_eq_true (by first | (with_reducible assumption) | assumption)
                  obtain ⟨ad105, e105, hx105_0⟩ := Kd.at_int HR1.out x13_1 p105 q105
                  cases e105
                  replace p105 := eq_true p105
                  replace q105 := eq_true q105
                  go_wp2
                  repeat (go_quiet (fail); try go_wp2)
                  go_roundg k1
                  case measure => have := HK1.out; omega
                  case rel => exact ⟨(wrap64 (x13_1 + 1)), (by first | rfl | (simp; done) | (simp [*]; done)), H', ⟨by have := HK1.out; omega⟩, by repeat (first | exact Drawn0.refl _ | apply Drawn0.step)⟩
                · rw [if_neg c8] at H
                  have c8b0 : ((rd l0 x13_1) == (rd l1 x13_1)) = false := beq_eq_false_iff_ne.mpr c8
                  have c8b1 : ((rd l0 x13_1) != (rd l1 x13_1)) = true := bne_iff_ne.mpr c8
                  obtain rfl := Option.some.inj H
                  have p104 : 0 ≤ (x13_1 : Int) := of_decide_eq_true (by first | (with_reducible assumption) | assumption)
                  have q104 : x13_1 < (l0.length : Int) := of_decide_eq_true (by first | (with_reducible assumption) | assumption)
                  obtain ⟨ad104, e104, hx104_0⟩ := Kd.at_int HR0.out x13_1 p104 q104
                  cases e104
                  replace p104 := eq_true p104
                  replace q104 := eq_true q104
                  have p105 : 0 ≤ (x13_1 : Int) := of_decide_eq_true (by first | (with_reducible assumption) | assumption)
                  have q105 : x13_1 < (l1.length : Int) := of_decide_eq_true (by first | (with_reducible assumption) | assumption)
                  obtain ⟨ad105, e105, hx105_0⟩ := Kd.at_int HR1.out x13_1 p105 q105
                  cases e105
                  replace p105 := eq_true p105
                  replace q105 := eq_true q105
                  go_wp2
                  repeat (go_quiet (fail); try go_wp2)
                  go_ret
                  exact ⟨by first | rfl | (simp; done) | (simp [*]; done), by repeat (first | exact Drawn0.refl _ | apply Drawn0.step)⟩
              · rw [if_neg c7] at H
                exact absurd H (by simp)
            · rw [if_neg c6] at H
              exact absurd H (by simp)
          · rw [if_neg c5] at H
            exact absurd H (by simp)
        · rw [if_neg c4] at H
          have c4b0 : decide (x13_1 < (l0.length : Int)) = false := decide_eq_false c4
          clear c4
          obtain rfl := Option.some.inj H
          go_wp2
          repeat (go_quiet (fail); try go_wp2)
          go_ret
          exact ⟨by first | rfl | (simp; done) | (simp [*]; done), by repeat (first | exact Drawn0.refl _ | apply Drawn0.step)⟩
  · rw [if_neg c3] at H
    have c3b0 : ((l0.length : Int) == (l1.length : Int)) = false := beq_eq_false_iff_ne.mpr c3
    have c3b1 : ((l0.length : Int) != (l1.length : Int)) = true := bne_iff_ne.mpr c3
    have c3b2 : (l0.length == l1.length) = false := by first | simpa using c3 | (simp at c3 ⊢; omega)
    obtain rfl := Option.some.inj H
    go_enter Try.func28, Try.ntmps28
    go_wp2
    repeat (go_quiet (fail); try go_wp2)
    go_ret
    exact ⟨by first | rfl | (simp; done) | (simp [*]; done), by repeat (first | exact Drawn0.refl _ | apply Drawn0.step)⟩

def provisoplain_Untouched.f (k : Nat) (l0 : List Int) (l1 : List Int) : Option (Bool) := if 0 ≤ (l1.length : Int) then (if (l1.length : Int) ≤ (l0.length : Int) then ((slices_Equal_byte_byte.f k (l0.take ((l1.length : Int) : Int).toNat) l1).bind fun t107 => (if t107 = true then (if (l1.length : Int) < (l0.length : Int) then (if (rd l0 (l1.length : Int)) = 165 then (if 0 ≤ (wrap64 ((l1.length : Int) + 1)) then (if (wrap64 ((l1.length : Int) + 1)) < (l0.length : Int) then (if (rd l0 (wrap64 ((l1.length : Int) + 1))) = 90 then (if 0 ≤ (wrap64 ((l1.length : Int) + 2)) then (if (wrap64 ((l1.length : Int) + 2)) < (l0.length : Int) then (if (rd l0 (wrap64 ((l1.length : Int) + 2))) = 195 then (if 0 ≤ (wrap64 ((l1.length : Int) + 3)) then (if (wrap64 ((l1.length : Int) + 3)) < (l0.length : Int) then (some ((rd l0 (wrap64 ((l1.length : Int) + 3))) == 60)) else (none)) else (none)) else (some false)) else (none)) else (none)) else (some false)) else (none)) else (none)) else (some false)) else (none)) else (some false))) else (none)) else (none)
set_option maxHeartbeats 8000000 in
set_option maxRecDepth 100000 in
theorem provisoplain_Untouched.calls (k : Nat) (A0 : Option Addr) (c0 : Nat) (l0 : List Int) (A1 : Option Addr) (c1 : Nat) (l1 : List Int) (r : Bool) (w : World) (hr0 : Kd.C (Kd.int .u8) w A0 l0.length l0) (hc0 : l0.length ≤ c0) (hr1 : Kd.C (Kd.int .u8) w A1 l1.length l1) (hc1 : l1.length ≤ c1) (h : provisoplain_Untouched.f k l0 l1 = some r) :
    Calls Try.prog 16 #[.slice A0 l0.length c0, .slice A1 l1.length c1] w fun e w' => e = .returned (.bool r) ∧ Drawn0 w w' := by
  have HR0 := Aside0.mk hr0
  have HC0 := Aside0.mk hc0
  clear hr0 hc0
  have HR1 := Aside0.mk hr1
  have HC1 := Aside0.mk hc1
  clear hr1 hc1
  have H : (if 0 ≤ (l1.length : Int) then (if (l1.length : Int) ≤ (l0.length : Int) then ((slices_Equal_byte_byte.f k (l0.take ((l1.length : Int) : Int).toNat) l1).bind fun t107 => (if t107 = true then (if (l1.length : Int) < (l0.length : Int) then (if (rd l0 (l1.length : Int)) = 165 then (if 0 ≤ (wrap64 ((l1.length : Int) + 1)) then (if (wrap64 ((l1.length : Int) + 1)) < (l0.length : Int) then (if (rd l0 (wrap64 ((l1.length : Int) + 1))) = 90 then (if 0 ≤ (wrap64 ((l1.length : Int) + 2)) then (if (wrap64 ((l1.length : Int) + 2)) < (l0.length : Int) then (if (rd l0 (wrap64 ((l1.length : Int) + 2))) = 195 then (if 0 ≤ (wrap64 ((l1.length : Int) + 3)) then (if (wrap64 ((l1.length : Int) + 3)) < (l0.length : Int) then (some ((rd l0 (wrap64 ((l1.length : Int) + 3))) == 60)) else (none)) else (none)) else (some false)) else (none)) else (none)) else (some false)) else (none)) else (none)) else (some false)) else (none)) else (some false))) else (none)) else (none)) = some r := h
  clear h
  by_cases c3 : 0 ≤ (l1.length : Int)
  · rw [if_pos c3] at H
    have c3b0 := eq_true c3
    have c3b1 : decide (0 ≤ (l1.length : Int)) = true := decide_eq_true c3
    clear c3
    by_cases c4 : (l1.length : Int) ≤ (l0.length : Int)
    · rw [if_pos c4] at H
      have c4b0 := eq_true c4
      have c4b1 : decide ((l1.length : Int) ≤ (l0.length : Int)) = true := decide_eq_true c4
      clear c4
      replace H := Option.bind_eq_some_iff.mp H
      obtain ⟨t107, A50, H⟩ := H
      replace H : (if t107 = true then (if (l1.length : Int) < (l0.length : Int) then (if (rd l0 (l1.length : Int)) = 165 then (if 0 ≤ (wrap64 ((l1.length : Int) + 1)) then (if (wrap64 ((l1.length : Int) + 1)) < (l0.length : Int) then (if (rd l0 (wrap64 ((l1.length : Int) + 1))) = 90 then (if 0 ≤ (wrap64 ((l1.length : Int) + 2)) then (if (wrap64 ((l1.length : Int) + 2)) < (l0.length : Int) then (if (rd l0 (wrap64 ((l1.length : Int) + 2))) = 195 then (if 0 ≤ (wrap64 ((l1.length : Int) + 3)) then (if (wrap64 ((l1.length : Int) + 3)) < (l0.length : Int) then (some ((rd l0 (wrap64 ((l1.length : Int) + 3))) == 60)) else (none)) else (none)) else (some false)) else (none)) else (none)) else (some false)) else (none)) else (none)) else (some false)) else (none)) else (some false)) = some r := H
      have A5 := Aside0.mk A50
      clear A50
      by_cases c6 : t107 = true
      · subst c6
        have H1 : (if (l1.length : Int) < (l0.length : Int) then (if (rd l0 (l1.length : Int)) = 165 then (if 0 ≤ (wrap64 ((l1.length : Int) + 1)) then (if (wrap64 ((l1.length : Int) + 1)) < (l0.length : Int) then (if (rd l0 (wrap64 ((l1.length : Int) + 1))) = 90 then (if 0 ≤ (wrap64 ((l1.length : Int) + 2)) then (if (wrap64 ((l1.length : Int) + 2)) < (l0.length : Int) then (if (rd l0 (wrap64 ((l1.length : Int) + 2))) = 195 then (if 0 ≤ (wrap64 ((l1.length : Int) + 3)) then (if (wrap64 ((l1.length : Int) + 3)) < (l0.length : Int) then (some ((rd l0 (wrap64 ((l1.length : Int) + 3))) == 60)) else (none)) else (none)) else (some false)) else (none)) else (none)) else (some false)) else (none)) else (none)) else (some false)) else (none)) = some r := by rw [if_pos rfl] at H; exact H
        clear H
        have H := H1
        clear H1
        by_cases c7 : (l1.length : Int) < (l0.length : Int)
        · rw [if_pos c7] at H
          have c7b0 : decide ((l1.length : Int) < (l0.length : Int)) = true := decide_eq_true c7
          have c7b1 : decide (l1.length < l0.length) = true := decide_eq_true (Int.ofNat_lt.mp c7)
          clear c7
          by_cases c8 : (rd l0 (l1.length : Int)) = 165
          · rw [if_pos c8] at H
            have c8b0 : ((rd l0 (l1.length : Int)) == 165) = true := beq_iff_eq.mpr c8
            have c8b1 : ((rd l0 (l1.length : Int)) != 165) = false := bne_eq_false_iff_eq.mpr c8
            clear c8
            obtain ⟨ji9, hji9⟩ : ∃ j_ : Int, (wrap64 ((l1.length : Int) + 1)) = j_ := ⟨_, rfl⟩
            replace H : (if 0 ≤ (ji9) then (if (ji9) < (l0.length : Int) then (if (rd l0 (ji9)) = 90 then (if 0 ≤ (wrap64 ((l1.length : Int) + 2)) then (if (wrap64 ((l1.length : Int) + 2)) < (l0.length : Int) then (if (rd l0 (wrap64 ((l1.length : Int) + 2))) = 195 then (if 0 ≤ (wrap64 ((l1.length : Int) + 3)) then (if (wrap64 ((l1.length : Int) + 3)) < (l0.length : Int) then (some ((rd l0 (wrap64 ((l1.length : Int) + 3))) == 60)) else (none)) else (none)) else (some false)) else (none)) else (none)) else (some false)) else (none)) else (none)) = some r := by first | (rw [hji9] at H; exact H) | (simp only [hji9] at H ⊢; exact H)
            (try rw [hji9] at A5)
            have hji9w : (IntKind.i64.wrap ((l1.length : Int) + 1)) = ji9 := (i64_w _).trans hji9
            by_cases c10 : 0 ≤ (ji9)
            · rw [if_pos c10] at H
              have c10b0 : decide (0 ≤ (ji9)) = true := decide_eq_true c10
              clear c10
              by_cases c11 : (ji9) < (l0.length : Int)
              · rw [if_pos c11] at H
                have c11b0 : decide ((ji9) < (l0.length : Int)) = true := decide_eq_true c11
                clear c11
                by_cases c12 : (rd l0 (ji9)) = 90
                · rw [if_pos c12] at H
                  have c12b0 : ((rd l0 (ji9)) == 90) = true := beq_iff_eq.mpr c12
                  have c12b1 : ((rd l0 (ji9)) != 90) = false := bne_eq_false_iff_eq.mpr c12
                  clear c12
                  obtain ⟨ji13, hji13⟩ : ∃ j_ : Int, (wrap64 ((l1.length : Int) + 2)) = j_ := ⟨_, rfl⟩
                  replace H : (if 0 ≤ (ji13) then (if (ji13) < (l0.length : Int) then (if (rd l0 (ji13)) = 195 then (if 0 ≤ (wrap64 ((l1.length : Int) + 3)) then (if (wrap64 ((l1.length : Int) + 3)) < (l0.length : Int) then (some ((rd l0 (wrap64 ((l1.length : Int) + 3))) == 60)) else (none)) else (none)) else (some false)) else (none)) else (none)) = some r := by first | (rw [hji13] at H; exact H) | (simp only [hji13] at H ⊢; exact H)
                  (try rw [hji13] at A5)
                  have hji13w : (IntKind.i64.wrap ((l1.length : Int) + 2)) = ji13 := (i64_w _).trans hji13
                  by_cases c14 : 0 ≤ (ji13)
                  · rw [if_pos c14] at H
                    have c14b0 : decide (0 ≤ (ji13)) = true := decide_eq_true c14
                    clear c14
                    by_cases c15 : (ji13) < (l0.length : Int)
                    · rw [if_pos c15] at H
                      have c15b0 : decide ((ji13) < (l0.length : Int)) = true := decide_eq_true c15
                      clear c15
                      by_cases c16 : (rd l0 (ji13)) = 195
                      · rw [if_pos c16] at H
                        have c16b0 : ((rd l0 (ji13)) == 195) = true := beq_iff_eq.mpr c16
                        have c16b1 : ((rd l0 (ji13)) != 195) = false := bne_eq_false_iff_eq.mpr c16
                        clear c16
                        obtain ⟨ji17, hji17⟩ : ∃ j_ : Int, (wrap64 ((l1.length : Int) + 3)) = j_ := ⟨_, rfl⟩
                        replace H : (if 0 ≤ (ji17) then (if (ji17) < (l0.length : Int) then (some ((rd l0 (ji17)) == 60)) else (none)) else (none)) = some r := by first | (rw [hji17] at H; exact H) | (simp only [hji17] at H ⊢; exact H)
                        (try rw [hji17] at A5)
                        have hji17w : (IntKind.i64.wrap ((l1.length : Int) + 3)) = ji17 := (i64_w _).trans hji17
                        by_cases c18 : 0 ≤ (ji17)
                        · rw [if_pos c18] at H
                          have c18b0 : decide (0 ≤ (ji17)) = true := decide_eq_true c18
                          clear c18
                          by_cases c19 : (ji17) < (l0.length : Int)
                          · rw [if_pos c19] at H
                            have c19b0 : decide ((ji17) < (l0.length : Int)) = true := decide_eq_true c19
                            clear c19
                            obtain rfl := Option.some.inj H
                            obtain ⟨i020, hi020, _, hsz20, _⟩ := info_parts info5
                            obtain ⟨hcut20, hA20, hC20⟩ := print_take_of (P := Try.prog) (Value.int .u8) 0 23 5 .i64 Try.underlying23 hi020 hsz20 A0 c0 l0 (l1.length : Int) (of_decide_eq_true (by first | (with_reducible assumption) | assumption)) (of_decide_eq_true (by first | (with_reducible assumption) | assumption)) HC0.out
                            have HR106 := Aside0.mk (Kd.C_of_reads (h1 := fun _ => rfl) (hA20 _ (Kd.reads_of_C HR0.out)))
                            have HC106 := Aside0.mk hC20
                            clear hA20 hC20 hi020 hsz20
                            go_enter Try.func16, Try.ntmps16
                            go_wp2_with (first | ((with_reducible refine gate_callee (f := 28) rfl ?_); refine goesL_ (some 12) rfl rfl Try.func28 (by kernel_rfl) rfl #[.slice A0 (l0.take ((l1.length : Int) : Int).toNat).length c0, .slice A1 l1.length c1] rfl (by (try simp only [List.map_toArray, List.map_cons, List.map_nil]); first | done | (rw [show (l0.take ((l1.length : Int) : Int).toNat).length = (l1.length : Int).toNat from (by rw [List.length_take]; have h_ : ((l1.length : Int) : Int) ≤ (l0.length : Int) := of_decide_eq_true (by first | (with_reducible assumption) | assumption); omega)] <;> rfl) | rfl | (simp only [List.length_drop, List.length_take]; rfl)) ?_; (with_reducible refine (slices_Equal_byte_byte.calls k _ _ (l0.take ((l1.length : Int) : Int).toNat) _ _ l1 true _ ?side1 ?side2 ?side3 ?side4 A5.out).mono ?_); (case side1 => repeat (first | exact HR106.out | (with_reducible refine Kd.C_alloc ?_ _) | (with_reducible refine Kd.C_drewN ?_ _) | (with_reducible refine Kd.C_drew ?_))); (case side2 => exact HC106.out); (case side3 => repeat (first | exact HR1.out | (with_reducible refine Kd.C_alloc ?_ _) | (with_reducible refine Kd.C_drewN ?_ _) | (with_reducible refine Kd.C_drew ?_))); (case side4 => exact HC1.out); rintro e w' ⟨rfl, ⟨nd, rfl⟩⟩; refine ⟨_, rfl, ?_⟩; have p108 : 0 ≤ ((l1.length : Int) : Int) := of_decide_eq_true (by first | (with_reducible assumption) | assumption); have q108 : (l1.length : Int) < (l0.length : Int) := of_decide_eq_true (by first | (with_reducible assumption) | assumption); obtain ⟨ad108, e108, hx108_0⟩ := Kd.at_int HR0.out (l1.length : Int) p108 q108; cases e108; (try simp only [Go.IntWalk.toNatUp] at hx108_0); replace p108 := eq_true p108; replace q108 := eq_true q108; have p109 : 0 ≤ ((ji9) : Int) := of_decide_eq_true (by first | (with_reducible assumption) | assumption); have q109 : (ji9) < (l0.length : Int) := of_decide_eq_true (by first | (with_reducible assumption) | assumption); obtain ⟨ad109, e109, hx109_0⟩ := Kd.at_int HR0.out (ji9) p109 q109; obtain rfl : ad108 = ad109 := (by injection e109); replace p109 := eq_true p109; replace q109 := eq_true q109; have p110 : 0 ≤ ((ji13) : Int) := of_decide_eq_true (by first | (with_reducible assumption) | assumption); have q110 : (ji13) < (l0.length : Int) := of_decide_eq_true (by first | (with_reducible assumption) | assumption); obtain ⟨ad110, e110, hx110_0⟩ := Kd.at_int HR0.out (ji13) p110 q110; obtain rfl : ad108 = ad110 := (by injection e110); replace p110 := eq_true p110; replace q110 := eq_true q110; have p111 : 0 ≤ ((ji17) : Int) := of_decide_eq_true (by first | (with_reducible assumption) | assumption); have q111 : (ji17) < (l0.length : Int) := of_decide_eq_true (by first | (with_reducible assumption) | assumption); obtain ⟨ad111, e111, hx111_0⟩ := Kd.at_int HR0.out (ji17) p111 q111; obtain rfl : ad108 = ad111 := (by injection e111); replace p111 := eq_true p111; replace q111 := eq_true q111))
                            go_ret
                            exact ⟨by first | rfl | (simp; done) | (simp only [← hji9, ← hji13, ← hji17] <;> (first | rfl | simp)) | (simp [*]; done), by repeat (first | exact Drawn0.refl _ | apply Drawn0.step)⟩
                          · rw [if_neg c19] at H
                            exact absurd H (by simp)
                        · rw [if_neg c18] at H
                          exact absurd H (by simp)
                      · rw [if_neg c16] at H
                        have c16b0 : ((rd l0 (ji13)) == 195) = false := beq_eq_false_iff_ne.mpr c16
                        have c16b1 : ((rd l0 (ji13)) != 195) = true := bne_iff_ne.mpr c16
                        obtain rfl := Option.some.inj H
                        obtain ⟨i021, hi021, _, hsz21, _⟩ := info_parts info5
                        obtain ⟨hcut21, hA21, hC21⟩ := print_take_of (P := Try.prog) (Value.int .u8) 0 23 5 .i64 Try.underlying23 hi021 hsz21 A0 c0 l0 (l1.length : Int) (of_decide_eq_true (by first | (with_reducible assumption) | assumption)) (of_decide_eq_true (by first | (with_reducible assumption) | assumption)) HC0.out
                        have HR106 := Aside0.mk (Kd.C_of_reads (h1 := fun _ => rfl) (hA21 _ (Kd.reads_of_C HR0.out)))
                        have HC106 := Aside0.mk hC21
                        clear hA21 hC21 hi021 hsz21
                        go_enter Try.func16, Try.ntmps16
                        go_wp2_with (first | ((with_reducible refine gate_callee (f := 28) rfl ?_); refine goesL_ (some 12) rfl rfl Try.func28 (by kernel_rfl) rfl #[.slice A0 (l0.take ((l1.length : Int) : Int).toNat).length c0, .slice A1 l1.length c1] rfl (by (try simp only [List.map_toArray, List.map_cons, List.map_nil]); first | done | (rw [show (l0.take ((l1.length : Int) : Int).toNat).length = (l1.length : Int).toNat from (by rw [List.length_take]; have h_ : ((l1.length : Int) : Int) ≤ (l0.length : Int) := of_decide_eq_true (by first | (with_reducible assumption) | assumption); omega)] <;> rfl) | rfl | (simp only [List.length_drop, List.length_take]; rfl)) ?_; (with_reducible refine (slices_Equal_byte_byte.calls k _ _ (l0.take ((l1.length : Int) : Int).toNat) _ _ l1 true _ ?side1 ?side2 ?side3 ?side4 A5.out).mono ?_); (case side1 => repeat (first | exact HR106.out | (with_reducible refine Kd.C_alloc ?_ _) | (with_reducible refine Kd.C_drewN ?_ _) | (with_reducible refine Kd.C_drew ?_))); (case side2 => exact HC106.out); (case side3 => repeat (first | exact HR1.out | (with_reducible refine Kd.C_alloc ?_ _) | (with_reducible refine Kd.C_drewN ?_ _) | (with_reducible refine Kd.C_drew ?_))); (case side4 => exact HC1.out); rintro e w' ⟨rfl, ⟨nd, rfl⟩⟩; refine ⟨_, rfl, ?_⟩; have p108 : 0 ≤ ((l1.length : Int) : Int) := of_decide_eq_true (by first | (with_reducible assumption) | assumption); have q108 : (l1.length : Int) < (l0.length : Int) := of_decide_eq_true (by first | (with_reducible assumption) | assumption); obtain ⟨ad108, e108, hx108_0⟩ := Kd.at_int HR0.out (l1.length : Int) p108 q108; cases e108; (try simp only [Go.IntWalk.toNatUp] at hx108_0); replace p108 := eq_true p108; replace q108 := eq_true q108; have p109 : 0 ≤ ((ji9) : Int) := of_decide_eq_true (by first | (with_reducible assumption) | assumption); have q109 : (ji9) < (l0.length : Int) := of_decide_eq_true (by first | (with_reducible assumption) | assumption); obtain ⟨ad109, e109, hx109_0⟩ := Kd.at_int HR0.out (ji9) p109 q109; obtain rfl : ad108 = ad109 := (by injection e109); replace p109 := eq_true p109; replace q109 := eq_true q109; have p110 : 0 ≤ ((ji13) : Int) := of_decide_eq_true (by first | (with_reducible assumption) | assumption); have q110 : (ji13) < (l0.length : Int) := of_decide_eq_true (by first | (with_reducible assumption) | assumption); obtain ⟨ad110, e110, hx110_0⟩ := Kd.at_int HR0.out (ji13) p110 q110; obtain rfl : ad108 = ad110 := (by injection e110); replace p110 := eq_true p110; replace q110 := eq_true q110))
                        go_ret
                        exact ⟨by first | rfl | (simp; done) | (simp only [← hji9, ← hji13] <;> (first | rfl | simp)) | (simp [*]; done), by repeat (first | exact Drawn0.refl _ | apply Drawn0.step)⟩
                    · rw [if_neg c15] at H
                      exact absurd H (by simp)
                  · rw [if_neg c14] at H
                    exact absurd H (by simp)
                · rw [if_neg c12] at H
                  have c12b0 : ((rd l0 (ji9)) == 90) = false := beq_eq_false_iff_ne.mpr c12
                  have c12b1 : ((rd l0 (ji9)) != 90) = true := bne_iff_ne.mpr c12
                  obtain rfl := Option.some.inj H
                  obtain ⟨i022, hi022, _, hsz22, _⟩ := info_parts info5
                  obtain ⟨hcut22, hA22, hC22⟩ := print_take_of (P := Try.prog) (Value.int .u8) 0 23 5 .i64 Try.underlying23 hi022 hsz22 A0 c0 l0 (l1.length : Int) (of_decide_eq_true (by first | (with_reducible assumption) | assumption)) (of_decide_eq_true (by first | (with_reducible assumption) | assumption)) HC0.out
                  have HR106 := Aside0.mk (Kd.C_of_reads (h1 := fun _ => rfl) (hA22 _ (Kd.reads_of_C HR0.out)))
                  have HC106 := Aside0.mk hC22
                  clear hA22 hC22 hi022 hsz22
                  go_enter Try.func16, Try.ntmps16
                  go_wp2_with (first | ((with_reducible refine gate_callee (f := 28) rfl ?_); refine goesL_ (some 12) rfl rfl Try.func28 (by kernel_rfl) rfl #[.slice A0 (l0.take ((l1.length : Int) : Int).toNat).length c0, .slice A1 l1.length c1] rfl (by (try simp only [List.map_toArray, List.map_cons, List.map_nil]); first | done | (rw [show (l0.take ((l1.length : Int) : Int).toNat).length = (l1.length : Int).toNat from (by rw [List.length_take]; have h_ : ((l1.length : Int) : Int) ≤ (l0.length : Int) := of_decide_eq_true (by first | (with_reducible assumption) | assumption); omega)] <;> rfl) | rfl | (simp only [List.length_drop, List.length_take]; rfl)) ?_; (with_reducible refine (slices_Equal_byte_byte.calls k _ _ (l0.take ((l1.length : Int) : Int).toNat) _ _ l1 true _ ?side1 ?side2 ?side3 ?side4 A5.out).mono ?_); (case side1 => repeat (first | exact HR106.out | (with_reducible refine Kd.C_alloc ?_ _) | (with_reducible refine Kd.C_drewN ?_ _) | (with_reducible refine Kd.C_drew ?_))); (case side2 => exact HC106.out); (case side3 => repeat (first | exact HR1.out | (with_reducible refine Kd.C_alloc ?_ _) | (with_reducible refine Kd.C_drewN ?_ _) | (with_reducible refine Kd.C_drew ?_))); (case side4 => exact HC1.out); rintro e w' ⟨rfl, ⟨nd, rfl⟩⟩; refine ⟨_, rfl, ?_⟩; have p108 : 0 ≤ ((l1.length : Int) : Int) := of_decide_eq_true (by first | (with_reducible assumption) | assumption); have q108 : (l1.length : Int) < (l0.length : Int) := of_decide_eq_true (by first | (with_reducible assumption) | assumption); obtain ⟨ad108, e108, hx108_0⟩ := Kd.at_int HR0.out (l1.length : Int) p108 q108; cases e108; (try simp only [Go.IntWalk.toNatUp] at hx108_0); replace p108 := eq_true p108; replace q108 := eq_true q108; have p109 : 0 ≤ ((ji9) : Int) := of_decide_eq_true (by first | (with_reducible assumption) | assumption); have q109 : (ji9) < (l0.length : Int) := of_decide_eq_true (by first | (with_reducible assumption) | assumption); obtain ⟨ad109, e109, hx109_0⟩ := Kd.at_int HR0.out (ji9) p109 q109; obtain rfl : ad108 = ad109 := (by injection e109); replace p109 := eq_true p109; replace q109 := eq_true q109))
                  go_ret
                  exact ⟨by first | rfl | (simp; done) | (simp only [← hji9] <;> (first | rfl | simp)) | (simp [*]; done), by repeat (first | exact Drawn0.refl _ | apply Drawn0.step)⟩
              · rw [if_neg c11] at H
                exact absurd H (by simp)
            · rw [if_neg c10] at H
              exact absurd H (by simp)
          · rw [if_neg c8] at H
            have c8b0 : ((rd l0 (l1.length : Int)) == 165) = false := beq_eq_false_iff_ne.mpr c8
            have c8b1 : ((rd l0 (l1.length : Int)) != 165) = true := bne_iff_ne.mpr c8
            obtain rfl := Option.some.inj H
            obtain ⟨i023, hi023, _, hsz23, _⟩ := info_parts info5
            obtain ⟨hcut23, hA23, hC23⟩ := print_take_of (P := Try.prog) (Value.int .u8) 0 23 5 .i64 Try.underlying23 hi023 hsz23 A0 c0 l0 (l1.length : Int) (of_decide_eq_true (by first | (with_reducible assumption) | assumption)) (of_decide_eq_true (by first | (with_reducible assumption) | assumption)) HC0.out
            have HR106 := Aside0.mk (Kd.C_of_reads (h1 := fun _ => rfl) (hA23 _ (Kd.reads_of_C HR0.out)))
            have HC106 := Aside0.mk hC23
            clear hA23 hC23 hi023 hsz23
            go_enter Try.func16, Try.ntmps16
            go_wp2_with (first | ((with_reducible refine gate_callee (f := 28) rfl ?_); refine goesL_ (some 12) rfl rfl Try.func28 (by kernel_rfl) rfl #[.slice A0 (l0.take ((l1.length : Int) : Int).toNat).length c0, .slice A1 l1.length c1] rfl (by (try simp only [List.map_toArray, List.map_cons, List.map_nil]); first | done | (rw [show (l0.take ((l1.length : Int) : Int).toNat).length = (l1.length : Int).toNat from (by rw [List.length_take]; have h_ : ((l1.length : Int) : Int) ≤ (l0.length : Int) := of_decide_eq_true (by first | (with_reducible assumption) | assumption); omega)] <;> rfl) | rfl | (simp only [List.length_drop, List.length_take]; rfl)) ?_; (with_reducible refine (slices_Equal_byte_byte.calls k _ _ (l0.take ((l1.length : Int) : Int).toNat) _ _ l1 true _ ?side1 ?side2 ?side3 ?side4 A5.out).mono ?_); (case side1 => repeat (first | exact HR106.out | (with_reducible refine Kd.C_alloc ?_ _) | (with_reducible refine Kd.C_drewN ?_ _) | (with_reducible refine Kd.C_drew ?_))); (case side2 => exact HC106.out); (case side3 => repeat (first | exact HR1.out | (with_reducible refine Kd.C_alloc ?_ _) | (with_reducible refine Kd.C_drewN ?_ _) | (with_reducible refine Kd.C_drew ?_))); (case side4 => exact HC1.out); rintro e w' ⟨rfl, ⟨nd, rfl⟩⟩; refine ⟨_, rfl, ?_⟩; have p108 : 0 ≤ ((l1.length : Int) : Int) := of_decide_eq_true (by first | (with_reducible assumption) | assumption); have q108 : (l1.length : Int) < (l0.length : Int) := of_decide_eq_true (by first | (with_reducible assumption) | assumption); obtain ⟨ad108, e108, hx108_0⟩ := Kd.at_int HR0.out (l1.length : Int) p108 q108; cases e108; (try simp only [Go.IntWalk.toNatUp] at hx108_0); replace p108 := eq_true p108; replace q108 := eq_true q108))
            go_ret
            exact ⟨by first | rfl | (simp; done) | (simp [*]; done), by repeat (first | exact Drawn0.refl _ | apply Drawn0.step)⟩
        · rw [if_neg c7] at H
          exact absurd H (by simp)
      · replace c6 := Bool.eq_false_iff.mpr c6
        subst c6
        have H1 : (some false) = some r := by rw [if_neg (show ¬ (false = true) by decide)] at H; exact H
        clear H
        have H := H1
        clear H1
        obtain rfl := Option.some.inj H
        obtain ⟨i024, hi024, _, hsz24, _⟩ := info_parts info5
        obtain ⟨hcut24, hA24, hC24⟩ := print_take_of (P := Try.prog) (Value.int .u8) 0 23 5 .i64 Try.underlying23 hi024 hsz24 A0 c0 l0 (l1.length : Int) (of_decide_eq_true (by first | (with_reducible assumption) | assumption)) (of_decide_eq_true (by first | (with_reducible assumption) | assumption)) HC0.out
        have HR106 := Aside0.mk (Kd.C_of_reads (h1 := fun _ => rfl) (hA24 _ (Kd.reads_of_C HR0.out)))
        have HC106 := Aside0.mk hC24
        clear hA24 hC24 hi024 hsz24
        go_enter Try.func16, Try.ntmps16
        go_wp2_with (first | ((with_reducible refine gate_callee (f := 28) rfl ?_); refine goesL_ (some 12) rfl rfl Try.func28 (by kernel_rfl) rfl #[.slice A0 (l0.take ((l1.length : Int) : Int).toNat).length c0, .slice A1 l1.length c1] rfl (by (try simp only [List.map_toArray, List.map_cons, List.map_nil]); first | done | (rw [show (l0.take ((l1.length : Int) : Int).toNat).length = (l1.length : Int).toNat from (by rw [List.length_take]; have h_ : ((l1.length : Int) : Int) ≤ (l0.length : Int) := of_decide_eq_true (by first | (with_reducible assumption) | assumption); omega)] <;> rfl) | rfl | (simp only [List.length_drop, List.length_take]; rfl)) ?_; (with_reducible refine (slices_Equal_byte_byte.calls k _ _ (l0.take ((l1.length : Int) : Int).toNat) _ _ l1 false _ ?side1 ?side2 ?side3 ?side4 A5.out).mono ?_); (case side1 => repeat (first | exact HR106.out | (with_reducible refine Kd.C_alloc ?_ _) | (with_reducible refine Kd.C_drewN ?_ _) | (with_reducible refine Kd.C_drew ?_))); (case side2 => exact HC106.out); (case side3 => repeat (first | exact HR1.out | (with_reducible refine Kd.C_alloc ?_ _) | (with_reducible refine Kd.C_drewN ?_ _) | (with_reducible refine Kd.C_drew ?_))); (case side4 => exact HC1.out); rintro e w' ⟨rfl, ⟨nd, rfl⟩⟩; refine ⟨_, rfl, ?_⟩))
        go_ret
        exact ⟨by first | rfl | (simp; done) | (simp [*]; done), by repeat (first | exact Drawn0.refl _ | apply Drawn0.step)⟩
    · rw [if_neg c4] at H
      exact absurd H (by simp)
  · rw [if_neg c3] at H
    exact absurd H (by simp)

theorem bytes_equal_self (xs : List Int) (hl : xs.length ≤ 9223372036854775807) : ∀ (d i k : Nat), i + d = xs.length → d < k → slices_Equal_byte_byte.l0 k xs xs (xs.length : Int) (i : Int) = some true
  | 0, i, k, hd, hk => by
    obtain ⟨k, rfl⟩ : ∃ m, k = m + 1 := ⟨k - 1, by omega⟩
    simp only [slices_Equal_byte_byte.l0]
    rw [if_neg (by omega)]
  | d + 1, i, k, hd, hk => by
    obtain ⟨k, rfl⟩ : ∃ m, k = m + 1 := ⟨k - 1, by omega⟩
    have hw : wrap64 ((i : Int) + 1) = ((i + 1 : Nat) : Int) := by unfold wrap64; omega
    have ih := bytes_equal_self xs hl d (i + 1) k (by omega) (by omega)
    simp only [slices_Equal_byte_byte.l0]
    rw [if_pos (by omega), if_pos (by omega), if_pos (by omega), if_pos (by omega), if_pos trivial, hw]
    exact ih
theorem bytes_equal_is (xs : List Int) (hl : xs.length ≤ 9223372036854775807) (k : Nat) (hk : xs.length < k) : slices_Equal_byte_byte.f k xs xs = some true := by
  unfold slices_Equal_byte_byte.f
  rw [if_pos rfl]
  exact bytes_equal_self xs hl xs.length 0 k (by omega) hk
theorem untouched_is (xs : List Int) (hl : xs.length ≤ 140737488351232) (k : Nat) (hk : xs.length < k) : provisoplain_Untouched.f k (xs ++ [165, 90, 195, 60]) xs = some true := by
  have ht : (xs ++ [165, 90, 195, 60]).take ((xs.length : Int) : Int).toNat = xs := by
    rw [Int.toNat_natCast, List.take_left]
  have h0 : rd (xs ++ [165, 90, 195, 60]) (xs.length : Int) = 165 := by simp [rd, List.getD_eq_getElem?_getD]
  have h1 : rd (xs ++ [165, 90, 195, 60]) ((xs.length : Int) + 1) = 90 := by
    simp only [rd, List.getD_eq_getElem?_getD, show ((xs.length : Int) + 1).toNat = xs.length + 1 by omega]
    rw [List.getElem?_append_right (by omega), show xs.length + 1 - xs.length = 1 by omega]
    rfl
  have h2 : rd (xs ++ [165, 90, 195, 60]) ((xs.length : Int) + 2) = 195 := by
    simp only [rd, List.getD_eq_getElem?_getD, show ((xs.length : Int) + 2).toNat = xs.length + 2 by omega]
    rw [List.getElem?_append_right (by omega), show xs.length + 2 - xs.length = 2 by omega]
    rfl
  have h3 : rd (xs ++ [165, 90, 195, 60]) ((xs.length : Int) + 3) = 60 := by
    simp only [rd, List.getD_eq_getElem?_getD, show ((xs.length : Int) + 3).toNat = xs.length + 3 by omega]
    rw [List.getElem?_append_right (by omega), show xs.length + 3 - xs.length = 3 by omega]
    rfl
  have hL : (xs ++ [165, 90, 195, 60]).length = xs.length + 4 := by simp
  have w1 : wrap64 ((xs.length : Int) + 1) = (xs.length : Int) + 1 := by unfold wrap64; omega
  have w2 : wrap64 ((xs.length : Int) + 2) = (xs.length : Int) + 2 := by unfold wrap64; omega
  have w3 : wrap64 ((xs.length : Int) + 3) = (xs.length : Int) + 3 := by unfold wrap64; omega
  unfold provisoplain_Untouched.f
  rw [ht, bytes_equal_is xs (by omega) k hk, hL, w1, w2, w3, h0, h1, h2, h3]
  simp only [Option.bind_some, if_true]
  repeat rw [if_pos (by omega)]
  rfl

def provisolaw01_pick.f (a0 : Int) (a1 : Int) : Option (Int) := if (IntKind.u64.wrap (a1)) = 0 then (none) else (some (wrap64 (Int.tmod (IntKind.u64.wrap (a0)) (IntKind.u64.wrap (a1)))))
set_option maxHeartbeats 8000000 in
set_option maxRecDepth 100000 in
theorem provisolaw01_pick.calls (a0 : Int) (a1 : Int) (r : Int) (w : World) (h : provisolaw01_pick.f a0 a1 = some r) :
    Calls Try.prog 18 #[.int .i64 a0, .int .i64 a1] w fun e w' => e = .returned (.int .i64 r) ∧ Drawn0 w w' := by
  have H : (if (IntKind.u64.wrap (a1)) = 0 then (none) else (some (wrap64 (Int.tmod (IntKind.u64.wrap (a0)) (IntKind.u64.wrap (a1)))))) = some r := h
  clear h
  by_cases c3 : (IntKind.u64.wrap (a1)) = 0
  · rw [if_pos c3] at H
    exact absurd H (by simp)
  · rw [if_neg c3] at H
    have c3b0 : ((IntKind.u64.wrap (a1)) == 0) = false := beq_eq_false_iff_ne.mpr c3
    have c3b1 : ((IntKind.u64.wrap (a1)) != 0) = true := bne_iff_ne.mpr c3
    obtain rfl := Option.some.inj H
    go_enter Try.func18, Try.ntmps18
    go_wp2
    go_ret
    exact ⟨by first | rfl | (simp; done) | (simp [*]; done), by repeat (first | exact Drawn0.refl _ | apply Drawn0.step)⟩

theorem pick_some (a : Int) (n : Nat) (hn : 0 < n) (h : n ≤ 9223372036854775807) : ∃ k : Nat, k < n ∧ provisolaw01_pick.f a (n : Int) = some (k : Int) := by
  have h1 : IntKind.u64.wrap (n : Int) = (n : Int) := IntWalk.u64_in _ (by omega)
  have h2 : 0 ≤ IntKind.u64.wrap a := by rw [IntKind.wrap_u64]; omega
  have h3 := Int.tmod_nonneg (n : Int) h2
  have h4 := Int.tmod_lt_of_pos (IntKind.u64.wrap a) (show (0 : Int) < (n : Int) by omega)
  refine ⟨(Int.tmod (IntKind.u64.wrap a) (n : Int)).toNat, by omega, ?_⟩
  unfold provisolaw01_pick.f
  rw [h1, if_neg (by omega)]
  congr 1
  generalize Int.tmod (IntKind.u64.wrap a) (n : Int) = q at h3 h4
  unfold wrap64
  omega

end Go.Proofs.Ytklbkonehcjmjaa.P

end

section
namespace Go.Proofs.Ytklbkonehcjmjaa.P
open Go.RowKit Go.Proofs.YtklbkonehcjmjaaW.PrintWords Go.Proofs.YtklbkonehcjmjaaW.PrintLast Go.Proofs.YtklbkonehcjmjaaW.PrintMore
attribute [local go_sem] max2_int min2_int max_two min_two max_three min_three max_four min_four   -- for this text's walks alone
set_option linter.unusedVariables false
set_option linter.unusedSimpArgs false

theorem xor_nat (k : IntKind) (j : Nat) (hj : j ≤ k.bits) (hk : ∀ n : Int, 0 ≤ n → n < 2 ^ j → k.wrap n = n) (a b : Nat) (ha : a < 2 ^ j) (hb : b < 2 ^ j) : bits .xor k (a : Int) (b : Int) = ((a ^^^ b : Nat) : Int) := by
  have hp : 2 ^ j ≤ 2 ^ k.bits := Nat.pow_le_pow_right (by decide) hj
  have ha' : a % 2 ^ k.bits = a := Nat.mod_eq_of_lt (Nat.lt_of_lt_of_le ha hp)
  have hb' : b % 2 ^ k.bits = b := Nat.mod_eq_of_lt (Nat.lt_of_lt_of_le hb hp)
  have cast : ∀ n : Nat, n < 2 ^ j → ((n : Nat) : Int) < 2 ^ j := fun n h => by exact_mod_cast h
  simp only [bits, BitVec.ofInt_natCast, BitVec.toNat_xor, BitVec.toNat_ofNat, ha', hb']
  exact hk _ (Int.natCast_nonneg _) (cast _ (Nat.xor_lt_two_pow ha hb))
theorem xor32 (a b : Nat) (ha : a < 4294967296) (hb : b < 4294967296) : bits .xor .u32 (a : Int) (b : Int) = ((a ^^^ b : Nat) : Int) ∧ a ^^^ b < 4294967296 :=
  ⟨xor_nat .u32 32 (by decide) (fun n h0 h1 => by rw [IntKind.wrap_u32]; omega) a b ha hb, Nat.xor_lt_two_pow (n := 32) ha hb⟩
theorem xor8 (a b : Nat) (ha : a < 256) (hb : b < 256) : bits .xor .u8 (a : Int) (b : Int) = ((a ^^^ b : Nat) : Int) ∧ a ^^^ b < 256 :=
  ⟨xor_nat .u8 8 (by decide) wraps_u8 a b ha hb, Nat.xor_lt_two_pow (n := 8) ha hb⟩
theorem bits_comm (k : IntKind) (x y : Int) : bits .xor k x y = bits .xor k y x := by
  unfold bits
  simp only
  rw [BitVec.xor_comm]
theorem and1 (a : Nat) (ha : a < 4294967296) : bits .and .u32 (a : Int) 1 = ((a % 2 : Nat) : Int) := by
  have := (bits_nat .u32 32 (by decide) (fun n h0 h1 => by rw [IntKind.wrap_u32]; omega) a 1 (by omega) (by decide)).1
  rw [show ((1 : Nat) : Int) = 1 from rfl] at this
  rw [this, Nat.and_one_is_mod]
def crcS (c : Nat) : Nat := if c % 2 = 1 then (c / 2) ^^^ 3988292384 else c / 2
def crcM : Nat → Nat → Nat
  | 0, c => c
  | n + 1, c => crcS (crcM n c)
theorem crcS_lt (c : Nat) (h : c < 4294967296) : crcS c < 4294967296 := by
  unfold crcS
  split
  · exact (xor32 _ _ (by omega) (by decide)).2
  · omega
theorem crcM_lt (c : Nat) (h : c < 4294967296) : ∀ n, crcM n c < 4294967296
  | 0 => h
  | n + 1 => crcS_lt _ (crcM_lt c h n)
theorem crc1_nat (c : Nat) (h : c < 4294967296) : crc1 (c : Int) = ((crcS c : Nat) : Int) := by
  unfold crc1 crcS
  rw [and1 c h]
  by_cases h2 : c % 2 = 1
  · rw [h2, if_pos (by decide), if_pos rfl, show ((c : Int) / 2) = ((c / 2 : Nat) : Int) by omega]
    exact (xor32 (c / 2) 3988292384 (by omega) (by decide)).1
  · have h0 : c % 2 = 0 := by omega
    rw [h0, if_neg (by decide), if_neg (by decide)]
    omega
theorem crcN_nat (c : Nat) (h : c < 4294967296) : ∀ n, crcN n (c : Int) = ((crcM n c : Nat) : Int)
  | 0 => rfl
  | n + 1 => by
    show crc1 (crcN n (c : Int)) = _
    rw [crcN_nat c h n, crc1_nat _ (crcM_lt c h n)]
    rfl
theorem crcS_xor (a b : Nat) : crcS (a ^^^ b) = crcS a ^^^ crcS b := by
  have hd : (a ^^^ b) / 2 = (a / 2) ^^^ (b / 2) := Nat.xor_div_two
  have hm : (a ^^^ b) % 2 = 1 ↔ ¬((a % 2 = 1) ↔ (b % 2 = 1)) := Nat.xor_mod_two_eq_one
  unfold crcS
  rw [hd]
  by_cases h1 : a % 2 = 1 <;> by_cases h2 : b % 2 = 1
  · rw [if_neg (by rw [hm]; simp [h1, h2]), if_pos h1, if_pos h2]
    rw [Nat.xor_assoc, Nat.xor_comm 3988292384, Nat.xor_assoc, Nat.xor_self, Nat.xor_zero]
  · rw [if_pos (by rw [hm]; simp [h1, h2]), if_pos h1, if_neg h2]
    rw [Nat.xor_assoc, Nat.xor_comm (b / 2), ← Nat.xor_assoc]
  · rw [if_pos (by rw [hm]; simp [h1, h2]), if_neg h1, if_pos h2, Nat.xor_assoc]
  · rw [if_neg (by rw [hm]; simp [h1, h2]), if_neg h1, if_neg h2]
theorem crcM_xor (a b : Nat) : ∀ n, crcM n (a ^^^ b) = crcM n a ^^^ crcM n b
  | 0 => rfl
  | n + 1 => by
    show crcS (crcM n (a ^^^ b)) = _
    rw [crcM_xor a b n, crcS_xor]
    rfl
theorem crcS_even (m : Nat) : crcS (2 * m) = m := by
  unfold crcS
  rw [if_neg (by omega)]
  omega
theorem crcM_high (m : Nat) : crcM 8 (m * 256) = m := by
  show crcS (crcS (crcS (crcS (crcS (crcS (crcS (crcS (m * 256)))))))) = m
  rw [show m * 256 = 2 * (2 * (2 * (2 * (2 * (2 * (2 * (2 * m))))))) by omega]
  simp only [crcS_even]
theorem crcM_comm (c : Nat) : ∀ d, crcM d (crcS c) = crcM (d + 1) c
  | 0 => rfl
  | d + 1 => by
    show crcS (crcM d (crcS c)) = _
    rw [crcM_comm c d]
    rfl
theorem split8 (c : Nat) : c = (c / 256 * 256) ^^^ (c % 256) := by
  apply Nat.eq_of_testBit_eq
  intro i
  rw [Nat.testBit_xor, show (256 : Nat) = 2 ^ 8 from rfl, Nat.testBit_mul_two_pow, Nat.testBit_div_two_pow, Nat.testBit_mod_two_pow]
  by_cases h : i < 8
  · simp [h, Nat.not_le.2 h]
  · have : 8 ≤ i := by omega
    simp [h, this, Nat.sub_add_cancel this]
theorem tab_is (c x : Nat) (hc : c < 4294967296) (hx : x < 256) : tabStep (c : Int) (x : Int) = ((crcM 8 (c ^^^ x) : Nat) : Int) ∧ crcM 8 (c ^^^ x) < 4294967296 := by
  have hcx := (xor32 c x hc (by omega)).2
  refine ⟨?_, crcM_lt _ hcx 8⟩
  unfold tabStep
  have h1 := xor8 (c % 256) x (by omega) hx
  rw [show ((c : Int) % 256) = ((c % 256 : Nat) : Int) by omega, h1.1, show ((c : Int) / 256) = ((c / 256 : Nat) : Int) by omega, crcN_nat _ (by omega) 8]
  rw [(xor32 _ _ (crcM_lt _ (by omega) 8) (by omega)).1]
  congr 1
  have e : c ^^^ x = (c / 256 * 256) ^^^ ((c % 256) ^^^ x) := by
    conv => lhs; rw [split8 c, Nat.xor_assoc]
  rw [e, crcM_xor (c / 256 * 256), crcM_high, Nat.xor_comm]
theorem ref_l1 (x8 : List Int) (x9 x10 : Int) : ∀ (d c k : Nat) (x6 : Int), c < 4294967296 → 0 ≤ x6 → x6 + d = 8 → provisoref01_Sum.l1 (k + d + 1) (c : Int) x6 x8 x9 x10 = provisoref01_Sum.l0 k ((crcM d c : Nat) : Int) x8 x9 (wrap64 (x10 + 1))
  | 0, c, k, x6, hc, h0, h8 => by
    simp only [Nat.add_zero, provisoref01_Sum.l1]
    rw [if_neg (by omega)]
    rfl
  | d + 1, c, k, x6, hc, h0, h8 => by
    have ih := ref_l1 x8 x9 x10 d (crcS c) k (x6 + 1) (crcS_lt c hc) (by omega) (by omega)
    rw [show k + (d + 1) + 1 = (k + d + 1) + 1 by omega]
    rw [← crcM_comm, ← ih]
    generalize k + d + 1 = K
    simp only [provisoref01_Sum.l1]
    rw [if_pos (by omega), show wrap64 (x6 + 1) = x6 + 1 by unfold wrap64; omega]
    have hd : (Int.tdiv (c : Int) 2) % 4294967296 = ((c / 2 : Nat) : Int) := by
      rw [Int.tdiv_eq_ediv_of_nonneg (by omega)]
      omega
    have hm : Int.tmod (c : Int) 2 = (c : Int) % 2 := Int.tmod_eq_emod_of_nonneg (by omega)
    rw [hd, hm]
    by_cases h2 : c % 2 = 1
    · rw [if_pos (by omega), show ((3988292384 : Int)) = ((3988292384 : Nat) : Int) from rfl, (xor32 (c / 2) 3988292384 (by omega) (by decide)).1]
      unfold crcS
      rw [if_pos h2]
    · rw [if_neg (by omega)]
      unfold crcS
      rw [if_neg h2]
theorem ref_l0 (xs : List Int) (hx : ∀ x ∈ xs, 0 ≤ x ∧ x ≤ 255) (hl : xs.length ≤ 9223372036854775806) : ∀ (d i c k : Nat), i + d = xs.length → c < 4294967296 → provisoref01_Sum.l0 (k + 10 * d + 1) (c : Int) xs (xs.length : Int) (i : Int) = some (wrap64 (bits .xor .u32 (sumFrom (c : Int) (xs.drop i)) 4294967295))
  | 0, i, c, k, hd, hc => by
    simp only [Nat.mul_zero, Nat.add_zero, provisoref01_Sum.l0]
    rw [if_neg (by omega), show xs.drop i = [] from List.drop_of_length_le (by omega)]
    rfl
  | d + 1, i, c, k, hd, hc => by
    have hi : i < xs.length := by omega
    have hz : rd xs (i : Int) = xs[i] := by simp [rd, List.getD_eq_getElem?_getD, hi]
    have hr := hx xs[i] (List.getElem_mem hi)
    obtain ⟨x, ex⟩ : ∃ x : Nat, xs[i] = (x : Int) := ⟨xs[i].toNat, by omega⟩
    have ht := tab_is c x hc (by omega)
    have hcx := xor32 c x hc (by omega)
    have ih := ref_l0 xs hx hl d (i + 1) (crcM 8 (c ^^^ x)) k (by omega) ht.2
    rw [show k + 10 * (d + 1) + 1 = ((k + 10 * d + 1) + 8 + 1) + 1 by omega]
    simp only [provisoref01_Sum.l0]
    rw [if_pos (by omega), if_pos (by omega), if_pos (by omega), hz, ex, show ((x : Int) % 4294967296) = (x : Int) by omega, hcx.1, ref_l1 xs _ _ 8 (c ^^^ x) (k + 10 * d + 1) 0 hcx.2 (by omega) (by omega), show wrap64 ((i : Int) + 1) = ((i + 1 : Nat) : Int) by unfold wrap64; omega, ih, List.drop_eq_getElem_cons hi, ex]
    show _ = some (wrap64 (bits .xor .u32 (sumFrom (tabStep (c : Int) (x : Int)) (xs.drop (i + 1))) 4294967295))
    rw [ht.1]
theorem ref_is (xs : List Int) (hx : ∀ x ∈ xs, 0 ≤ x ∧ x ≤ 255) (hl : xs.length ≤ 9223372036854775806) : provisoref01_Sum.f (10 * xs.length + 1) xs = some (wrap64 (bits .xor .u32 4294967295 (sumFrom 4294967295 xs))) := by
  have h := ref_l0 xs hx hl xs.length 0 4294967295 0 (by omega) (by decide)
  rw [Nat.zero_add] at h
  unfold provisoref01_Sum.f
  rw [bits_comm]
  exact h
def provisolaw01_WireSums.f (l0 : List Int) (_a1 : Int) : Option Bool := if l0.length ≤ 140737488351232 ∧ ∀ y ∈ l0, 0 ≤ y ∧ y ≤ 255 then some true else none
set_option maxHeartbeats 6400000 in
set_option maxRecDepth 100000 in
theorem provisolaw01_WireSums.calls (A0 : Option Addr) (c0 : Nat) (l0 : List Int) (a1 : Int) (r : Bool) (w : World) (hr0 : Kd.C (Kd.int .u8) w A0 l0.length l0) (hc0 : l0.length ≤ c0) (h : provisolaw01_WireSums.f l0 a1 = some r) :
    Calls Try.prog 4 #[.slice A0 l0.length c0, .int .i64 a1] w fun e w' => e = .returned (.bool r) ∧ Below w.heap.size w w' := by
  obtain ⟨hlim, hby, rfl⟩ : l0.length ≤ 140737488351232 ∧ (∀ y ∈ l0, 0 ≤ y ∧ y ≤ 255) ∧ r = true := by
    unfold provisolaw01_WireSums.f at h
    split at h
    · rename_i h9
      exact ⟨h9.1, h9.2, (Option.some.inj h).symm⟩
    · cases h
  have HR := Aside0.mk hr0
  have HC := Aside0.mk hc0
  have HLIM := Aside0.mk hlim
  have HBY := Aside0.mk hby
  have hlen : l0.length ≤ 9223372036854775806 := by omega
  clear h hr0 hc0 hlim hby
  go_enter Try.func4, Try.ntmps4
  go_wp2_with fail
  refine (Roomy_calls A0 c0 l0 w HR.out HC.out HLIM.out).mono ?_
  rintro e w1 ⟨A, c, rfl, hcl, hR, hb⟩
  have HO := Aside0.mk hR
  have HB := Aside0.mk hb
  have HALL : Aside0 (Kd.C (Kd.int .u8) w1 A (l0 ++ ([165, 90, 195, 60] : List Int)).length (l0 ++ [165, 90, 195, 60])) := ⟨by
    obtain ⟨A9, c9, e9, _, h9⟩ := Kd.R_reads hR
    injection e9 with e1 e2 e3
    subst e1
    exact h9⟩
  have HG : Aside0 (Kd.C (Kd.int .u8) w1 A l0.length l0) := ⟨by
    have := Kd.C_take (xs := l0 ++ [165, 90, 195, 60]) (m := l0.length) HALL.out (by rw [List.length_append]; omega)
    rwa [List.take_left] at this⟩
  have HCG : Aside0 (l0.length ≤ c ∧ l0.length + 4 ≤ c) := ⟨⟨by omega, hcl⟩⟩
  clear hR hb hcl
  go_wp2_with fail
  refine (Sum_calls A c l0 w1 HG.out HCG.out.1).mono ?_
  rintro e w2 ⟨rfl, hb⟩
  have HS := Aside0.mk (ref_is l0 HBY.out hlen)
  generalize wrap64 (bits .xor .u32 4294967295 (sumFrom 4294967295 l0)) = s at HS ⊢
  have HB2 := Aside0.mk hb
  have HBW2 := Aside0.mk (below_step HB.out hb)
  clear hb
  go_wp2_with fail
  refine (provisoref01_Sum.calls _ A0 c0 l0 s w2 (Kd.C_below HR.out HBW2.out) HC.out HS.out).mono ?_
  rintro e w3 ⟨rfl, m, rfl⟩
  have HB3 := Aside0.mk (pw_below_drewN HB2.out m)
  have HBW3 := Aside0.mk (pw_below_drewN HBW2.out m)
  generalize w2.drewN m = w3 at HB3 HBW3 ⊢
  clear HB2 HBW2
  go_wp2_with fail
  have hU := provisoplain_Untouched.calls (l0.length + 1) A c (l0 ++ [165, 90, 195, 60]) A0 c0 l0 true w3 (Kd.C_below HALL.out HB3.out) (by rw [List.length_append]; exact HCG.out.2) (Kd.C_below HR.out HBW3.out) HC.out (untouched_is l0 HLIM.out _ (Nat.lt_succ_self _))
  rw [show (l0 ++ ([165, 90, 195, 60] : List Int)).length = l0.length + 4 by simp] at hU
  refine hU.mono ?_
  clear hU
  rintro e w4 ⟨rfl, m4, rfl⟩
  replace HB3 := Aside0.mk (pw_below_drewN HB3.out m4)
  replace HBW3 := Aside0.mk (pw_below_drewN HBW3.out m4)
  generalize w3.drewN m4 = w4 at HB3 HBW3 ⊢
  clear m m4 HALL
  by_cases z : l0.length = 0
  · have z1 : l0.length = 0 := z
    clear z
    have n1 := Aside0.mk (below_alloc HBW3.out (.cells #[.int .u8 0] 5))
    have n2 : Aside0 (Kd.C (Kd.int .u8) (w4.alloc (.cells #[.int .u8 0] 5)) (some ⟨w4.heap.size, 0, none⟩) [0].length [0]) := ⟨C_of_lit (blk_new _ _) (by decide) (fun j p hj => by
      match j, hj with
      | 0, hj => obtain rfl := Option.some.inj hj; rfl
      | j + 1, hj => simp at hj)⟩
    go_wp2_with fail
    refine (Sum_calls _ 1 [0] _ n2.out (Nat.le_refl 1)).mono ?_
    rintro e w5 ⟨rfl, hb⟩
    have HS0 := Aside0.mk (ref_is [0] (fun y hy => by rw [List.mem_singleton.1 hy]; decide) (by decide))
    generalize wrap64 (bits .xor .u32 4294967295 (sumFrom 4294967295 [0])) = s0 at HS0 ⊢
    have HB5 := Aside0.mk (below_step n1.out hb)
    clear hb n1 n2
    have n1 := Aside0.mk (below_alloc HB5.out (.cells #[.int .u8 0] 5))
    have n2 : Aside0 (Kd.C (Kd.int .u8) (w5.alloc (.cells #[.int .u8 0] 5)) (some ⟨w5.heap.size, 0, none⟩) [0].length [0]) := ⟨C_of_lit (blk_new _ _) (by decide) (fun j p hj => by
      match j, hj with
      | 0, hj => obtain rfl := Option.some.inj hj; rfl
      | j + 1, hj => simp at hj)⟩
    go_wp2_with fail
    refine (provisoref01_Sum.calls _ _ 1 [0] s0 _ n2.out (Nat.le_refl 1) HS0.out).mono ?_
    rintro e w6 ⟨rfl, m, rfl⟩
    go_wp2
    go_ret
    exact ⟨rfl, pw_below_drewN n1.out m⟩
  · have z1 : ((l0.length : Int) == 0) = false := by rw [beq_eq_false_iff_ne]; omega
    have Z := Aside0.mk z
    have hcl : slices_Clone_byte_byte.f l0 = some l0 := by unfold slices_Clone_byte_byte.f; rw [if_pos (by have := HLIM.out; omega)]
    have HCL := Aside0.mk hcl
    clear z hcl
    go_wp2_with fail
    refine (slices_Clone_byte_byte.calls A0 c0 l0 l0 w4 (Kd.C_below HR.out HBW3.out) HC.out HCL.out).mono ?_
    rintro e w5 ⟨vt, rfl, hR, hb⟩
    obtain ⟨k, hk, hpick⟩ := pick_some a1 l0.length (by have := Z.out; omega) (by omega)
    have HPK := Aside0.mk hpick
    obtain ⟨At, ct, rfl⟩ := Kd.R_slice hR
    obtain ⟨at_, e1, _⟩ := Kd.at_int (Kd.R_reads' hR).2.2 (k : Int) (by omega) (by omega)
    subst e1
    obtain ⟨gt, rfl⟩ := Kd.R_head hR
    have HT := Aside0.mk hR
    have hgt : w4.heap.size ≤ gt := Kd.R_from_ hR gt rfl
    have HGT : Aside0 (w.heap.size ≤ gt ∧ w1.heap.size ≤ gt) := ⟨⟨by have := HBW3.out.size; omega, by have := HB3.out.size; omega⟩⟩
    have HO5 : Aside0 (Kd.R (Kd.int .u8) 5 w5 w.heap.size (fun k => k < w1.heap.size) (.slice A (l0.length + 4) c) (l0 ++ [165, 90, 195, 60])) := ⟨Kd.R_below (Kd.R_below (Kd.R_mono (Kd.R_bound HO.out) (fun k hk => hk.2.2.1)) HB3.out) hb⟩
    have HBW5 := Aside0.mk (below_step HBW3.out hb)
    have HBS : Aside0 (w1.heap.size ≤ w4.heap.size) := ⟨HB3.out.size⟩
    clear hR hb HB3 HBW3 hgt hpick HG HO
    go_wp2_with fail
    refine (provisolaw01_pick.calls a1 l0.length (k : Int) _ HPK.out).mono ?_
    rintro e w6 ⟨rfl, m, rfl⟩
    have hT := Kd.R_drewN HT.out m
    obtain ⟨hc1, hf1⟩ := Kd.R_celln 0 hT (k : Int) (by omega) (by omega)
    rw [Int.toNat_natCast] at hc1 hf1
    have hz : rdOf 0 l0 (k : Int) = l0[k] := by simp [rdOf, List.getD_eq_getElem?_getD, hk]
    rw [hz] at hc1
    have hzr := HBY.out _ (List.getElem_mem hk)
    have HT6 := Aside0.mk hT
    have HO6 := Aside0.mk (Kd.R_drewN HO5.out m)
    have HBW6 := Aside0.mk (pw_below_drewN HBW5.out m)
    generalize w5.drewN m = w6 at hc1 hf1 HT6 HO6 HBW6 ⊢
    clear hT hz HO5 HBW5 HT
    have p1 : (0 ≤ (k : Int)) = True := eq_true (by omega)
    have p2 : ((k : Int) < (l0.length : Int)) = True := eq_true (by omega)
    have HK := Aside0.mk hk
    generalize hgz : l0[k] = z at hc1 hzr
    have HGZ := Aside0.mk hgz
    clear hgz
    have q1 := Kd.R_putn HT6.out (k : Int) ((z + 1) % 256)
    have q2 := Kd.R_far HO6.out (p := ⟨gt, k, none⟩) (fun j hj => by have := HGT.out.2; show j ≠ gt; omega) (.int .u8 ((z + 1) % 256))
    have q3 := HBW6.out.setCell (p := ⟨gt, k, none⟩) HGT.out.1 (.int .u8 ((z + 1) % 256))
    rw [Int.toNat_natCast] at q1
    have Q1 : Aside0 (Kd.R (Kd.int .u8) 5 (w6.setCell ⟨gt, k, none⟩ (.int .u8 ((z + 1) % 256))) w4.heap.size (fun _ => True) (.slice (some ⟨gt, 0, none⟩) l0.length ct) (l0.set k ((z + 1) % 256))) := ⟨q1⟩
    have Q2 := Aside0.mk q2
    have Q3 := Aside0.mk q3
    clear q1 q2 q3 HT6 HO6 HBW6
    obtain ⟨s1v, hs1⟩ : ∃ s1v, s1v = s := ⟨_, rfl⟩
    go_wp2_with fail
    generalize w6.setCell ⟨gt, k, none⟩ (.int .u8 ((z + 1) % 256)) = w7 at Q1 Q2 Q3 ⊢
    clear hc1 hf1
    refine (provisolaw01_pick.calls a1 l0.length (k : Int) _ HPK.out).mono ?_
    rintro e w8 ⟨rfl, m2, rfl⟩
    have hO := Kd.R_drewN Q2.out m2
    obtain ⟨aa_, e1, _⟩ := Kd.at_int (Kd.R_reads' hO).2.2 (k : Int) (by omega) (by rw [List.length_append]; have := HK.out; omega)
    subst e1
    obtain ⟨ga, rfl⟩ := Kd.R_head hO
    obtain ⟨hc1, hf1⟩ := Kd.R_celln 0 hO (k : Int) (by omega) (by have := HK.out; omega)
    rw [Int.toNat_natCast] at hc1 hf1
    have hz : rdOf 0 (l0 ++ [165, 90, 195, 60]) (k : Int) = z := by
      rw [← HGZ.out]
      simp only [rdOf, List.getD_eq_getElem?_getD, Int.toNat_natCast]
      rw [List.getElem?_append_left HK.out, List.getElem?_eq_getElem HK.out]
      rfl
    rw [hz] at hc1
    have hga : w.heap.size ≤ ga ∧ ga < w1.heap.size := ⟨Kd.R_from_ hO ga rfl, hO.1 ga rfl⟩
    have HT8 := Aside0.mk (Kd.R_drewN Q1.out m2)
    have HO8 := Aside0.mk hO
    have HBW8 := Aside0.mk (pw_below_drewN Q3.out m2)
    generalize w7.drewN m2 = w8 at hc1 hf1 HT8 HO8 HBW8 ⊢
    clear hO hz Q1 Q2 Q3
    have q1 := Kd.R_putn HO8.out (k : Int) ((z + 1) % 256)
    have q2 := Kd.R_far (Kd.R_mono (Kd.R_bound HT8.out) (fun j hj => hj.2.1)) (p := ⟨ga, k, none⟩) (fun j hj => by have := HBS.out; show j ≠ ga; omega) (.int .u8 ((z + 1) % 256))
    have q3 := HBW8.out.setCell (p := ⟨ga, k, none⟩) hga.1 (.int .u8 ((z + 1) % 256))
    rw [Int.toNat_natCast] at q1
    have Q1 : Aside0 (Kd.R (Kd.int .u8) 5 (w8.setCell ⟨ga, k, none⟩ (.int .u8 ((z + 1) % 256))) w.heap.size (fun k => k < w1.heap.size) (.slice (some ⟨ga, 0, none⟩) (l0.length + 4) c) ((l0 ++ [165, 90, 195, 60]).set k ((z + 1) % 256))) := ⟨q1⟩
    have Q2 := Aside0.mk q2
    have Q3 := Aside0.mk q3
    clear q1 q2 q3 HT8 HO8 HBW8 hga
    go_wp2_with fail
    generalize w8.setCell ⟨ga, k, none⟩ (.int .u8 ((z + 1) % 256)) = w9 at Q1 Q2 Q3 ⊢
    clear hc1 hf1
    obtain ⟨l1, hl1⟩ : ∃ l1, l1 = l0.set k ((z + 1) % 256) := ⟨_, rfl⟩
    have hll : l1.length = l0.length := by rw [hl1, List.length_set]
    rw [← hl1] at Q2
    have hby1 : ∀ y ∈ l1, 0 ≤ y ∧ y ≤ 255 := fun y hy => by
      rw [hl1] at hy
      rcases List.mem_or_eq_of_mem_set hy with h | h
      · exact HBY.out y h
      · omega
    have hg9 : Kd.C (Kd.int .u8) w9 (some ⟨ga, 0, none⟩) l1.length l1 := by
      have h9 := Kd.C_take (m := l1.length) (Kd.R_reads' Q1.out).2.2 (by rw [List.length_set, List.length_append]; omega)
      have e9 : ((l0 ++ [165, 90, 195, 60]).set k ((z + 1) % 256)).take l1.length = l1 := by
        rw [List.set_append_left _ _ HK.out, ← hl1, List.take_left]
      rw [e9] at h9
      exact h9
    have hS := Sum_calls (some ⟨ga, 0, none⟩) c l1 w9 hg9 (by have := HCG.out.1; omega)
    rw [hll] at hS
    refine hS.mono ?_
    clear hS hg9
    rintro e w10 ⟨rfl, hb⟩
    have HS1 := Aside0.mk (ref_is l1 hby1 (by omega))
    generalize wrap64 (bits .xor .u32 4294967295 (sumFrom 4294967295 l1)) = s1 at HS1 ⊢
    have HB10 := Aside0.mk (below_step Q3.out hb)
    have HT10 := Aside0.mk (Kd.R_below Q2.out hb)
    have HLL := Aside0.mk hll
    clear hb Q1 Q2 Q3 hby1 hl1 hll
    go_wp2_with fail
    have hS := provisoref01_Sum.calls _ (some ⟨gt, 0, none⟩) ct l1 s1 w10 (Kd.R_reads' HT10.out).2.2 (by have := (Kd.R_reads HT10.out); obtain ⟨A9, c9, e9, h9, _⟩ := this; injection e9 with e1 e2 e3; omega) HS1.out
    rw [HLL.out] at hS
    refine hS.mono ?_
    clear hS
    rintro e w11 ⟨rfl, m3, rfl⟩
    go_wp2
    go_ret
    exact ⟨rfl, pw_below_drewN HB10.out m3⟩

end Go.Proofs.Ytklbkonehcjmjaa.P

end

section
namespace Go.Proofs.Ytklbkonehcjmjaa.P
open Go.RowKit Go.Proofs.YtklbkonehcjmjaaW.PrintWords
def provisolaw01_WireSums.Pure : Prop := ∀ (l0 : List (Int)) (a1 : Int), (fun l : List (Int) => l.length ≤ 9223372036854775807 ∧ l.length * 1 ≤ 140737488351232 ∧ ∀ x ∈ l, (fun n : Int => (Lit.int .u8 n).wf = true) x) l0 → (fun n : Int => (Lit.int .i64 n).wf = true) a1 → provisolaw01_WireSums.f l0 a1 = some true
end Go.Proofs.Ytklbkonehcjmjaa.P

end

section
namespace Go.Proofs.Ytklbkonehcjmjaa.Pure
open Go.RowKit Go.Proofs.Ytklbkonehcjmjaa.P Go.Proofs.YtklbkonehcjmjaaW.PrintWords
theorem WireSums : provisolaw01_WireSums.Pure := by
  intro l0 a1 h _
  unfold provisolaw01_WireSums.f
  rw [if_pos ⟨by have := h.2.1; omega, fun x hx => by
    have := h.2.2 x hx
    simp [Lit.wf, IntKind.min, IntKind.max, IntKind.signed, IntKind.bits] at this
    exact this⟩]
end Go.Proofs.Ytklbkonehcjmjaa.Pure

end

section
namespace Go.Proofs.Ytklbkonehcjmjaa.wireSums
open Go.ChangeShapes Go.WideShapes Go.ChangeAt Go.RowKit Go.Proofs.YtklbkonehcjmjaaW.PrintWords Go.Proofs.Ytklbkonehcjmjaa.Sees Go.Proofs.Ytklbkonehcjmjaa.P
open Go.ChangeMaps (open_string shut_string)
set_option linter.unusedVariables false
set_option linter.unusedSimpArgs false
theorem own : ownKnob Try.prog.godebug = none := by kernel_rfl
theorem laidOut : laidOutB Try.prog = true := by kernel_rfl
set_option maxRecDepth 100000 in
theorem lifted (os : Os) (started : os.Started) (H : Type) (enc : TypeId × Value → H) :
    ReturnsInHanded {} Try.checked os 4 .any (Rows.wireSumsSpec.pre6 enc Try.prog Try.f4 Rows.wireSumsRow.domain false) (Rows.wireSumsSpec.post enc Try.prog Try.f4 false true false false) := by
  refine returnsInHanded_of_change_sized (C := Try.checked) own started (by kernel_rfl) Try.func4
    (ChangeSpec.witness6 (enc := enc) (C := Try.checked) false ⟨#[], #[.slice none 0 0, .int .i64 0], []⟩ 8 (by kernel_rfl) (by kernel_rfl) (by kernel_rfl) (by kernel_rfl)) ?_
  intro W base args ds gs before hval0 hW hcnd hsz0 _
  have hsz : (DataW.weightsEach Try.prog (Try.f4.params.toList ++ Rows.wireSumsSpec.plain.varTypes Try.prog) (ds ++ gs)).all (· ≤ reachBytes) = true := hsz0
  have hval : ∀ (j : Nat) t v, Try.f4.params[j]? = some t → args[j]? = some v → Value.okWide Try.prog W .any base t v := hval0
  have hW' := hW
  obtain ⟨p, q, hA0, hV, rfl, hfz, hnd⟩ := hW
  have hA : DataW.TrodAll enc Try.prog W 0 (fun _ => true) true Try.f4.params.toList args.toList ds p := hA0
  rw [Try.params4] at hA hval hsz
  obtain ⟨v0, vs0, d0, ds0, p0, q0, hargs, rfl, rfl, h0, r0⟩ := trodAll_cons hA
  obtain ⟨v1, vs1, d1, ds1, p1, q1, rfl, rfl, rfl, h1, r1⟩ := trodAll_cons r0
  obtain ⟨rfl, rfl, rfl⟩ := trodAll_nil r1
  obtain rfl : args = #[v0, v1] := by cases args; simp_all
  obtain ⟨rfl, rfl⟩ := trodVars_none hV
  have k0 := h0
  have lt0 : ∀ x ∈ p0, x.block < W.heap.size := by obtain ⟨m, hm⟩ := k0; exact DataW.trod_lt m _ _ _ hm
  obtain ⟨y0, hy0, oy0⟩ := see_arg (j := 0) (t := 23) (sees_slice (B := 1) Try.underlying23 (by kernel_rfl) (by kernel_rfl) (sees_int Try.underlying5)) hsz rfl rfl h0
  obtain ⟨a0, len0, cap0, rfl⟩ := okWide_slice Try.underlying23 (hval 0 23 v0 rfl rfl)
  obtain ⟨rfl, hc0, hr0⟩ := see_slice rfl hy0
  have k1 := h1
  have lt1 : ∀ x ∈ p1, x.block < W.heap.size := by obtain ⟨m, hm⟩ := k1; exact DataW.trod_lt m _ _ _ hm
  obtain ⟨y1, hy1, oy1⟩ := see_arg (j := 1) (t := 3) (sees_int Try.underlying3) hsz rfl rfl h1
  obtain ⟨z1, rfl, rfl, rfl, _⟩ := open_int Try.underlying3 (hval 1 3 v1 rfl rfl) h1
  obtain rfl : z1 = y1 := by have e_ := hy1; simp [Kd.int, Kd.bool, Kd.string, Kd.scalar, Value.cells] at e_; exact e_
  clear hA0 hval0 hsz0 hsz
  have hk := Pure.WireSums y0 z1 oy0 oy1
  refine (provisolaw01_WireSums.calls _ _ y0 z1 true W hr0 hc0 hk).mono ?_
  rintro e W' ⟨rfl, bel0⟩
  have bel : Below W.heap.size W W' := bel0
  exact ⟨_, rfl, _, _, _, [], _, [], hW', trodAll_mk1 (shut_bool Try.underlying4 _), (trodAll_cons_mk (Below.trod laidOut (by kernel_rfl) (of_decide_eq_true (by kernel_rfl)) k0 bel lt0) (trodAll_cons_mk (Below.trod laidOut (by kernel_rfl) (of_decide_eq_true (by kernel_rfl)) k1 bel lt1) trodAll_mk0)), rfl, bel.frame _, fun h => by cases h⟩
theorem over : Rows.wireSumsRow.holds Try.pinned (OpenSpec.ofChange Rows.wireSumsSpec) :=
  OpenClaim.holds_of_wide 4 Try.f4 rfl rfl rfl rfl rfl rfl rfl ⟨rfl, rfl, rfl, rfl, rfl⟩ rfl rfl rfl rfl rfl (by kernel_rfl) Try.func4 (by kernel_rfl)
    (of_decide_eq_true (by kernel_rfl)) (by unfold Func.isWrapper; first | (rw [if_pos (by decide +kernel)]; kernel_rfl) | (rw [if_neg (by decide +kernel)]; exact ⟨rfl, rfl⟩))
    (fun os started H enc _ => lifted os started H enc)
theorem proved : Rows.WireSumsSaid := over
end Go.Proofs.Ytklbkonehcjmjaa.wireSums
namespace Go.Proofs.Ytklbkonehcjmjaa
theorem wireSums_holds : Rows.WireSumsSaid := wireSums.proved
end Go.Proofs.Ytklbkonehcjmjaa

end

