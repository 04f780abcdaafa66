/- Proved: the law StoreNobody holds for every input that the row lets in. No condition of ours. -/
import Derived.Test.YtfakdphkklclgaaBStoreNobodyb
import Derived.Test.YtfakdphkklclgaaProg
import Derived.WalkSpells
import Derived.ChangeKeysEq
import Derived.Deep.MidRow
import Derived.Test.YtfakdphkklclgaaRows
import Derived.ShutString
import Derived.ChangeOld
import Derived.Lib.SmallJoins
section
namespace Go.Proofs.Ytfakdphkklclgaa.P
open Go.RowKit Go.Proofs.YtfakdphkklclgaaW.PrintWords Go.Proofs.YtfakdphkklclgaaW.PrintLast Go.Proofs.YtfakdphkklclgaaW.PrintMore
attribute [local go_sem] max2_int min2_int max_two min_two max_three min_three max_four min_four   -- for this text's walks alone
set_option linter.unusedVariables false
set_option linter.unusedSimpArgs false



theorem info5 : (Try.prog.info? 5).map (fun i => (i.zero, i.size, i.bytes)) = some (some (.int .u8 0), 1, 1) := by kernel_rfl
end Go.Proofs.Ytfakdphkklclgaa.P

end

section
namespace Go.Proofs.Ytfakdphkklclgaa.P
open Go.RowKit Go.Proofs.YtfakdphkklclgaaW.PrintWords Go.Proofs.YtfakdphkklclgaaW.PrintLast Go.Proofs.YtfakdphkklclgaaW.PrintMore
attribute [local go_sem] max2_int min2_int max_two min_two max_three min_three max_four min_four   -- for this text's walks alone
set_option linter.unusedVariables false
set_option linter.unusedSimpArgs false



def IsS125 (w0 W : World) (g : Nat) (f0 : List Int) (f1 : Bool) : Prop := ∃ A0 c0, W.heap[g]? = some (.cells #[.slice A0 f0.length c0, .bool f1] 125 (0, 0)) ∧ w0.heap.size ≤ g ∧ Kd.C (Kd.int .u8) w0 A0 f0.length f0
theorem IsS125.grown {w0 W : World} {g : Nat} {f0 : List Int} {f1 : Bool} {W1 : World} {row : Option Nat} (h : IsS125 w0 W g f0 f1) (hw : W.grownBy W1 row) (hne : some g ≠ row) : IsS125 w0 W1 g f0 f1 := by
  obtain ⟨A0, c0, hb, hg, hr0⟩ := h
  exact ⟨A0, c0, blk_grown hb hw hne, hg, hr0⟩
theorem IsS125.kept {w0 W : World} {g : Nat} {f0 : List Int} {f1 : Bool} {W1 : World} {S : Nat → Prop} (h : IsS125 w0 W g f0 f1) (hk : Kept W W1 S) (hne : ¬ S g) : IsS125 w0 W1 g f0 f1 := by
  obtain ⟨A0, c0, hb, hg, hr0⟩ := h
  exact ⟨A0, c0, blk_kept hb hk hne, hg, hr0⟩
theorem IsS125.below {w0 W : World} {g : Nat} {f0 : List Int} {f1 : Bool} {W1 : World} (h : IsS125 w0 W g f0 f1) (hw : Below W.heap.size W W1) : IsS125 w0 W1 g f0 f1 := h.grown (grown_of_below hw none) (by simp)
theorem IsS125.alloc {w0 W : World} {g : Nat} {f0 : List Int} {f1 : Bool} (h : IsS125 w0 W g f0 f1) (o : Obj) : IsS125 w0 (W.alloc o) g f0 f1 := h.below (below_alloc (Below.refl _ _) o)
theorem IsS125.drewN {w0 W : World} {g : Nat} {f0 : List Int} {f1 : Bool} (h : IsS125 w0 W g f0 f1) (m : Nat) : IsS125 w0 (W.drewN m) g f0 f1 := h
theorem IsS125.drew {w0 W : World} {g : Nat} {f0 : List Int} {f1 : Bool} (h : IsS125 w0 W g f0 f1) : IsS125 w0 W.drew g f0 f1 := h
def slices_Clone_byte_byte.f (l0 : List Int) : Option (List Int) := if l0.length < 140737488355328 then some l0 else none
set_option maxHeartbeats 800000 in
set_option maxRecDepth 100000 in
theorem slices_Clone_byte_byte.calls (A0 : Option Addr) (c0 : Nat) (l0 : List Int) (r : List Int) (w : World) (hr0 : Kd.C (Kd.int .u8) w A0 l0.length l0) (hc0 : l0.length ≤ c0) (h : slices_Clone_byte_byte.f l0 = some r) :
    Calls Try.prog 12 #[.slice A0 l0.length c0] w fun e w' => ∃ v0_ : Value, e = .returned v0_ ∧ Kd.R (Kd.int .u8) 5 w' w.heap.size (fun _ => True) v0_ r ∧ Below w.heap.size w w' := by
  obtain ⟨hlim, rfl⟩ : l0.length < 140737488355328 ∧ r = l0 := by
    unfold slices_Clone_byte_byte.f at h
    split at h
    · rename_i h9
      exact ⟨h9, (Option.some.inj h).symm⟩
    · cases h
  have hnil := Lib.run_eql_slice_nil (P := Try.prog) (h := Try.underlying23)
  have HR := Aside0.mk hr0
  have HL := Aside0.mk hlim
  cases A0 with
  | none =>
    have e0 : r = [] := by
      rcases Nat.eq_zero_or_pos r.length with h0 | h0
      · exact List.length_eq_zero_iff.1 h0
      · obtain ⟨ad, e, _⟩ := hr0.2.2 h0
        cases e
    have E0 := Aside0.mk e0
    clear h hr0 hlim e0
    go_enter Try.func12, Try.ntmps12
    go_wp2
    go_ret
    refine ⟨_, rfl, ?_, Below.refl _ _⟩
    rw [E0.out]
    exact Kd.R_nil _ _ _ _ _
  | some ad =>
    clear h hr0 hlim
    go_enter Try.func12, Try.ntmps12
    go_wp2_with (first | ((with_reducible refine gate_dst (N := 5) rfl ?_); refine Kd.R_lit (Kd.int .u8) _ 5 ?hg (N := 5) ?hd (xs := ([] : List Int)) (inner := []) (ok := fun _ => True) (okp := fun _ => True) ?hr ?hp (fun _ hk => hk) trivial (Below.refl _ _) (Nat.le_refl _) (by simp) ?_; (case hd => rfl); (case hg => rfl); (case hr => first | (go_simp; done) | (go_simp; rfl)); (case hp => exact (Reps.none _ _)); intro v1 w1 ho1 hb1 _ _; have n1 := Aside0.mk ho1; have n2 := Aside0.mk hb1; clear ho1 hb1; obtain ⟨A1, c1, e1⟩ := Kd.R_slice n1.out; subst e1) | ((with_reducible refine gate_builtin (b := .append) (xs := #[.tmp 5, .tmp 6]) rfl ?_); at_builtin; refine Kd.R_append_rows (Kd.int .u8) (w0 := w) w.heap.size rfl (.tmp 5) (.tmp 6) 23 5 (.int .u8 0) 1 rfl Try.underlying23 info5 rfl (by decide) (by omega) (.slice A1 (([] : List Int)).length c1) ([] : List Int) r _ _ _ (fun _ => True) (fun _ => False) rfl rfl ?aO ?aR (fun _ _ h => h) (fun _ h => h.elim) ?aF ?aB ?aS ?aL ?_; (case aR => exact Kd.C_below HR.out n2.out); (case aB => exact n2.out); (case aF => exact (fun _ _ => trivial)); (case aO => exact n1.out); (case aS => exact n2.out.size); (case aL => have h9 := HL.out; simp only [List.length_nil]; omega); intro v2 w2 ho2 hb2 _ _; have n3 := Aside0.mk ho2; have n4 := Aside0.mk hb2; clear ho2 hb2))
    go_ret
    exact ⟨_, rfl, n3.out, n4.out⟩

end Go.Proofs.Ytfakdphkklclgaa.P

end

section
namespace Go.Proofs.Ytfakdphkklclgaa.P
open Go.RowKit Go.Proofs.YtfakdphkklclgaaW.PrintWords Go.Proofs.YtfakdphkklclgaaW.PrintLast Go.Proofs.YtfakdphkklclgaaW.PrintMore
attribute [local go_sem] max2_int min2_int max_two min_two max_three min_three max_four min_four   -- for this text's walks alone
set_option linter.unusedVariables false
set_option linter.unusedSimpArgs false







def SNo (v : Value) (W : World) : Prop := v = .pointer none ∨ ∃ g, v = .pointer (some ⟨g, 0, none⟩) ∧ W.heap[g]? = some (.cells #[.slice none 0 0, .map none, .bool false] 62 (0, 0))
theorem SNo.step {v : Value} {W W' : World} (h : SNo v W) (hb : Below W.heap.size W W') : SNo v W' := by
  rcases h with h | ⟨g, h1, h2⟩
  · exact .inl h
  · exact .inr ⟨g, h1, blk_below h2 hb⟩
set_option maxHeartbeats 1600000 in
set_option maxRecDepth 100000 in
theorem ready_sno (v : Value) (w : World) (h : SNo v w) : Calls Try.prog 34 #[v] w fun e w' => e = .returned (.bool false) ∧ Below w.heap.size w w' := by
  rcases h with rfl | ⟨g, rfl, hg⟩
  · go_enter Try.func34, Try.ntmps34
    go_wp2
    go_ret
    exact ⟨rfl, Below.refl _ _⟩
  · have hc := blk_cell hg 2
    clear hg
    go_enter Try.func34, Try.ntmps34
    go_wp2
    go_ret
    exact ⟨rfl, Below.refl _ _⟩
set_option maxHeartbeats 1600000 in
set_option maxRecDepth 100000 in
theorem Image_sno (v : Value) (w : World) (h : SNo v w) : Calls Try.prog 19 #[v] w fun e w' => e = .returned (.slice none 0 0) ∧ Below w.heap.size w w' := by
  have H := Aside0.mk h
  clear h
  go_enter Try.func19, Try.ntmps19
  go_wp2_with fail
  refine (ready_sno v _ H.out).mono ?_
  rintro e w1 ⟨rfl, hb⟩
  have HB := Aside0.mk hb
  clear hb
  go_wp2
  go_ret
  exact ⟨rfl, HB.out⟩
set_option maxHeartbeats 1600000 in
set_option maxRecDepth 100000 in
theorem Names_sno (v : Value) (w : World) (h : SNo v w) : Calls Try.prog 20 #[v] w fun e w' => e = .returned (.slice none 0 0) ∧ Below w.heap.size w w' := by
  have H := Aside0.mk h
  clear h
  go_enter Try.func20, Try.ntmps20
  go_wp2_with fail
  refine (ready_sno v _ H.out).mono ?_
  rintro e w1 ⟨rfl, hb⟩
  have HB := Aside0.mk hb
  clear hb
  go_wp2
  go_ret
  exact ⟨rfl, HB.out⟩
set_option maxHeartbeats 1600000 in
set_option maxRecDepth 100000 in
theorem Pack_sno (v : Value) (w : World) (h : SNo v w) : Calls Try.prog 24 #[v] w fun e w' => e = .returned (.pointer none) ∧ Below w.heap.size w w' := by
  have H := Aside0.mk h
  clear h
  go_enter Try.func24, Try.ntmps24
  go_wp2_with fail
  refine (ready_sno v _ H.out).mono ?_
  rintro e w1 ⟨rfl, hb⟩
  have HB := Aside0.mk hb
  clear hb
  go_wp2
  go_ret
  exact ⟨rfl, HB.out⟩
set_option maxHeartbeats 1600000 in
set_option maxRecDepth 100000 in
theorem get_sno (v : Value) (s : ByteArray) (w : World) (h : SNo v w) : Calls Try.prog 47 #[v, .string s] w fun e w' => e = .returned (.tuple #[.slice none 0 0, .int .i64 8]) ∧ Below w.heap.size w w' := by
  have H := Aside0.mk h
  clear h
  go_enter Try.func47, Try.ntmps47
  go_wp2_with fail
  refine (ready_sno v _ H.out).mono ?_
  rintro e w1 ⟨rfl, hb⟩
  have HB := Aside0.mk hb
  clear hb
  go_wp2
  go_ret2
  exact ⟨rfl, HB.out⟩
set_option maxHeartbeats 1600000 in
set_option maxRecDepth 100000 in
theorem Get_sno (v : Value) (s : ByteArray) (w : World) (h : SNo v w) : Calls Try.prog 15 #[v, .string s] w fun e w' => e = .returned (.tuple #[.slice none 0 0, .int .i64 8]) ∧ Below w.heap.size w w' := by
  have H := Aside0.mk h
  clear h
  go_enter Try.func15, Try.ntmps15
  go_wp2_with fail
  refine (get_sno v s _ H.out).mono ?_
  rintro e w1 ⟨rfl, hb⟩
  have HB := Aside0.mk hb
  clear hb
  go_wp2
  go_ret2
  exact ⟨rfl, HB.out⟩
set_option maxHeartbeats 1600000 in
set_option maxRecDepth 100000 in
theorem Drop_sno (v : Value) (s : ByteArray) (w : World) (h : SNo v w) : Calls Try.prog 23 #[v, .string s] w fun e w' => e = .returned (.tuple #[.slice none 0 0, .int .i64 8]) ∧ Below w.heap.size w w' := by
  have H := Aside0.mk h
  clear h
  go_enter Try.func23, Try.ntmps23
  go_wp2_with fail
  refine (get_sno v s _ H.out).mono ?_
  rintro e w1 ⟨rfl, hb⟩
  have HB := Aside0.mk hb
  clear hb
  go_wp2
  go_ret2
  exact ⟨rfl, HB.out⟩
set_option maxHeartbeats 1600000 in
set_option maxRecDepth 100000 in
theorem Put_sno (v : Value) (s : ByteArray) (A : Option Addr) (n c : Nat) (w : World) (h : SNo v w) : Calls Try.prog 11 #[v, .string s, .slice A n c] w fun e w' => e = .returned (.tuple #[.slice none 0 0, .int .i64 8]) ∧ Below w.heap.size w w' := by
  have hb0 := below_alloc (Below.refl w.heap.size w) (.cells #[.slice A n c] 23 (0, 0))
  have H := Aside0.mk (h.step hb0)
  have HB0 := Aside0.mk hb0
  clear h hb0
  go_enter Try.func11, Try.ntmps11
  go_wp2_with fail
  refine (ready_sno v _ H.out).mono ?_
  rintro e w1 ⟨rfl, hb⟩
  have HB := Aside0.mk (below_step HB0.out hb)
  clear hb
  go_wp2
  go_ret2
  exact ⟨rfl, HB.out⟩
def provisolaw21_StoreNobody.f (a0 : ByteArray) (l1 : List Int) : Option Bool := if l1.length < 140737488355328 then some true else none
set_option maxHeartbeats 6400000 in
set_option maxRecDepth 100000 in
theorem provisolaw21_StoreNobody.calls (a0 : ByteArray) (A1 : Option Addr) (c1 : Nat) (l1 : List Int) (r : Bool) (w : World) (hr1 : Kd.C (Kd.int .u8) w A1 l1.length l1) (hc1 : l1.length ≤ c1) (h : provisolaw21_StoreNobody.f a0 l1 = some r) :
    Calls Try.prog 5 #[.string a0, .slice A1 l1.length c1] w fun e w' => e = .returned (.bool r) ∧ Below w.heap.size w w' := by
  obtain ⟨hlim, rfl⟩ : l1.length < 140737488355328 ∧ r = true := by
    unfold provisolaw21_StoreNobody.f at h
    split at h
    · rename_i h9
      exact ⟨h9, (Option.some.inj h).symm⟩
    · cases h
  have hclone : slices_Clone_byte_byte.f l1 = some l1 := by unfold slices_Clone_byte_byte.f; rw [if_pos hlim]
  have HCL := Aside0.mk hclone
  have HR := Aside0.mk hr1
  have HC := Aside0.mk hc1
  clear hclone hr1 hc1 h hlim
  go_enter Try.func5, Try.ntmps5
  go_wp2_with fail
  have h1 := blk_alloc (blk_new w (.cells #[.slice none 0 0, .map none, .bool false] 62)) (.cells #[.pointer none, .pointer (some ⟨w.heap.size, 0, none⟩)] 24)
  have h2 := blk_new (w.alloc (.cells #[.slice none 0 0, .map none, .bool false] 62)) (.cells #[.pointer none, .pointer (some ⟨w.heap.size, 0, none⟩)] 24)
  have hb := below_alloc (below_alloc (Below.refl w.heap.size w) (.cells #[.slice none 0 0, .map none, .bool false] 62)) (.cells #[.pointer none, .pointer (some ⟨w.heap.size, 0, none⟩)] 24)
  replace h2 : ((w.alloc (.cells #[.slice none 0 0, .map none, .bool false] 62)).alloc (.cells #[.pointer none, .pointer (some ⟨w.heap.size, 0, none⟩)] 24)).heap[w.heap.size + 1]? = some (.cells #[.pointer none, .pointer (some ⟨w.heap.size, 0, none⟩)] 24 (0, 0)) := by simpa using h2
  generalize (w.alloc (.cells #[.slice none 0 0, .map none, .bool false] 62)).alloc (.cells #[.pointer none, .pointer (some ⟨w.heap.size, 0, none⟩)] 24) = w3 at h1 h2 hb ⊢
  generalize hgz : w.heap.size = gz at h1 h2 ⊢
  generalize hgs : gz + 1 = gs at h2 ⊢
  have HB := Aside0.mk hb
  have HGZ := Aside0.mk h1
  have HGS := Aside0.mk h2
  clear h1 h2 hb hgs
  go_loopw [17] (fun v17 wr => ∃ i : Nat, v17 = .int .i64 (i : Int) ∧ i ≤ 2 ∧ Aside0 (Below w.heap.size w wr) ∧ Aside0 (wr.heap[gz]? = some (.cells #[.slice none 0 0, .map none, .bool false] 62 (0, 0))) ∧ Aside0 (wr.heap[gs]? = some (.cells #[.pointer none, .pointer (some ⟨gz, 0, none⟩)] 24 (0, 0)))) (fun v17 _ => (2 - intOf v17).toNat)
  case atStart => exact ⟨0, rfl, by decide, (by first | exact HB | (rw [hgz]; exact HB) | (rw [← hgz] at HB; exact HB)), HGZ, HGS⟩
  case round =>
    obtain ⟨i, rfl, hi, HB, HGZ, HGS⟩ := hrel
    by_cases c1 : i < 2
    · have c1b : decide ((i : Int) < 2) = true := decide_eq_true (by omega)
      have p1 : (0 ≤ (i : Int)) = True := eq_true (by omega)
      have p2 : ((i : Int) < 2) = True := eq_true (by omega)
      have HI : Aside0 (i < 2) := ⟨c1⟩
      obtain ⟨v, hv, hn⟩ : ∃ v, wr.cell? ⟨gs, i, none⟩ = some v ∧ SNo v wr := by
        obtain rfl | rfl : i = 0 ∨ i = 1 := by omega
        · exact ⟨_, blk_cell HGS.out 0, .inl rfl⟩
        · exact ⟨_, blk_cell HGS.out 1, .inr ⟨gz, rfl, HGZ.out⟩⟩
      have HN := Aside0.mk hn
      clear hn c1
      go_wp2_with fail
      clear hv
      refine (slices_Clone_byte_byte.calls A1 c1 l1 l1 _ (Kd.C_below HR.out HB.out) HC.out HCL.out).mono ?_
      rintro e_ w_ ⟨vb, rfl, hR, hb⟩
      obtain ⟨Ab, cb, rfl⟩ := Kd.R_slice hR
      replace HN := Aside0.mk (HN.out.step hb)
      replace HB := Aside0.mk (below_step HB.out hb)
      replace HGS := Aside0.mk (blk_below HGS.out hb)
      replace HGZ := Aside0.mk (blk_below HGZ.out hb)
      clear hb hR
      go_wp2_with fail
      refine (Put_sno v a0 Ab l1.length cb _ HN.out).mono ?_
      rintro e_ w_ ⟨rfl, hb⟩
      replace HN := Aside0.mk (HN.out.step hb)
      replace HB := Aside0.mk (below_step HB.out hb)
      replace HGS := Aside0.mk (blk_below HGS.out hb)
      replace HGZ := Aside0.mk (blk_below HGZ.out hb)
      clear hb
      go_wp2_with fail
      refine (Drop_sno v a0 _ HN.out).mono ?_
      rintro e_ w_ ⟨rfl, hb⟩
      replace HN := Aside0.mk (HN.out.step hb)
      replace HB := Aside0.mk (below_step HB.out hb)
      replace HGS := Aside0.mk (blk_below HGS.out hb)
      replace HGZ := Aside0.mk (blk_below HGZ.out hb)
      clear hb
      go_wp2_with fail
      refine (Get_sno v a0 _ HN.out).mono ?_
      rintro e_ w_ ⟨rfl, hb⟩
      replace HN := Aside0.mk (HN.out.step hb)
      replace HB := Aside0.mk (below_step HB.out hb)
      replace HGS := Aside0.mk (blk_below HGS.out hb)
      replace HGZ := Aside0.mk (blk_below HGZ.out hb)
      clear hb
      go_wp2_with fail
      refine (Image_sno v _ HN.out).mono ?_
      rintro e_ w_ ⟨rfl, hb⟩
      replace HN := Aside0.mk (HN.out.step hb)
      replace HB := Aside0.mk (below_step HB.out hb)
      replace HGS := Aside0.mk (blk_below HGS.out hb)
      replace HGZ := Aside0.mk (blk_below HGZ.out hb)
      clear hb
      go_wp2_with fail
      refine (Names_sno v _ HN.out).mono ?_
      rintro e_ w_ ⟨rfl, hb⟩
      replace HN := Aside0.mk (HN.out.step hb)
      replace HB := Aside0.mk (below_step HB.out hb)
      replace HGS := Aside0.mk (blk_below HGS.out hb)
      replace HGZ := Aside0.mk (blk_below HGZ.out hb)
      clear hb
      go_wp2_with fail
      refine (Pack_sno v _ HN.out).mono ?_
      rintro e_ w_ ⟨rfl, hb⟩
      replace HN := Aside0.mk (HN.out.step hb)
      replace HB := Aside0.mk (below_step HB.out hb)
      replace HGS := Aside0.mk (blk_below HGS.out hb)
      replace HGZ := Aside0.mk (blk_below HGZ.out hb)
      clear hb
      go_wp2
      exact ⟨⟨i + 1, rfl, HI.out, HB, HGZ, HGS⟩, by have := HI.out; simp [intOf]; omega⟩
    · have c1b : decide ((i : Int) < 2) = false := decide_eq_false (by omega)
      go_wp2
      go_ret
      exact ⟨rfl, HB.out⟩













end Go.Proofs.Ytfakdphkklclgaa.P

end

section
namespace Go.Proofs.Ytfakdphkklclgaa.P
open Go.RowKit Go.Proofs.YtfakdphkklclgaaW.PrintWords
def provisolaw21_StoreNobody.Pure : Prop := ∀ (a0 : ByteArray) (l1 : List (Int)), (fun s : ByteArray => s.size ≤ 140737488351232) a0 → (fun l : List (Int) => l.length ≤ 9223372036854775807 ∧ l.length * 1 ≤ 140737488351232 ∧ ∀ x ∈ l, (fun n : Int => (Lit.int .u8 n).wf = true) x) l1 → provisolaw21_StoreNobody.f a0 l1 = some true
end Go.Proofs.Ytfakdphkklclgaa.P

end

section
namespace Go.Proofs.Ytfakdphkklclgaa.Pure
open Go.RowKit Go.Proofs.Ytfakdphkklclgaa.P Go.Proofs.YtfakdphkklclgaaW.PrintWords
theorem StoreNobody : provisolaw21_StoreNobody.Pure := by
  intro a0 l1 _ h
  unfold provisolaw21_StoreNobody.f
  rw [if_pos (by have := h.2.1; omega)]
end Go.Proofs.Ytfakdphkklclgaa.Pure

end

section
namespace Go.Proofs.Ytfakdphkklclgaa.storeNobody
open Go.ChangeShapes Go.WideShapes Go.ChangeAt Go.RowKit Go.Proofs.YtfakdphkklclgaaW.PrintWords Go.Proofs.Ytfakdphkklclgaa.Sees Go.Proofs.Ytfakdphkklclgaa.P
open Go.ChangeMaps (open_string shut_string)
set_option linter.unusedVariables false
set_option linter.unusedSimpArgs false
theorem own : ownKnob Try.prog.godebug = none := by kernel_rfl
theorem laidOut : laidOutB Try.prog = true := by kernel_rfl
set_option maxRecDepth 100000 in
theorem lifted (os : Os) (started : os.Started) (H : Type) (enc : TypeId × Value → H) :
    ReturnsInHanded {} Try.checked os 5 .any (Rows.storeNobodySpec.pre6 enc Try.prog Try.f5 Rows.storeNobodyRow.domain false) (Rows.storeNobodySpec.post enc Try.prog Try.f5 false true false false) := by
  refine returnsInHanded_of_change_sized (C := Try.checked) own started (by kernel_rfl) Try.func5
    (ChangeSpec.witness6 (enc := enc) (C := Try.checked) false ⟨#[], #[.string ByteArray.empty, .slice none 0 0], []⟩ 8 (by kernel_rfl) (by kernel_rfl) (by kernel_rfl) (by kernel_rfl)) ?_
  intro W base args ds gs before hval0 hW hcnd hsz0 _
  have hsz : (DataW.weightsEach Try.prog (Try.f5.params.toList ++ Rows.storeNobodySpec.plain.varTypes Try.prog) (ds ++ gs)).all (· ≤ reachBytes) = true := hsz0
  have hval : ∀ (j : Nat) t v, Try.f5.params[j]? = some t → args[j]? = some v → Value.okWide Try.prog W .any base t v := hval0
  have hW' := hW
  obtain ⟨p, q, hA0, hV, rfl, hfz, hnd⟩ := hW
  have hA : DataW.TrodAll enc Try.prog W 0 (fun _ => true) true Try.f5.params.toList args.toList ds p := hA0
  rw [Try.params5] at hA hval hsz
  obtain ⟨v0, vs0, d0, ds0, p0, q0, hargs, rfl, rfl, h0, r0⟩ := trodAll_cons hA
  obtain ⟨v1, vs1, d1, ds1, p1, q1, rfl, rfl, rfl, h1, r1⟩ := trodAll_cons r0
  obtain ⟨rfl, rfl, rfl⟩ := trodAll_nil r1
  obtain rfl : args = #[v0, v1] := by cases args; simp_all
  obtain ⟨rfl, rfl⟩ := trodVars_none hV
  have k0 := h0
  have lt0 : ∀ x ∈ p0, x.block < W.heap.size := by obtain ⟨m, hm⟩ := k0; exact DataW.trod_lt m _ _ _ hm
  obtain ⟨y0, hy0, oy0⟩ := see_arg (j := 0) (t := 9) (sees_string Try.underlying9) hsz rfl rfl h0
  obtain ⟨z0, rfl, rfl, rfl, _⟩ := open_string Try.underlying9 (hval 0 9 v0 rfl rfl) h0
  obtain rfl : z0 = y0 := by have e_ := hy0; simp [Kd.int, Kd.bool, Kd.string, Kd.scalar, Value.cells] at e_; exact e_
  have k1 := h1
  have lt1 : ∀ x ∈ p1, x.block < W.heap.size := by obtain ⟨m, hm⟩ := k1; exact DataW.trod_lt m _ _ _ hm
  obtain ⟨y1, hy1, oy1⟩ := see_arg (j := 1) (t := 23) (sees_slice (B := 1) Try.underlying23 (by kernel_rfl) (by kernel_rfl) (sees_int Try.underlying5)) hsz rfl rfl h1
  obtain ⟨a1, len1, cap1, rfl⟩ := okWide_slice Try.underlying23 (hval 1 23 v1 rfl rfl)
  obtain ⟨rfl, hc1, hr1⟩ := see_slice rfl hy1
  clear hA0 hval0 hsz0 hsz
  have hk := Pure.StoreNobody z0 y1 oy0 oy1
  refine (provisolaw21_StoreNobody.calls z0 _ _ y1 true W hr1 hc1 hk).mono ?_
  rintro e W' ⟨rfl, bel0⟩
  have bel : Below W.heap.size W W' := bel0
  exact ⟨_, rfl, _, _, _, [], _, [], hW', trodAll_mk1 (shut_bool Try.underlying4 _), (trodAll_cons_mk (Below.trod laidOut (by kernel_rfl) (of_decide_eq_true (by kernel_rfl)) k0 bel lt0) (trodAll_cons_mk (Below.trod laidOut (by kernel_rfl) (of_decide_eq_true (by kernel_rfl)) k1 bel lt1) trodAll_mk0)), rfl, bel.frame _, fun h => by cases h⟩
theorem over : Rows.storeNobodyRow.holds Try.pinned (OpenSpec.ofChange Rows.storeNobodySpec) :=
  OpenClaim.holds_of_wide 5 Try.f5 rfl rfl rfl rfl rfl rfl rfl ⟨rfl, rfl, rfl, rfl, rfl⟩ rfl rfl rfl rfl rfl (by kernel_rfl) Try.func5 (by kernel_rfl)
    (of_decide_eq_true (by kernel_rfl)) (by unfold Func.isWrapper; first | (rw [if_pos (by decide +kernel)]; kernel_rfl) | (rw [if_neg (by decide +kernel)]; exact ⟨rfl, rfl⟩))
    (fun os started H enc _ => lifted os started H enc)
theorem proved : Rows.StoreNobodySaid := over
end Go.Proofs.Ytfakdphkklclgaa.storeNobody
namespace Go.Proofs.Ytfakdphkklclgaa
theorem storeNobody_holds : Rows.StoreNobodySaid := storeNobody.proved
end Go.Proofs.Ytfakdphkklclgaa

end

