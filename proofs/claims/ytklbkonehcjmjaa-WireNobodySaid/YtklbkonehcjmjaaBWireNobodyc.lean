/- Proved: the law WireNobody holds for every input that the row lets in. No condition of ours. -/
import Derived.Test.YtklbkonehcjmjaaBWireNobodyb
import Derived.Test.YtklbkonehcjmjaaProg
import Derived.WalkSpells
import Derived.Test.YtklbkonehcjmjaaRows
import Derived.ShutString
import Derived.ChangeOld
import Derived.Lib.SmallJoins
section
namespace Go.Proofs.Ytklbkonehcjmjaa.P
open Go.RowKit Go.Proofs.YtklbkonehcjmjaaW.PrintWords Go.Proofs.YtklbkonehcjmjaaW.PrintLast Go.Proofs.YtklbkonehcjmjaaW.PrintMore
attribute [local go_sem] max2_int min2_int max_two min_two max_three min_three max_four min_four   -- for this text's walks alone
set_option linter.unusedVariables false
set_option linter.unusedSimpArgs false



theorem info5 : (Try.prog.info? 5).map (fun i => (i.zero, i.size, i.bytes)) = some (some (.int .u8 0), 1, 1) := by kernel_rfl
end Go.Proofs.Ytklbkonehcjmjaa.P

end

section
namespace Go.Proofs.Ytklbkonehcjmjaa.P
open Go.RowKit Go.Proofs.YtklbkonehcjmjaaW.PrintWords Go.Proofs.YtklbkonehcjmjaaW.PrintLast Go.Proofs.YtklbkonehcjmjaaW.PrintMore
attribute [local go_sem] max2_int min2_int max_two min_two max_three min_three max_four min_four   -- for this text's walks alone
set_option linter.unusedVariables false
set_option linter.unusedSimpArgs false

def slices_Clone_byte_byte.f (l0 : List Int) : Option (List Int) := if l0.length < 140737488355328 then some l0 else none
set_option maxHeartbeats 800000 in
set_option maxRecDepth 100000 in
theorem slices_Clone_byte_byte.calls (A0 : Option Addr) (c0 : Nat) (l0 : List Int) (r : List Int) (w : World) (hr0 : Kd.C (Kd.int .u8) w A0 l0.length l0) (hc0 : l0.length ≤ c0) (h : slices_Clone_byte_byte.f l0 = some r) :
    Calls Try.prog 17 #[.slice A0 l0.length c0] w fun e w' => ∃ v0_ : Value, e = .returned v0_ ∧ Kd.R (Kd.int .u8) 5 w' w.heap.size (fun _ => True) v0_ r ∧ Below w.heap.size w w' := by
  obtain ⟨hlim, rfl⟩ : l0.length < 140737488355328 ∧ r = l0 := by
    unfold slices_Clone_byte_byte.f at h
    split at h
    · rename_i h9
      exact ⟨h9, (Option.some.inj h).symm⟩
    · cases h
  have hnil := Lib.run_eql_slice_nil (P := Try.prog) (h := Try.underlying23)
  have HR := Aside0.mk hr0
  have HL := Aside0.mk hlim
  cases A0 with
  | none =>
    have e0 : r = [] := by
      rcases Nat.eq_zero_or_pos r.length with h0 | h0
      · exact List.length_eq_zero_iff.1 h0
      · obtain ⟨ad, e, _⟩ := hr0.2.2 h0
        cases e
    have E0 := Aside0.mk e0
    clear h hr0 hlim e0
    go_enter Try.func17, Try.ntmps17
    go_wp2
    go_ret
    refine ⟨_, rfl, ?_, Below.refl _ _⟩
    rw [E0.out]
    exact Kd.R_nil _ _ _ _ _
  | some ad =>
    clear h hr0 hlim
    go_enter Try.func17, Try.ntmps17
    go_wp2_with (first | ((with_reducible refine gate_dst (N := 5) rfl ?_); refine Kd.R_lit (Kd.int .u8) _ 5 ?hg (N := 5) ?hd (xs := ([] : List Int)) (inner := []) (ok := fun _ => True) (okp := fun _ => True) ?hr ?hp (fun _ hk => hk) trivial (Below.refl _ _) (Nat.le_refl _) (by simp) ?_; (case hd => rfl); (case hg => rfl); (case hr => first | (go_simp; done) | (go_simp; rfl)); (case hp => exact (Reps.none _ _)); intro v1 w1 ho1 hb1 _ _; have n1 := Aside0.mk ho1; have n2 := Aside0.mk hb1; clear ho1 hb1; obtain ⟨A1, c1, e1⟩ := Kd.R_slice n1.out; subst e1) | ((with_reducible refine gate_builtin (b := .append) (xs := #[.tmp 5, .tmp 6]) rfl ?_); at_builtin; refine Kd.R_append_rows (Kd.int .u8) (w0 := w) w.heap.size rfl (.tmp 5) (.tmp 6) 23 5 (.int .u8 0) 1 rfl Try.underlying23 info5 rfl (by decide) (by omega) (.slice A1 (([] : List Int)).length c1) ([] : List Int) r _ _ _ (fun _ => True) (fun _ => False) rfl rfl ?aO ?aR (fun _ _ h => h) (fun _ h => h.elim) ?aF ?aB ?aS ?aL ?_; (case aR => exact Kd.C_below HR.out n2.out); (case aB => exact n2.out); (case aF => exact (fun _ _ => trivial)); (case aO => exact n1.out); (case aS => exact n2.out.size); (case aL => have h9 := HL.out; simp only [List.length_nil]; omega); intro v2 w2 ho2 hb2 _ _; have n3 := Aside0.mk ho2; have n4 := Aside0.mk hb2; clear ho2 hb2))
    go_ret
    exact ⟨_, rfl, n3.out, n4.out⟩




end Go.Proofs.Ytklbkonehcjmjaa.P

end

section
namespace Go.Proofs.Ytklbkonehcjmjaa.P
open Go.RowKit Go.Proofs.YtklbkonehcjmjaaW.PrintWords Go.Proofs.YtklbkonehcjmjaaW.PrintLast Go.Proofs.YtklbkonehcjmjaaW.PrintMore
attribute [local go_sem] max2_int min2_int max_two min_two max_three min_three max_four min_four   -- for this text's walks alone
set_option linter.unusedVariables false
set_option linter.unusedSimpArgs false

def RNo (v : Value) (W : World) : Prop := v = .pointer none ∨ ∃ g, v = .pointer (some ⟨g, 0, none⟩) ∧ W.heap[g]? = some (.cells #[.slice none 0 0, .int .i64 0, .bool false] 79 (0, 0))
def WNo (v : Value) (W : World) : Prop := v = .pointer none ∨ ∃ g, v = .pointer (some ⟨g, 0, none⟩) ∧ W.heap[g]? = some (.cells #[.slice none 0 0, .bool false] 81 (0, 0))
theorem RNo.drewN {v : Value} {W : World} (h : RNo v W) (m : Nat) : RNo v (W.drewN m) := by
  rcases h with h | ⟨g, h1, h2⟩
  · exact .inl h
  · exact .inr ⟨g, h1, blk_drewN h2 m⟩
theorem WNo.drewN {v : Value} {W : World} (h : WNo v W) (m : Nat) : WNo v (W.drewN m) := by
  rcases h with h | ⟨g, h1, h2⟩
  · exact .inl h
  · exact .inr ⟨g, h1, blk_drewN h2 m⟩
set_option maxHeartbeats 800000 in
set_option maxRecDepth 100000 in
theorem ready_rno (v : Value) (w : World) (h : RNo v w) : Calls Try.prog 45 #[v] w fun e w' => e = .returned (.bool false) ∧ Drawn0 w w' := by
  rcases h with rfl | ⟨g, rfl, hg⟩
  · go_enter Try.func45, Try.ntmps45
    go_wp2
    go_ret
    exact ⟨rfl, 0, rfl⟩
  · have hc := blk_cell hg 2
    clear hg
    go_enter Try.func45, Try.ntmps45
    go_wp2
    go_ret
    exact ⟨rfl, 0, rfl⟩
set_option maxHeartbeats 800000 in
set_option maxRecDepth 100000 in
theorem ready_wno (v : Value) (w : World) (h : WNo v w) : Calls Try.prog 53 #[v] w fun e w' => e = .returned (.bool false) ∧ Drawn0 w w' := by
  rcases h with rfl | ⟨g, rfl, hg⟩
  · go_enter Try.func53, Try.ntmps53
    go_wp2
    go_ret
    exact ⟨rfl, 0, rfl⟩
  · have hc := blk_cell hg 1
    clear hg
    go_enter Try.func53, Try.ntmps53
    go_wp2
    go_ret
    exact ⟨rfl, 0, rfl⟩
set_option maxHeartbeats 800000 in
set_option maxRecDepth 100000 in
theorem next_rno (v : Value) (n : Int) (w : World) (h : RNo v w) : Calls Try.prog 46 #[v, .int .i64 n] w fun e w' => e = .returned (.tuple #[.slice none 0 0, .int .i64 8]) ∧ Drawn0 w w' := by
  have H := Aside0.mk h
  clear h
  go_enter Try.func46, Try.ntmps46
  go_wp2_with fail
  refine (ready_rno v w H.out).mono ?_
  rintro e w1 ⟨rfl, m, rfl⟩
  go_wp2
  go_ret2
  exact ⟨rfl, m, rfl⟩
set_option maxHeartbeats 800000 in
set_option maxRecDepth 100000 in
theorem number_rno (v : Value) (n : Int) (w : World) (h : RNo v w) : Calls Try.prog 47 #[v, .int .i64 n] w fun e w' => e = .returned (.tuple #[.int .u32 0, .int .i64 8]) ∧ Drawn0 w w' := by
  have H := Aside0.mk h
  clear h
  go_enter Try.func47, Try.ntmps47
  go_wp2_with fail
  refine (next_rno v n w H.out).mono ?_
  rintro e w1 ⟨rfl, m, rfl⟩
  go_wp2
  go_loopw [8, 19] (fun v8 v19 wr => v8 = .int .u32 0 ∧ v19 = .int .i64 0 ∧ wr = w.drewN m) (fun _ _ _ => 0)
  case atStart => exact ⟨rfl, rfl, rfl⟩
  obtain ⟨rfl, rfl, rfl⟩ := hrel
  go_wp2
  go_ret2
  exact ⟨rfl, m, rfl⟩
set_option maxHeartbeats 800000 in
set_option maxRecDepth 100000 in
theorem Byte_rno (v : Value) (w : World) (h : RNo v w) : Calls Try.prog 23 #[v] w fun e w' => e = .returned (.tuple #[.int .i64 0, .int .i64 8]) ∧ Drawn0 w w' := by
  have H := Aside0.mk h
  clear h
  go_enter Try.func23, Try.ntmps23
  go_wp2_with fail
  refine (number_rno v 1 w H.out).mono ?_
  rintro e w1 ⟨rfl, m, rfl⟩
  go_wp2
  go_ret2
  exact ⟨rfl, m, rfl⟩
set_option maxHeartbeats 800000 in
set_option maxRecDepth 100000 in
theorem Word_rno (v : Value) (w : World) (h : RNo v w) : Calls Try.prog 60 #[v] w fun e w' => e = .returned (.tuple #[.int .i64 0, .int .i64 8]) ∧ Drawn0 w w' := by
  have H := Aside0.mk h
  clear h
  go_enter Try.func60, Try.ntmps60
  go_wp2_with fail
  refine (number_rno v 2 w H.out).mono ?_
  rintro e w1 ⟨rfl, m, rfl⟩
  go_wp2
  go_ret2
  exact ⟨rfl, m, rfl⟩
set_option maxHeartbeats 800000 in
set_option maxRecDepth 100000 in
theorem Long_rno (v : Value) (w : World) (h : RNo v w) : Calls Try.prog 61 #[v] w fun e w' => e = .returned (.tuple #[.int .i64 0, .int .i64 8]) ∧ Drawn0 w w' := by
  have H := Aside0.mk h
  clear h
  go_enter Try.func61, Try.ntmps61
  go_wp2_with fail
  refine (number_rno v 4 w H.out).mono ?_
  rintro e w1 ⟨rfl, m, rfl⟩
  go_wp2
  go_ret2
  exact ⟨rfl, m, rfl⟩
set_option maxHeartbeats 800000 in
set_option maxRecDepth 100000 in
theorem Take_rno (v : Value) (n : Int) (w : World) (h : RNo v w) : Calls Try.prog 30 #[v, .int .i64 n] w fun e w' => e = .returned (.tuple #[.slice none 0 0, .int .i64 8]) ∧ Drawn0 w w' := by
  have H := Aside0.mk h
  clear h
  go_enter Try.func30, Try.ntmps30
  go_wp2_with fail
  refine (next_rno v n w H.out).mono ?_
  rintro e w1 ⟨rfl, m, rfl⟩
  go_wp2
  go_ret2
  exact ⟨rfl, m, rfl⟩
set_option maxHeartbeats 800000 in
set_option maxRecDepth 100000 in
theorem Name_rno (v : Value) (w : World) (h : RNo v w) : Calls Try.prog 63 #[v] w fun e w' => e = .returned (.tuple #[.string ⟨#[]⟩, .int .i64 8]) ∧ Drawn0 w w' := by
  have H := Aside0.mk h
  clear h
  go_enter Try.func63, Try.ntmps63
  go_wp2_with fail
  refine (ready_rno v w H.out).mono ?_
  rintro e w1 ⟨rfl, m, rfl⟩
  go_wp2
  go_ret2
  exact ⟨rfl, m, rfl⟩
set_option maxHeartbeats 800000 in
set_option maxRecDepth 100000 in
theorem Within_rno (v : Value) (n : Int) (w : World) (h : RNo v w) : Calls Try.prog 22 #[v, .int .i64 n] w fun e w' => e = .returned (.tuple #[.pointer none, .int .i64 8]) ∧ Drawn0 w w' := by
  have H := Aside0.mk h
  clear h
  go_enter Try.func22, Try.ntmps22
  go_wp2_with fail
  refine (next_rno v n w H.out).mono ?_
  rintro e w1 ⟨rfl, m, rfl⟩
  go_wp2
  go_ret2
  exact ⟨rfl, m, rfl⟩
set_option maxHeartbeats 800000 in
set_option maxRecDepth 100000 in
theorem End_rno (v : Value) (w : World) (h : RNo v w) : Calls Try.prog 24 #[v] w fun e w' => e = .returned (.int .i64 8) ∧ Drawn0 w w' := by
  have H := Aside0.mk h
  clear h
  go_enter Try.func24, Try.ntmps24
  go_wp2_with fail
  refine (ready_rno v w H.out).mono ?_
  rintro e w1 ⟨rfl, m, rfl⟩
  go_wp2
  go_ret
  exact ⟨rfl, m, rfl⟩
set_option maxHeartbeats 800000 in
set_option maxRecDepth 100000 in
theorem At_rno (v : Value) (w : World) (h : RNo v w) : Calls Try.prog 20 #[v] w fun e w' => e = .returned (.int .i64 0) ∧ Drawn0 w w' := by
  have H := Aside0.mk h
  clear h
  go_enter Try.func20, Try.ntmps20
  go_wp2_with fail
  refine (ready_rno v w H.out).mono ?_
  rintro e w1 ⟨rfl, m, rfl⟩
  go_wp2
  go_ret
  exact ⟨rfl, m, rfl⟩
set_option maxHeartbeats 800000 in
set_option maxRecDepth 100000 in
theorem Left_rno (v : Value) (w : World) (h : RNo v w) : Calls Try.prog 21 #[v] w fun e w' => e = .returned (.int .i64 0) ∧ Drawn0 w w' := by
  have H := Aside0.mk h
  clear h
  go_enter Try.func21, Try.ntmps21
  go_wp2_with fail
  refine (ready_rno v w H.out).mono ?_
  rintro e w1 ⟨rfl, m, rfl⟩
  go_wp2
  go_ret
  exact ⟨rfl, m, rfl⟩
set_option maxHeartbeats 800000 in
set_option maxRecDepth 100000 in
theorem number_wno (v : Value) (n a b c : Int) (w : World) (h : WNo v w) : Calls Try.prog 58 #[v, .int .i64 n, .int .i64 a, .int .i64 b, .int .i64 c] w fun e w' => e = .returned (.int .i64 8) ∧ Drawn0 w w' := by
  have H := Aside0.mk h
  clear h
  go_enter Try.func58, Try.ntmps58
  go_wp2_with fail
  refine (ready_wno v w H.out).mono ?_
  rintro e w1 ⟨rfl, m, rfl⟩
  go_wp2
  go_ret
  exact ⟨rfl, m, rfl⟩
set_option maxHeartbeats 800000 in
set_option maxRecDepth 100000 in
theorem Byte_wno (v : Value) (n : Int) (w : World) (h : WNo v w) : Calls Try.prog 36 #[v, .int .i64 n] w fun e w' => e = .returned (.int .i64 8) ∧ Drawn0 w w' := by
  have H := Aside0.mk h
  clear h
  go_enter Try.func36, Try.ntmps36
  go_wp2_with fail
  refine (number_wno v n 0 255 1 w H.out).mono ?_
  rintro e w1 ⟨rfl, m, rfl⟩
  go_wp2
  go_ret
  exact ⟨rfl, m, rfl⟩
set_option maxHeartbeats 800000 in
set_option maxRecDepth 100000 in
theorem Word_wno (v : Value) (n : Int) (w : World) (h : WNo v w) : Calls Try.prog 39 #[v, .int .i64 n] w fun e w' => e = .returned (.int .i64 8) ∧ Drawn0 w w' := by
  have H := Aside0.mk h
  clear h
  go_enter Try.func39, Try.ntmps39
  go_wp2_with fail
  refine (number_wno v n 0 65535 2 w H.out).mono ?_
  rintro e w1 ⟨rfl, m, rfl⟩
  go_wp2
  go_ret
  exact ⟨rfl, m, rfl⟩
set_option maxHeartbeats 800000 in
set_option maxRecDepth 100000 in
theorem Long_wno (v : Value) (n : Int) (w : World) (h : WNo v w) : Calls Try.prog 40 #[v, .int .i64 n] w fun e w' => e = .returned (.int .i64 8) ∧ Drawn0 w w' := by
  have H := Aside0.mk h
  clear h
  go_enter Try.func40, Try.ntmps40
  go_wp2_with fail
  refine (number_wno v n (-2147483648) 2147483647 4 w H.out).mono ?_
  rintro e w1 ⟨rfl, m, rfl⟩
  go_wp2
  go_ret
  exact ⟨rfl, m, rfl⟩
set_option maxHeartbeats 800000 in
set_option maxRecDepth 100000 in
theorem Put_wno (v : Value) (u : Value) (w : World) (h : WNo v w) : Calls Try.prog 33 #[v, u] w fun e w' => e = .returned (.int .i64 8) ∧ Drawn0 w w' := by
  have H := Aside0.mk h
  clear h
  go_enter Try.func33, Try.ntmps33
  go_wp2_with fail
  refine (ready_wno v w H.out).mono ?_
  rintro e w1 ⟨rfl, m, rfl⟩
  go_wp2
  go_ret
  exact ⟨rfl, m, rfl⟩
set_option maxHeartbeats 800000 in
set_option maxRecDepth 100000 in
theorem Name_wno (v : Value) (s : ByteArray) (w : World) (h : WNo v w) : Calls Try.prog 41 #[v, .string s] w fun e w' => e = .returned (.int .i64 8) ∧ Drawn0 w w' := by
  have H := Aside0.mk h
  clear h
  go_enter Try.func41, Try.ntmps41
  go_wp2_with fail
  refine (ready_wno v w H.out).mono ?_
  rintro e w1 ⟨rfl, m, rfl⟩
  go_wp2
  go_ret
  exact ⟨rfl, m, rfl⟩
set_option maxHeartbeats 800000 in
set_option maxRecDepth 100000 in
theorem Patch_wno (v : Value) (a b : Int) (w : World) (h : WNo v w) : Calls Try.prog 51 #[v, .int .i64 a, .int .i64 b] w fun e w' => e = .returned (.int .i64 8) ∧ Drawn0 w w' := by
  have H := Aside0.mk h
  clear h
  go_enter Try.func51, Try.ntmps51
  go_wp2_with fail
  refine (ready_wno v w H.out).mono ?_
  rintro e w1 ⟨rfl, m, rfl⟩
  go_wp2
  go_ret
  exact ⟨rfl, m, rfl⟩
set_option maxHeartbeats 800000 in
set_option maxRecDepth 100000 in
theorem Len_wno (v : Value) (w : World) (h : WNo v w) : Calls Try.prog 27 #[v] w fun e w' => e = .returned (.int .i64 0) ∧ Drawn0 w w' := by
  have H := Aside0.mk h
  clear h
  go_enter Try.func27, Try.ntmps27
  go_wp2_with fail
  refine (ready_wno v w H.out).mono ?_
  rintro e w1 ⟨rfl, m, rfl⟩
  go_wp2
  go_ret
  exact ⟨rfl, m, rfl⟩
set_option maxHeartbeats 800000 in
set_option maxRecDepth 100000 in
theorem Bytes_wno (v : Value) (w : World) (h : WNo v w) : Calls Try.prog 29 #[v] w fun e w' => e = .returned (.slice none 0 0) ∧ Drawn0 w w' := by
  have H := Aside0.mk h
  clear h
  go_enter Try.func29, Try.ntmps29
  go_wp2_with fail
  refine (ready_wno v w H.out).mono ?_
  rintro e w1 ⟨rfl, m, rfl⟩
  go_wp2
  go_ret
  exact ⟨rfl, m, rfl⟩
theorem none_step {w w1 : World} (h : Drawn0 w w1) (m : Nat) : Drawn0 w (w1.drewN m) := by
  obtain ⟨n, rfl⟩ := h
  exact ⟨n + m, World.drewN_drewN _ _ _⟩
set_option maxHeartbeats 3200000 in
set_option maxRecDepth 100000 in
theorem nobody_calls (r u : Value) (n : Int) (s : ByteArray) (b : Value) (w : World) (hr : RNo r w) (hu : WNo u w) : Calls Try.prog 43 #[r, u, .int .i64 n, .string s, b] w fun e w' => e = .returned (.bool true) ∧ Drawn0 w w' := by
  have HR := Aside0.mk hr
  have HU := Aside0.mk hu
  have HD : Aside0 (Drawn0 w w) := ⟨⟨0, rfl⟩⟩
  clear hr hu
  go_enter Try.func43, Try.ntmps43
  go_wp2_with fail
  refine (Byte_rno r w HR.out).mono ?_
  rintro e w9 ⟨rfl, m, rfl⟩
  replace HR := Aside0.mk (HR.out.drewN m)
  replace HU := Aside0.mk (HU.out.drewN m)
  replace HD := Aside0.mk (none_step HD.out m)
  generalize w.drewN m = w1 at HR HU HD ⊢
  clear m
  go_wp2_with fail
  refine (Word_rno r w1 HR.out).mono ?_
  rintro e w9 ⟨rfl, m, rfl⟩
  replace HR := Aside0.mk (HR.out.drewN m)
  replace HU := Aside0.mk (HU.out.drewN m)
  replace HD := Aside0.mk (none_step HD.out m)
  generalize w1.drewN m = w2 at HR HU HD ⊢
  clear m
  go_wp2_with fail
  refine (Long_rno r w2 HR.out).mono ?_
  rintro e w9 ⟨rfl, m, rfl⟩
  replace HR := Aside0.mk (HR.out.drewN m)
  replace HU := Aside0.mk (HU.out.drewN m)
  replace HD := Aside0.mk (none_step HD.out m)
  generalize w2.drewN m = w3 at HR HU HD ⊢
  clear m
  go_wp2_with fail
  refine (Take_rno r n w3 HR.out).mono ?_
  rintro e w9 ⟨rfl, m, rfl⟩
  replace HR := Aside0.mk (HR.out.drewN m)
  replace HU := Aside0.mk (HU.out.drewN m)
  replace HD := Aside0.mk (none_step HD.out m)
  generalize w3.drewN m = w4 at HR HU HD ⊢
  clear m
  go_wp2_with fail
  refine (Name_rno r w4 HR.out).mono ?_
  rintro e w9 ⟨rfl, m, rfl⟩
  replace HR := Aside0.mk (HR.out.drewN m)
  replace HU := Aside0.mk (HU.out.drewN m)
  replace HD := Aside0.mk (none_step HD.out m)
  generalize w4.drewN m = w5 at HR HU HD ⊢
  clear m
  go_wp2_with fail
  refine (Within_rno r n w5 HR.out).mono ?_
  rintro e w9 ⟨rfl, m, rfl⟩
  replace HR := Aside0.mk (HR.out.drewN m)
  replace HU := Aside0.mk (HU.out.drewN m)
  replace HD := Aside0.mk (none_step HD.out m)
  generalize w5.drewN m = w6 at HR HU HD ⊢
  clear m
  go_wp2_with fail
  refine (End_rno r w6 HR.out).mono ?_
  rintro e w9 ⟨rfl, m, rfl⟩
  replace HR := Aside0.mk (HR.out.drewN m)
  replace HU := Aside0.mk (HU.out.drewN m)
  replace HD := Aside0.mk (none_step HD.out m)
  generalize w6.drewN m = w7 at HR HU HD ⊢
  clear m
  go_wp2_with fail
  refine (At_rno r w7 HR.out).mono ?_
  rintro e w9 ⟨rfl, m, rfl⟩
  replace HR := Aside0.mk (HR.out.drewN m)
  replace HU := Aside0.mk (HU.out.drewN m)
  replace HD := Aside0.mk (none_step HD.out m)
  generalize w7.drewN m = w8 at HR HU HD ⊢
  clear m
  go_wp2_with fail
  refine (Left_rno r w8 HR.out).mono ?_
  rintro e w9 ⟨rfl, m, rfl⟩
  replace HR := Aside0.mk (HR.out.drewN m)
  replace HU := Aside0.mk (HU.out.drewN m)
  replace HD := Aside0.mk (none_step HD.out m)
  generalize w8.drewN m = w9 at HR HU HD ⊢
  clear m
  go_wp2_with fail
  refine (Byte_wno u n w9 HU.out).mono ?_
  rintro e w9 ⟨rfl, m, rfl⟩
  replace HR := Aside0.mk (HR.out.drewN m)
  replace HU := Aside0.mk (HU.out.drewN m)
  replace HD := Aside0.mk (none_step HD.out m)
  generalize w9.drewN m = w10 at HR HU HD ⊢
  clear m
  go_wp2_with fail
  refine (Word_wno u n w10 HU.out).mono ?_
  rintro e w9 ⟨rfl, m, rfl⟩
  replace HR := Aside0.mk (HR.out.drewN m)
  replace HU := Aside0.mk (HU.out.drewN m)
  replace HD := Aside0.mk (none_step HD.out m)
  generalize w10.drewN m = w11 at HR HU HD ⊢
  clear m
  go_wp2_with fail
  refine (Long_wno u n w11 HU.out).mono ?_
  rintro e w9 ⟨rfl, m, rfl⟩
  replace HR := Aside0.mk (HR.out.drewN m)
  replace HU := Aside0.mk (HU.out.drewN m)
  replace HD := Aside0.mk (none_step HD.out m)
  generalize w11.drewN m = w12 at HR HU HD ⊢
  clear m
  go_wp2_with fail
  refine (Put_wno u b w12 HU.out).mono ?_
  rintro e w9 ⟨rfl, m, rfl⟩
  replace HR := Aside0.mk (HR.out.drewN m)
  replace HU := Aside0.mk (HU.out.drewN m)
  replace HD := Aside0.mk (none_step HD.out m)
  generalize w12.drewN m = w13 at HR HU HD ⊢
  clear m
  go_wp2_with fail
  refine (Name_wno u s w13 HU.out).mono ?_
  rintro e w9 ⟨rfl, m, rfl⟩
  replace HR := Aside0.mk (HR.out.drewN m)
  replace HU := Aside0.mk (HU.out.drewN m)
  replace HD := Aside0.mk (none_step HD.out m)
  generalize w13.drewN m = w14 at HR HU HD ⊢
  clear m
  go_wp2_with fail
  refine (Patch_wno u n n w14 HU.out).mono ?_
  rintro e w9 ⟨rfl, m, rfl⟩
  replace HR := Aside0.mk (HR.out.drewN m)
  replace HU := Aside0.mk (HU.out.drewN m)
  replace HD := Aside0.mk (none_step HD.out m)
  generalize w14.drewN m = w15 at HR HU HD ⊢
  clear m
  go_wp2_with fail
  refine (Len_wno u w15 HU.out).mono ?_
  rintro e w9 ⟨rfl, m, rfl⟩
  replace HR := Aside0.mk (HR.out.drewN m)
  replace HU := Aside0.mk (HU.out.drewN m)
  replace HD := Aside0.mk (none_step HD.out m)
  generalize w15.drewN m = w16 at HR HU HD ⊢
  clear m
  go_wp2_with fail
  refine (Bytes_wno u w16 HU.out).mono ?_
  rintro e w9 ⟨rfl, m, rfl⟩
  replace HR := Aside0.mk (HR.out.drewN m)
  replace HU := Aside0.mk (HU.out.drewN m)
  replace HD := Aside0.mk (none_step HD.out m)
  generalize w16.drewN m = w17 at HR HU HD ⊢
  clear m
  go_wp2
  go_ret
  exact ⟨rfl, HD.out⟩
def provisolaw01_WireNobody.f (a0 : Int) (a1 : ByteArray) (l2 : List Int) : Option Bool := if l2.length < 140737488355328 then some true else none
set_option maxHeartbeats 1600000 in
set_option maxRecDepth 100000 in
theorem provisolaw01_WireNobody.calls (a0 : Int) (a1 : ByteArray) (A2 : Option Addr) (c2 : Nat) (l2 : List Int) (r : Bool) (w : World) (hr2 : Kd.C (Kd.int .u8) w A2 l2.length l2) (hc2 : l2.length ≤ c2) (h : provisolaw01_WireNobody.f a0 a1 l2 = some r) :
    Calls Try.prog 10 #[.int .i64 a0, .string a1, .slice A2 l2.length c2] w fun e w' => e = .returned (.bool r) ∧ Below w.heap.size w w' := by
  obtain ⟨hlim, rfl⟩ : l2.length < 140737488355328 ∧ r = true := by
    unfold provisolaw01_WireNobody.f at h
    split at h
    · rename_i h9
      exact ⟨h9, (Option.some.inj h).symm⟩
    · cases h
  have hclone : slices_Clone_byte_byte.f l2 = some l2 := by unfold slices_Clone_byte_byte.f; rw [if_pos hlim]
  have HCL := Aside0.mk hclone
  have HR := Aside0.mk hr2
  have HC := Aside0.mk hc2
  clear hclone h hlim hr2 hc2
  go_enter Try.func10, Try.ntmps10
  go_wp2_with fail
  refine (slices_Clone_byte_byte.calls A2 c2 l2 l2 w HR.out HC.out HCL.out).mono ?_
  rintro e w1 ⟨v1, rfl, _, hb⟩
  have HB := Aside0.mk hb
  clear hb
  go_wp2_with fail
  refine (nobody_calls _ _ _ _ _ w1 (.inl rfl) (.inl rfl)).mono ?_
  rintro e w2 ⟨rfl, m, rfl⟩
  replace HB := Aside0.mk (pw_below_drewN HB.out m)
  generalize w1.drewN m = w2 at HB ⊢
  go_wp2_with fail
  have h1 := blk_alloc (blk_new w2 (.cells #[.slice none 0 0, .int .i64 0, .bool false] 79)) (.cells #[.slice none 0 0, .bool false] 81)
  have h2 := blk_new (w2.alloc (.cells #[.slice none 0 0, .int .i64 0, .bool false] 79)) (.cells #[.slice none 0 0, .bool false] 81)
  have hb := below_alloc (below_alloc HB.out (.cells #[.slice none 0 0, .int .i64 0, .bool false] 79)) (.cells #[.slice none 0 0, .bool false] 81)
  replace h2 : ((w2.alloc (.cells #[.slice none 0 0, .int .i64 0, .bool false] 79)).alloc (.cells #[.slice none 0 0, .bool false] 81)).heap[w2.heap.size + 1]? = some (.cells #[.slice none 0 0, .bool false] 81 (0, 0)) := by simpa using h2
  generalize (w2.alloc (.cells #[.slice none 0 0, .int .i64 0, .bool false] 79)).alloc (.cells #[.slice none 0 0, .bool false] 81) = w3 at h1 h2 hb ⊢
  refine (slices_Clone_byte_byte.calls A2 c2 l2 l2 w3 (Kd.C_below HR.out hb) HC.out HCL.out).mono ?_
  rintro e w4 ⟨v4, rfl, _, hb4⟩
  have H1 := Aside0.mk (blk_below h1 hb4)
  have H2 := Aside0.mk (blk_below h2 hb4)
  clear HB
  have HB := Aside0.mk (below_step hb hb4)
  clear h1 h2 hb hb4
  go_wp2_with fail
  refine (nobody_calls _ _ _ _ _ w4 (.inr ⟨_, rfl, H1.out⟩) (.inr ⟨_, rfl, H2.out⟩)).mono ?_
  rintro e w5 ⟨rfl, m, rfl⟩
  go_wp2
  go_ret
  exact ⟨rfl, pw_below_drewN HB.out m⟩

end Go.Proofs.Ytklbkonehcjmjaa.P

end

section
namespace Go.Proofs.Ytklbkonehcjmjaa.P
open Go.RowKit Go.Proofs.YtklbkonehcjmjaaW.PrintWords
def provisolaw01_WireNobody.Pure : Prop := ∀ (a0 : Int) (a1 : ByteArray) (l2 : List (Int)), (fun n : Int => (Lit.int .i64 n).wf = true) a0 → (fun s : ByteArray => s.size ≤ 140737488351232) a1 → (fun l : List (Int) => l.length ≤ 9223372036854775807 ∧ l.length * 1 ≤ 140737488351232 ∧ ∀ x ∈ l, (fun n : Int => (Lit.int .u8 n).wf = true) x) l2 → provisolaw01_WireNobody.f a0 a1 l2 = some true
end Go.Proofs.Ytklbkonehcjmjaa.P

end

section
namespace Go.Proofs.Ytklbkonehcjmjaa.Pure
open Go.RowKit Go.Proofs.Ytklbkonehcjmjaa.P Go.Proofs.YtklbkonehcjmjaaW.PrintWords
theorem WireNobody : provisolaw01_WireNobody.Pure := by
  intro a0 a1 l2 _ _ h
  unfold provisolaw01_WireNobody.f
  rw [if_pos (by have := h.2.1; omega)]
end Go.Proofs.Ytklbkonehcjmjaa.Pure

end

section
namespace Go.Proofs.Ytklbkonehcjmjaa.wireNobody
open Go.ChangeShapes Go.WideShapes Go.ChangeAt Go.RowKit Go.Proofs.YtklbkonehcjmjaaW.PrintWords Go.Proofs.Ytklbkonehcjmjaa.Sees Go.Proofs.Ytklbkonehcjmjaa.P
open Go.ChangeMaps (open_string shut_string)
set_option linter.unusedVariables false
set_option linter.unusedSimpArgs false
theorem own : ownKnob Try.prog.godebug = none := by kernel_rfl
theorem laidOut : laidOutB Try.prog = true := by kernel_rfl
set_option maxRecDepth 100000 in
theorem lifted (os : Os) (started : os.Started) (H : Type) (enc : TypeId × Value → H) :
    ReturnsInHanded {} Try.checked os 10 .any (Rows.wireNobodySpec.pre6 enc Try.prog Try.f10 Rows.wireNobodyRow.domain false) (Rows.wireNobodySpec.post enc Try.prog Try.f10 false true false false) := by
  refine returnsInHanded_of_change_sized (C := Try.checked) own started (by kernel_rfl) Try.func10
    (ChangeSpec.witness6 (enc := enc) (C := Try.checked) false ⟨#[], #[.int .i64 0, .string ByteArray.empty, .slice none 0 0], []⟩ 8 (by kernel_rfl) (by kernel_rfl) (by kernel_rfl) (by kernel_rfl)) ?_
  intro W base args ds gs before hval0 hW hcnd hsz0 _
  have hsz : (DataW.weightsEach Try.prog (Try.f10.params.toList ++ Rows.wireNobodySpec.plain.varTypes Try.prog) (ds ++ gs)).all (· ≤ reachBytes) = true := hsz0
  have hval : ∀ (j : Nat) t v, Try.f10.params[j]? = some t → args[j]? = some v → Value.okWide Try.prog W .any base t v := hval0
  have hW' := hW
  obtain ⟨p, q, hA0, hV, rfl, hfz, hnd⟩ := hW
  have hA : DataW.TrodAll enc Try.prog W 0 (fun _ => true) true Try.f10.params.toList args.toList ds p := hA0
  rw [Try.params10] at hA hval hsz
  obtain ⟨v0, vs0, d0, ds0, p0, q0, hargs, rfl, rfl, h0, r0⟩ := trodAll_cons hA
  obtain ⟨v1, vs1, d1, ds1, p1, q1, rfl, rfl, rfl, h1, r1⟩ := trodAll_cons r0
  obtain ⟨v2, vs2, d2, ds2, p2, q2, rfl, rfl, rfl, h2, r2⟩ := trodAll_cons r1
  obtain ⟨rfl, rfl, rfl⟩ := trodAll_nil r2
  obtain rfl : args = #[v0, v1, v2] := by cases args; simp_all
  obtain ⟨rfl, rfl⟩ := trodVars_none hV
  have k0 := h0
  have lt0 : ∀ x ∈ p0, x.block < W.heap.size := by obtain ⟨m, hm⟩ := k0; exact DataW.trod_lt m _ _ _ hm
  obtain ⟨y0, hy0, oy0⟩ := see_arg (j := 0) (t := 3) (sees_int Try.underlying3) hsz rfl rfl h0
  obtain ⟨z0, rfl, rfl, rfl, _⟩ := open_int Try.underlying3 (hval 0 3 v0 rfl rfl) h0
  obtain rfl : z0 = y0 := by have e_ := hy0; simp [Kd.int, Kd.bool, Kd.string, Kd.scalar, Value.cells] at e_; exact e_
  have k1 := h1
  have lt1 : ∀ x ∈ p1, x.block < W.heap.size := by obtain ⟨m, hm⟩ := k1; exact DataW.trod_lt m _ _ _ hm
  obtain ⟨y1, hy1, oy1⟩ := see_arg (j := 1) (t := 9) (sees_string Try.underlying9) hsz rfl rfl h1
  obtain ⟨z1, rfl, rfl, rfl, _⟩ := open_string Try.underlying9 (hval 1 9 v1 rfl rfl) h1
  obtain rfl : z1 = y1 := by have e_ := hy1; simp [Kd.int, Kd.bool, Kd.string, Kd.scalar, Value.cells] at e_; exact e_
  have k2 := h2
  have lt2 : ∀ x ∈ p2, x.block < W.heap.size := by obtain ⟨m, hm⟩ := k2; exact DataW.trod_lt m _ _ _ hm
  obtain ⟨y2, hy2, oy2⟩ := see_arg (j := 2) (t := 23) (sees_slice (B := 1) Try.underlying23 (by kernel_rfl) (by kernel_rfl) (sees_int Try.underlying5)) hsz rfl rfl h2
  obtain ⟨a2, len2, cap2, rfl⟩ := okWide_slice Try.underlying23 (hval 2 23 v2 rfl rfl)
  obtain ⟨rfl, hc2, hr2⟩ := see_slice rfl hy2
  clear hA0 hval0 hsz0 hsz
  have hk := Pure.WireNobody z0 z1 y2 oy0 oy1 oy2
  refine (provisolaw01_WireNobody.calls z0 z1 _ _ y2 true W hr2 hc2 hk).mono ?_
  rintro e W' ⟨rfl, bel0⟩
  have bel : Below W.heap.size W W' := bel0
  exact ⟨_, rfl, _, _, _, [], _, [], hW', trodAll_mk1 (shut_bool Try.underlying4 _), (trodAll_cons_mk (Below.trod laidOut (by kernel_rfl) (of_decide_eq_true (by kernel_rfl)) k0 bel lt0) (trodAll_cons_mk (Below.trod laidOut (by kernel_rfl) (of_decide_eq_true (by kernel_rfl)) k1 bel lt1) (trodAll_cons_mk (Below.trod laidOut (by kernel_rfl) (of_decide_eq_true (by kernel_rfl)) k2 bel lt2) trodAll_mk0))), rfl, bel.frame _, fun h => by cases h⟩
theorem over : Rows.wireNobodyRow.holds Try.pinned (OpenSpec.ofChange Rows.wireNobodySpec) :=
  OpenClaim.holds_of_wide 10 Try.f10 rfl rfl rfl rfl rfl rfl rfl ⟨rfl, rfl, rfl, rfl, rfl⟩ rfl rfl rfl rfl rfl (by kernel_rfl) Try.func10 (by kernel_rfl)
    (of_decide_eq_true (by kernel_rfl)) (by unfold Func.isWrapper; first | (rw [if_pos (by decide +kernel)]; kernel_rfl) | (rw [if_neg (by decide +kernel)]; exact ⟨rfl, rfl⟩))
    (fun os started H enc _ => lifted os started H enc)
theorem proved : Rows.WireNobodySaid := over
end Go.Proofs.Ytklbkonehcjmjaa.wireNobody
namespace Go.Proofs.Ytklbkonehcjmjaa
theorem wireNobody_holds : Rows.WireNobodySaid := wireNobody.proved
end Go.Proofs.Ytklbkonehcjmjaa

end

