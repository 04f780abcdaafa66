/- Proved: the law WireParts holds for every input that the row lets in. No condition of ours. -/
import Derived.Test.YtklbkonehcjmjaaBWirePartsb
import Derived.Test.YtklbkonehcjmjaaProg
import Derived.WalkSpells
import Derived.Test.YtklbkonehcjmjaaRows
import Derived.ShutString
import Derived.ChangeOld
import Derived.Lib.SmallJoins
section
namespace Go.Proofs.Ytklbkonehcjmjaa.P
open Go.RowKit Go.Proofs.YtklbkonehcjmjaaW.PrintWords Go.Proofs.YtklbkonehcjmjaaW.PrintLast Go.Proofs.YtklbkonehcjmjaaW.PrintMore
attribute [local go_sem] max2_int min2_int max_two min_two max_three min_three max_four min_four   -- for this text's walks alone
set_option linter.unusedVariables false
set_option linter.unusedSimpArgs false



theorem info5 : (Try.prog.info? 5).map (fun i => (i.zero, i.size, i.bytes)) = some (some (.int .u8 0), 1, 1) := by kernel_rfl
end Go.Proofs.Ytklbkonehcjmjaa.P

end

section
namespace Go.Proofs.Ytklbkonehcjmjaa.P
open Go.RowKit Go.Proofs.YtklbkonehcjmjaaW.PrintWords Go.Proofs.YtklbkonehcjmjaaW.PrintLast Go.Proofs.YtklbkonehcjmjaaW.PrintMore
attribute [local go_sem] max2_int min2_int max_two min_two max_three min_three max_four min_four   -- for this text's walks alone
set_option linter.unusedVariables false
set_option linter.unusedSimpArgs false

def slices_Clone_byte_byte.f (l0 : List Int) : Option (List Int) := if l0.length < 140737488355328 then some l0 else none
set_option maxHeartbeats 800000 in
set_option maxRecDepth 100000 in
theorem slices_Clone_byte_byte.calls (A0 : Option Addr) (c0 : Nat) (l0 : List Int) (r : List Int) (w : World) (hr0 : Kd.C (Kd.int .u8) w A0 l0.length l0) (hc0 : l0.length ≤ c0) (h : slices_Clone_byte_byte.f l0 = some r) :
    Calls Try.prog 17 #[.slice A0 l0.length c0] w fun e w' => ∃ v0_ : Value, e = .returned v0_ ∧ Kd.R (Kd.int .u8) 5 w' w.heap.size (fun _ => True) v0_ r ∧ Below w.heap.size w w' := by
  obtain ⟨hlim, rfl⟩ : l0.length < 140737488355328 ∧ r = l0 := by
    unfold slices_Clone_byte_byte.f at h
    split at h
    · rename_i h9
      exact ⟨h9, (Option.some.inj h).symm⟩
    · cases h
  have hnil := Lib.run_eql_slice_nil (P := Try.prog) (h := Try.underlying23)
  have HR := Aside0.mk hr0
  have HL := Aside0.mk hlim
  cases A0 with
  | none =>
    have e0 : r = [] := by
      rcases Nat.eq_zero_or_pos r.length with h0 | h0
      · exact List.length_eq_zero_iff.1 h0
      · obtain ⟨ad, e, _⟩ := hr0.2.2 h0
        cases e
    have E0 := Aside0.mk e0
    clear h hr0 hlim e0
    go_enter Try.func17, Try.ntmps17
    go_wp2
    go_ret
    refine ⟨_, rfl, ?_, Below.refl _ _⟩
    rw [E0.out]
    exact Kd.R_nil _ _ _ _ _
  | some ad =>
    clear h hr0 hlim
    go_enter Try.func17, Try.ntmps17
    go_wp2_with (first | ((with_reducible refine gate_dst (N := 5) rfl ?_); refine Kd.R_lit (Kd.int .u8) _ 5 ?hg (N := 5) ?hd (xs := ([] : List Int)) (inner := []) (ok := fun _ => True) (okp := fun _ => True) ?hr ?hp (fun _ hk => hk) trivial (Below.refl _ _) (Nat.le_refl _) (by simp) ?_; (case hd => rfl); (case hg => rfl); (case hr => first | (go_simp; done) | (go_simp; rfl)); (case hp => exact (Reps.none _ _)); intro v1 w1 ho1 hb1 _ _; have n1 := Aside0.mk ho1; have n2 := Aside0.mk hb1; clear ho1 hb1; obtain ⟨A1, c1, e1⟩ := Kd.R_slice n1.out; subst e1) | ((with_reducible refine gate_builtin (b := .append) (xs := #[.tmp 5, .tmp 6]) rfl ?_); at_builtin; refine Kd.R_append_rows (Kd.int .u8) (w0 := w) w.heap.size rfl (.tmp 5) (.tmp 6) 23 5 (.int .u8 0) 1 rfl Try.underlying23 info5 rfl (by decide) (by omega) (.slice A1 (([] : List Int)).length c1) ([] : List Int) r _ _ _ (fun _ => True) (fun _ => False) rfl rfl ?aO ?aR (fun _ _ h => h) (fun _ h => h.elim) ?aF ?aB ?aS ?aL ?_; (case aR => exact Kd.C_below HR.out n2.out); (case aB => exact n2.out); (case aF => exact (fun _ _ => trivial)); (case aO => exact n1.out); (case aS => exact n2.out.size); (case aL => have h9 := HL.out; simp only [List.length_nil]; omega); intro v2 w2 ho2 hb2 _ _; have n3 := Aside0.mk ho2; have n4 := Aside0.mk hb2; clear ho2 hb2))
    go_ret
    exact ⟨_, rfl, n3.out, n4.out⟩




end Go.Proofs.Ytklbkonehcjmjaa.P

end

section
namespace Go.Proofs.Ytklbkonehcjmjaa.P
open Go.RowKit Go.Proofs.YtklbkonehcjmjaaW.PrintWords Go.Proofs.YtklbkonehcjmjaaW.PrintLast Go.Proofs.YtklbkonehcjmjaaW.PrintMore
attribute [local go_sem] max2_int min2_int max_two min_two max_three min_three max_four min_four   -- for this text's walks alone
set_option linter.unusedVariables false
set_option linter.unusedSimpArgs false

def provisolaw01_pick.f (a0 : Int) (a1 : Int) : Option (Int) := if (IntKind.u64.wrap (a1)) = 0 then (none) else (some (wrap64 (Int.tmod (IntKind.u64.wrap (a0)) (IntKind.u64.wrap (a1)))))
set_option maxHeartbeats 8000000 in
set_option maxRecDepth 100000 in
theorem provisolaw01_pick.calls (a0 : Int) (a1 : Int) (r : Int) (w : World) (h : provisolaw01_pick.f a0 a1 = some r) :
    Calls Try.prog 18 #[.int .i64 a0, .int .i64 a1] w fun e w' => e = .returned (.int .i64 r) ∧ Drawn0 w w' := by
  have H : (if (IntKind.u64.wrap (a1)) = 0 then (none) else (some (wrap64 (Int.tmod (IntKind.u64.wrap (a0)) (IntKind.u64.wrap (a1)))))) = some r := h
  clear h
  by_cases c3 : (IntKind.u64.wrap (a1)) = 0
  · rw [if_pos c3] at H
    exact absurd H (by simp)
  · rw [if_neg c3] at H
    have c3b0 : ((IntKind.u64.wrap (a1)) == 0) = false := beq_eq_false_iff_ne.mpr c3
    have c3b1 : ((IntKind.u64.wrap (a1)) != 0) = true := bne_iff_ne.mpr c3
    obtain rfl := Option.some.inj H
    go_enter Try.func18, Try.ntmps18
    go_wp2
    go_ret
    exact ⟨by first | rfl | (simp; done) | (simp [*]; done), by repeat (first | exact Drawn0.refl _ | apply Drawn0.step)⟩


theorem copy_own {P : Program} {W : World} {base : Nat} {ok : Nat → Prop} {v : Value} {zs bs : List Int} {A : Option Addr} {cA : Nat} {ty : TypeId} (hu : P.underlying 23 = some (.slice 5)) (hi : (P.info? 5).map (·.size) = some 1)
    (HR : Kd.R (Kd.int .u8) 5 W base ok v zs) (HS : Kd.C (Kd.int .u8) W A bs.length bs) (hl : zs.length = bs.length) :
    ∃ W', (Builtin.copy_ #[23, 23] ty #[v, .slice A bs.length cA]).run P W = .ok (goInt bs.length) W' ∧ Kd.R (Kd.int .u8) 5 W' base ok v bs ∧ W.grownBy W' v.ownBlock := by
  have hrefl : ∀ row, W.grownBy W row := fun row => ⟨rfl, rfl, rfl, Nat.le_refl _, fun _ _ _ => rfl⟩
  obtain ⟨h0, inner, ⟨h1, h2⟩, hr⟩ := HR
  rcases h2 with ⟨rfl, hn⟩ | ⟨g, cap, cur, rfl, hg, hh, r1, r2, r3, r4⟩
  · have e : bs = [] := List.length_eq_zero_iff.1 (by omega)
    subst e
    exact ⟨W, run_copy_none W _ _ ty _ none A 0 0 0 cA hu hi rfl, Kd.R_nil _ _ _ _ _, hrefl _⟩
  · by_cases hz : bs.length = 0
    · have e : bs = [] := List.length_eq_zero_iff.1 hz
      subst e
      have ez : zs = [] := List.length_eq_zero_iff.1 (by simpa using hl)
      subst ez
      exact ⟨W, run_copy_none W _ _ ty _ _ A _ cap 0 cA hu hi rfl, ⟨h0, inner, ⟨h1, .inr ⟨g, cap, cur, rfl, hg, hh, r1, r2, r3, r4⟩⟩, hr⟩, hrefl _⟩
    · obtain ⟨ad, rfl, hc⟩ := HS.2.2 (by omega)
      have hlen : (bs.map (Value.int .u8)).length = bs.length := List.length_map _
      have hrun := run_copy_row (P := P) W 23 23 ty 5 g 0 zs.length cap ad bs.length cA cur 5 (bs.map (Value.int .u8)) hu hi hh (by rw [hlen, hl]; exact (Nat.min_self _).symm)
        (fun j u hj => by
          rw [List.getElem?_map] at hj
          cases hb : bs[j]? with
          | none => rw [hb] at hj; cases hj
          | some x =>
            rw [hb] at hj
            obtain ⟨c, _, hK, hcc⟩ := hc j x hb
            have hK' : c = [Value.int .u8 x] := hK
            subst hK'
            have := hcc 0 _ rfl
            have e1 : u = Value.int .u8 x := (Option.some.inj hj).symm
            rw [e1]
            simpa [show (Kd.int .u8).sz = 1 from rfl] using this)
        (by rw [hlen, r3, show (Kd.int .u8).sz = 1 from rfl]; omega) (fun u hu => by
          obtain ⟨x, _, rfl⟩ := List.mem_map.1 hu
          rfl)
      rw [hlen] at hrun
      refine ⟨_, hrun, ⟨h0, bs.map (Value.int .u8), ⟨by rw [hlen]; exact (Nat.mul_one _).symm, .inr ⟨g, cap, _, by rw [hl], hg, setRow_heap W g cur _ _ _ hh, by omega, r2, ?_, ?_⟩⟩, ?_⟩, ⟨rfl, rfl, rfl, by simp, fun k _ hk => setRow_other W g k _ (fun e => hk (by rw [e]; rfl))⟩⟩
      · simp [r3, show (Kd.int .u8).sz = 1 from rfl]
        have : bs.length ≤ cap := by omega
        omega
      · simp [show (Kd.int .u8).sz = 1 from rfl]
      · exact Kd.reps_scalar bs
theorem Kd.R_base_ {base : Nat} {W : World} {ok : Nat → Prop} {v : Value} {xs : List Int} (h : Kd.R (Kd.int .u8) 5 W base ok v xs) (k : Nat) (hk : v.ownBlock = some k) : base ≤ k := by
  obtain ⟨_, inner, ho, _⟩ := h
  exact own_base ho k hk
structure RdAt (base g : Nat) (bs : List Int) (at_ : Nat) (W : World) : Prop where
  le : at_ ≤ bs.length
  ge : base ≤ g
  now : ∃ v : Value, W.heap[g]? = some (.cells #[v, .int .i64 (at_ : Int), .bool true] 79 (0, 0)) ∧ Kd.R (Kd.int .u8) 5 W base (fun _ => True) v bs
set_option maxHeartbeats 1600000 in
set_option maxRecDepth 100000 in
theorem Over_calls (A0 : Option Addr) (c0 : Nat) (l0 : List Int) (w : World) (hr0 : Kd.C (Kd.int .u8) w A0 l0.length l0) (hc0 : l0.length ≤ c0) (hlim : l0.length ≤ 281474976710656) :
    Calls Try.prog 19 #[.slice A0 l0.length c0] w fun e w' => ∃ g, e = .returned (.pointer (some ⟨g, 0, none⟩)) ∧ RdAt w.heap.size g l0 0 w' ∧ Below w.heap.size w w' := by
  have HR := Aside0.mk hr0
  have HL := Aside0.mk hlim
  have hlen : l0.length ≤ 9223372036854775807 := hr0.2.1
  clear hr0 hc0 hlim
  go_enter Try.func19, Try.ntmps19
  go_wp2_with (first | ((with_reducible refine gate_dst (N := 6) rfl ?_); refine Kd.R_make (Kd.int .u8) (w0 := w) w.heap.size 5 rfl (N := 6) rfl 23 (.tmp 5) (.tmp 5) rfl (l0.length : Int) rfl rfl Try.underlying23 (.int .u8 0) 1 info5 rfl (by decide) (by decide) 0 (ok := fun _ => True) (okp := fun _ => True) rfl (fun _ h => h) trivial (by omega) ?hl (Below.refl _ _) (Nat.le_refl _) ?_; (case hl => have := HL.out; rw [Int.toNat_natCast]; omega); intro v1 w1 ho hb hg hat; rw [Int.toNat_natCast] at ho; have HB := Aside0.mk hb; obtain ⟨Av, cv, e1⟩ := Kd.R_slice ho; rw [List.length_replicate] at e1; subst e1; obtain ⟨w2, hrun, hR2, hg2⟩ := copy_own (P := Try.prog) (ty := 3) (cA := c0) Try.underlying23 (by kernel_rfl) ho (Kd.C_below HR.out hb) (by simp); have HR2 := Aside0.mk hR2; have HG2 := Aside0.mk (Below.grown hb hg2 hb.size (fun k hk => (Kd.R_base_ ho k hk))); clear ho hb hg hat hR2 hg2))
  have h1 := blk_new w2 (.cells #[.slice Av l0.length cv, .int .i64 0, .bool true] 79)
  have h2 := Kd.R_alloc HR2.out (.cells #[.slice Av l0.length cv, .int .i64 0, .bool true] 79)
  have h3 := below_alloc HG2.out (.cells #[.slice Av l0.length cv, .int .i64 0, .bool true] 79)
  have h4 := HG2.out.size
  go_ret
  exact ⟨w2.heap.size, rfl, ⟨Nat.zero_le _, h4, _, h1, h2⟩, h3⟩
theorem RdAt.drewN {base g : Nat} {bs : List Int} {at_ : Nat} {W : World} (h : RdAt base g bs at_ W) (m : Nat) : RdAt base g bs at_ (W.drewN m) := by
  obtain ⟨h1, h2, v, h3, h4⟩ := h
  exact ⟨h1, h2, v, blk_drewN h3 m, Kd.R_drewN h4 m⟩
theorem RdAt.step {base g : Nat} {bs : List Int} {at_ : Nat} {W W' : World} (h : RdAt base g bs at_ W) (hb : Below W.heap.size W W') : RdAt base g bs at_ W' := by
  obtain ⟨h1, h2, v, h3, h4⟩ := h
  exact ⟨h1, h2, v, blk_below h3 hb, Kd.R_below h4 hb⟩
theorem RdAt.set {base g : Nat} {bs : List Int} {at_ : Nat} {W : World} (h : RdAt base g bs at_ W) (n : Nat) (hn : n ≤ bs.length) : RdAt base g bs n (W.setCell ⟨g, 1, none⟩ (.int .i64 (n : Int))) := by
  obtain ⟨h1, h2, v, h3, h4⟩ := h
  exact ⟨hn, h2, v, blk_set h3 1 _, Kd.R_set h4 h3 (by decide) _ _⟩
theorem RdAt.far {base g : Nat} {bs : List Int} {at_ : Nat} {W : World} (h : RdAt base g bs at_ W) {g2 : Nat} {cs : Array Value} (h2 : W.heap[g2]? = some (.cells cs 79 (0, 0))) (hne : g ≠ g2) (j : Nat) (u : Value) : RdAt base g bs at_ (W.setCell ⟨g2, j, none⟩ u) := by
  obtain ⟨h1, h2', v, h3, h4⟩ := h
  exact ⟨h1, h2', v, blk_far h3 (by simpa using hne) _, Kd.R_set h4 h2 (by decide) _ _⟩
theorem RdAt.len {base g : Nat} {bs : List Int} {at_ : Nat} {W : World} (h : RdAt base g bs at_ W) : bs.length ≤ 9223372036854775807 := by
  obtain ⟨_, _, v, _, h4⟩ := h
  obtain ⟨A, c, rfl⟩ := Kd.R_slice h4
  exact (Kd.R_reads' h4).2.2.2.1
set_option maxHeartbeats 800000 in
set_option maxRecDepth 100000 in
theorem ready_rd {base g : Nat} {bs : List Int} {at_ : Nat} {w : World} (h : RdAt base g bs at_ w) : Calls Try.prog 45 #[.pointer (some ⟨g, 0, none⟩)] w fun e w' => e = .returned (.bool true) ∧ Drawn0 w w' := by
  obtain ⟨_, _, v, h3, _⟩ := h
  have hc := blk_cell h3 2
  clear h3
  go_enter Try.func45, Try.ntmps45
  go_wp2
  go_ret
  exact ⟨rfl, 0, rfl⟩
set_option maxHeartbeats 800000 in
set_option maxRecDepth 100000 in
theorem At_rd {base g : Nat} {bs : List Int} {at_ : Nat} {w : World} (h : RdAt base g bs at_ w) : Calls Try.prog 20 #[.pointer (some ⟨g, 0, none⟩)] w fun e w' => e = .returned (.int .i64 (at_ : Int)) ∧ Drawn0 w w' := by
  obtain ⟨v, h3, _⟩ := h.now
  have hc := blk_cell h3 1
  have H := Aside0.mk h
  clear h3 h
  go_enter Try.func20, Try.ntmps20
  go_wp2_with fail
  refine (ready_rd H.out).mono ?_
  rintro e w1 ⟨rfl, m, rfl⟩
  go_wp2
  go_ret
  exact ⟨rfl, m, rfl⟩
set_option maxHeartbeats 800000 in
set_option maxRecDepth 100000 in
theorem Left_rd {base g : Nat} {bs : List Int} {at_ : Nat} {w : World} (h : RdAt base g bs at_ w) : Calls Try.prog 21 #[.pointer (some ⟨g, 0, none⟩)] w fun e w' => e = .returned (.int .i64 ((bs.length : Int) - (at_ : Int))) ∧ Drawn0 w w' := by
  obtain ⟨v, h3, h4⟩ := h.now
  obtain ⟨A, c, rfl⟩ := Kd.R_slice h4
  have hc := blk_cell h3 1
  have hc0 := blk_cell h3 0
  have hlen := h.len
  have hle := h.le
  have H := Aside0.mk h
  clear h3 h h4
  go_enter Try.func21, Try.ntmps21
  go_wp2_with fail
  refine (ready_rd H.out).mono ?_
  rintro e w1 ⟨rfl, m, rfl⟩
  go_wp2
  go_quiet (fail)
  go_wp2
  go_ret
  exact ⟨rfl, _, World.drewN_drewN _ _ _⟩
set_option maxHeartbeats 1600000 in
set_option maxRecDepth 100000 in
theorem next_good {base g : Nat} {bs : List Int} {at_ : Nat} {w : World} (h : RdAt base g bs at_ w) (n : Nat) (hn : at_ + n ≤ bs.length) : Calls Try.prog 46 #[.pointer (some ⟨g, 0, none⟩), .int .i64 (n : Int)] w fun e w' => ∃ (A : Option Addr) (c m m2 : Nat), e = .returned (.tuple #[.slice A n c, .int .i64 0]) ∧ n ≤ c ∧ w' = ((w.drewN m).setCell ⟨g, 1, none⟩ (.int .i64 ((at_ + n : Nat) : Int))).drewN m2 ∧ Kd.C (Kd.int .u8) w' A n ((bs.take (at_ + n)).drop at_) := by
  have hlen := h.len
  have hle := h.le
  have H := Aside0.mk h
  clear h
  have c1b : decide ((n : Int) < 0) = false := decide_eq_false (by omega)
  have c2b : decide ((bs.length : Int) - (at_ : Int) < (n : Int)) = false := decide_eq_false (by omega)
  go_enter Try.func46, Try.ntmps46
  go_wp2_with fail
  refine (ready_rd H.out).mono ?_
  rintro e w1 ⟨rfl, m, rfl⟩
  go_wp2_with fail
  refine (Left_rd (H.out.drewN m)).mono ?_
  rintro e w2 ⟨rfl, m2, rfl⟩
  have H2 := (H.out.drewN m).drewN m2
  rw [World.drewN_drewN] at H2 ⊢
  generalize hw3 : w.drewN (m + m2) = w3 at H2 ⊢
  obtain ⟨v, h3, h4⟩ := H2.now
  obtain ⟨A, c, rfl⟩ := Kd.R_slice h4
  have hc1 := blk_cell h3 1
  have hf1 := blk_frozen h3 1
  have h5 := blk_set h3 1 (.int .i64 ((at_ + n : Nat) : Int))
  have h6 := H2.set (at_ + n) hn
  have hc := blk_cell h5 0
  have hcc := blk_cell h5 1
  have H6 := Aside0.mk h6
  have HW3 := Aside0.mk hw3
  have hcap : at_ + n ≤ c := by have := (Kd.R_reads' h4).2.1; omega
  have hsl := Kd.C_mid (Kd.R_reads' (show Kd.R (Kd.int .u8) 5 (w3.setCell ⟨g, 1, none⟩ (.int .i64 ((at_ + n : Nat) : Int))) base (fun _ => True) (.slice A bs.length c) bs from Kd.R_set h4 h3 (by decide) _ _)).2.2 (lo := at_) (hi := at_ + n) (c := c) (Nat.le_add_right _ _) hn (Kd.R_reads' h4).2.1
  have HS := Aside0.mk hsl
  have en : ((at_ + n : Nat) : Int) = (at_ : Int) + (n : Int) := Int.natCast_add _ _
  have hgoal : w3.setCell ⟨g, 1, none⟩ (.int .i64 ((at_ + n : Nat) : Int)) = (w.drewN (m + m2)).setCell ⟨g, 1, none⟩ (.int .i64 ((at_ + n : Nat) : Int)) := by rw [HW3.out]
  have HG := Aside0.mk hgoal
  have q1 : decide (at_ ≤ at_ + n) = true := decide_eq_true (Nat.le_add_right _ _)
  have q2 : (at_ + n ≤ c) = True := eq_true hcap
  clear h3 h4 h5 h6 H2 H hw3 hsl hgoal hcap HW3
  rw [en] at HS HG H6 hc hcc
  clear en
  go_upto_region 8 with fail
  generalize w3.setCell ⟨g, 1, none⟩ (.int .i64 ((at_ : Int) + (n : Int))) = w4 at HS HG H6 hc hcc ⊢
  clear hc1 hf1
  have hA : w4.cell? ⟨g, 0, none⟩ = some (.slice A bs.length c) := hc.trans rfl
  have hB : w4.cell? ⟨g, 1, none⟩ = some (.int .i64 ((at_ : Int) + (n : Int))) := hcc.trans rfl
  have hw0 : IntKind.i64.wrap (at_ : Int) = (at_ : Int) := by rw [IntKind.wrap_i64]; omega
  have hw1 : IntKind.i64.wrap ((at_ : Int) + (n : Int)) = (at_ : Int) + (n : Int) := by rw [IntKind.wrap_i64]; omega
  have q3 : ((at_ : Int) + (n : Int)).toNat = at_ + n := by omega
  have q4 : (0 : Int) ≤ (at_ : Int) + (n : Int) := by omega
  have q5 : (at_ : Int) ≤ (at_ : Int) + (n : Int) := by omega
  have q6 : (at_ : Int) + (n : Int) ≤ (c : Int) := by have := of_eq_true q2; omega
  have q7 : (at_ : Int) ≤ (c : Int) := by have := of_eq_true q2; omega
  have q8 : at_ + n - at_ = n := by omega
  clear hc hcc
  go_region_held3 (fun w' => w'.cell? ⟨g, 0, none⟩ = some (.slice A bs.length c) ∧ w'.cell? ⟨g, 1, none⟩ = some (.int .i64 ((at_ : Int) + (n : Int))))
    (first | exact ⟨hA, hB⟩ | (refine ⟨?_, ?_⟩ <;> first | exact hA | exact hB | simpa using hA | simpa using hB))
    (first | fail)
  clear q1 q3 q4 q5 q6 q7 q8 hA hB hw0 hw1 c1b c2b
  have h9 := Kd.C_drewN HS.out 1
  rw [show (Kd.int .u8).sz = 1 from rfl, Nat.mul_one] at h9
  have h8 : ((bs.take (at_ + n)).drop at_).length = n := by rw [List.length_drop, List.length_take]; omega
  rw [h8] at h9
  clear HS h8
  generalize (if c = at_ then A else Option.map (fun x => x.add at_) A) = Ax at h9 ⊢
  have HS := Aside0.mk h9
  clear h9
  go_wp2
  go_ret2
  exact ⟨_, _, m + m2, 1, rfl, by have := of_eq_true q2; omega, by rw [Int.natCast_add, ← HG.out]; rfl, HS.out⟩
theorem u32_or8 (x y : Int) (hx₀ : 0 ≤ x) (hx : x % 256 = 0) (hx₁ : x < 4294967296) (h₀ : 0 ≤ y) (h₁ : y < 256) : bits .or .u32 x y = x + y :=
  bits_join .u32 32 (by decide) (fun n a b => by rw [IntKind.wrap_u32]; omega) 8 x y hx₀ hx hx₁ h₀ h₁ (by omega)
def numOf (bs : List Int) : Int := bs.foldl (fun x c => x * 256 + c) 0
theorem num_bound : ∀ (bs : List Int), (∀ x ∈ bs, 0 ≤ x ∧ x ≤ 255) → ∀ z : Int, 0 ≤ z → 0 ≤ bs.foldl (fun x c => x * 256 + c) z ∧ bs.foldl (fun x c => x * 256 + c) z < (z + 1) * 256 ^ bs.length
  | [], _, z, hz => ⟨hz, by simp; omega⟩
  | x :: bs, h, z, hz => by
    have hx := h x List.mem_cons_self
    obtain ⟨h1, h2⟩ := num_bound bs (fun y hy => h y (List.mem_cons_of_mem _ hy)) (z * 256 + x) (by omega)
    refine ⟨h1, Int.lt_of_lt_of_le h2 ?_⟩
    rw [List.length_cons, Int.pow_succ, ← Int.mul_assoc, Int.mul_right_comm]
    exact Int.mul_le_mul_of_nonneg_right (by omega) (Int.pow_nonneg (by decide))
theorem num_next (seg : List Int) (hb : ∀ x ∈ seg, 0 ≤ x ∧ x ≤ 255) (i : Nat) (hi : i < seg.length) (h4 : seg.length ≤ 4) : bits .or .u32 (numOf (seg.take i) * 256 % 4294967296) (rd seg (i : Int) % 4294967296) = numOf (seg.take (i + 1)) := by
  have hr : rd seg (i : Int) = seg[i] := by simp [rd, List.getD_eq_getElem?_getD, hi]
  have hx := hb _ (List.getElem_mem hi)
  have hz := num_bound (seg.take i) (fun x hx => hb x (List.mem_of_mem_take hx)) 0 (Int.le_refl _)
  rw [List.length_take, Nat.min_eq_left (by omega)] at hz
  have hp : (256 : Int) ^ i ≤ 16777216 := by
    have : i = 0 ∨ i = 1 ∨ i = 2 ∨ i = 3 := by omega
    rcases this with rfl | rfl | rfl | rfl <;> decide
  have e1 : numOf (seg.take (i + 1)) = numOf (seg.take i) * 256 + seg[i] := by
    unfold numOf
    rw [List.take_succ_eq_append_getElem hi, List.foldl_append]
    rfl
  have hz' : 0 ≤ numOf (seg.take i) ∧ numOf (seg.take i) < 16777216 := by
    unfold numOf
    omega
  rw [e1, hr, u32_or8 _ _ (by omega) (by omega) (by omega) (by omega) (by omega)]
  omega
set_option maxHeartbeats 1600000 in
set_option maxRecDepth 100000 in
theorem number_good {base g : Nat} {bs : List Int} {at_ : Nat} {w : World} (h : RdAt base g bs at_ w) (hb : ∀ x ∈ bs, 0 ≤ x ∧ x ≤ 255) (n : Nat) (hn : at_ + n ≤ bs.length) (h4 : n ≤ 4) : Calls Try.prog 47 #[.pointer (some ⟨g, 0, none⟩), .int .i64 (n : Int)] w fun e w' => ∃ m m2 : Nat, e = .returned (.tuple #[.int .u32 (numOf ((bs.take (at_ + n)).drop at_)), .int .i64 0]) ∧ w' = ((w.drewN m).setCell ⟨g, 1, none⟩ (.int .i64 ((at_ + n : Nat) : Int))).drewN m2 := by
  have HN := Aside0.mk (next_good h n hn)
  have hn4 : (n : Int) ≤ 4 := by omega
  obtain ⟨seg, hseg⟩ : ∃ seg, seg = (bs.take (at_ + n)).drop at_ := ⟨_, rfl⟩
  have hsl : seg.length = n := by rw [hseg, List.length_drop, List.length_take]; omega
  have hsb : ∀ x ∈ seg, 0 ≤ x ∧ x ≤ 255 := fun x hx => hb x (by rw [hseg] at hx; exact List.mem_of_mem_take (List.mem_of_mem_drop hx))
  rw [← hseg] at HN ⊢
  have HSB := Aside0.mk hsb
  have HSL := Aside0.mk hsl
  clear h hn hseg hb hsb hsl
  go_enter Try.func47, Try.ntmps47
  go_wp2_with fail
  refine HN.out.mono ?_
  rintro e w1 ⟨A, c, m, m2, rfl, hc, hw, hC⟩
  have HW := Aside0.mk hw
  have HC := Aside0.mk hC
  clear hw hC HN hc
  go_wp2
  go_loopw [8, 19] (fun v8 v19 wr => ∃ i : Nat, v19 = .int .i64 (i : Int) ∧ i ≤ n ∧ v8 = .int .u32 (numOf (seg.take i)) ∧ wr = w1) (fun _ v19 _ => ((n : Int) - intOf v19).toNat)
  case atStart => exact ⟨0, rfl, Nat.zero_le _, rfl, rfl⟩
  case round =>
    obtain ⟨i, rfl, hi, rfl, rfl⟩ := hrel
    by_cases c1 : i < n
    · have c1b : decide ((i : Int) < (n : Int)) = true := decide_eq_true (by omega)
      have hC2 := HC.out
      rw [← HSL.out] at hC2
      obtain ⟨ad, e3, hx⟩ := Kd.at_int hC2 (i : Int) (by omega) (by have := HSL.out; omega)
      subst e3
      have p5 : (0 ≤ (i : Int)) = True := eq_true (by omega)
      have p6 : ((i : Int) < (n : Int)) = True := eq_true (by omega)
      simp only [Int.toNat_natCast] at hx
      generalize hz : numOf (seg.take i) = z
      have HZ := Aside0.mk hz
      clear hC2 hz
      go_wp2
      refine ⟨⟨i + 1, rfl, by omega, by rw [← HZ.out, num_next seg HSB.out i (by have := HSL.out; omega) (by have := HSL.out; omega)], trivial⟩, by simp [intOf]; omega⟩
    · have c1b : decide ((i : Int) < (n : Int)) = false := decide_eq_false (by omega)
      have e9 : seg.take i = seg := List.take_of_length_le (by have := HSL.out; omega)
      rw [e9]
      clear e9
      go_wp2
      go_ret2
      exact ⟨m, m2, rfl, HW.out⟩
set_option maxHeartbeats 800000 in
set_option maxRecDepth 100000 in
theorem Byte_good {base g : Nat} {bs : List Int} {at_ : Nat} {w : World} (h : RdAt base g bs at_ w) (hb : ∀ x ∈ bs, 0 ≤ x ∧ x ≤ 255) (hn : at_ + 1 ≤ bs.length) : Calls Try.prog 23 #[.pointer (some ⟨g, 0, none⟩)] w fun e w' => ∃ m m2 : Nat, e = .returned (.tuple #[.int .i64 (numOf ((bs.take (at_ + 1)).drop at_)), .int .i64 0]) ∧ w' = ((w.drewN m).setCell ⟨g, 1, none⟩ (.int .i64 ((at_ + 1 : Nat) : Int))).drewN m2 := by
  have HN := Aside0.mk (number_good h hb 1 hn (by decide))
  have hz := num_bound ((bs.take (at_ + 1)).drop at_) (fun x hx => hb x (List.mem_of_mem_take (List.mem_of_mem_drop hx))) 0 (Int.le_refl _)
  have hl : ((bs.take (at_ + 1)).drop at_).length = 1 := by rw [List.length_drop, List.length_take]; omega
  rw [hl] at hz
  have hz2 : 0 ≤ numOf ((bs.take (at_ + 1)).drop at_) ∧ numOf ((bs.take (at_ + 1)).drop at_) < 256 := by
    unfold numOf
    exact ⟨hz.1, by have := hz.2; simpa using this⟩
  clear h hb hn hz hl
  generalize numOf ((bs.take (at_ + 1)).drop at_) = z at HN hz2 ⊢
  obtain ⟨hz0, hz1⟩ := hz2
  have hzw : IntKind.i64.wrap z = z := by rw [IntKind.wrap_i64]; omega
  go_enter Try.func23, Try.ntmps23
  go_wp2_with fail
  refine HN.out.mono ?_
  rintro e w1 ⟨m, m2, rfl, rfl⟩
  go_wp2
  go_ret2
  exact ⟨m, m2, rfl, rfl⟩
set_option maxHeartbeats 800000 in
set_option maxRecDepth 100000 in
theorem End_rd {base g : Nat} {bs : List Int} {at_ : Nat} {w : World} (h : RdAt base g bs at_ w) : Calls Try.prog 24 #[.pointer (some ⟨g, 0, none⟩)] w fun e w' => e = .returned (.int .i64 (if at_ = bs.length then 0 else 3)) ∧ Drawn0 w w' := by
  have hle := h.le
  have H := Aside0.mk h
  clear h
  by_cases c1 : at_ = bs.length
  · have c1b : decide (at_ < bs.length) = false := decide_eq_false (by omega)
    rw [if_pos c1]
    clear c1
    go_enter Try.func24, Try.ntmps24
    go_wp2_with fail
    refine (ready_rd H.out).mono ?_
    rintro e w1 ⟨rfl, m, rfl⟩
    go_wp2_with fail
    refine (Left_rd (H.out.drewN m)).mono ?_
    rintro e w2 ⟨rfl, m2, rfl⟩
    go_wp2
    go_ret
    exact ⟨rfl, _, rfl⟩
  · have c1b : decide (at_ < bs.length) = true := decide_eq_true (by omega)
    rw [if_neg c1]
    clear c1
    go_enter Try.func24, Try.ntmps24
    go_wp2_with fail
    refine (ready_rd H.out).mono ?_
    rintro e w1 ⟨rfl, m, rfl⟩
    go_wp2_with fail
    refine (Left_rd (H.out.drewN m)).mono ?_
    rintro e w2 ⟨rfl, m2, rfl⟩
    go_wp2
    go_ret
    exact ⟨rfl, _, rfl⟩
set_option maxHeartbeats 800000 in
set_option maxRecDepth 100000 in
theorem Within_good {base g : Nat} {bs : List Int} {at_ : Nat} {w : World} (h : RdAt base g bs at_ w) (n : Nat) (hn : at_ + n ≤ bs.length) (hlim : bs.length ≤ 281474976710656) : Calls Try.prog 22 #[.pointer (some ⟨g, 0, none⟩), .int .i64 (n : Int)] w fun e w' => ∃ (g2 m m2 : Nat) (w2 : World), e = .returned (.tuple #[.pointer (some ⟨g2, 0, none⟩), .int .i64 0]) ∧ w2 = ((w.drewN m).setCell ⟨g, 1, none⟩ (.int .i64 ((at_ + n : Nat) : Int))).drewN m2 ∧ Below w2.heap.size w2 w' ∧ RdAt w2.heap.size g2 ((bs.take (at_ + n)).drop at_) 0 w' := by
  have HN := Aside0.mk (next_good h n hn)
  have hsl : ((bs.take (at_ + n)).drop at_).length = n := by rw [List.length_drop, List.length_take]; omega
  have HSL := Aside0.mk hsl
  have HLIM : Aside0 (n ≤ 281474976710656) := ⟨by omega⟩
  clear h hn hlim hsl
  go_enter Try.func22, Try.ntmps22
  go_wp2_with fail
  refine HN.out.mono ?_
  rintro e w1 ⟨A, c, m, m2, rfl, hc, hw, hC⟩
  have HW := Aside0.mk hw
  have HC := Aside0.mk hC
  have HCC := Aside0.mk hc
  clear hw hC hc HN
  go_wp2_with fail
  have hO := Over_calls A c ((bs.take (at_ + n)).drop at_) w1 (by rw [HSL.out]; exact HC.out) (by rw [HSL.out]; exact HCC.out) (by rw [HSL.out]; exact HLIM.out)
  rw [HSL.out] at hO
  refine hO.mono ?_
  clear hO
  rintro e w3 ⟨g2, rfl, hr, hb⟩
  have H1 := Aside0.mk hr
  have H2 := Aside0.mk hb
  clear hr hb
  go_wp2
  go_ret2
  exact ⟨g2, m, m2, w1, rfl, HW.out, H2.out, H1.out⟩









end Go.Proofs.Ytklbkonehcjmjaa.P

end

section
namespace Go.Proofs.Ytklbkonehcjmjaa.P
open Go.RowKit Go.Proofs.YtklbkonehcjmjaaW.PrintWords Go.Proofs.YtklbkonehcjmjaaW.PrintLast Go.Proofs.YtklbkonehcjmjaaW.PrintMore
attribute [local go_sem] max2_int min2_int max_two min_two max_three min_three max_four min_four   -- for this text's walks alone
set_option linter.unusedVariables false
set_option linter.unusedSimpArgs false

theorem RdAt.frozen {base g : Nat} {bs : List Int} {at_ : Nat} {W : World} (h : RdAt base g bs at_ W) : ∃ cs, W.heap[g]? = some (.cells cs 79 (0, 0)) := by
  obtain ⟨v, h3, _⟩ := h.now
  exact ⟨_, h3⟩
theorem num_one (bs : List Int) (i : Nat) (h : i < bs.length) : numOf ((bs.take (i + 1)).drop i) = rd bs (i : Int) := by
  have hr : rd bs (i : Int) = bs[i] := by simp [rd, List.getD_eq_getElem?_getD, h]
  have e : (bs.take (i + 1)).drop i = [bs[i]] := by
    rw [List.take_succ_eq_append_getElem h, List.drop_append_of_le_length (by rw [List.length_take]; omega), List.drop_of_length_le (by rw [List.length_take]; omega)]
    rfl
  rw [e, hr]
  simp [numOf]
theorem RdAt.self {base g : Nat} {bs : List Int} {at_ : Nat} {W : World} (h : RdAt base g bs at_ W) (n m m2 : Nat) (hn : n ≤ bs.length) : RdAt base g bs n (((W.drewN m).setCell ⟨g, 1, none⟩ (.int .i64 (n : Int))).drewN m2) := ((h.drewN m).set n hn).drewN m2
theorem RdAt.other {base g base2 g2 : Nat} {bs bs2 : List Int} {at_ at2 : Nat} {W : World} (h : RdAt base g bs at_ W) (h2 : RdAt base2 g2 bs2 at2 W) (hne : g ≠ g2) (m m2 : Nat) (u : Value) : RdAt base g bs at_ (((W.drewN m).setCell ⟨g2, 1, none⟩ u).drewN m2) := by
  obtain ⟨cs, hc⟩ := (h2.drewN m).frozen
  exact ((h.drewN m).far hc hne 1 u).drewN m2
theorem below_rd {B g : Nat} {w0 W : World} (h : Below B w0 W) (hg : B ≤ g) (m m2 : Nat) (u : Value) : Below B w0 (((W.drewN m).setCell ⟨g, 1, none⟩ u).drewN m2) := pw_below_drewN ((pw_below_drewN h m).setCell hg u) m2
theorem pick_some (a : Int) (n : Nat) (hn : 0 < n) (h : n ≤ 9223372036854775807) : ∃ k : Nat, k < n ∧ provisolaw01_pick.f a (n : Int) = some (k : Int) := by
  have h1 : IntKind.u64.wrap (n : Int) = (n : Int) := IntWalk.u64_in _ (by omega)
  have h2 : 0 ≤ IntKind.u64.wrap a := by rw [IntKind.wrap_u64]; omega
  have h3 := Int.tmod_nonneg (n : Int) h2
  have h4 := Int.tmod_lt_of_pos (IntKind.u64.wrap a) (show (0 : Int) < (n : Int) by omega)
  refine ⟨(Int.tmod (IntKind.u64.wrap a) (n : Int)).toNat, by omega, ?_⟩
  unfold provisolaw01_pick.f
  rw [h1, if_neg (by omega)]
  congr 1
  generalize Int.tmod (IntKind.u64.wrap a) (n : Int) = q at h3 h4
  unfold wrap64
  omega
def provisolaw01_WireParts.f (l0 : List Int) (a1 : Int) : Option Bool := if l0.length < 140737488355328 ∧ ∀ x ∈ l0, 0 ≤ x ∧ x ≤ 255 then some true else none
set_option maxHeartbeats 3200000 in
set_option maxRecDepth 100000 in
theorem provisolaw01_WireParts.calls (A0 : Option Addr) (c0 : Nat) (l0 : List Int) (a1 : Int) (r : Bool) (w : World) (hr0 : Kd.C (Kd.int .u8) w A0 l0.length l0) (hc0 : l0.length ≤ c0) (h : provisolaw01_WireParts.f l0 a1 = some r) :
    Calls Try.prog 5 #[.slice A0 l0.length c0, .int .i64 a1] w fun e w' => e = .returned (.bool r) ∧ Below w.heap.size w w' := by
  obtain ⟨hlim, hb, rfl⟩ : l0.length < 140737488355328 ∧ (∀ x ∈ l0, 0 ≤ x ∧ x ≤ 255) ∧ r = true := by
    unfold provisolaw01_WireParts.f at h
    split at h
    · rename_i h9
      exact ⟨h9.1, h9.2, (Option.some.inj h).symm⟩
    · cases h
  have hclone : slices_Clone_byte_byte.f l0 = some l0 := by unfold slices_Clone_byte_byte.f; rw [if_pos hlim]
  have HCL := Aside0.mk hclone
  have HR := Aside0.mk hr0
  have HC := Aside0.mk hc0
  have HBY := Aside0.mk hb
  have HLIM := Aside0.mk hlim
  have hlen : l0.length ≤ 9223372036854775806 := by omega
  clear hclone h hr0 hc0 hb
  go_enter Try.func5, Try.ntmps5
  go_wp2_with fail
  refine (slices_Clone_byte_byte.calls A0 c0 l0 l0 w HR.out HC.out HCL.out).mono ?_
  rintro e w1 ⟨v1, rfl, hv1, hb1⟩
  obtain ⟨A1, c1, rfl⟩ := Kd.R_slice hv1
  have H1 := Aside0.mk (Kd.R_reads' hv1)
  have HB1 := Aside0.mk hb1
  clear hv1 hb1
  go_wp2_with fail
  refine (Over_calls A1 c1 l0 w1 H1.out.2.2 H1.out.2.1 (by have := HLIM.out; omega)).mono ?_
  rintro e w2 ⟨g, rfl, hrd, hb2⟩
  have HRD := Aside0.mk hrd
  have hb3 := below_step HB1.out hb2
  have HGE : Aside0 (w.heap.size ≤ g) := ⟨Nat.le_trans HB1.out.size hrd.ge⟩
  clear HB1
  have HB := Aside0.mk hb3
  clear hrd hb2 hb3 H1
  generalize w1.heap.size = b1 at HRD
  go_wp2_with fail
  refine (At_rd HRD.out).mono ?_
  rintro e w3 ⟨rfl, m, rfl⟩
  replace HRD := Aside0.mk (HRD.out.drewN m)
  replace HB := Aside0.mk (pw_below_drewN HB.out m)
  generalize w2.drewN m = w3 at HRD HB ⊢
  go_wp2_with fail
  refine (Left_rd HRD.out).mono ?_
  rintro e w4 ⟨rfl, m, rfl⟩
  replace HRD := Aside0.mk (HRD.out.drewN m)
  replace HB := Aside0.mk (pw_below_drewN HB.out m)
  generalize w3.drewN m = w4 at HRD HB ⊢
  go_wp2_with fail
  obtain ⟨k, hk, hpick⟩ := pick_some a1 (l0.length + 1) (by omega) (by have := HLIM.out; omega)
  have hk2 : k ≤ l0.length := by omega
  refine (provisolaw01_pick.calls a1 ((l0.length : Int) + 1) (k : Int) w4 (by rw [← Int.natCast_one, ← Int.natCast_add]; exact hpick)).mono ?_
  clear hpick hk
  rintro e w5 ⟨rfl, m, rfl⟩
  replace HRD := Aside0.mk (HRD.out.drewN m)
  replace HB := Aside0.mk (pw_below_drewN HB.out m)
  generalize w4.drewN m = w5 at HRD HB ⊢
  go_wp2_with fail
  refine (Within_good HRD.out k (by omega) (by have := HLIM.out; omega)).mono ?_
  rintro e w7 ⟨g2, m, m2, w6, rfl, hw6, hb6, hr6⟩
  rw [Nat.zero_add] at hw6 hr6
  rw [List.drop_zero] at hr6
  have hrd6 := HRD.out.self k m m2 hk2
  have hbel6 := below_rd HB.out HGE.out m m2 (.int .i64 (k : Int))
  rw [← hw6] at hrd6 hbel6
  have HNE : Aside0 (g ≠ g2) := ⟨by
    obtain ⟨cs, hc⟩ := hrd6.frozen
    have := blk_lt hc
    have := hr6.ge
    omega⟩
  have HGE2 : Aside0 (w.heap.size ≤ g2) := ⟨Nat.le_trans hbel6.size hr6.ge⟩
  clear HRD HB hw6
  have HRD := Aside0.mk (hrd6.step hb6)
  have HB := Aside0.mk (below_step hbel6 hb6)
  clear hrd6 hbel6 hb6
  generalize w6.heap.size = b2 at hr6
  obtain ⟨seg, hseg⟩ : ∃ seg, seg = l0.take k := ⟨_, rfl⟩
  have hsl : seg.length = k := by rw [hseg, List.length_take]; omega
  rw [← hseg] at hr6
  have HSUB := Aside0.mk hr6
  have HSL := Aside0.mk hsl
  have HSEG := Aside0.mk hseg
  clear hr6 hsl hseg
  go_wp2_with fail
  have hL := Left_rd HSUB.out
  rw [HSL.out, show (k : Int) - ((0 : Nat) : Int) = (k : Int) by omega] at hL
  refine hL.mono ?_
  clear hL
  rintro e w8 ⟨rfl, m, rfl⟩
  replace HRD := Aside0.mk (HRD.out.drewN m)
  replace HSUB := Aside0.mk (HSUB.out.drewN m)
  replace HB := Aside0.mk (pw_below_drewN HB.out m)
  generalize w7.drewN m = w8 at HRD HSUB HB ⊢
  go_wp2_with fail
  refine (At_rd HRD.out).mono ?_
  rintro e w9 ⟨rfl, m, rfl⟩
  replace HRD := Aside0.mk (HRD.out.drewN m)
  replace HSUB := Aside0.mk (HSUB.out.drewN m)
  replace HB := Aside0.mk (pw_below_drewN HB.out m)
  generalize w8.drewN m = w9 at HRD HSUB HB ⊢
  go_wp2
  go_loopw [62] (fun v62 wr => ∃ i : Nat, v62 = .int .i64 (i : Int) ∧ i ≤ l0.length ∧ Aside0 (RdAt b1 g l0 (max k i) wr) ∧ Aside0 (RdAt b2 g2 seg (min i k) wr) ∧ Aside0 (Below w.heap.size w wr)) (fun v62 _ => ((l0.length : Int) - intOf v62).toNat)
  case atStart => exact ⟨0, rfl, Nat.zero_le _, ⟨by rw [Nat.max_eq_left (Nat.zero_le _)]; exact HRD.out⟩, ⟨by rw [Nat.min_eq_left (Nat.zero_le _)]; exact HSUB.out⟩, HB⟩
  case round =>
    obtain ⟨i, rfl, hi, HRD, HSUB, HB⟩ := hrel
    by_cases c1 : i < l0.length
    · have c1b : decide ((i : Int) < (l0.length : Int)) = true := decide_eq_true (by omega)
      obtain ⟨ad, e3, hx⟩ := Kd.at_int HR.out (i : Int) (by omega) (by omega)
      subst e3
      replace hx := (HB.out.cell (World.block_lt_of_cell? w _ hx)).trans hx
      simp only [Int.toNat_natCast] at hx
      have p5 : (0 ≤ (i : Int)) = True := eq_true (by omega)
      have p6 : ((i : Int) < (l0.length : Int)) = True := eq_true (by omega)
      have hzb : 0 ≤ rd l0 (i : Int) ∧ rd l0 (i : Int) ≤ 255 := by
        have : rd l0 (i : Int) = l0[i] := by simp [rd, List.getD_eq_getElem?_getD, c1]
        rw [this]
        exact HBY.out _ (List.getElem_mem c1)
      obtain ⟨z, hz⟩ : ∃ z, z = rd l0 (i : Int) := ⟨_, rfl⟩
      rw [← hz] at hx hzb
      have HZ := Aside0.mk hz
      obtain ⟨hz0, hz1⟩ := hzb
      clear hz
      by_cases d1 : i < k
      · have d1b : decide (i < k) = true := decide_eq_true d1
        have s1 : (k : Int) + ((l0.length : Int) - (k : Int)) = (l0.length : Int) := by omega
        have s2 : (wrap64 ((i : Int) + 1 + ((seg.length : Int) - ((i : Int) + 1))) != (k : Int)) = false := by rw [HSL.out, bne_eq_false_iff_eq]; unfold wrap64; have := HLIM.out; omega
        have D1 := Aside0.mk d1
        clear d1
        go_wp2_with fail
        have hS := HSUB.out
        rw [Nat.min_eq_left (Nat.le_of_lt D1.out)] at hS
        have hB := Byte_good hS (fun x hx => HBY.out x (by rw [HSEG.out] at hx; exact List.mem_of_mem_take hx)) (by have := HSL.out; have := D1.out; omega)
        have hnum : numOf ((seg.take (i + 1)).drop i) = z := by
          rw [num_one seg i (by have := HSL.out; have := D1.out; omega), HZ.out, HSEG.out]
          have := D1.out
          simp [rd, List.getD_eq_getElem?_getD, this]
        rw [hnum] at hB
        refine hB.mono ?_
        clear hB hnum
        rintro e w10 ⟨m, m2, rfl, rfl⟩
        have hR := HRD.out
        rw [Nat.max_eq_left (Nat.le_of_lt D1.out)] at hR
        have hR2 := hR.other hS HNE.out m m2 (.int .i64 ((i + 1 : Nat) : Int))
        have hS2 := hS.self (i + 1) m m2 (by have := HSL.out; have := D1.out; omega)
        have hB2 := below_rd HB.out HGE2.out m m2 (.int .i64 ((i + 1 : Nat) : Int))
        clear HRD HSUB HB hS hR hx
        generalize ((wr.drewN m).setCell ⟨g2, 1, none⟩ (.int .i64 ((i + 1 : Nat) : Int))).drewN m2 = w10 at hR2 hS2 hB2 ⊢
        have HRD := Aside0.mk hR2
        have HSUB := Aside0.mk hS2
        have HB := Aside0.mk hB2
        clear hR2 hS2 hB2
        go_wp2_with fail
        refine (At_rd HRD.out).mono ?_
        rintro e w9 ⟨rfl, m, rfl⟩
        replace HRD := Aside0.mk (HRD.out.drewN m)
        replace HSUB := Aside0.mk (HSUB.out.drewN m)
        replace HB := Aside0.mk (pw_below_drewN HB.out m)
        generalize w10.drewN m = w11 at HRD HSUB HB ⊢
        clear m
        go_wp2_with fail
        refine (Left_rd HRD.out).mono ?_
        rintro e w9 ⟨rfl, m, rfl⟩
        replace HRD := Aside0.mk (HRD.out.drewN m)
        replace HSUB := Aside0.mk (HSUB.out.drewN m)
        replace HB := Aside0.mk (pw_below_drewN HB.out m)
        generalize w11.drewN m = w12 at HRD HSUB HB ⊢
        clear m
        go_wp2_with fail
        refine (At_rd HSUB.out).mono ?_
        rintro e w9 ⟨rfl, m, rfl⟩
        replace HRD := Aside0.mk (HRD.out.drewN m)
        replace HSUB := Aside0.mk (HSUB.out.drewN m)
        replace HB := Aside0.mk (pw_below_drewN HB.out m)
        generalize w12.drewN m = w13 at HRD HSUB HB ⊢
        clear m
        go_wp2_with fail
        refine (Left_rd HSUB.out).mono ?_
        rintro e w9 ⟨rfl, m, rfl⟩
        replace HRD := Aside0.mk (HRD.out.drewN m)
        replace HSUB := Aside0.mk (HSUB.out.drewN m)
        replace HB := Aside0.mk (pw_below_drewN HB.out m)
        generalize w13.drewN m = w14 at HRD HSUB HB ⊢
        clear m
        go_wp2
        exact ⟨⟨i + 1, rfl, by omega, ⟨by rw [Nat.max_eq_left (by have := D1.out; omega)]; exact HRD.out⟩, ⟨by rw [Nat.min_eq_left (by have := D1.out; omega)]; exact HSUB.out⟩, HB⟩, by simp [intOf]; omega⟩
      · have d1b : decide (i < k) = false := decide_eq_false d1
        have s1 : (wrap64 ((i : Int) + 1 + ((l0.length : Int) - ((i : Int) + 1))) != (l0.length : Int)) = false := by rw [bne_eq_false_iff_eq]; unfold wrap64; have := HLIM.out; omega
        have s2 : (wrap64 ((k : Int) + ((seg.length : Int) - (k : Int))) != (k : Int)) = false := by rw [HSL.out, bne_eq_false_iff_eq]; unfold wrap64; have := HLIM.out; omega
        have D1 := Aside0.mk (Nat.le_of_not_lt d1)
        clear d1
        go_wp2_with fail
        have hR := HRD.out
        rw [Nat.max_eq_right D1.out] at hR
        have hS := HSUB.out
        rw [Nat.min_eq_right D1.out] at hS
        have hB := Byte_good hR HBY.out c1
        rw [num_one l0 i c1, ← HZ.out] at hB
        refine hB.mono ?_
        clear hB
        rintro e w10 ⟨m, m2, rfl, rfl⟩
        have hS2 := hS.other hR (Ne.symm HNE.out) m m2 (.int .i64 ((i + 1 : Nat) : Int))
        have hR2 := hR.self (i + 1) m m2 c1
        have hB2 := below_rd HB.out HGE.out m m2 (.int .i64 ((i + 1 : Nat) : Int))
        clear HRD HSUB HB hS hR hx
        generalize ((wr.drewN m).setCell ⟨g, 1, none⟩ (.int .i64 ((i + 1 : Nat) : Int))).drewN m2 = w10 at hR2 hS2 hB2 ⊢
        have HRD := Aside0.mk hR2
        have HSUB := Aside0.mk hS2
        have HB := Aside0.mk hB2
        clear hR2 hS2 hB2
        go_wp2_with fail
        refine (At_rd HRD.out).mono ?_
        rintro e w9 ⟨rfl, m, rfl⟩
        replace HRD := Aside0.mk (HRD.out.drewN m)
        replace HSUB := Aside0.mk (HSUB.out.drewN m)
        replace HB := Aside0.mk (pw_below_drewN HB.out m)
        generalize w10.drewN m = w11 at HRD HSUB HB ⊢
        clear m
        go_wp2_with fail
        refine (Left_rd HRD.out).mono ?_
        rintro e w9 ⟨rfl, m, rfl⟩
        replace HRD := Aside0.mk (HRD.out.drewN m)
        replace HSUB := Aside0.mk (HSUB.out.drewN m)
        replace HB := Aside0.mk (pw_below_drewN HB.out m)
        generalize w11.drewN m = w12 at HRD HSUB HB ⊢
        clear m
        go_wp2_with fail
        refine (At_rd HSUB.out).mono ?_
        rintro e w9 ⟨rfl, m, rfl⟩
        replace HRD := Aside0.mk (HRD.out.drewN m)
        replace HSUB := Aside0.mk (HSUB.out.drewN m)
        replace HB := Aside0.mk (pw_below_drewN HB.out m)
        generalize w12.drewN m = w13 at HRD HSUB HB ⊢
        clear m
        go_wp2_with fail
        refine (Left_rd HSUB.out).mono ?_
        rintro e w9 ⟨rfl, m, rfl⟩
        replace HRD := Aside0.mk (HRD.out.drewN m)
        replace HSUB := Aside0.mk (HSUB.out.drewN m)
        replace HB := Aside0.mk (pw_below_drewN HB.out m)
        generalize w13.drewN m = w14 at HRD HSUB HB ⊢
        clear m
        go_wp2
        exact ⟨⟨i + 1, rfl, by omega, ⟨by rw [Nat.max_eq_right (by have := D1.out; omega)]; exact HRD.out⟩, ⟨by rw [Nat.min_eq_right (by have := D1.out; omega)]; exact HSUB.out⟩, HB⟩, by simp [intOf]; omega⟩
    · have c1b : decide ((i : Int) < (l0.length : Int)) = false := decide_eq_false (by omega)
      have e1 : Aside0 (i = l0.length) := ⟨by omega⟩
      go_wp2_with fail
      have hE := End_rd HSUB.out
      rw [if_pos (by have := HSL.out; have := e1.out; omega)] at hE
      refine hE.mono ?_
      clear hE
      rintro e w9 ⟨rfl, m, rfl⟩
      replace HRD := Aside0.mk (HRD.out.drewN m)
      replace HB := Aside0.mk (pw_below_drewN HB.out m)
      generalize wr.drewN m = w10 at HRD HB ⊢
      go_wp2_with fail
      have hE := End_rd HRD.out
      rw [if_pos (by have := e1.out; omega)] at hE
      refine hE.mono ?_
      clear hE
      rintro e w9 ⟨rfl, m, rfl⟩
      go_wp2
      go_ret
      exact ⟨rfl, pw_below_drewN HB.out m⟩

def IsS81 (w0 W : World) (g : Nat) (f0 : List Int) (f1 : Bool) : Prop := ∃ A0 c0, W.heap[g]? = some (.cells #[.slice A0 f0.length c0, .bool f1] 81 (0, 0)) ∧ w0.heap.size ≤ g ∧ Kd.C (Kd.int .u8) w0 A0 f0.length f0
theorem IsS81.grown {w0 W : World} {g : Nat} {f0 : List Int} {f1 : Bool} {W1 : World} {row : Option Nat} (h : IsS81 w0 W g f0 f1) (hw : W.grownBy W1 row) (hne : some g ≠ row) : IsS81 w0 W1 g f0 f1 := by
  obtain ⟨A0, c0, hb, hg, hr0⟩ := h
  exact ⟨A0, c0, blk_grown hb hw hne, hg, hr0⟩
theorem IsS81.kept {w0 W : World} {g : Nat} {f0 : List Int} {f1 : Bool} {W1 : World} {S : Nat → Prop} (h : IsS81 w0 W g f0 f1) (hk : Kept W W1 S) (hne : ¬ S g) : IsS81 w0 W1 g f0 f1 := by
  obtain ⟨A0, c0, hb, hg, hr0⟩ := h
  exact ⟨A0, c0, blk_kept hb hk hne, hg, hr0⟩
theorem IsS81.below {w0 W : World} {g : Nat} {f0 : List Int} {f1 : Bool} {W1 : World} (h : IsS81 w0 W g f0 f1) (hw : Below W.heap.size W W1) : IsS81 w0 W1 g f0 f1 := h.grown (grown_of_below hw none) (by simp)
theorem IsS81.alloc {w0 W : World} {g : Nat} {f0 : List Int} {f1 : Bool} (h : IsS81 w0 W g f0 f1) (o : Obj) : IsS81 w0 (W.alloc o) g f0 f1 := h.below (below_alloc (Below.refl _ _) o)
theorem IsS81.drewN {w0 W : World} {g : Nat} {f0 : List Int} {f1 : Bool} (h : IsS81 w0 W g f0 f1) (m : Nat) : IsS81 w0 (W.drewN m) g f0 f1 := h
theorem IsS81.drew {w0 W : World} {g : Nat} {f0 : List Int} {f1 : Bool} (h : IsS81 w0 W g f0 f1) : IsS81 w0 W.drew g f0 f1 := h
theorem IsS81.at_ {w0 W : World} {g : Nat} {f0 : List Int} {f1 : Bool} {w' : World} {m : Nat} (hq : W.drewN m = w') (h : IsS81 w0 W g f0 f1) : IsS81 w0 w' g f0 f1 := by subst hq; exact IsS81.drewN h m
theorem IsS81.ge {w0 W : World} {g : Nat} {f0 : List Int} {f1 : Bool} (h : IsS81 w0 W g f0 f1) : w0.heap.size ≤ g := by
  obtain ⟨A0, c0, hb, hg, hr0⟩ := h
  exact hg
theorem IsS81.far {w0 W : World} {g : Nat} {f0 : List Int} {f1 : Bool} {p : Addr} (h : IsS81 w0 W g f0 f1) (hne : g ≠ p.block) (u : Value) : IsS81 w0 (W.setCell p u) g f0 f1 := by
  obtain ⟨A0, c0, hb, hg, hr0⟩ := h
  exact ⟨A0, c0, blk_far hb hne u, hg, hr0⟩
end Go.Proofs.Ytklbkonehcjmjaa.P

end

section
namespace Go.Proofs.Ytklbkonehcjmjaa.P
open Go.RowKit Go.Proofs.YtklbkonehcjmjaaW.PrintWords
def provisolaw01_WireParts.Pure : Prop := ∀ (l0 : List (Int)) (a1 : Int), (fun l : List (Int) => l.length ≤ 9223372036854775807 ∧ l.length * 1 ≤ 140737488351232 ∧ ∀ x ∈ l, (fun n : Int => (Lit.int .u8 n).wf = true) x) l0 → (fun n : Int => (Lit.int .i64 n).wf = true) a1 → provisolaw01_WireParts.f l0 a1 = some true
end Go.Proofs.Ytklbkonehcjmjaa.P

end

section
namespace Go.Proofs.Ytklbkonehcjmjaa.Pure
open Go.RowKit Go.Proofs.Ytklbkonehcjmjaa.P Go.Proofs.YtklbkonehcjmjaaW.PrintWords
theorem WireParts : provisolaw01_WireParts.Pure := by
  intro l0 a1 h _
  unfold provisolaw01_WireParts.f
  rw [if_pos ⟨by have := h.2.1; omega, fun x hx => by
    have := h.2.2 x hx
    simp [Lit.wf, IntKind.min, IntKind.max, IntKind.signed, IntKind.bits] at this
    exact this⟩]
end Go.Proofs.Ytklbkonehcjmjaa.Pure

end

section
namespace Go.Proofs.Ytklbkonehcjmjaa.wireParts
open Go.ChangeShapes Go.WideShapes Go.ChangeAt Go.RowKit Go.Proofs.YtklbkonehcjmjaaW.PrintWords Go.Proofs.Ytklbkonehcjmjaa.Sees Go.Proofs.Ytklbkonehcjmjaa.P
open Go.ChangeMaps (open_string shut_string)
set_option linter.unusedVariables false
set_option linter.unusedSimpArgs false
theorem own : ownKnob Try.prog.godebug = none := by kernel_rfl
theorem laidOut : laidOutB Try.prog = true := by kernel_rfl
set_option maxRecDepth 100000 in
theorem lifted (os : Os) (started : os.Started) (H : Type) (enc : TypeId × Value → H) :
    ReturnsInHanded {} Try.checked os 5 .any (Rows.wirePartsSpec.pre6 enc Try.prog Try.f5 Rows.wirePartsRow.domain false) (Rows.wirePartsSpec.post enc Try.prog Try.f5 false true false false) := by
  refine returnsInHanded_of_change_sized (C := Try.checked) own started (by kernel_rfl) Try.func5
    (ChangeSpec.witness6 (enc := enc) (C := Try.checked) false ⟨#[], #[.slice none 0 0, .int .i64 0], []⟩ 8 (by kernel_rfl) (by kernel_rfl) (by kernel_rfl) (by kernel_rfl)) ?_
  intro W base args ds gs before hval0 hW hcnd hsz0 _
  have hsz : (DataW.weightsEach Try.prog (Try.f5.params.toList ++ Rows.wirePartsSpec.plain.varTypes Try.prog) (ds ++ gs)).all (· ≤ reachBytes) = true := hsz0
  have hval : ∀ (j : Nat) t v, Try.f5.params[j]? = some t → args[j]? = some v → Value.okWide Try.prog W .any base t v := hval0
  have hW' := hW
  obtain ⟨p, q, hA0, hV, rfl, hfz, hnd⟩ := hW
  have hA : DataW.TrodAll enc Try.prog W 0 (fun _ => true) true Try.f5.params.toList args.toList ds p := hA0
  rw [Try.params5] at hA hval hsz
  obtain ⟨v0, vs0, d0, ds0, p0, q0, hargs, rfl, rfl, h0, r0⟩ := trodAll_cons hA
  obtain ⟨v1, vs1, d1, ds1, p1, q1, rfl, rfl, rfl, h1, r1⟩ := trodAll_cons r0
  obtain ⟨rfl, rfl, rfl⟩ := trodAll_nil r1
  obtain rfl : args = #[v0, v1] := by cases args; simp_all
  obtain ⟨rfl, rfl⟩ := trodVars_none hV
  have k0 := h0
  have lt0 : ∀ x ∈ p0, x.block < W.heap.size := by obtain ⟨m, hm⟩ := k0; exact DataW.trod_lt m _ _ _ hm
  obtain ⟨y0, hy0, oy0⟩ := see_arg (j := 0) (t := 23) (sees_slice (B := 1) Try.underlying23 (by kernel_rfl) (by kernel_rfl) (sees_int Try.underlying5)) hsz rfl rfl h0
  obtain ⟨a0, len0, cap0, rfl⟩ := okWide_slice Try.underlying23 (hval 0 23 v0 rfl rfl)
  obtain ⟨rfl, hc0, hr0⟩ := see_slice rfl hy0
  have k1 := h1
  have lt1 : ∀ x ∈ p1, x.block < W.heap.size := by obtain ⟨m, hm⟩ := k1; exact DataW.trod_lt m _ _ _ hm
  obtain ⟨y1, hy1, oy1⟩ := see_arg (j := 1) (t := 3) (sees_int Try.underlying3) hsz rfl rfl h1
  obtain ⟨z1, rfl, rfl, rfl, _⟩ := open_int Try.underlying3 (hval 1 3 v1 rfl rfl) h1
  obtain rfl : z1 = y1 := by have e_ := hy1; simp [Kd.int, Kd.bool, Kd.string, Kd.scalar, Value.cells] at e_; exact e_
  clear hA0 hval0 hsz0 hsz
  have hk := Pure.WireParts y0 z1 oy0 oy1
  refine (provisolaw01_WireParts.calls _ _ y0 z1 true W hr0 hc0 hk).mono ?_
  rintro e W' ⟨rfl, bel0⟩
  have bel : Below W.heap.size W W' := bel0
  exact ⟨_, rfl, _, _, _, [], _, [], hW', trodAll_mk1 (shut_bool Try.underlying4 _), (trodAll_cons_mk (Below.trod laidOut (by kernel_rfl) (of_decide_eq_true (by kernel_rfl)) k0 bel lt0) (trodAll_cons_mk (Below.trod laidOut (by kernel_rfl) (of_decide_eq_true (by kernel_rfl)) k1 bel lt1) trodAll_mk0)), rfl, bel.frame _, fun h => by cases h⟩
theorem over : Rows.wirePartsRow.holds Try.pinned (OpenSpec.ofChange Rows.wirePartsSpec) :=
  OpenClaim.holds_of_wide 5 Try.f5 rfl rfl rfl rfl rfl rfl rfl ⟨rfl, rfl, rfl, rfl, rfl⟩ rfl rfl rfl rfl rfl (by kernel_rfl) Try.func5 (by kernel_rfl)
    (of_decide_eq_true (by kernel_rfl)) (by unfold Func.isWrapper; first | (rw [if_pos (by decide +kernel)]; kernel_rfl) | (rw [if_neg (by decide +kernel)]; exact ⟨rfl, rfl⟩))
    (fun os started H enc _ => lifted os started H enc)
theorem proved : Rows.WirePartsSaid := over
end Go.Proofs.Ytklbkonehcjmjaa.wireParts
namespace Go.Proofs.Ytklbkonehcjmjaa
theorem wireParts_holds : Rows.WirePartsSaid := wireParts.proved
end Go.Proofs.Ytklbkonehcjmjaa

end

