/- Proved: the law WireOwn holds for every input that the row lets in. No condition of ours. -/
import Derived.Test.YtklbkonehcjmjaaBWireOwnb
import Derived.Test.YtklbkonehcjmjaaProg
import Derived.WalkSpells
import Derived.ChangeKeysEq
import Derived.Deep.MidRow
import Derived.Lib.AppendZeros
import Derived.Test.YtklbkonehcjmjaaRows
import Derived.ShutString
import Derived.ChangeOld
import Derived.Lib.SmallJoins
section
namespace Go.Proofs.Ytklbkonehcjmjaa.P
open Go.RowKit Go.Proofs.YtklbkonehcjmjaaW.PrintWords Go.Proofs.YtklbkonehcjmjaaW.PrintLast Go.Proofs.YtklbkonehcjmjaaW.PrintMore
attribute [local go_sem] max2_int min2_int max_two min_two max_three min_three max_four min_four   -- for this text's walks alone
set_option linter.unusedVariables false
set_option linter.unusedSimpArgs false



theorem info5 : (Try.prog.info? 5).map (fun i => (i.zero, i.size, i.bytes)) = some (some (.int .u8 0), 1, 1) := by kernel_rfl
end Go.Proofs.Ytklbkonehcjmjaa.P

end

section
namespace Go.Proofs.Ytklbkonehcjmjaa.P
open Go.RowKit Go.Proofs.YtklbkonehcjmjaaW.PrintWords Go.Proofs.YtklbkonehcjmjaaW.PrintLast Go.Proofs.YtklbkonehcjmjaaW.PrintMore
attribute [local go_sem] max2_int min2_int max_two min_two max_three min_three max_four min_four   -- for this text's walks alone
set_option linter.unusedVariables false
set_option linter.unusedSimpArgs false

def slices_Clone_byte_byte.f (l0 : List Int) : Option (List Int) := if l0.length < 140737488355328 then some l0 else none
set_option maxHeartbeats 800000 in
set_option maxRecDepth 100000 in
theorem slices_Clone_byte_byte.calls (A0 : Option Addr) (c0 : Nat) (l0 : List Int) (r : List Int) (w : World) (hr0 : Kd.C (Kd.int .u8) w A0 l0.length l0) (hc0 : l0.length ≤ c0) (h : slices_Clone_byte_byte.f l0 = some r) :
    Calls Try.prog 17 #[.slice A0 l0.length c0] w fun e w' => ∃ v0_ : Value, e = .returned v0_ ∧ Kd.R (Kd.int .u8) 5 w' w.heap.size (fun _ => True) v0_ r ∧ Below w.heap.size w w' := by
  obtain ⟨hlim, rfl⟩ : l0.length < 140737488355328 ∧ r = l0 := by
    unfold slices_Clone_byte_byte.f at h
    split at h
    · rename_i h9
      exact ⟨h9, (Option.some.inj h).symm⟩
    · cases h
  have hnil := Lib.run_eql_slice_nil (P := Try.prog) (h := Try.underlying23)
  have HR := Aside0.mk hr0
  have HL := Aside0.mk hlim
  cases A0 with
  | none =>
    have e0 : r = [] := by
      rcases Nat.eq_zero_or_pos r.length with h0 | h0
      · exact List.length_eq_zero_iff.1 h0
      · obtain ⟨ad, e, _⟩ := hr0.2.2 h0
        cases e
    have E0 := Aside0.mk e0
    clear h hr0 hlim e0
    go_enter Try.func17, Try.ntmps17
    go_wp2
    go_ret
    refine ⟨_, rfl, ?_, Below.refl _ _⟩
    rw [E0.out]
    exact Kd.R_nil _ _ _ _ _
  | some ad =>
    clear h hr0 hlim
    go_enter Try.func17, Try.ntmps17
    go_wp2_with (first | ((with_reducible refine gate_dst (N := 5) rfl ?_); refine Kd.R_lit (Kd.int .u8) _ 5 ?hg (N := 5) ?hd (xs := ([] : List Int)) (inner := []) (ok := fun _ => True) (okp := fun _ => True) ?hr ?hp (fun _ hk => hk) trivial (Below.refl _ _) (Nat.le_refl _) (by simp) ?_; (case hd => rfl); (case hg => rfl); (case hr => first | (go_simp; done) | (go_simp; rfl)); (case hp => exact (Reps.none _ _)); intro v1 w1 ho1 hb1 _ _; have n1 := Aside0.mk ho1; have n2 := Aside0.mk hb1; clear ho1 hb1; obtain ⟨A1, c1, e1⟩ := Kd.R_slice n1.out; subst e1) | ((with_reducible refine gate_builtin (b := .append) (xs := #[.tmp 5, .tmp 6]) rfl ?_); at_builtin; refine Kd.R_append_rows (Kd.int .u8) (w0 := w) w.heap.size rfl (.tmp 5) (.tmp 6) 23 5 (.int .u8 0) 1 rfl Try.underlying23 info5 rfl (by decide) (by omega) (.slice A1 (([] : List Int)).length c1) ([] : List Int) r _ _ _ (fun _ => True) (fun _ => False) rfl rfl ?aO ?aR (fun _ _ h => h) (fun _ h => h.elim) ?aF ?aB ?aS ?aL ?_; (case aR => exact Kd.C_below HR.out n2.out); (case aB => exact n2.out); (case aF => exact (fun _ _ => trivial)); (case aO => exact n1.out); (case aS => exact n2.out.size); (case aL => have h9 := HL.out; simp only [List.length_nil]; omega); intro v2 w2 ho2 hb2 _ _; have n3 := Aside0.mk ho2; have n4 := Aside0.mk hb2; clear ho2 hb2))
    go_ret
    exact ⟨_, rfl, n3.out, n4.out⟩

section
variable {P : Program} {ops : Array Oper} {rest : List Oper} {o : Oper} {a : Act} {Q : Exit → Act → World → Prop}
end
end Go.Proofs.Ytklbkonehcjmjaa.P

end

section
namespace Go.Proofs.Ytklbkonehcjmjaa.P
open Go.RowKit Go.Proofs.YtklbkonehcjmjaaW.PrintWords Go.Proofs.YtklbkonehcjmjaaW.PrintLast Go.Proofs.YtklbkonehcjmjaaW.PrintMore
attribute [local go_sem] max2_int min2_int max_two min_two max_three min_three max_four min_four   -- for this text's walks alone
set_option linter.unusedVariables false
set_option linter.unusedSimpArgs false

def slices_Equal_byte_byte.l0 : Nat → List Int → List Int → Int → Int → Option (Bool)
  | 0, _, _, _, _ => none
  | k + 1, x0, x1, x12, x13 => if x13 < x12 then (if 0 ≤ x13 then (if x13 < (x0.length : Int) then (if x13 < (x1.length : Int) then (if (rd x0 x13) = (rd x1 x13) then (slices_Equal_byte_byte.l0 k x0 x1 x12 (wrap64 (x13 + 1))) else (some false)) else (none)) else (none)) else (none)) else (some true)
def slices_Equal_byte_byte.f (k : Nat) (l0 : List Int) (l1 : List Int) : Option (Bool) := if (l0.length : Int) = (l1.length : Int) then (slices_Equal_byte_byte.l0 k l0 l1 (l0.length : Int) 0) else (some false)
set_option maxHeartbeats 8000000 in
set_option maxRecDepth 100000 in
theorem slices_Equal_byte_byte.calls (k : Nat) (A0 : Option Addr) (c0 : Nat) (l0 : List Int) (A1 : Option Addr) (c1 : Nat) (l1 : List Int) (r : Bool) (w : World) (hr0 : Kd.C (Kd.int .u8) w A0 l0.length l0) (hc0 : l0.length ≤ c0) (hr1 : Kd.C (Kd.int .u8) w A1 l1.length l1) (hc1 : l1.length ≤ c1) (h : slices_Equal_byte_byte.f k l0 l1 = some r) :
    Calls Try.prog 28 #[.slice A0 l0.length c0, .slice A1 l1.length c1] w fun e w' => e = .returned (.bool r) ∧ Drawn0 w w' := by
  have HR0 := Aside0.mk hr0
  have HC0 := Aside0.mk hc0
  clear hr0 hc0
  have HR1 := Aside0.mk hr1
  have HC1 := Aside0.mk hc1
  clear hr1 hc1
  have H : (if (l0.length : Int) = (l1.length : Int) then (slices_Equal_byte_byte.l0 k l0 l1 (l0.length : Int) 0) else (some false)) = some r := h
  clear h
  by_cases c3 : (l0.length : Int) = (l1.length : Int)
  · rw [if_pos c3] at H
    have c3b0 : ((l0.length : Int) == (l1.length : Int)) = true := beq_iff_eq.mpr c3
    have c3b1 : ((l0.length : Int) != (l1.length : Int)) = false := bne_eq_false_iff_eq.mpr c3
    have c3b2 : (l0.length == l1.length) = true := by first | simpa using c3 | (simp at c3 ⊢; omega)
    clear c3
    have H' := Aside0.mk H
    clear H
    go_enter Try.func28, Try.ntmps28
    go_wp2
    repeat (go_quiet (fail); try go_wp2)
    go_loopg [13] k (fun kq v13 w' => ∃ (x13_1 : Int), v13 = .int .i64 x13_1 ∧ Aside0 (slices_Equal_byte_byte.l0 kq l0 l1 (l0.length : Int) x13_1 = some r) ∧ Aside0 (kq ≤ k) ∧ Drawn0 w w')
    case atStart => exact ⟨(0), (by first | rfl | (simp; done) | (simp [*]; done)), H', ⟨Nat.le_refl _⟩, by repeat (first | exact Drawn0.refl _ | apply Drawn0.step)⟩
    case round =>
      clear H'
      try clear c1
      try clear c2
      try clear p2
      try clear c3
      try clear c3b0
      try clear c3b1
      try clear c3b2
      obtain ⟨x13_1, rfl, HA, HK1, ⟨m1, rfl⟩⟩ := hrel
      cases gk with
      | zero => exact absurd HA.out (by simp [slices_Equal_byte_byte.l0])
      | succ k1 =>
        have H := HA.out
        clear HA
        simp only [slices_Equal_byte_byte.l0] at H
        by_cases c4 : x13_1 < (l0.length : Int)
        · rw [if_pos c4] at H
          have c4b0 : decide (x13_1 < (l0.length : Int)) = true := decide_eq_true c4
          clear c4
          by_cases c5 : 0 ≤ x13_1
          · rw [if_pos c5] at H
            have c5b0 : decide (0 ≤ x13_1) = true := decide_eq_true c5
            clear c5
            by_cases c6 : x13_1 < (l0.length : Int)
            · rw [if_pos c6] at H
              have c6b0 : decide (x13_1 < (l0.length : Int)) = true := decide_eq_true c6
              clear c6
              by_cases c7 : x13_1 < (l1.length : Int)
              · rw [if_pos c7] at H
                have c7b0 : decide (x13_1 < (l1.length : Int)) = true := decide_eq_true c7
                clear c7
                by_cases c8 : (rd l0 x13_1) = (rd l1 x13_1)
                · rw [if_pos c8] at H
                  have c8b0 : ((rd l0 x13_1) == (rd l1 x13_1)) = true := beq_iff_eq.mpr c8
                  have c8b1 : ((rd l0 x13_1) != (rd l1 x13_1)) = false := bne_eq_false_iff_eq.mpr c8
                  clear c8
                  have H' := Aside0.mk H
                  clear H
                  have p104 : 0 ≤ (x13_1 : Int) := of_decide_eq_true (by first | (with_reducible assumption) | assumption)
                  have q104 : x13_1 < (l0.length : Int) := of_decide_eq_true (by first | (with_reducible assumption) | assumption)
                  obtain ⟨ad104, e104, hx104_0⟩ := Kd.at_int HR0.out x13_1 p104 q104
                  cases e104
                  replace p104 := eq_true p104
                  replace q104 := eq_true q104
                  have p105 : 0 ≤ (x13_1 : Int) := of_decide_eq_true (by first | (with_reducible assumption) | assumption)
                  have q105 : x13_1 < (l1.length : Int) := of_decide_eq_true (by first | (with_reducible assumption) | assumption)
                  obtain ⟨ad105, e105, hx105_0⟩ := Kd.at_int HR1.out x13_1 p105 q105
                  cases e105
                  replace p105 := eq_true p105
                  replace q105 := eq_true q105
                  go_wp2
                  repeat (go_quiet (fail); try go_wp2)
                  go_roundg k1
                  case measure => have := HK1.out; omega
                  case rel => exact ⟨(wrap64 (x13_1 + 1)), (by first | rfl | (simp; done) | (simp [*]; done)), H', ⟨by have := HK1.out; omega⟩, by repeat (first | exact Drawn0.refl _ | apply Drawn0.step)⟩
                · rw [if_neg c8] at H
                  have c8b0 : ((rd l0 x13_1) == (rd l1 x13_1)) = false := beq_eq_false_iff_ne.mpr c8
                  have c8b1 : ((rd l0 x13_1) != (rd l1 x13_1)) = true := bne_iff_ne.mpr c8
                  obtain rfl := Option.some.inj H
                  have p104 : 0 ≤ (x13_1 : Int) := of_decide_eq_true (by first | (with_reducible assumption) | assumption)
                  have q104 : x13_1 < (l0.length : Int) := of_decide_eq_true (by first | (with_reducible assumption) | assumption)
                  obtain ⟨ad104, e104, hx104_0⟩ := Kd.at_int HR0.out x13_1 p104 q104
                  cases e104
                  replace p104 := eq_true p104
                  replace q104 := eq_true q104
                  have p105 : 0 ≤ (x13_1 : Int) := of_decide_eq_true (by first | (with_reducible assumption) | assumption)
                  have q105 : x13_1 < (l1.length : Int) := of_decide_eq_true (by first | (with_reducible assumption) | assumption)
                  obtain ⟨ad105, e105, hx105_0⟩ := Kd.at_int HR1.out x13_1 p105 q105
                  cases e105
                  replace p105 := eq_true p105
                  replace q105 := eq_true q105
                  go_wp2
                  repeat (go_quiet (fail); try go_wp2)
                  go_ret
                  exact ⟨by first | rfl | (simp; done) | (simp [*]; done), by repeat (first | exact Drawn0.refl _ | apply Drawn0.step)⟩
              · rw [if_neg c7] at H
                exact absurd H (by simp)
            · rw [if_neg c6] at H
              exact absurd H (by simp)
          · rw [if_neg c5] at H
            exact absurd H (by simp)
        · rw [if_neg c4] at H
          have c4b0 : decide (x13_1 < (l0.length : Int)) = false := decide_eq_false c4
          clear c4
          obtain rfl := Option.some.inj H
          go_wp2
          repeat (go_quiet (fail); try go_wp2)
          go_ret
          exact ⟨by first | rfl | (simp; done) | (simp [*]; done), by repeat (first | exact Drawn0.refl _ | apply Drawn0.step)⟩
  · rw [if_neg c3] at H
    have c3b0 : ((l0.length : Int) == (l1.length : Int)) = false := beq_eq_false_iff_ne.mpr c3
    have c3b1 : ((l0.length : Int) != (l1.length : Int)) = true := bne_iff_ne.mpr c3
    have c3b2 : (l0.length == l1.length) = false := by first | simpa using c3 | (simp at c3 ⊢; omega)
    obtain rfl := Option.some.inj H
    go_enter Try.func28, Try.ntmps28
    go_wp2
    repeat (go_quiet (fail); try go_wp2)
    go_ret
    exact ⟨by first | rfl | (simp; done) | (simp [*]; done), by repeat (first | exact Drawn0.refl _ | apply Drawn0.step)⟩

def provisolaw01_pick.f (a0 : Int) (a1 : Int) : Option (Int) := if (IntKind.u64.wrap (a1)) = 0 then (none) else (some (wrap64 (Int.tmod (IntKind.u64.wrap (a0)) (IntKind.u64.wrap (a1)))))
set_option maxHeartbeats 8000000 in
set_option maxRecDepth 100000 in
theorem provisolaw01_pick.calls (a0 : Int) (a1 : Int) (r : Int) (w : World) (h : provisolaw01_pick.f a0 a1 = some r) :
    Calls Try.prog 18 #[.int .i64 a0, .int .i64 a1] w fun e w' => e = .returned (.int .i64 r) ∧ Drawn0 w w' := by
  have H : (if (IntKind.u64.wrap (a1)) = 0 then (none) else (some (wrap64 (Int.tmod (IntKind.u64.wrap (a0)) (IntKind.u64.wrap (a1)))))) = some r := h
  clear h
  by_cases c3 : (IntKind.u64.wrap (a1)) = 0
  · rw [if_pos c3] at H
    exact absurd H (by simp)
  · rw [if_neg c3] at H
    have c3b0 : ((IntKind.u64.wrap (a1)) == 0) = false := beq_eq_false_iff_ne.mpr c3
    have c3b1 : ((IntKind.u64.wrap (a1)) != 0) = true := bne_iff_ne.mpr c3
    obtain rfl := Option.some.inj H
    go_enter Try.func18, Try.ntmps18
    go_wp2
    go_ret
    exact ⟨by first | rfl | (simp; done) | (simp [*]; done), by repeat (first | exact Drawn0.refl _ | apply Drawn0.step)⟩

theorem pick_some (a : Int) (n : Nat) (hn : 0 < n) (h : n ≤ 9223372036854775807) : ∃ k : Nat, k < n ∧ provisolaw01_pick.f a (n : Int) = some (k : Int) := by
  have h1 : IntKind.u64.wrap (n : Int) = (n : Int) := IntWalk.u64_in _ (by omega)
  have h2 : 0 ≤ IntKind.u64.wrap a := by rw [IntKind.wrap_u64]; omega
  have h3 := Int.tmod_nonneg (n : Int) h2
  have h4 := Int.tmod_lt_of_pos (IntKind.u64.wrap a) (show (0 : Int) < (n : Int) by omega)
  refine ⟨(Int.tmod (IntKind.u64.wrap a) (n : Int)).toNat, by omega, ?_⟩
  unfold provisolaw01_pick.f
  rw [h1, if_neg (by omega)]
  congr 1
  generalize Int.tmod (IntKind.u64.wrap a) (n : Int) = q at h3 h4
  unfold wrap64
  omega

end Go.Proofs.Ytklbkonehcjmjaa.P

end

section
namespace Go.Proofs.Ytklbkonehcjmjaa.P
open Go.RowKit Go.Proofs.YtklbkonehcjmjaaW.PrintWords Go.Proofs.YtklbkonehcjmjaaW.PrintLast Go.Proofs.YtklbkonehcjmjaaW.PrintMore
attribute [local go_sem] max2_int min2_int max_two min_two max_three min_three max_four min_four   -- for this text's walks alone
set_option linter.unusedVariables false
set_option linter.unusedSimpArgs false

theorem copy_own {P : Program} {W : World} {base : Nat} {ok : Nat → Prop} {v : Value} {zs bs : List Int} {A : Option Addr} {cA : Nat} {ty : TypeId} (hu : P.underlying 23 = some (.slice 5)) (hi : (P.info? 5).map (·.size) = some 1)
    (HR : Kd.R (Kd.int .u8) 5 W base ok v zs) (HS : Kd.C (Kd.int .u8) W A bs.length bs) (hl : zs.length = bs.length) :
    ∃ W', (Builtin.copy_ #[23, 23] ty #[v, .slice A bs.length cA]).run P W = .ok (goInt bs.length) W' ∧ Kd.R (Kd.int .u8) 5 W' base ok v bs ∧ W.grownBy W' v.ownBlock := by
  have hrefl : ∀ row, W.grownBy W row := fun row => ⟨rfl, rfl, rfl, Nat.le_refl _, fun _ _ _ => rfl⟩
  obtain ⟨h0, inner, ⟨h1, h2⟩, hr⟩ := HR
  rcases h2 with ⟨rfl, hn⟩ | ⟨g, cap, cur, rfl, hg, hh, r1, r2, r3, r4⟩
  · have e : bs = [] := List.length_eq_zero_iff.1 (by omega)
    subst e
    exact ⟨W, run_copy_none W _ _ ty _ none A 0 0 0 cA hu hi rfl, Kd.R_nil _ _ _ _ _, hrefl _⟩
  · by_cases hz : bs.length = 0
    · have e : bs = [] := List.length_eq_zero_iff.1 hz
      subst e
      have ez : zs = [] := List.length_eq_zero_iff.1 (by simpa using hl)
      subst ez
      exact ⟨W, run_copy_none W _ _ ty _ _ A _ cap 0 cA hu hi rfl, ⟨h0, inner, ⟨h1, .inr ⟨g, cap, cur, rfl, hg, hh, r1, r2, r3, r4⟩⟩, hr⟩, hrefl _⟩
    · obtain ⟨ad, rfl, hc⟩ := HS.2.2 (by omega)
      have hlen : (bs.map (Value.int .u8)).length = bs.length := List.length_map _
      have hrun := run_copy_row (P := P) W 23 23 ty 5 g 0 zs.length cap ad bs.length cA cur 5 (bs.map (Value.int .u8)) hu hi hh (by rw [hlen, hl]; exact (Nat.min_self _).symm)
        (fun j u hj => by
          rw [List.getElem?_map] at hj
          cases hb : bs[j]? with
          | none => rw [hb] at hj; cases hj
          | some x =>
            rw [hb] at hj
            obtain ⟨c, _, hK, hcc⟩ := hc j x hb
            have hK' : c = [Value.int .u8 x] := hK
            subst hK'
            have := hcc 0 _ rfl
            have e1 : u = Value.int .u8 x := (Option.some.inj hj).symm
            rw [e1]
            simpa [show (Kd.int .u8).sz = 1 from rfl] using this)
        (by rw [hlen, r3, show (Kd.int .u8).sz = 1 from rfl]; omega) (fun u hu => by
          obtain ⟨x, _, rfl⟩ := List.mem_map.1 hu
          rfl)
      rw [hlen] at hrun
      refine ⟨_, hrun, ⟨h0, bs.map (Value.int .u8), ⟨by rw [hlen]; exact (Nat.mul_one _).symm, .inr ⟨g, cap, _, by rw [hl], hg, setRow_heap W g cur _ _ _ hh, by omega, r2, ?_, ?_⟩⟩, ?_⟩, ⟨rfl, rfl, rfl, by simp, fun k _ hk => setRow_other W g k _ (fun e => hk (by rw [e]; rfl))⟩⟩
      · simp [r3, show (Kd.int .u8).sz = 1 from rfl]
        have : bs.length ≤ cap := by omega
        omega
      · simp [show (Kd.int .u8).sz = 1 from rfl]
      · exact Kd.reps_scalar bs
theorem Kd.R_base_ {base : Nat} {W : World} {ok : Nat → Prop} {v : Value} {xs : List Int} (h : Kd.R (Kd.int .u8) 5 W base ok v xs) (k : Nat) (hk : v.ownBlock = some k) : base ≤ k := by
  obtain ⟨_, inner, ho, _⟩ := h
  exact own_base ho k hk
structure RdAt (base g : Nat) (bs : List Int) (at_ : Nat) (W : World) : Prop where
  le : at_ ≤ bs.length
  ge : base ≤ g
  now : ∃ v : Value, W.heap[g]? = some (.cells #[v, .int .i64 (at_ : Int), .bool true] 79 (0, 0)) ∧ Kd.R (Kd.int .u8) 5 W base (fun _ => True) v bs
set_option maxHeartbeats 1600000 in
set_option maxRecDepth 100000 in
theorem Over_calls (A0 : Option Addr) (c0 : Nat) (l0 : List Int) (w : World) (hr0 : Kd.C (Kd.int .u8) w A0 l0.length l0) (hc0 : l0.length ≤ c0) (hlim : l0.length ≤ 281474976710656) :
    Calls Try.prog 19 #[.slice A0 l0.length c0] w fun e w' => ∃ g, e = .returned (.pointer (some ⟨g, 0, none⟩)) ∧ RdAt w.heap.size g l0 0 w' ∧ Below w.heap.size w w' := by
  have HR := Aside0.mk hr0
  have HL := Aside0.mk hlim
  have hlen : l0.length ≤ 9223372036854775807 := hr0.2.1
  clear hr0 hc0 hlim
  go_enter Try.func19, Try.ntmps19
  go_wp2_with (first | ((with_reducible refine gate_dst (N := 6) rfl ?_); refine Kd.R_make (Kd.int .u8) (w0 := w) w.heap.size 5 rfl (N := 6) rfl 23 (.tmp 5) (.tmp 5) rfl (l0.length : Int) rfl rfl Try.underlying23 (.int .u8 0) 1 info5 rfl (by decide) (by decide) 0 (ok := fun _ => True) (okp := fun _ => True) rfl (fun _ h => h) trivial (by omega) ?hl (Below.refl _ _) (Nat.le_refl _) ?_; (case hl => have := HL.out; rw [Int.toNat_natCast]; omega); intro v1 w1 ho hb hg hat; rw [Int.toNat_natCast] at ho; have HB := Aside0.mk hb; obtain ⟨Av, cv, e1⟩ := Kd.R_slice ho; rw [List.length_replicate] at e1; subst e1; obtain ⟨w2, hrun, hR2, hg2⟩ := copy_own (P := Try.prog) (ty := 3) (cA := c0) Try.underlying23 (by kernel_rfl) ho (Kd.C_below HR.out hb) (by simp); have HR2 := Aside0.mk hR2; have HG2 := Aside0.mk (Below.grown hb hg2 hb.size (fun k hk => (Kd.R_base_ ho k hk))); clear ho hb hg hat hR2 hg2))
  have h1 := blk_new w2 (.cells #[.slice Av l0.length cv, .int .i64 0, .bool true] 79)
  have h2 := Kd.R_alloc HR2.out (.cells #[.slice Av l0.length cv, .int .i64 0, .bool true] 79)
  have h3 := below_alloc HG2.out (.cells #[.slice Av l0.length cv, .int .i64 0, .bool true] 79)
  have h4 := HG2.out.size
  go_ret
  exact ⟨w2.heap.size, rfl, ⟨Nat.zero_le _, h4, _, h1, h2⟩, h3⟩
theorem RdAt.drewN {base g : Nat} {bs : List Int} {at_ : Nat} {W : World} (h : RdAt base g bs at_ W) (m : Nat) : RdAt base g bs at_ (W.drewN m) := by
  obtain ⟨h1, h2, v, h3, h4⟩ := h
  exact ⟨h1, h2, v, blk_drewN h3 m, Kd.R_drewN h4 m⟩
theorem RdAt.step {base g : Nat} {bs : List Int} {at_ : Nat} {W W' : World} (h : RdAt base g bs at_ W) (hb : Below W.heap.size W W') : RdAt base g bs at_ W' := by
  obtain ⟨h1, h2, v, h3, h4⟩ := h
  exact ⟨h1, h2, v, blk_below h3 hb, Kd.R_below h4 hb⟩
theorem RdAt.set {base g : Nat} {bs : List Int} {at_ : Nat} {W : World} (h : RdAt base g bs at_ W) (n : Nat) (hn : n ≤ bs.length) : RdAt base g bs n (W.setCell ⟨g, 1, none⟩ (.int .i64 (n : Int))) := by
  obtain ⟨h1, h2, v, h3, h4⟩ := h
  exact ⟨hn, h2, v, blk_set h3 1 _, Kd.R_set h4 h3 (by decide) _ _⟩
theorem RdAt.far {base g : Nat} {bs : List Int} {at_ : Nat} {W : World} (h : RdAt base g bs at_ W) {g2 : Nat} {cs : Array Value} (h2 : W.heap[g2]? = some (.cells cs 79 (0, 0))) (hne : g ≠ g2) (j : Nat) (u : Value) : RdAt base g bs at_ (W.setCell ⟨g2, j, none⟩ u) := by
  obtain ⟨h1, h2', v, h3, h4⟩ := h
  exact ⟨h1, h2', v, blk_far h3 (by simpa using hne) _, Kd.R_set h4 h2 (by decide) _ _⟩
theorem RdAt.len {base g : Nat} {bs : List Int} {at_ : Nat} {W : World} (h : RdAt base g bs at_ W) : bs.length ≤ 9223372036854775807 := by
  obtain ⟨_, _, v, _, h4⟩ := h
  obtain ⟨A, c, rfl⟩ := Kd.R_slice h4
  exact (Kd.R_reads' h4).2.2.2.1
set_option maxHeartbeats 800000 in
set_option maxRecDepth 100000 in
theorem ready_rd {base g : Nat} {bs : List Int} {at_ : Nat} {w : World} (h : RdAt base g bs at_ w) : Calls Try.prog 45 #[.pointer (some ⟨g, 0, none⟩)] w fun e w' => e = .returned (.bool true) ∧ Drawn0 w w' := by
  obtain ⟨_, _, v, h3, _⟩ := h
  have hc := blk_cell h3 2
  clear h3
  go_enter Try.func45, Try.ntmps45
  go_wp2
  go_ret
  exact ⟨rfl, 0, rfl⟩
set_option maxHeartbeats 800000 in
set_option maxRecDepth 100000 in
theorem Left_rd {base g : Nat} {bs : List Int} {at_ : Nat} {w : World} (h : RdAt base g bs at_ w) : Calls Try.prog 21 #[.pointer (some ⟨g, 0, none⟩)] w fun e w' => e = .returned (.int .i64 ((bs.length : Int) - (at_ : Int))) ∧ Drawn0 w w' := by
  obtain ⟨v, h3, h4⟩ := h.now
  obtain ⟨A, c, rfl⟩ := Kd.R_slice h4
  have hc := blk_cell h3 1
  have hc0 := blk_cell h3 0
  have hlen := h.len
  have hle := h.le
  have H := Aside0.mk h
  clear h3 h h4
  go_enter Try.func21, Try.ntmps21
  go_wp2_with fail
  refine (ready_rd H.out).mono ?_
  rintro e w1 ⟨rfl, m, rfl⟩
  go_wp2
  go_quiet (fail)
  go_wp2
  go_ret
  exact ⟨rfl, _, World.drewN_drewN _ _ _⟩
set_option maxHeartbeats 1600000 in
set_option maxRecDepth 100000 in
theorem next_good {base g : Nat} {bs : List Int} {at_ : Nat} {w : World} (h : RdAt base g bs at_ w) (n : Nat) (hn : at_ + n ≤ bs.length) : Calls Try.prog 46 #[.pointer (some ⟨g, 0, none⟩), .int .i64 (n : Int)] w fun e w' => ∃ (A : Option Addr) (c m m2 : Nat), e = .returned (.tuple #[.slice A n c, .int .i64 0]) ∧ n ≤ c ∧ w' = ((w.drewN m).setCell ⟨g, 1, none⟩ (.int .i64 ((at_ + n : Nat) : Int))).drewN m2 ∧ Kd.C (Kd.int .u8) w' A n ((bs.take (at_ + n)).drop at_) := by
  have hlen := h.len
  have hle := h.le
  have H := Aside0.mk h
  clear h
  have c1b : decide ((n : Int) < 0) = false := decide_eq_false (by omega)
  have c2b : decide ((bs.length : Int) - (at_ : Int) < (n : Int)) = false := decide_eq_false (by omega)
  go_enter Try.func46, Try.ntmps46
  go_wp2_with fail
  refine (ready_rd H.out).mono ?_
  rintro e w1 ⟨rfl, m, rfl⟩
  go_wp2_with fail
  refine (Left_rd (H.out.drewN m)).mono ?_
  rintro e w2 ⟨rfl, m2, rfl⟩
  have H2 := (H.out.drewN m).drewN m2
  rw [World.drewN_drewN] at H2 ⊢
  generalize hw3 : w.drewN (m + m2) = w3 at H2 ⊢
  obtain ⟨v, h3, h4⟩ := H2.now
  obtain ⟨A, c, rfl⟩ := Kd.R_slice h4
  have hc1 := blk_cell h3 1
  have hf1 := blk_frozen h3 1
  have h5 := blk_set h3 1 (.int .i64 ((at_ + n : Nat) : Int))
  have h6 := H2.set (at_ + n) hn
  have hc := blk_cell h5 0
  have hcc := blk_cell h5 1
  have H6 := Aside0.mk h6
  have HW3 := Aside0.mk hw3
  have hcap : at_ + n ≤ c := by have := (Kd.R_reads' h4).2.1; omega
  have hsl := Kd.C_mid (Kd.R_reads' (show Kd.R (Kd.int .u8) 5 (w3.setCell ⟨g, 1, none⟩ (.int .i64 ((at_ + n : Nat) : Int))) base (fun _ => True) (.slice A bs.length c) bs from Kd.R_set h4 h3 (by decide) _ _)).2.2 (lo := at_) (hi := at_ + n) (c := c) (Nat.le_add_right _ _) hn (Kd.R_reads' h4).2.1
  have HS := Aside0.mk hsl
  have en : ((at_ + n : Nat) : Int) = (at_ : Int) + (n : Int) := Int.natCast_add _ _
  have hgoal : w3.setCell ⟨g, 1, none⟩ (.int .i64 ((at_ + n : Nat) : Int)) = (w.drewN (m + m2)).setCell ⟨g, 1, none⟩ (.int .i64 ((at_ + n : Nat) : Int)) := by rw [HW3.out]
  have HG := Aside0.mk hgoal
  have q1 : decide (at_ ≤ at_ + n) = true := decide_eq_true (Nat.le_add_right _ _)
  have q2 : (at_ + n ≤ c) = True := eq_true hcap
  clear h3 h4 h5 h6 H2 H hw3 hsl hgoal hcap HW3
  rw [en] at HS HG H6 hc hcc
  clear en
  go_upto_region 8 with fail
  generalize w3.setCell ⟨g, 1, none⟩ (.int .i64 ((at_ : Int) + (n : Int))) = w4 at HS HG H6 hc hcc ⊢
  clear hc1 hf1
  have hA : w4.cell? ⟨g, 0, none⟩ = some (.slice A bs.length c) := hc.trans rfl
  have hB : w4.cell? ⟨g, 1, none⟩ = some (.int .i64 ((at_ : Int) + (n : Int))) := hcc.trans rfl
  have hw0 : IntKind.i64.wrap (at_ : Int) = (at_ : Int) := by rw [IntKind.wrap_i64]; omega
  have hw1 : IntKind.i64.wrap ((at_ : Int) + (n : Int)) = (at_ : Int) + (n : Int) := by rw [IntKind.wrap_i64]; omega
  have q3 : ((at_ : Int) + (n : Int)).toNat = at_ + n := by omega
  have q4 : (0 : Int) ≤ (at_ : Int) + (n : Int) := by omega
  have q5 : (at_ : Int) ≤ (at_ : Int) + (n : Int) := by omega
  have q6 : (at_ : Int) + (n : Int) ≤ (c : Int) := by have := of_eq_true q2; omega
  have q7 : (at_ : Int) ≤ (c : Int) := by have := of_eq_true q2; omega
  have q8 : at_ + n - at_ = n := by omega
  clear hc hcc
  go_region_held3 (fun w' => w'.cell? ⟨g, 0, none⟩ = some (.slice A bs.length c) ∧ w'.cell? ⟨g, 1, none⟩ = some (.int .i64 ((at_ : Int) + (n : Int))))
    (first | exact ⟨hA, hB⟩ | (refine ⟨?_, ?_⟩ <;> first | exact hA | exact hB | simpa using hA | simpa using hB))
    (first | fail)
  clear q1 q3 q4 q5 q6 q7 q8 hA hB hw0 hw1 c1b c2b
  have h9 := Kd.C_drewN HS.out 1
  rw [show (Kd.int .u8).sz = 1 from rfl, Nat.mul_one] at h9
  have h8 : ((bs.take (at_ + n)).drop at_).length = n := by rw [List.length_drop, List.length_take]; omega
  rw [h8] at h9
  clear HS h8
  generalize (if c = at_ then A else Option.map (fun x => x.add at_) A) = Ax at h9 ⊢
  have HS := Aside0.mk h9
  clear h9
  go_wp2
  go_ret2
  exact ⟨_, _, m + m2, 1, rfl, by have := of_eq_true q2; omega, by rw [Int.natCast_add, ← HG.out]; rfl, HS.out⟩
set_option maxHeartbeats 1600000 in
set_option maxRecDepth 100000 in
theorem Take_good {base g : Nat} {bs : List Int} {at_ : Nat} {w : World} (h : RdAt base g bs at_ w) (n : Nat) (hn : at_ + n ≤ bs.length) (hlim : bs.length ≤ 281474976710656) : Calls Try.prog 30 #[.pointer (some ⟨g, 0, none⟩), .int .i64 (n : Int)] w fun e w' => ∃ (v : Value) (m m2 : Nat) (w1 : World), e = .returned (.tuple #[v, .int .i64 0]) ∧ w1 = ((w.drewN m).setCell ⟨g, 1, none⟩ (.int .i64 ((at_ + n : Nat) : Int))).drewN m2 ∧ Kd.R (Kd.int .u8) 5 w' w1.heap.size (fun _ => True) v ((bs.take (at_ + n)).drop at_) ∧ Below w1.heap.size w1 w' := by
  have HN := Aside0.mk (next_good h n hn)
  have hnl : (n : Int) ≤ 281474976710656 := by omega
  obtain ⟨seg, hseg⟩ : ∃ seg, seg = (bs.take (at_ + n)).drop at_ := ⟨_, rfl⟩
  have hsl : seg.length = n := by rw [hseg, List.length_drop, List.length_take]; omega
  rw [← hseg] at HN ⊢
  have HSL := Aside0.mk hsl
  clear h hn hlim hsl hseg
  go_enter Try.func30, Try.ntmps30
  go_wp2_with fail
  refine HN.out.mono ?_
  rintro e w1 ⟨A, c, m, m2, rfl, hc, hw, hC⟩
  have HW := Aside0.mk hw
  have HC := Aside0.mk hC
  clear hw hC HN hc
  go_wp2_with (first | ((with_reducible refine gate_dst (N := 20) rfl ?_); refine Kd.R_make (Kd.int .u8) (w0 := w1) w1.heap.size 5 rfl (N := 20) rfl 23 (.tmp 19) (.tmp 19) rfl (n : Int) rfl rfl Try.underlying23 (.int .u8 0) 1 info5 rfl (by decide) (by decide) 0 (ok := fun _ => True) (okp := fun _ => True) rfl (fun _ h => h) trivial (by omega) ?hl (Below.refl _ _) (Nat.le_refl _) ?_; (case hl => rw [Int.toNat_natCast]; omega); intro v1 w2 ho hb hg hat; rw [Int.toNat_natCast] at ho; obtain ⟨Av, cv, e1⟩ := Kd.R_slice ho; rw [List.length_replicate] at e1; subst e1; obtain ⟨w3, hrun, hR2, hg2⟩ := copy_own (P := Try.prog) (ty := 3) (cA := c) (A := A) (bs := seg) Try.underlying23 (by kernel_rfl) ho (by rw [HSL.out]; exact Kd.C_below HC.out hb) (by rw [HSL.out]; simp); rw [HSL.out] at hrun; have HR2 := Aside0.mk hR2; have HG2 := Aside0.mk (Below.grown hb hg2 hb.size (fun k hk => (Kd.R_base_ ho k hk))); clear ho hb hg hat hR2 hg2))
  go_ret2
  exact ⟨_, m, m2, w1, rfl, HW.out, HR2.out, HG2.out⟩
theorem RdAt.self {base g : Nat} {bs : List Int} {at_ : Nat} {W : World} (h : RdAt base g bs at_ W) (n m m2 : Nat) (hn : n ≤ bs.length) : RdAt base g bs n (((W.drewN m).setCell ⟨g, 1, none⟩ (.int .i64 (n : Int))).drewN m2) := ((h.drewN m).set n hn).drewN m2
theorem below_rd {B g : Nat} {w0 W : World} (h : Below B w0 W) (hg : B ≤ g) (m m2 : Nat) (u : Value) : Below B w0 (((W.drewN m).setCell ⟨g, 1, none⟩ u).drewN m2) := pw_below_drewN ((pw_below_drewN h m).setCell hg u) m2
end Go.Proofs.Ytklbkonehcjmjaa.P

end

section
namespace Go.Proofs.Ytklbkonehcjmjaa.P
open Go.RowKit Go.Proofs.YtklbkonehcjmjaaW.PrintWords Go.Proofs.YtklbkonehcjmjaaW.PrintLast Go.Proofs.YtklbkonehcjmjaaW.PrintMore
attribute [local go_sem] max2_int min2_int max_two min_two max_three min_three max_four min_four
set_option linter.unusedVariables false
set_option linter.unusedSimpArgs false
section
variable {P : Program} {ops : Array Oper} {rest : List Oper} {o : Oper} {a : Act} {Q : Exit → Act → World → Prop} {K : Act → World → Prop}
structure Rws (w0 : World) (l : List (Nat × TypeId × Array Value)) (W : World) : Prop where
  lies : ∀ p ∈ l, W.heap[p.1]? = some (.cells p.2.2 p.2.1 (0, 0)) ∧ w0.heap.size ≤ p.1
  ne : (l.map Prod.fst).Nodup
  below : Below w0.heap.size w0 W
theorem Rws.nil (w : World) : Rws w [] w := ⟨fun _ h => by simp at h, by simp, Below.refl _ _⟩
theorem Rws.step {w0 W W1 : World} {l : List (Nat × TypeId × Array Value)} (h : Rws w0 l W) (hb : Below W.heap.size W W1) : Rws w0 l W1 := ⟨fun p hp => ⟨blk_below (h.lies p hp).1 hb, (h.lies p hp).2⟩, h.ne, below_step h.below hb⟩
theorem Rws.drewN {w0 W : World} {l : List (Nat × TypeId × Array Value)} (h : Rws w0 l W) (m : Nat) : Rws w0 l (W.drewN m) := h.step (pw_below_drewN (Below.refl _ _) m)
theorem Rws.mem {w0 W : World} {l : List (Nat × TypeId × Array Value)} (h : Rws w0 l W) {g : Nat} {t : TypeId} {cs : Array Value} (hm : (g, t, cs) ∈ l) : W.heap[g]? = some (.cells cs t (0, 0)) := (h.lies _ hm).1
theorem Rws.add {w0 W : World} {l : List (Nat × TypeId × Array Value)} (h : Rws w0 l W) (t : TypeId) (cs : Array Value) : Rws w0 ((W.heap.size, t, cs) :: l) (W.alloc (.cells cs t (0, 0))) := by
  have hb : Below W.heap.size W (W.alloc (.cells cs t (0, 0))) := below_alloc (Below.refl _ _) _
  refine ⟨fun p hp => ?_, ?_, below_step h.below hb⟩
  · rcases List.mem_cons.1 hp with rfl | hp
    · exact ⟨blk_new W _, h.below.size⟩
    · exact ⟨blk_below (h.lies p hp).1 hb, (h.lies p hp).2⟩
  · rw [List.map_cons, List.nodup_cons]
    refine ⟨fun hm => ?_, h.ne⟩
    obtain ⟨p, hp, e⟩ := List.mem_map.1 hm
    have := blk_lt (h.lies p hp).1
    have e : p.1 = W.heap.size := e
    omega
theorem Rws.put {w0 W W1 : World} (l1 : List (Nat × TypeId × Array Value)) {l2 : List (Nat × TypeId × Array Value)} {g : Nat} {t : TypeId} {cs cs' : Array Value} (h : Rws w0 (l1 ++ (g, t, cs) :: l2) W) (hx : W1.heap[g]? = some (.cells cs' t (0, 0))) (hk : Kept W W1 (fun k => k = g)) (hb : ∀ (B : Nat) (w0 : World), B ≤ g → Below B w0 W → Below B w0 W1) : Rws w0 (l1 ++ (g, t, cs') :: l2) W1 := by
  have hn : ((l1 ++ (g, t, cs) :: l2).map Prod.fst) = ((l1 ++ (g, t, cs') :: l2).map Prod.fst) := by simp
  have hne := h.ne
  have hge := (h.lies (g, t, cs) (by simp)).2
  refine ⟨fun p hp => ?_, hn ▸ hne, hb _ _ hge h.below⟩
  have hnd : ∀ q ∈ l1 ++ l2, q.1 ≠ g := by
    rw [List.map_append, List.map_cons, List.nodup_append] at hne
    intro q hq e
    rcases List.mem_append.1 hq with hq | hq
    · exact hne.2.2 q.1 (List.mem_map.2 ⟨q, hq, rfl⟩) g (by simp) e
    · have := (List.nodup_cons.1 hne.2.1).1
      exact this (List.mem_map.2 ⟨q, hq, e⟩)
  rcases List.mem_append.1 hp with hp | hp
  · have hq := h.lies p (List.mem_append.2 (.inl hp))
    exact ⟨blk_kept hq.1 hk (fun e => hnd p (List.mem_append.2 (.inl hp)) e), hq.2⟩
  · rcases List.mem_cons.1 hp with rfl | hp
    · exact ⟨hx, hge⟩
    · have hq := h.lies p (List.mem_append.2 (.inr (List.mem_cons_of_mem _ hp)))
      exact ⟨blk_kept hq.1 hk (fun e => hnd p (List.mem_append.2 (.inr hp)) e), hq.2⟩
end
section
variable {P : Program} {ops : Array Oper} {rest : List Oper} {o : Oper} {a : Act} {Q : Exit → Act → World → Prop} {K : Act → World → Prop}
theorem Rws.set {w0 W : World} (l1 : List (Nat × TypeId × Array Value)) {l2 : List (Nat × TypeId × Array Value)} {g : Nat} {t : TypeId} {cs : Array Value} (h : Rws w0 (l1 ++ (g, t, cs) :: l2) W) (i : Nat) (u : Value) : Rws w0 (l1 ++ (g, t, cs.setIfInBounds i u) :: l2) (W.setCell ⟨g, i, none⟩ u) :=
  h.put l1 (blk_set (h.mem (g := g) (t := t) (cs := cs) (by simp)) i u) ⟨by simp [World.setCell], fun k _ hn => Below.heap_setCell W ⟨g, i, none⟩ u k hn⟩ (fun B w0 hB hb => hb.setCell hB u)
end
section
variable {P : Program}
theorem run_append1 (w : World) (base : Nat) (t ty e : TypeId) (i : TypeInfo) (z : Value) (ht : P.underlying t = some (.slice e)) (hi : P.info? e = some i) (hz : i.zero = some z) (hzs : z.cells.size = i.size) (hsz : 0 < i.size)
    (v : Value) (n : Nat) (xs : List Value) (hown : w.ownsRow base e i.size v n xs) (a : Addr) (c : Nat) (news : List Value) (hl : news.length = 1 * i.size) (hnews : ∀ j u, news[j]? = some u → w.cell? (a.add j) = some u) (h1 : ∀ u ∈ news, u.oneCell' = true)
    (h63 : n + 1 ≤ maxLen) (hb1 : i.bytes ≤ 140737488355328) (hfit : Builtin.nextslicecap (n + 1) n * i.bytes ≤ 281474976710656) (hbase : base ≤ w.heap.size) :
    ∃ v' w', (Builtin.append_ #[t, t] ty #[v, .slice (some a) 1 c]).run P w = .ok v' w' ∧ w'.ownsRow base e i.size v' (n + 1) (xs ++ news) ∧ w.grownBy w' v.ownBlock ∧ (v'.ownBlock = v.ownBlock ∨ v'.ownBlock = some w.heap.size) := by
  rcases hown.2 with ⟨rfl, rfl⟩ | ⟨g, cap, cur, rfl, hbg, hg, hnc, hcm, hcs, htake⟩
  · obtain ⟨v', w', h2, h3, h4, _, h5⟩ := run_append_own_at (P := P) w base t ty e i z i.size i.bytes ht hi hz rfl rfl hzs hsz _ 0 xs hown a 1 c news hl hnews h1 (by omega) (by omega) hbase
    exact ⟨v', w', h2, h3, h4, h5⟩
  · have hsmall : n + 1 ≤ 9223372036854775807 := by simp only [maxLen] at h63; omega
    have hlen : (xs ++ news).length = (n + 1) * i.size := by rw [List.length_append, hown.1, hl, Nat.add_mul]
    by_cases hroom : n + 1 ≤ cap
    · have hfit2 : n * i.size + news.length ≤ cur.size := by rw [hl, hcs, ← Nat.add_mul]; exact Nat.mul_le_mul_right _ hroom
      have hr := run_append_room (P := P) w t ty e i ht hi g n cap cur hg a 1 c news hl hnews h1 hroom hfit2
      refine ⟨_, _, hr, ⟨hlen, .inr ⟨g, cap, _, rfl, hbg, setRow_heap w g cur _ e _ hg, hroom, hcm, ?_, ?_⟩⟩, ⟨rfl, rfl, rfl, by simp, fun k _ hk => setRow_other w g k _ (fun e => hk (by simp [Value.ownBlock, e]))⟩, Or.inl rfl⟩
      · simp only [List.size_toArray, List.length_append, List.length_take, List.length_drop, Array.length_toList]
        omega
      · rw [htake, ← hlen]
        exact List.take_left
    · have hcap : cap = n := by omega
      subst hcap
      have holds : ∀ j u, xs[j]? = some u → w.cell? ((⟨g, 0, none⟩ : Addr).add j) = some u := hown.cells (g := g) rfl
      have hr := run_append_grow (P := P) w t ty e i z ht hi hz ⟨g, 0, none⟩ cap cap xs hown.1 holds a 1 c news hl hnews (by omega) (by omega) hfit
      have hge := grownCap_ge w (cap + 1) cap e
      have hcm2 : grownCap w (cap + 1) cap e ≤ maxLen := grownCap_le_maxLen w (cap + 1) cap e h63
      refine ⟨_, _, hr, ⟨hlen, .inr ⟨w.heap.size, _, _, rfl, hbase, heap_alloc_new w.drew _, hge, hcm2, ?_, ?_⟩⟩, ⟨rfl, rfl, rfl, by simp, fun k hk _ => heap_alloc_old w.drew _ hk⟩, Or.inr rfl⟩
      · simp only [Array.size_append, List.size_toArray, size_zeroCells, hzs, hown.1, hl, ← Nat.add_mul]
        congr 1
        omega
      · simp only [Array.toList_append, List.append_assoc]
        rw [← List.append_assoc, ← hlen]
        exact List.take_left
section
variable {ops : Array Oper} {rest : List Oper} {o : Oper} {a : Act} {Q : Exit → Act → World → Prop}
theorem R_append1 {α : Type} (d : Kd α) {w0 W : World} (base : Nat) (hgd : o.guard = none) (s x : Operand) (t e : TypeId) (z : Value) (bytes : Nat)
    (ho : o.op = .call { callee := .builtin .append, args := #[s, x], argTypes := #[t, t] })
    (ht : P.underlying t = some (.slice e)) (hinfo : (P.info? e).map (fun i => (i.zero, i.size, i.bytes)) = some (some z, d.sz, bytes)) (hz : z.cells.size = d.sz) (hs0 : 0 < d.sz) (hb1 : bytes ≤ 140737488355328)
    (v : Value) (xs : List α) (p : α) (cs : List Value) (ok okp : Nat → Prop) (hs : a.eval s = v) (hx : a.eval x = .slice (some ⟨W.heap.size, 0, none⟩) 1 1) (hp : d.M W base okp p cs) (hokp : ∀ k, okp k → ok k ∧ some k ≠ v.ownBlock) (hfresh : ∀ k, W.heap.size ≤ k → ok k)
    (HO : d.R e W base ok v xs) (HB : Below base w0 W) (hbase : base ≤ W.heap.size) (hl : xs.length + 1 ≤ maxLen) (hfit : Builtin.nextslicecap (xs.length + 1) xs.length * bytes ≤ 281474976710656)
    (h : ∀ v1 w1, d.R e w1 base ok v1 (xs ++ [p]) → Below base w0 w1 → W.grownBy w1 v.ownBlock → (v1.ownBlock = v.ownBlock ∨ ∃ b, v1.ownBlock = some b ∧ W.heap.size ≤ b) → wpList P ops Q rest (a.put o.dst v1) w1) :
    wpList P ops Q (o :: rest) a (W.alloc (.cells cs.toArray e)) := by
  obtain ⟨h0, inner, hown, hr⟩ := HO
  obtain ⟨i0, hi, hzz⟩ := Option.map_eq_some_iff.1 hinfo
  simp only [Prod.mk.injEq] at hzz
  obtain ⟨hz0, hz1, hz2⟩ := hzz
  have hcl : cs.length = d.sz := d.K_len (d.K_of_M hp)
  rw [← hz1] at hown hz hs0 hcl
  refine wpList_plain hgd fun K hK => ?_
  obtain ⟨v1, w1, hrun, hown1, hg, hat⟩ := run_append1 (P := P) (W.alloc (.cells cs.toArray e)) base t o.type e i0 z ht hi hz0 hz hs0 v xs.length inner (hown.alloc _) ⟨W.heap.size, 0, none⟩ 1 cs (by rw [hcl]; simp)
    (by simpa using World.news_of_block (cs := cs.toArray) (t := e) (fr := (0, 0)) (heap_alloc_new W (.cells cs.toArray e))) (d.K_one (d.K_of_M hp)) hl (by rw [hz2]; exact hb1) (by rw [hz2]; exact hfit) (by simp; omega)
  unfold Oper.wp execOp
  simp only [ho, resolve, invoke, builtin, Sem.run_bind, Sem.run_pure, Result.andThen_ok, List.map_toArray, List.map_cons, List.map_nil, hs, hx, hrun]
  have hg2 : W.grownBy w1 v.ownBlock := World.grownBy.trans (World.grownBy_alloc W _ _) hg
  have hat2 : v1.ownBlock = v.ownBlock ∨ ∃ b, v1.ownBlock = some b ∧ W.heap.size ≤ b := by
    rcases hat with hat | hat
    · exact .inl hat
    · exact .inr ⟨_, hat, by simp⟩
  rw [hz1] at hown1 hown
  exact hK _ _ (h v1 w1 (Kd.R_appended h0 hr hp hokp hfresh hown1 hg2 hat2) ((HB.alloc hbase _).grown hg (by simp; omega) (own_base hown)) hg2 hat2)
end
end
end Go.Proofs.Ytklbkonehcjmjaa.P

end

section
namespace Go.Proofs.Ytklbkonehcjmjaa.P
open Go.RowKit Go.Proofs.YtklbkonehcjmjaaW.PrintWords Go.Proofs.YtklbkonehcjmjaaW.PrintLast Go.Proofs.YtklbkonehcjmjaaW.PrintMore
attribute [local go_sem] max2_int min2_int max_two min_two max_three min_three max_four min_four
set_option linter.unusedVariables false
set_option linter.unusedSimpArgs false
section
variable {P : Program}
theorem run_append2 (w : World) (base : Nat) (t ty e : TypeId) (i : TypeInfo) (z : Value) (ht : P.underlying t = some (.slice e)) (hi : P.info? e = some i) (hz : i.zero = some z) (hzs : z.cells.size = i.size) (hsz : 0 < i.size)
    (v : Value) (n : Nat) (xs : List Value) (hown : w.ownsRow base e i.size v n xs) (a : Addr) (c : Nat) (news : List Value) (hl : news.length = 1 * i.size) (hnews : ∀ j u, news[j]? = some u → w.cell? (a.add j) = some u) (h1 : ∀ u ∈ news, u.oneCell' = true)
    (h63 : n + 1 ≤ maxLen) (hb1 : i.bytes ≤ 140737488355328) (hfit : Builtin.nextslicecap (n + 1) n * i.bytes ≤ 281474976710656) (hbase : base ≤ w.heap.size) :
    ∃ v' w', (Builtin.append_ #[t, t] ty #[v, .slice (some a) 1 c]).run P w = .ok v' w' ∧ w'.ownsRow base e i.size v' (n + 1) (xs ++ news) ∧ w.grownBy w' v.ownBlock ∧ (v'.ownBlock = v.ownBlock ∨ (v'.ownBlock = some w.heap.size ∧ w.grownBy w' none)) := by
  rcases hown.2 with ⟨rfl, rfl⟩ | ⟨g, cap, cur, rfl, hbg, hg, hnc, hcm, hcs, htake⟩
  · obtain ⟨v', w', h2, h3, h4, _, h5⟩ := run_append_own_at (P := P) w base t ty e i z i.size i.bytes ht hi hz rfl rfl hzs hsz _ 0 xs hown a 1 c news hl hnews h1 (by omega) (by omega) hbase
    exact ⟨v', w', h2, h3, h4, h5.imp id (fun h => ⟨h, h4⟩)⟩
  · have hsmall : n + 1 ≤ 9223372036854775807 := by simp only [maxLen] at h63; omega
    have hlen : (xs ++ news).length = (n + 1) * i.size := by rw [List.length_append, hown.1, hl, Nat.add_mul]
    by_cases hroom : n + 1 ≤ cap
    · have hfit2 : n * i.size + news.length ≤ cur.size := by rw [hl, hcs, ← Nat.add_mul]; exact Nat.mul_le_mul_right _ hroom
      have hr := run_append_room (P := P) w t ty e i ht hi g n cap cur hg a 1 c news hl hnews h1 hroom hfit2
      refine ⟨_, _, hr, ⟨hlen, .inr ⟨g, cap, _, rfl, hbg, setRow_heap w g cur _ e _ hg, hroom, hcm, ?_, ?_⟩⟩, ⟨rfl, rfl, rfl, by simp, fun k _ hk => setRow_other w g k _ (fun e => hk (by simp [Value.ownBlock, e]))⟩, Or.inl rfl⟩
      · simp only [List.size_toArray, List.length_append, List.length_take, List.length_drop, Array.length_toList]
        omega
      · rw [htake, ← hlen]
        exact List.take_left
    · have hcap : cap = n := by omega
      subst hcap
      have holds : ∀ j u, xs[j]? = some u → w.cell? ((⟨g, 0, none⟩ : Addr).add j) = some u := hown.cells (g := g) rfl
      have hr := run_append_grow (P := P) w t ty e i z ht hi hz ⟨g, 0, none⟩ cap cap xs hown.1 holds a 1 c news hl hnews (by omega) (by omega) hfit
      have hge := grownCap_ge w (cap + 1) cap e
      have hcm2 : grownCap w (cap + 1) cap e ≤ maxLen := grownCap_le_maxLen w (cap + 1) cap e h63
      refine ⟨_, _, hr, ⟨hlen, .inr ⟨w.heap.size, _, _, rfl, hbase, heap_alloc_new w.drew _, hge, hcm2, ?_, ?_⟩⟩, ⟨rfl, rfl, rfl, by simp, fun k hk _ => heap_alloc_old w.drew _ hk⟩, Or.inr ⟨rfl, ⟨rfl, rfl, rfl, by simp, fun k hk _ => heap_alloc_old w.drew _ hk⟩⟩⟩
      · simp only [Array.size_append, List.size_toArray, size_zeroCells, hzs, hown.1, hl, ← Nat.add_mul]
        congr 1
        omega
      · simp only [Array.toList_append, List.append_assoc]
        rw [← List.append_assoc, ← hlen]
        exact List.take_left
section
variable {ops : Array Oper} {rest : List Oper} {o : Oper} {a : Act} {Q : Exit → Act → World → Prop}
theorem R_append2 {α : Type} (d : Kd α) {W : World} (base : Nat) (hgd : o.guard = none) (s x : Operand) (t e : TypeId) (z : Value) (bytes : Nat)
    (ho : o.op = .call { callee := .builtin .append, args := #[s, x], argTypes := #[t, t] })
    (ht : P.underlying t = some (.slice e)) (hinfo : (P.info? e).map (fun i => (i.zero, i.size, i.bytes)) = some (some z, d.sz, bytes)) (hz : z.cells.size = d.sz) (hs0 : 0 < d.sz) (hb1 : bytes ≤ 140737488355328)
    (v : Value) (xs : List α) (p : α) (cs : List Value) (ok okp : Nat → Prop) (hs : a.eval s = v) (hx : a.eval x = .slice (some ⟨W.heap.size, 0, none⟩) 1 1) (hp : d.M W base okp p cs) (hokp : ∀ k, okp k → ok k ∧ some k ≠ v.ownBlock) (hfresh : ∀ k, W.heap.size ≤ k → ok k)
    (HO : d.R e W base ok v xs) (hbase : base ≤ W.heap.size) (hl : xs.length + 1 ≤ maxLen) (hfit : Builtin.nextslicecap (xs.length + 1) xs.length * bytes ≤ 281474976710656)
    (h : ∀ v1 w1, d.R e w1 base ok v1 (xs ++ [p]) → Below base W w1 → W.grownBy w1 v.ownBlock → (v1.ownBlock = v.ownBlock ∨ ((∃ b, v1.ownBlock = some b ∧ W.heap.size ≤ b) ∧ W.grownBy w1 none)) → wpList P ops Q rest (a.put o.dst v1) w1) :
    wpList P ops Q (o :: rest) a (W.alloc (.cells cs.toArray e)) := by
  obtain ⟨h0, inner, hown, hr⟩ := HO
  obtain ⟨i0, hi, hzz⟩ := Option.map_eq_some_iff.1 hinfo
  simp only [Prod.mk.injEq] at hzz
  obtain ⟨hz0, hz1, hz2⟩ := hzz
  have hcl : cs.length = d.sz := d.K_len (d.K_of_M hp)
  rw [← hz1] at hown hz hs0 hcl
  refine wpList_plain hgd fun K hK => ?_
  obtain ⟨v1, w1, hrun, hown1, hg, hat⟩ := run_append2 (P := P) (W.alloc (.cells cs.toArray e)) base t o.type e i0 z ht hi hz0 hz hs0 v xs.length inner (hown.alloc _) ⟨W.heap.size, 0, none⟩ 1 cs (by rw [hcl]; simp)
    (by simpa using World.news_of_block (cs := cs.toArray) (t := e) (fr := (0, 0)) (heap_alloc_new W (.cells cs.toArray e))) (d.K_one (d.K_of_M hp)) hl (by rw [hz2]; exact hb1) (by rw [hz2]; exact hfit) (by simp; omega)
  unfold Oper.wp execOp
  simp only [ho, resolve, invoke, builtin, Sem.run_bind, Sem.run_pure, Result.andThen_ok, List.map_toArray, List.map_cons, List.map_nil, hs, hx, hrun]
  have hg2 : W.grownBy w1 v.ownBlock := World.grownBy.trans (World.grownBy_alloc W _ _) hg
  have hat2 : v1.ownBlock = v.ownBlock ∨ ((∃ b, v1.ownBlock = some b ∧ W.heap.size ≤ b) ∧ W.grownBy w1 none) := by
    rcases hat with hat | hat
    · exact .inl hat
    · exact .inr ⟨⟨_, hat.1, by simp⟩, World.grownBy.trans (World.grownBy_alloc W _ _) hat.2⟩
  rw [hz1] at hown1 hown
  exact hK _ _ (h v1 w1 (Kd.R_appended h0 hr hp hokp hfresh hown1 hg2 (hat2.imp id (fun h => h.1))) (((Below.refl base W).alloc hbase _).grown hg (by simp; omega) (own_base hown)) hg2 hat2)
end
end
end Go.Proofs.Ytklbkonehcjmjaa.P

end

section
namespace Go.Proofs.Ytklbkonehcjmjaa.P
open Go.RowKit Go.Proofs.YtklbkonehcjmjaaW.PrintWords Go.Proofs.YtklbkonehcjmjaaW.PrintLast Go.Proofs.YtklbkonehcjmjaaW.PrintMore
attribute [local go_sem] max2_int min2_int max_two min_two max_three min_three max_four min_four   -- for this text's walks alone
set_option linter.unusedVariables false
set_option linter.unusedSimpArgs false

structure WtAt (base g : Nat) (ok : Nat → Prop) (bs : List Int) (W : World) : Prop where
  ge : base ≤ g
  le : bs.length ≤ 1048576
  now : ∃ v : Value, W.heap[g]? = some (.cells #[v, .bool true] 81 (0, 0)) ∧ Kd.R (Kd.int .u8) 5 W base ok v bs
theorem WtAt.drewN {base g : Nat} {ok : Nat → Prop} {bs : List Int} {W : World} (h : WtAt base g ok bs W) (m : Nat) : WtAt base g ok bs (W.drewN m) := by
  obtain ⟨h1, h2, v, h3, h4⟩ := h
  exact ⟨h1, h2, v, blk_drewN h3 m, Kd.R_drewN h4 m⟩
theorem WtAt.step {base g : Nat} {ok : Nat → Prop} {bs : List Int} {W W' : World} (h : WtAt base g ok bs W) (hb : Below W.heap.size W W') : WtAt base g ok bs W' := by
  obtain ⟨h1, h2, v, h3, h4⟩ := h
  exact ⟨h1, h2, v, blk_below h3 hb, Kd.R_below h4 hb⟩
theorem WtAt.mono {base g : Nat} {ok ok' : Nat → Prop} {bs : List Int} {W : World} (h : WtAt base g ok bs W) (hk : ∀ k, ok k → ok' k) : WtAt base g ok' bs W := by
  obtain ⟨h1, h2, v, h3, h4⟩ := h
  exact ⟨h1, h2, v, h3, Kd.R_mono h4 hk⟩
set_option maxHeartbeats 800000 in
set_option maxRecDepth 100000 in
theorem New_calls (w : World) : Calls Try.prog 25 #[] w fun e w' => ∃ g, e = .returned (.pointer (some ⟨g, 0, none⟩)) ∧ WtAt w.heap.size g (fun _ => True) [] w' ∧ Below w.heap.size w w' := by
  go_enter Try.func25, Try.ntmps25
  go_wp2
  have h1 := blk_new w (.cells #[.slice none 0 0, .bool true] 81)
  have h3 := below_alloc (Below.refl w.heap.size w) (.cells #[.slice none 0 0, .bool true] 81)
  go_ret
  exact ⟨w.heap.size, rfl, ⟨Nat.le_refl _, Nat.zero_le _, _, h1, Kd.R_nil _ _ _ _ _⟩, h3⟩
set_option maxHeartbeats 800000 in
set_option maxRecDepth 100000 in
theorem ready_wt {base g : Nat} {ok : Nat → Prop} {bs : List Int} {w : World} (h : WtAt base g ok bs w) : Calls Try.prog 53 #[.pointer (some ⟨g, 0, none⟩)] w fun e w' => e = .returned (.bool true) ∧ Drawn0 w w' := by
  obtain ⟨_, _, v, h3, _⟩ := h
  have hc := blk_cell h3 1
  clear h3
  go_enter Try.func53, Try.ntmps53
  go_wp2
  go_ret
  exact ⟨rfl, 0, rfl⟩
set_option maxHeartbeats 1600000 in
set_option maxRecDepth 100000 in
theorem Bytes_wt {base g : Nat} {ok : Nat → Prop} {bs : List Int} {w : World} (h : WtAt base g ok bs w) : Calls Try.prog 29 #[.pointer (some ⟨g, 0, none⟩)] w fun e w' => ∃ v : Value, e = .returned v ∧ Kd.R (Kd.int .u8) 5 w' w.heap.size (fun _ => True) v bs ∧ Below w.heap.size w w' := by
  have hle := h.le
  have H := Aside0.mk h
  clear h
  go_enter Try.func29, Try.ntmps29
  go_wp2_with fail
  refine (ready_wt H.out).mono ?_
  rintro e w1 ⟨rfl, m, hm⟩
  have H1 := H.out.drewN m
  have hb := pw_below_drewN (Below.refl w.heap.size w) m
  rw [← hm] at H1 hb
  clear hm
  obtain ⟨v, h3, h4⟩ := H1.now
  obtain ⟨A, c, rfl⟩ := Kd.R_slice h4
  have hc := blk_cell h3 0
  have HRW := Aside0.mk h4
  have HB := Aside0.mk hb
  have HBK := Aside0.mk h3
  clear h3 h4 H1 H hb
  go_wp2_with (first | ((with_reducible refine gate_dst (N := 12) rfl ?_); refine Kd.R_make (Kd.int .u8) (w0 := w) w.heap.size 5 rfl (N := 12) rfl 23 (.tmp 11) (.tmp 11) rfl (bs.length : Int) rfl rfl Try.underlying23 (.int .u8 0) 1 info5 rfl (by decide) (by decide) 0 (ok := fun _ => True) (okp := fun _ => True) rfl (fun _ h => h) trivial (by omega) ?hl HB.out HB.out.size ?_; (case hl => rw [Int.toNat_natCast]; omega); intro v1 w2 ho hb hg hat; rw [Int.toNat_natCast] at ho; have HB2 := Aside0.mk hb; obtain ⟨Av, cv, e1⟩ := Kd.R_slice ho; rw [List.length_replicate] at e1; subst e1; have hsrc := Kd.R_grown HRW.out hg (fun k _ h => by cases h); obtain ⟨w3, hrun, hR2, hg2⟩ := copy_own (P := Try.prog) (ty := 3) (cA := c) Try.underlying23 (by kernel_rfl) ho (Kd.R_reads' hsrc).2.2 (by simp); have HR2 := Aside0.mk hR2; have HG2 := Aside0.mk (Below.grown hb hg2 hb.size (fun k hk => (Kd.R_base_ ho k hk))); have hc2 := blk_cell (blk_grown HBK.out hg (by simp)) 0; clear ho hb hg hat hR2 hg2 hsrc))
  go_ret
  exact ⟨_, rfl, HR2.out, HG2.out⟩
theorem WtAt.kept {base g : Nat} {ok : Nat → Prop} {bs : List Int} {W W' : World} {S : Nat → Prop} (h : WtAt base g ok bs W) (hk : Kept W W' S) (h1 : ∀ k, ok k → ¬ S k) (h2 : ¬ S g) : WtAt base g ok bs W' := by
  obtain ⟨q1, q2, v, h3, h4⟩ := h
  exact ⟨q1, q2, v, blk_kept h3 hk h2, Kd.R_kept h4 hk h1⟩
theorem WtAt.bound {base g : Nat} {ok : Nat → Prop} {bs : List Int} {W : World} (h : WtAt base g ok bs W) : WtAt base g (fun k => ok k ∧ k < W.heap.size) bs W := by
  obtain ⟨h1, h2, v, h3, h4⟩ := h
  exact ⟨h1, h2, v, h3, Kd.R_mono (Kd.R_bound h4) (fun k hk => ⟨hk.1, hk.2.2.1⟩)⟩
set_option maxHeartbeats 1600000 in
set_option maxRecDepth 100000 in
theorem put_full {base g : Nat} {ok : Nat → Prop} {bs : List Int} {w : World} (h : WtAt base g ok bs w) (A : Option Addr) (m c : Nat) (hm : 1048576 < bs.length + m) : Calls Try.prog 55 #[.pointer (some ⟨g, 0, none⟩), .slice A m c] w fun e w' => e = .returned (.int .i64 7) ∧ Drawn0 w w' := by
  have hle := h.le
  obtain ⟨v, h3, h4⟩ := h.now
  obtain ⟨A1, c1, rfl⟩ := Kd.R_slice h4
  have hc := blk_cell h3 0
  clear h3 h4 h
  have hw1 : wrap64 ((1048576 : Int) - (bs.length : Int)) = (1048576 : Int) - (bs.length : Int) := by unfold wrap64; omega
  have c1b : decide ((1048576 : Int) - (bs.length : Int) < (m : Int)) = true := decide_eq_true (by omega)
  go_enter Try.func55, Try.ntmps55
  go_wp2
  go_ret
  exact ⟨rfl, 0, rfl⟩
set_option maxHeartbeats 1600000 in
set_option maxRecDepth 100000 in
theorem put_good {base g : Nat} {ok : Nat → Prop} {bs more : List Int} {w : World} (h : WtAt base g ok bs w) (A : Option Addr) (c : Nat) (hr : Kd.C (Kd.int .u8) w A more.length more) (hm : bs.length + more.length ≤ 1048576) : Calls Try.prog 55 #[.pointer (some ⟨g, 0, none⟩), .slice A more.length c] w fun e w' => e = .returned (.int .i64 0) ∧ WtAt base g (fun k => ok k ∨ w.heap.size ≤ k) (bs ++ more) w' ∧ Below base w w' ∧ Kept w w' (fun k => ok k ∨ k = g) := by
  have hle := h.le
  have hge := h.ge
  obtain ⟨v, h3, h4⟩ := h.now
  have hlt := blk_lt h3
  obtain ⟨A1, c1, rfl⟩ := Kd.R_slice h4
  have hc := blk_cell h3 0
  have hf := blk_frozen h3 0
  have HBK := Aside0.mk h3
  have HRW := Aside0.mk (Kd.R_mono h4 (fun k hk => (.inl hk : ok k ∨ w.heap.size ≤ k)))
  have HOK := Aside0.mk h4.1
  have HR := Aside0.mk hr
  clear h3 h4 h hr
  have hw1 : wrap64 ((1048576 : Int) - (bs.length : Int)) = (1048576 : Int) - (bs.length : Int) := by unfold wrap64; omega
  have c1b : decide ((1048576 : Int) - (bs.length : Int) < (more.length : Int)) = false := decide_eq_false (by omega)
  go_enter Try.func55, Try.ntmps55
  go_wp2_with (first | ((with_reducible refine gate_builtin (b := .append) (xs := #[.tmp 18, .tmp 19]) rfl ?_); at_builtin; refine Kd.R_append_rows (Kd.int .u8) (w0 := w) base rfl (.tmp 18) (.tmp 19) 23 5 (.int .u8 0) 1 rfl Try.underlying23 info5 rfl (by decide) (by omega) (.slice A1 bs.length c1) bs more A more.length c (fun k => ok k ∨ w.heap.size ≤ k) (fun _ => False) rfl rfl HRW.out HR.out (fun _ _ h => h) (fun _ h => h.elim) (fun k hk => .inr hk) (Below.refl _ _) (by omega) (by omega) ?_; intro v1 w1 ho hb hg hat; obtain ⟨Av, cv, e7⟩ := Kd.R_slice ho; subst e7; rw [List.length_append] at ho; have hI := blk_grown HBK.out hg (Kd.R_ne HRW.out HBK.out (by decide)); have hcI := blk_cell hI 0; have hfI := blk_frozen hI 0; have HI := Aside0.mk hI; have HO := Aside0.mk ho; have HB := Aside0.mk hb; have HG := Aside0.mk hg; clear hI ho hb hg hat))
  go_ret
  exact ⟨rfl, ⟨hge, by rw [List.length_append]; exact hm, _, blk_set HI.out 0 _, Kd.R_set HO.out HI.out (by decide) _ _⟩, HB.out.setCell hge _, (Kept.of_grown HG.out (Kept.refl w _) (fun k hk => .inl (.inl (HOK.out k hk)))).setCell (.inl (.inr rfl)) _⟩
set_option maxHeartbeats 1600000 in
set_option maxRecDepth 100000 in
theorem Put_full {base g : Nat} {ok : Nat → Prop} {bs : List Int} {w : World} (h : WtAt base g ok bs w) (A : Option Addr) (m c : Nat) (hm : 1048576 < bs.length + m) : Calls Try.prog 33 #[.pointer (some ⟨g, 0, none⟩), .slice A m c] w fun e w' => e = .returned (.int .i64 7) ∧ Drawn0 w w' := by
  have H := Aside0.mk h
  have HM := Aside0.mk hm
  clear h hm
  go_enter Try.func33, Try.ntmps33
  go_wp2_with fail
  refine (ready_wt H.out).mono ?_
  rintro e w1 ⟨rfl, k, rfl⟩
  go_wp2_with fail
  refine (put_full (H.out.drewN k) A m c HM.out).mono ?_
  rintro e w2 ⟨rfl, k2, rfl⟩
  go_wp2
  go_ret
  exact ⟨rfl, _, rfl⟩
set_option maxHeartbeats 1600000 in
set_option maxRecDepth 100000 in
theorem Put_good {base g : Nat} {ok : Nat → Prop} {bs more : List Int} {w : World} (h : WtAt base g ok bs w) (A : Option Addr) (c : Nat) (hr : Kd.C (Kd.int .u8) w A more.length more) (hm : bs.length + more.length ≤ 1048576) : Calls Try.prog 33 #[.pointer (some ⟨g, 0, none⟩), .slice A more.length c] w fun e w' => e = .returned (.int .i64 0) ∧ WtAt base g (fun k => ok k ∨ w.heap.size ≤ k) (bs ++ more) w' ∧ Below base w w' ∧ Kept w w' (fun k => ok k ∨ k = g) := by
  have H := Aside0.mk h
  have HR := Aside0.mk hr
  have HM := Aside0.mk hm
  clear h hr hm
  go_enter Try.func33, Try.ntmps33
  go_wp2_with fail
  refine (ready_wt H.out).mono ?_
  rintro e w1 ⟨rfl, k, rfl⟩
  go_wp2_with fail
  refine (put_good (H.out.drewN k) A c (Kd.C_drewN HR.out k) HM.out).mono ?_
  rintro e w2 ⟨rfl, h1, h2, h3⟩
  have H1 := Aside0.mk h1
  have H2 := Aside0.mk h2
  have H3 := Aside0.mk h3
  clear h1 h2 h3
  go_wp2
  go_ret
  exact ⟨rfl, H1.out, (pw_below_drewN (Below.refl _ _) k).trans H2.out, H3.out⟩
def byt (n s : Int) : Int := n % 4294967296 / s % 256
theorem C_of_block {W : World} {gb : Nat} {cs : Array Value} {t : TypeId} {xs : List Int} (h : W.heap[gb]? = some (.cells cs t (0, 0))) (hl : xs.length ≤ 9223372036854775807) (hx : ∀ (j : Nat) (p : Int), xs[j]? = some p → cs[j]? = some (.int .u8 p)) : Kd.C (Kd.int .u8) W (some ⟨gb, 0, none⟩) xs.length xs :=
  ⟨rfl, hl, fun _ => ⟨⟨gb, 0, none⟩, rfl, fun j p hj => ⟨[.int .u8 p], rfl, rfl, fun i u hu => by
    cases i with
    | zero =>
      obtain rfl := Option.some.inj hu
      have h2 := (blk_cell h j).trans (hx j p hj)
      rcases Nat.eq_zero_or_pos j with rfl | hj0
      · simpa [Addr.add, show (Kd.int .u8).sz = 1 from rfl] using h2
      · have : ¬ j = 0 := by omega
        simpa [Addr.add, show (Kd.int .u8).sz = 1 from rfl, this] using h2
    | succ i => cases hu⟩⟩⟩
set_option maxHeartbeats 1600000 in
set_option maxRecDepth 100000 in
theorem wnumber_good1 {base g : Nat} {ok : Nat → Prop} {bs : List Int} {w : World} (h : WtAt base g ok bs w) (n lo hi : Int) (h1 : lo ≤ n) (h2 : n ≤ hi) : Calls Try.prog 58 #[.pointer (some ⟨g, 0, none⟩), .int .i64 n, .int .i64 lo, .int .i64 hi, .int .i64 1] w fun e w' => (bs.length + 1 ≤ 1048576 → e = .returned (.int .i64 0) ∧ WtAt base g (fun k => ok k ∨ w.heap.size ≤ k) (bs ++ [byt n 1]) w' ∧ Below base w w' ∧ Kept w w' (fun k => ok k ∨ k = g)) ∧ (1048576 < bs.length + 1 → e = .returned (.int .i64 7) ∧ Below w.heap.size w w') := by
  have H := Aside0.mk h
  have HBS : Aside0 (base ≤ w.heap.size) := ⟨by obtain ⟨v, h8, _⟩ := h.now; have := blk_lt h8; have := h.ge; omega⟩
  clear h
  have c1b : decide (n < lo) = false := decide_eq_false (by omega)
  have c2b : decide (hi < n) = false := decide_eq_false (by omega)
  clear h1 h2
  go_enter Try.func58, Try.ntmps58
  go_wp2_with fail
  refine (ready_wt H.out).mono ?_
  rintro e w1 ⟨rfl, m, hw1⟩
  have H1 := H.out.drewN m
  have hb1 := pw_below_drewN (Below.refl w.heap.size w) m
  rw [← hw1] at H1 hb1
  have h3 := blk_new w1 (.cells #[.int .u8 0, .int .u8 0, .int .u8 0, .int .u8 0] 106)
  have h4 := H1.step (below_alloc (Below.refl w1.heap.size w1) (.cells #[.int .u8 0, .int .u8 0, .int .u8 0, .int .u8 0] 106))
  have h5 := below_alloc hb1 (.cells #[.int .u8 0, .int .u8 0, .int .u8 0, .int .u8 0] 106)
  have HGB : Aside0 (w.heap.size ≤ w1.heap.size) := ⟨hb1.size⟩
  clear hw1 H1 hb1
  go_wp2
  generalize w1.alloc (.cells #[.int .u8 0, .int .u8 0, .int .u8 0, .int .u8 0] 106) = w2 at h3 h4 h5 ⊢
  have H3 := Aside0.mk h3
  have H4 := Aside0.mk h4
  have H5 := Aside0.mk h5
  clear h3 h4 h5 H
  generalize w1.heap.size = gb at H3 HGB ⊢
  go_loopw [27] (fun v27 wr => ((v27 = .int .i64 0 ∧ Aside0 (wr.heap[gb]? = some (.cells #[.int .u8 0, .int .u8 0, .int .u8 0, .int .u8 0] 106 (0, 0)))) ∨ (v27 = .int .i64 1 ∧ Aside0 (wr.heap[gb]? = some (.cells #[.int .u8 (byt n 1), .int .u8 0, .int .u8 0, .int .u8 0] 106 (0, 0))))) ∧ Aside0 (WtAt base g ok bs wr) ∧ Aside0 (Below w.heap.size w wr)) (fun v27 _ => (4 - intOf v27).toNat)
  case atStart => exact ⟨.inl ⟨rfl, H3⟩, H4, H5⟩
  case round =>
    obtain ⟨⟨rfl, H3⟩ | ⟨rfl, H3⟩, H4, H5⟩ := hrel
    · have hc := blk_cell H3.out 0
      have hf := blk_frozen H3.out 0
      have hne : g ≠ gb := by
        obtain ⟨v, h8, _⟩ := H4.out.now
        exact blk_ne h8 H3.out (by decide)
      have HNE := Aside0.mk hne
      clear hne
      go_wp2
      refine ⟨⟨.inr (⟨rfl, ⟨blk_put H3.out 0 _ (by first | (simp [byt]; done) | (simp [byt]; omega))⟩⟩), ⟨?_⟩, ⟨H5.out.setCell HGB.out _⟩⟩, by simp [intOf]⟩
      obtain ⟨q1, q2, v, h8, h9⟩ := H4.out
      exact ⟨q1, q2, v, blk_far h8 (by simpa using HNE.out) _, Kd.R_set h9 H3.out (by decide) _ _⟩
    · have hC : Kd.C (Kd.int .u8) wr (some ⟨gb, 0, none⟩) [byt n 1].length [byt n 1] := C_of_block H3.out (by simp) (fun j p hj => by
        have : j = 0 := by
          have := (List.getElem?_eq_some_iff.1 hj).1
          simp at this
          omega
        rcases this with rfl <;> simpa using hj)
      have HCC := Aside0.mk hC
      clear hC
      go_wp2_with fail
      by_cases d1 : bs.length + 1 ≤ 1048576
      · refine (put_good H4.out (some ⟨gb, 0, none⟩) 4 HCC.out d1).mono ?_
        rintro e w3 ⟨rfl, k1, k2, k3⟩
        have K1 := Aside0.mk (k1.mono (fun k hk => hk.imp id (Nat.le_trans H5.out.size)))
        have K2 := Aside0.mk (Below.trans (H5.out.mono HBS.out) k2)
        have K3 := Aside0.mk ((Kept.of_below H5.out (fun k => ok k ∨ k = g)).then_ k3 (fun k hk => .inl hk))
        clear k1 k2 k3
        go_wp2
        go_ret
        exact ⟨fun _ => ⟨rfl, K1.out, K2.out, K3.out⟩, fun h => by omega⟩
      · refine (put_full H4.out (some ⟨gb, 0, none⟩) 1 4 (by omega)).mono ?_
        rintro e w3 ⟨rfl, m3, rfl⟩
        go_wp2
        go_ret
        exact ⟨fun h => absurd h d1, fun _ => ⟨rfl, pw_below_drewN H5.out m3⟩⟩
set_option maxHeartbeats 1600000 in
set_option maxRecDepth 100000 in
theorem wByte_good {base g : Nat} {ok : Nat → Prop} {bs : List Int} {w : World} (h : WtAt base g ok bs w) (n : Int) (h1 : 0 ≤ n) (h2 : n ≤ 255) : Calls Try.prog 36 #[.pointer (some ⟨g, 0, none⟩), .int .i64 n] w fun e w' => (bs.length + 1 ≤ 1048576 → e = .returned (.int .i64 0) ∧ WtAt base g (fun k => ok k ∨ w.heap.size ≤ k) (bs ++ [byt n 1]) w' ∧ Below base w w' ∧ Kept w w' (fun k => ok k ∨ k = g)) ∧ (1048576 < bs.length + 1 → e = .returned (.int .i64 7) ∧ Below w.heap.size w w') := by
  have HN := Aside0.mk (wnumber_good1 h n 0 255 h1 h2)
  clear h h1 h2
  go_enter Try.func36, Try.ntmps36
  go_wp2_with fail
  refine HN.out.mono ?_
  rintro e w1 ⟨k1, k2⟩
  by_cases d1 : bs.length + 1 ≤ 1048576
  · obtain ⟨rfl, k3⟩ := k1 d1
    have K3 := Aside0.mk k3
    clear k1 k2 k3
    go_wp2
    go_ret
    exact ⟨fun _ => ⟨rfl, K3.out⟩, fun h => by omega⟩
  · obtain ⟨rfl, k3⟩ := k2 (by omega)
    have K3 := Aside0.mk k3
    clear k1 k2 k3
    go_wp2
    go_ret
    exact ⟨fun h => absurd h d1, fun _ => ⟨rfl, K3.out⟩⟩
end Go.Proofs.Ytklbkonehcjmjaa.P

end

section
namespace Go.Proofs.Ytklbkonehcjmjaa.P
open Go.RowKit Go.Proofs.YtklbkonehcjmjaaW.PrintWords Go.Proofs.YtklbkonehcjmjaaW.PrintLast Go.Proofs.YtklbkonehcjmjaaW.PrintMore
attribute [local go_sem] max2_int min2_int max_two min_two max_three min_three max_four min_four   -- for this text's walks alone
set_option linter.unusedVariables false
set_option linter.unusedSimpArgs false

structure PutAt (w : World) (g : Nat) (S T : Nat → Prop) (bw br : List Int) (v : Value) (W : World) : Prop where
  wt : WtAt w.heap.size g S bw W
  row : Kd.R (Kd.int .u8) 5 W w.heap.size T v br
  below : Below w.heap.size w W
  apart : ∀ k, T k → ¬ S k ∧ k ≠ g
  tl : ∀ k, T k → w.heap.size ≤ k
  sb : ∀ k, S k → k < W.heap.size
  tb : ∀ k, T k → k < W.heap.size
  gb : g < W.heap.size
theorem PutAt.step {w : World} {g : Nat} {S T : Nat → Prop} {bw br : List Int} {v : Value} {W W' : World} (h : PutAt w g S T bw br v W) (hb : Below W.heap.size W W') : PutAt w g S T bw br v W' :=
  ⟨h.wt.step hb, Kd.R_below h.row hb, below_step h.below hb, h.apart, h.tl, fun k hk => Nat.lt_of_lt_of_le (h.sb k hk) hb.size, fun k hk => Nat.lt_of_lt_of_le (h.tb k hk) hb.size, Nat.lt_of_lt_of_le h.gb hb.size⟩
theorem PutAt.kept {w : World} {g : Nat} {S T X : Nat → Prop} {bw br : List Int} {v : Value} {W W' : World} (h : PutAt w g S T bw br v W) (hk : Kept W W' X) (hb : Below w.heap.size w W') (hS : ∀ k, S k → ¬ X k) (hT : ∀ k, T k → ¬ X k) (hg : ¬ X g) : PutAt w g S T bw br v W' :=
  ⟨h.wt.kept hk hS hg, Kd.R_mono (Kd.R_keptB h.row hk hT) (fun k hk => hk.1), hb, h.apart, h.tl, fun k hk2 => Nat.lt_of_lt_of_le (h.sb k hk2) hk.1, fun k hk2 => Nat.lt_of_lt_of_le (h.tb k hk2) hk.1, Nat.lt_of_lt_of_le h.gb hk.1⟩
end Go.Proofs.Ytklbkonehcjmjaa.P

end

section
namespace Go.Proofs.Ytklbkonehcjmjaa.P
open Go.RowKit Go.Proofs.YtklbkonehcjmjaaW.PrintWords Go.Proofs.YtklbkonehcjmjaaW.PrintLast Go.Proofs.YtklbkonehcjmjaaW.PrintMore
attribute [local go_sem] max2_int min2_int max_two min_two max_three min_three max_four min_four   -- for this text's walks alone
set_option linter.unusedVariables false
set_option linter.unusedSimpArgs false

def provisolaw01_fresh.f (l0 : List Int) : Option (Int) := if (l0.length : Int) > 1048576 then (some 7) else (some 0)
set_option maxHeartbeats 8000000 in
set_option maxRecDepth 100000 in
theorem provisolaw01_fresh.calls (A0 : Option Addr) (c0 : Nat) (l0 : List Int) (r : Int) (w : World) (hr0 : Kd.C (Kd.int .u8) w A0 l0.length l0) (hc0 : l0.length ≤ c0) (h : provisolaw01_fresh.f l0 = some r) :
    Calls Try.prog 34 #[.slice A0 l0.length c0] w fun e w' => e = .returned (.int .i64 r) ∧ Drawn0 w w' := by
  have HR0 := Aside0.mk hr0
  have HC0 := Aside0.mk hc0
  clear hr0 hc0
  have H : (if (l0.length : Int) > 1048576 then (some 7) else (some 0)) = some r := h
  clear h
  by_cases c2 : (l0.length : Int) > 1048576
  · rw [if_pos c2] at H
    have c2b0 : decide (1048576 < (l0.length : Int)) = true := decide_eq_true c2
    have c2b1 : decide (1048576 < l0.length) = true := decide_eq_true (by omega)
    clear c2
    obtain rfl := Option.some.inj H
    go_enter Try.func34, Try.ntmps34
    go_wp2
    go_ret
    exact ⟨by first | rfl | (simp; done) | (simp [*]; done), by repeat (first | exact Drawn0.refl _ | apply Drawn0.step)⟩
  · rw [if_neg c2] at H
    have c2b0 : decide (1048576 < (l0.length : Int)) = false := decide_eq_false c2
    have c2b1 : decide (1048576 < l0.length) = false := decide_eq_false (by omega)
    clear c2
    obtain rfl := Option.some.inj H
    go_enter Try.func34, Try.ntmps34
    go_wp2
    go_ret
    exact ⟨by first | rfl | (simp; done) | (simp [*]; done), by repeat (first | exact Drawn0.refl _ | apply Drawn0.step)⟩

def provisoplain_mark.f (a0 : Int) : Option (Int) := some (wrap64 ((Int.tmod a0 250) + 1))
set_option maxHeartbeats 8000000 in
set_option maxRecDepth 100000 in
theorem provisoplain_mark.calls (a0 : Int) (r : Int) (w : World) (h : provisoplain_mark.f a0 = some r) :
    Calls Try.prog 56 #[.int .i64 a0] w fun e w' => e = .returned (.int .i64 r) ∧ Drawn0 w w' := by
  have H : (some (wrap64 ((Int.tmod a0 250) + 1))) = some r := h
  clear h
  obtain rfl := Option.some.inj H
  go_enter Try.func56, Try.ntmps56
  go_wp2
  go_ret
  exact ⟨by first | rfl | (simp; done) | (simp [*]; done), by repeat (first | exact Drawn0.refl _ | apply Drawn0.step)⟩



def provisolaw01_full.f (a0 : Int) : Option (Int) := if a0 = 1048576 then (some 7) else (some 0)
set_option maxHeartbeats 8000000 in
set_option maxRecDepth 100000 in
theorem provisolaw01_full.calls (a0 : Int) (r : Int) (w : World) (h : provisolaw01_full.f a0 = some r) :
    Calls Try.prog 37 #[.int .i64 a0] w fun e w' => e = .returned (.int .i64 r) ∧ Drawn0 w w' := by
  have H : (if a0 = 1048576 then (some 7) else (some 0)) = some r := h
  clear h
  by_cases c2 : a0 = 1048576
  · rw [if_pos c2] at H
    have c2b0 : (a0 == 1048576) = true := beq_iff_eq.mpr c2
    have c2b1 : (a0 != 1048576) = false := bne_eq_false_iff_eq.mpr c2
    clear c2
    obtain rfl := Option.some.inj H
    go_enter Try.func37, Try.ntmps37
    go_wp2
    go_ret
    exact ⟨by first | rfl | (simp; done) | (simp [*]; done), by repeat (first | exact Drawn0.refl _ | apply Drawn0.step)⟩
  · rw [if_neg c2] at H
    have c2b0 : (a0 == 1048576) = false := beq_eq_false_iff_ne.mpr c2
    have c2b1 : (a0 != 1048576) = true := bne_iff_ne.mpr c2
    obtain rfl := Option.some.inj H
    go_enter Try.func37, Try.ntmps37
    go_wp2
    go_ret
    exact ⟨by first | rfl | (simp; done) | (simp [*]; done), by repeat (first | exact Drawn0.refl _ | apply Drawn0.step)⟩


end Go.Proofs.Ytklbkonehcjmjaa.P

end

section
namespace Go.Proofs.Ytklbkonehcjmjaa.P
open Go.RowKit Go.Proofs.YtklbkonehcjmjaaW.PrintWords Go.Proofs.YtklbkonehcjmjaaW.PrintLast Go.Proofs.YtklbkonehcjmjaaW.PrintMore
attribute [local go_sem] max2_int min2_int max_two min_two max_three min_three max_four min_four
set_option linter.unusedVariables false
set_option linter.unusedSimpArgs false
structure Hd where
  A : Option Addr
  n : Nat
  c : Nat
def Hd.v (h : Hd) : Value := .slice h.A h.n h.c
def hz : Hd := ⟨none, 0, 0⟩
def khd : Kd Hd := Kd.scalar Hd.v (fun _ => rfl)
def mrk (i : Nat) : Int := ((i % 250 : Nat) : Int) + 1
def rowH (n : Nat) (hd : Nat → Hd) : List Hd := (List.range n).map hd
theorem rowH_len (n : Nat) (hd : Nat → Hd) : (rowH n hd).length = n := by simp [rowH]
theorem rowH_at {n : Nat} (hd : Nat → Hd) {i : Nat} (hi : i < n) : rdOf hz (rowH n hd) (i : Int) = hd i := by
  simp [rdOf, rowH, List.getD_eq_getElem?_getD, hi]
theorem rowH_succ (n : Nat) (hd : Nat → Hd) : rowH (n + 1) hd = rowH n hd ++ [hd n] := by simp [rowH, List.range_succ]
theorem rowH_same {n : Nat} {f f2 : Nat → Hd} (h : ∀ i, i < n → f2 i = f i) : rowH n f2 = rowH n f := List.map_congr_left fun i hi => h i (List.mem_range.1 hi)
structure Grp (k : IntKind) (te ts : TypeId) (W : World) (base : Nat) (G : Nat → Prop) (v : Value) (n : Nat) (hd : Nat → Hd) (i m : Nat) : Prop where
  row : khd.R ts W base G v (rowH n hd)
  own : ∀ j, j < n → ∃ xs, Kd.R (Kd.int k) te W base G (hd j).v xs ∧ ∀ t, t < xs.length → (j < i ∨ (j = i ∧ t < m)) → xs[t]? = some (mrk j)
  ne : ∀ j j', j < n → j' < n → j ≠ j' → ∀ b, (hd j).v.ownBlock = some b → (hd j').v.ownBlock ≠ some b
theorem Grp.kept {k : IntKind} {te ts : TypeId} {W W1 : World} {base : Nat} {G S : Nat → Prop} {v : Value} {n : Nat} {hd : Nat → Hd} {i m : Nat} (h : Grp k te ts W base G v n hd i m) (hk : Kept W W1 S) (hS : ∀ b, G b → ¬ S b) : Grp k te ts W1 base G v n hd i m :=
  ⟨Kd.R_kept h.row hk hS, fun j hj => by
    obtain ⟨xs, h1, h2⟩ := h.own j hj
    exact ⟨xs, Kd.R_kept h1 hk hS, h2⟩, h.ne⟩
theorem Grp.step {k : IntKind} {te ts : TypeId} {W W1 : World} {base : Nat} {G : Nat → Prop} {v : Value} {n : Nat} {hd : Nat → Hd} {i m : Nat} (h : Grp k te ts W base G v n hd i m) (hb : Below W.heap.size W W1) : Grp k te ts W1 base G v n hd i m := h.kept (S := fun _ => False) (Kept.of_below hb _) (fun _ _ q => q)
theorem Grp.mono {k : IntKind} {te ts : TypeId} {W : World} {base : Nat} {G G' : Nat → Prop} {v : Value} {n : Nat} {hd : Nat → Hd} {i m : Nat} (h : Grp k te ts W base G v n hd i m) (hG : ∀ b, G b → G' b) : Grp k te ts W base G' v n hd i m :=
  ⟨Kd.R_mono h.row hG, fun j hj => by
    obtain ⟨xs, h1, h2⟩ := h.own j hj
    exact ⟨xs, Kd.R_mono h1 hG, h2⟩, h.ne⟩
theorem Grp.next {k : IntKind} {te ts : TypeId} {W : World} {base : Nat} {G : Nat → Prop} {v : Value} {n : Nat} {hd : Nat → Hd} {i m : Nat} (h : Grp k te ts W base G v n hd i m) (hm : m = (hd i).n) : Grp k te ts W base G v n hd (i + 1) 0 :=
  ⟨h.row, fun j hj => by
    obtain ⟨xs, h1, h2⟩ := h.own j hj
    refine ⟨xs, h1, fun t ht q => h2 t ht ?_⟩
    have h3 := (Kd.R_reads' h1).1
    by_cases e : j = i
    · subst e; right; omega
    · left; omega, h.ne⟩
theorem own_form {k : IntKind} {te : TypeId} {W : World} {base : Nat} {G : Nat → Prop} {h : Hd} {xs : List Int} (hR : Kd.R (Kd.int k) te W base G h.v xs) : h.n = xs.length ∧ ∀ t : Nat, t < h.n → ∃ b, h.A = some ⟨b, 0, none⟩ ∧ G b ∧ base ≤ b ∧ b < W.heap.size ∧ (∃ cells, W.heap[b]? = some (.cells cells te (0, 0))) ∧ h.v.ownBlock = some b := by
  have h3 := (Kd.R_reads' hR).1
  refine ⟨h3, fun t ht => ?_⟩
  obtain ⟨g, cap, e, h4, h5, h6⟩ := Kd.R_form hR (by omega)
  unfold Hd.v at e
  injection e with e1 e2 e3
  have ho : h.v.ownBlock = some g := by unfold Hd.v; rw [e1]; rfl
  exact ⟨g, e1, hR.1 g ho, h4, h5, h6, ho⟩
theorem Grp.put {k : IntKind} {te ts : TypeId} {W : World} {base : Nat} {G : Nat → Prop} {v : Value} {n : Nat} {hd : Nat → Hd} {i m : Nat} (h : Grp k te ts W base G v n hd i m) (ht : te ≠ ts) (hi : i < n) (hm : m < (hd i).n) {b : Nat} (hA : (hd i).A = some ⟨b, 0, none⟩) : Grp k te ts (W.setCell ⟨b, m, none⟩ (.int k (mrk i))) base G v n hd i (m + 1) := by
  obtain ⟨xs, h1, h2⟩ := h.own i hi
  obtain ⟨f1, f2⟩ := own_form h1
  obtain ⟨b', e1, e2, e3, e4, ⟨cells, e5⟩, e6⟩ := f2 m hm
  rw [hA] at e1
  injection e1 with e1
  injection e1 with e1
  subst e1
  have hv : (hd i).v = .slice (some ⟨b, 0, none⟩) (hd i).n (hd i).c := by unfold Hd.v; rw [hA]
  refine ⟨Kd.R_set h.row e5 (fun q hq => by rw [show khd.E = [] from rfl] at hq; rw [List.mem_singleton.1 hq]; exact ht.symm) m _, fun j hj => ?_, h.ne⟩
  by_cases e : j = i
  · subst e
    rw [hv] at h1 ⊢
    have h4 := Kd.R_putn h1 (m : Int) (mrk j)
    rw [Int.toNat_natCast] at h4
    refine ⟨_, h4, fun t ht hq => ?_⟩
    rw [List.length_set] at ht
    rw [List.getElem?_set]
    by_cases e9 : m = t
    · subst e9
      rw [if_pos rfl, if_pos ht]
    · rw [if_neg e9]
      exact h2 t ht (by omega)
  · obtain ⟨ys, h4, h5⟩ := h.own j hj
    have hn := h.ne i j hi hj (fun q => e q.symm) b e6
    exact ⟨ys, Kd.R_mono (Kd.R_far (Kd.R_tight2 rfl h4) (p := ⟨b, m, none⟩) (fun k' hk' q => hn (by rw [← hk'.1, q])) _) (fun _ q => q.2), fun t ht q => h5 t ht (by omega)⟩
theorem mrk_range (i : Nat) : 1 ≤ mrk i ∧ mrk i ≤ 250 := by unfold mrk; omega
theorem mrk_is (i : Nat) (h : i < 9223372036854775807) : provisoplain_mark.f (i : Int) = some (mrk i) := by
  unfold provisoplain_mark.f mrk
  have h1 : Int.tmod (i : Int) 250 = ((i % 250 : Nat) : Int) := rfl
  rw [h1]
  congr 1
  unfold wrap64
  omega
theorem rep_of {xs : List Int} {i : Nat} (h : ∀ t, t < xs.length → xs[t]? = some (mrk i)) : xs = List.replicate xs.length (mrk i) := by
  refine List.ext_getElem? fun t => ?_
  by_cases ht : t < xs.length
  · rw [h t ht, List.getElem?_replicate, if_pos ht]
  · rw [List.getElem?_eq_none (by omega), List.getElem?_replicate, if_neg ht]
theorem Grp.marked {k : IntKind} {te ts : TypeId} {W : World} {base : Nat} {G : Nat → Prop} {v : Value} {n : Nat} {hd : Nat → Hd} {i m : Nat} (h : Grp k te ts W base G v n hd i m) {j : Nat} (hj : j < n) (hji : j < i) : Kd.R (Kd.int k) te W base G (hd j).v (List.replicate (hd j).n (mrk j)) := by
  obtain ⟨xs, h1, h2⟩ := h.own j hj
  have h3 := (Kd.R_reads' h1).1
  have h4 := rep_of (xs := xs) (i := j) (fun t ht => h2 t ht (.inl hji))
  rw [h3, ← h4]
  exact h1
structure ShAt (base : Nat) (F : Nat → Prop) (sh nB nI : Nat) (W : World) : Prop where
  now : ∃ (GB GI : Nat → Prop) (vB vI : Value) (hB hI : Nat → Hd), W.heap[sh]? = some (.cells #[vB, vI] 53 (0, 0)) ∧ Grp .u8 5 23 W base GB vB nB hB 0 0 ∧ Grp .i64 3 95 W base GI vI nI hI 0 0 ∧
    (∀ b, GB b → F b) ∧ (∀ b, GI b → F b) ∧ (∀ b, GB b → ¬ GI b) ∧ (∀ j, j < nB → (hB j).n + 80 ≤ 140737488351400) ∧ (∀ j, j < nI → ((hI j).n + 80) * 8 ≤ 140737488355328)
  fs : F sh
  lt : ∀ b, F b → base ≤ b ∧ b < W.heap.size
theorem Grp.bound {k : IntKind} {te ts : TypeId} {W : World} {base : Nat} {G : Nat → Prop} {v : Value} {n : Nat} {hd : Nat → Hd} {i m : Nat} (h : Grp k te ts W base G v n hd i m) : Grp k te ts W base (fun b => G b ∧ base ≤ b ∧ b < W.heap.size ∧ ∃ cs, W.heap[b]? = some (.cells cs te (0, 0)) ∨ W.heap[b]? = some (.cells cs ts (0, 0))) v n hd i m :=
  ⟨Kd.R_mono (Kd.R_bound h.row) (fun b q => by
    obtain ⟨q1, q2, q3, t, ht, cells, hc⟩ := q
    rw [show khd.E = [] from rfl] at ht
    obtain rfl := List.mem_singleton.1 ht
    exact ⟨q1, q2, q3, cells, .inr hc⟩), fun j hj => by
    obtain ⟨xs, h1, h2⟩ := h.own j hj
    refine ⟨xs, Kd.R_mono (Kd.R_bound h1) (fun b q => ?_), h2⟩
    obtain ⟨q1, q2, q3, t, ht, cells, hc⟩ := q
    rw [show (Kd.int k).E = [] from rfl] at ht
    obtain rfl := List.mem_singleton.1 ht
    exact ⟨q1, q2, q3, cells, .inl hc⟩, h.ne⟩
theorem ShAt.kept {base : Nat} {F S : Nat → Prop} {sh nB nI : Nat} {W W1 : World} (h : ShAt base F sh nB nI W) (hk : Kept W W1 S) (hS : ∀ b, F b → ¬ S b) : ShAt base F sh nB nI W1 := by
  obtain ⟨⟨GB, GI, vB, vI, hB, hI, h1, h2, h3, h4, h5, h6, h7, h8⟩, hf, hl⟩ := h
  exact ⟨⟨GB, GI, vB, vI, hB, hI, blk_kept h1 hk (hS _ hf), h2.kept hk (fun b q => hS b (h4 b q)), h3.kept hk (fun b q => hS b (h5 b q)), h4, h5, h6, h7, h8⟩, hf, fun b q => ⟨(hl b q).1, Nat.lt_of_lt_of_le (hl b q).2 hk.1⟩⟩
theorem ShAt.step {base : Nat} {F : Nat → Prop} {sh nB nI : Nat} {W W1 : World} (h : ShAt base F sh nB nI W) (hb : Below W.heap.size W W1) : ShAt base F sh nB nI W1 := h.kept (S := fun _ => False) (Kept.of_below hb _) (fun _ _ q => q)
theorem ShAt.new (W : World) : ShAt W.heap.size (fun b => b = W.heap.size) W.heap.size 0 0 (W.alloc (.cells #[.slice none 0 0, .slice none 0 0] 53 (0, 0))) :=
  ⟨⟨fun _ => False, fun _ => False, _, _, fun _ => hz, fun _ => hz, blk_new W _, ⟨Kd.R_nil _ _ _ _ _, fun j hj => absurd hj (by omega), fun j _ hj => absurd hj (by omega)⟩, ⟨Kd.R_nil _ _ _ _ _, fun j hj => absurd hj (by omega), fun j _ hj => absurd hj (by omega)⟩, fun _ q => q.elim, fun _ q => q.elim, fun _ q => q.elim, fun j hj => absurd hj (by omega), fun j hj => absurd hj (by omega)⟩, rfl, fun b q => by subst q; simp⟩
end Go.Proofs.Ytklbkonehcjmjaa.P

end

section
namespace Go.Proofs.Ytklbkonehcjmjaa.P
open Go.RowKit Go.Proofs.YtklbkonehcjmjaaW.PrintWords Go.Proofs.YtklbkonehcjmjaaW.PrintLast Go.Proofs.YtklbkonehcjmjaaW.PrintMore
attribute [local go_sem] max2_int min2_int max_two min_two max_three min_three max_four min_four
set_option linter.unusedVariables false
set_option linter.unusedSimpArgs false
theorem below_far {B base : Nat} {w0 W W1 : World} (h : Below B w0 W) (hB : B ≤ base) (k : Below base W W1) : Below B w0 W1 := ⟨k.os.trans h.os, k.tape.trans h.tape, k.output.trans h.output, Nat.le_trans h.size k.size, fun b hb => (k.block b (Nat.lt_of_lt_of_le hb hB)).trans (h.block b hb)⟩
theorem khd_fits {n : Nat} (h : n ≤ 5864062014804) : Builtin.nextslicecap (n + 1) n * 24 ≤ 281474976710656 := growslice_fits (need := n + 1) (old := n) (bytes := 24) (Nat.lt_succ_self n) (by omega)
theorem Grp.add {k : IntKind} {te ts : TypeId} {W W1 : World} {base : Nat} {G G' : Nat → Prop} {v v1 : Value} {n : Nat} {hd : Nat → Hd} {h : Hd} {xs : List Int} (hg : Grp k te ts W base G v n hd 0 0) (hR : Kd.R (Kd.int k) te W1 base G' h.v xs) (hrow : khd.R ts W1 base G' v1 (rowH n hd ++ [h])) (hG : ∀ b, G b → G' b) (hfar : ∀ b, h.v.ownBlock = some b → ¬ G b) (hk : ∀ j, j < n → ∀ xs, Kd.R (Kd.int k) te W base G (hd j).v xs → Kd.R (Kd.int k) te W1 base G (hd j).v xs) : Grp k te ts W1 base G' v1 (n + 1) (fun j => if j = n then h else hd j) 0 0 := by
  have hown : ∀ j, j < n → ∀ b, (hd j).v.ownBlock = some b → G b := fun j hj b q => by
    obtain ⟨ys, h1, _⟩ := hg.own j hj
    exact h1.1 b q
  refine ⟨?_, fun j hj => ?_, fun j j' hj hj' hne b q1 q2 => ?_⟩
  · rw [rowH_succ, rowH_same (f := hd) (fun i hi => if_neg (Nat.ne_of_lt hi))]
    rw [show (if n = n then h else hd n) = h from if_pos rfl]
    exact hrow
  · show ∃ ys, Kd.R (Kd.int k) te W1 base G' (if j = n then h else hd j).v ys ∧ ∀ t, t < ys.length → (j < 0 ∨ (j = 0 ∧ t < 0)) → ys[t]? = some (mrk j)
    by_cases e : j = n
    · rw [if_pos e]
      exact ⟨xs, hR, fun t _ q => by omega⟩
    · rw [if_neg e]
      obtain ⟨ys, h1, h2⟩ := hg.own j (by omega)
      exact ⟨ys, Kd.R_mono (hk j (by omega) ys h1) hG, fun t _ q => by omega⟩
  · have q1 : (if j = n then h else hd j).v.ownBlock = some b := q1
    have q2 : (if j' = n then h else hd j').v.ownBlock = some b := q2
    by_cases e : j = n
    · rw [if_pos e] at q1
      rw [if_neg (by omega)] at q2
      exact hfar b q1 (hown j' (by omega) b q2)
    · rw [if_neg e] at q1
      by_cases e' : j' = n
      · rw [if_pos e'] at q2
        exact hfar b q2 (hown j (by omega) b q1)
      · rw [if_neg e'] at q2
        exact hg.ne j j' (by omega) (by omega) hne b q1 q2
theorem typ_neq {W : World} {a b t u : Nat} {cs ds : Array Value} (h1 : W.heap[a]? = some (.cells cs t (0, 0))) (h2 : W.heap[b]? = some (.cells ds u (0, 0))) (hn : t ≠ u) : a ≠ b := fun e => by
  rw [e, h2] at h1
  injection h1 with h1
  injection h1 with _ h1 _
  exact hn h1.symm
theorem Grp.over {k : IntKind} {te ts : TypeId} {W W1 : World} {base : Nat} {G S : Nat → Prop} {v : Value} {n : Nat} {hd : Nat → Hd} {i m : Nat} (h : Grp k te ts W base G v n hd i m) (hk : Kept W W1 S) (hS : ∀ b, G b → ¬ S b) {sh t : Nat} {cs : Array Value} (hb : W1.heap[sh]? = some (.cells cs t (0, 0))) (h1 : te ≠ t) (h2 : ts ≠ t) (j : Nat) (u : Value) : Grp k te ts (W1.setCell ⟨sh, j, none⟩ u) base G v n hd i m := by
  have h3 := h.kept hk hS
  refine ⟨Kd.R_set h3.row hb (fun z hz => by rw [show khd.E = [] from rfl] at hz; rw [List.mem_singleton.1 hz]; exact h2) _ _, fun j hj => ?_, h3.ne⟩
  obtain ⟨xs, h4, h5⟩ := h3.own j hj
  exact ⟨xs, Kd.R_set h4 hb (fun z hz => by rw [show (Kd.int k).E = [] from rfl] at hz; rw [List.mem_singleton.1 hz]; exact h1) _ _, h5⟩
set_option maxHeartbeats 1600000 in
set_option maxRecDepth 100000 in
theorem Bytes_sh (base : Nat) (F F' : Nat → Prop) (sh nB nI : Nat) (W : World) (h : ShAt base F sh nB nI W) (v : Value) (xs : List Int) (hR : Kd.R (Kd.int .u8) 5 W base F' v xs) (hF : ∀ b, F' b → ¬ F b) (hlim : xs.length + 80 ≤ 140737488351400) (hn : nB ≤ 5864062014804) :
    Calls Try.prog 32 #[.pointer (some ⟨sh, 0, none⟩), v] W fun e w' => e = .returned (.tuple #[]) ∧ ShAt base (fun b => (F b ∨ some b = v.ownBlock ∨ W.heap.size ≤ b) ∧ b < w'.heap.size) sh (nB + 1) nI w' ∧ Kept W w' (fun b => F b ∧ ∃ cs t, W.heap[b]? = some (.cells cs t (0, 0)) ∧ (t = 53 ∨ t = 23)) ∧ ∀ (B : Nat) (w0 : World), B ≤ base → Below B w0 W → Below B w0 w' := by
  obtain ⟨⟨GB, GI, vB, vI, hB, hI, h1, h2, h3, h4, h5, h6, h7, h8⟩, hf, hl⟩ := h
  obtain ⟨A, c, rfl⟩ := Kd.R_slice hR
  have hbase : base ≤ W.heap.size := Nat.le_trans (hl sh hf).1 (Nat.le_of_lt (hl sh hf).2)
  have hc0 := blk_cell h1 0
  have hrow := h2.row
  obtain ⟨Av, cv, ev⟩ := Kd.R_slice hrow
  rw [rowH_len] at ev
  subst ev
  have H1 := Aside0.mk h1
  have H2 := Aside0.mk h2
  have H3 := Aside0.mk h3
  have H4 := Aside0.mk h4
  have H5 := Aside0.mk h5
  have H6 := Aside0.mk h6
  have H7 := Aside0.mk h7
  have H8 := Aside0.mk h8
  have HF0 := Aside0.mk hf
  have HL := Aside0.mk hl
  have HR := Aside0.mk hR
  have HF := Aside0.mk hF
  have HLIM := Aside0.mk hlim
  have HN := Aside0.mk hn
  have HBS := Aside0.mk hbase
  have HROW := Aside0.mk hrow
  clear h1 h2 h3 h4 h5 h6 h7 h8 hf hl hR hF hlim hn hbase hrow
  go_enter Try.func32, Try.ntmps32
  go_wp2_with (first | (at_builtin; refine R_append1 khd (w0 := W) base rfl (.tmp 8) (.tmp 10) 50 23 (.slice none 0 0) 24 rfl Try.underlying50 (by kernel_rfl) rfl (by decide) (by decide) (.slice Av nB cv) (rowH nB hB) (⟨A, xs.length, c⟩ : Hd) [.slice A xs.length c] (fun b => GB b ∨ W.heap.size ≤ b) (fun _ => False) rfl rfl rfl (fun _ hk => hk.elim) (fun _ hk => .inr hk) (Kd.R_mono HROW.out (fun _ q => .inl q)) (Below.refl _ _) HBS.out (by rw [rowH_len]; have := HN.out; unfold maxLen; omega) (by rw [rowH_len]; exact khd_fits HN.out) ?_; intro v1 w1 ho hb hg hat; obtain ⟨A1, c1, e1⟩ := Kd.R_slice ho; rw [List.length_append, rowH_len] at e1; subst e1; have HO := Aside0.mk ho; have HB := Aside0.mk hb; have HG := Aside0.mk hg; have hs1 := (hg.block sh (blk_lt H1.out) (fun q => by obtain ⟨cells, hc⟩ := Kd.R_typed HROW.out sh q.symm; exact typ_neq H1.out hc (by decide) rfl)).trans H1.out; have HS1 := Aside0.mk hs1; clear ho hb hg hat hc0; have hc0 := blk_cell hs1 0; have hf0 := blk_frozen hs1 0; clear hs1))
  go_end0
  obtain ⟨v1, hv1⟩ : ∃ v1, v1 = Value.slice A1 (nB + 1) c1 := ⟨_, rfl⟩
  rw [← hv1]
  replace HO := Aside0.mk (show khd.R 23 w1 base (fun b => GB b ∨ W.heap.size ≤ b) v1 (rowH nB hB ++ [(⟨A, xs.length, c⟩ : Hd)]) by rw [hv1]; exact HO.out)
  have hs2 := blk_set HS1.out 0 v1
  have hkA : Kept W w1 (fun b => some b = (Value.slice Av nB cv).ownBlock) := Kept.of_grown HG.out (Kept.refl W _) (fun k q => .inl (by rw [q]))
  have hkB : Kept w1 (w1.setCell ⟨sh, 0, none⟩ v1) (fun b => b = sh) := (Kept.refl w1 (fun b => b = sh)).setCell (p := ⟨sh, 0, none⟩) (.inl rfl) _
  have hvG : ∀ b, some b = (Value.slice Av nB cv).ownBlock → GB b := fun b q => HROW.out.1 b q.symm
  have hkS : Kept W (w1.setCell ⟨sh, 0, none⟩ v1) (fun b => F b ∧ ∃ cs t, W.heap[b]? = some (.cells cs t (0, 0)) ∧ (t = 53 ∨ t = 23)) := (hkA.mono (fun b q => ⟨H4.out b (hvG b q), by obtain ⟨cs, h9⟩ := Kd.R_typed HROW.out b q.symm; exact ⟨cs, _, h9, .inr rfl⟩⟩)).then_ hkB (fun b q => .inl (by rw [q]; exact ⟨HF0.out, _, _, H1.out, .inl rfl⟩))
  have hsz : (w1.setCell ⟨sh, 0, none⟩ v1).heap.size = w1.heap.size := by simp [World.setCell]
  have hownF : ∀ b, some b = (Value.slice A xs.length c).ownBlock → ¬ F b ∧ base ≤ b ∧ b < W.heap.size := fun b q => ⟨HF.out b (HR.out.1 b q.symm), Kd.R_base HR.out b q.symm, Kd.R_lt HR.out b q.symm⟩
  have hst : ∀ (t : TypeId) {α : Type} (dd : Kd α) (ok : Nat → Prop) (u : Value) (ys : List α), dd.E = [] → t ≠ 53 → dd.R t w1 base ok u ys → dd.R t (w1.setCell ⟨sh, 0, none⟩ v1) base ok u ys := fun t α dd ok u ys hE ht q => Kd.R_set q HS1.out (fun z hz => by rw [hE] at hz; rw [List.mem_singleton.1 hz]; exact ht) _ _
  have hRn := hst _ _ _ _ _ rfl (by decide) (Kd.R_grown (Kd.R_tight2 rfl HR.out) HG.out (fun b q e => HF.out b q.2 (H4.out b (hvG b e))))
  have hrn := hst _ _ _ _ _ rfl (by decide) HO.out
  have hgrp := Grp.add (h := ⟨A, xs.length, c⟩) (G' := fun b => GB b ∨ some b = (Value.slice A xs.length c).ownBlock ∨ W.heap.size ≤ b) H2.out (Kd.R_mono hRn (fun b q => .inr (.inl q.1))) (Kd.R_mono hrn (fun b q => q.elim .inl (fun q => .inr (.inr q)))) (fun b q => .inl q) (fun b q q2 => (hownF b q.symm).1 (H4.out b q2)) (fun j hj ys q => hst _ _ _ _ _ rfl (by decide) (Kd.R_over' q (Kd.R_typed HROW.out) (fun z hz => by rw [show (Kd.int .u8).E = [] from rfl] at hz; rw [List.mem_singleton.1 hz]; decide) HG.out))
  have hoth := (H3.out.kept hkA (fun b q e => H6.out b (hvG b e) q)).kept (S := fun b => b = sh) hkB
  have hoth2 := Grp.over H3.out hkA (fun b q e => H6.out b (hvG b e) q) HS1.out (by decide) (by decide) 0 v1
  clear hoth
  have hgrp2 := hgrp.bound.mono (G' := fun b => (GB b ∨ some b = (Value.slice A xs.length c).ownBlock ∨ W.heap.size ≤ b) ∧ base ≤ b ∧ b < (w1.setCell ⟨sh, 0, none⟩ v1).heap.size) (fun b q => ⟨q.1, q.2.1, q.2.2.1⟩)
  have hin : ∀ b, F b → b < (w1.setCell ⟨sh, 0, none⟩ v1).heap.size := fun b q => Nat.lt_of_lt_of_le (HL.out b q).2 hkS.1
  have hap : ∀ b, ((GB b ∨ some b = (Value.slice A xs.length c).ownBlock ∨ W.heap.size ≤ b) ∧ base ≤ b ∧ b < (w1.setCell ⟨sh, 0, none⟩ v1).heap.size) → GI b → False := fun b q qi => by
    have h9 := H5.out b qi
    rcases q.1 with q1 | q1 | q1
    · exact H6.out b q1 qi
    · exact (hownF b q1).1 h9
    · have := (HL.out b h9).2
      omega
  have hlm : ∀ j, j < nB + 1 → ((if j = nB then (⟨A, xs.length, c⟩ : Hd) else hB j).n + 80 ≤ 140737488351400) := fun j hj => by
    by_cases e : j = nB
    · rw [if_pos e]; exact HLIM.out
    · rw [if_neg e]; exact H7.out j (by omega)
  have hto : ∀ b, ((GB b ∨ some b = (Value.slice A xs.length c).ownBlock ∨ W.heap.size ≤ b) ∧ base ≤ b ∧ b < (w1.setCell ⟨sh, 0, none⟩ v1).heap.size) → (F b ∨ some b = (Value.slice A xs.length c).ownBlock ∨ W.heap.size ≤ b) ∧ b < (w1.setCell ⟨sh, 0, none⟩ v1).heap.size := fun b q => ⟨q.1.imp (H4.out b) id, q.2.2⟩
  have hbs : ∀ b, (F b ∨ some b = (Value.slice A xs.length c).ownBlock ∨ W.heap.size ≤ b) → base ≤ b := fun b q => by
    rcases q with q | q | q
    · exact (HL.out b q).1
    · exact (hownF b q).2.1
    · exact Nat.le_trans HBS.out q
  exact ⟨rfl, ⟨⟨_, GI, v1, vI, _, hI, hs2, hgrp2, hoth2, hto, fun b q => ⟨.inl (H5.out b q), hin b (H5.out b q)⟩, hap, hlm, H8.out⟩, ⟨.inl HF0.out, hin _ HF0.out⟩, fun b q => ⟨hbs b q.1, q.2⟩⟩, hkS, fun B w0 hB hb => (below_far hb hB HB.out).setCell (Nat.le_trans hB (HL.out sh HF0.out).1) _⟩
end Go.Proofs.Ytklbkonehcjmjaa.P

end

section
namespace Go.Proofs.Ytklbkonehcjmjaa.P
open Go.RowKit Go.Proofs.YtklbkonehcjmjaaW.PrintWords Go.Proofs.YtklbkonehcjmjaaW.PrintLast Go.Proofs.YtklbkonehcjmjaaW.PrintMore
attribute [local go_sem] max2_int min2_int max_two min_two max_three min_three max_four min_four
set_option linter.unusedVariables false
set_option linter.unusedSimpArgs false
theorem R_two {k : IntKind} {te : TypeId} {W : World} {base : Nat} {G : Nat → Prop} {v : Value} {xs : List Int} (h : Kd.R (Kd.int k) te W base G v xs) : Kd.R (Kd.int k) te W base (fun b => v.ownBlock = some b) v xs := Kd.R_mono (Kd.R_tight2 rfl h) (fun b q => q.1.symm)
structure Mor (k : IntKind) (te ts : TypeId) (base S0 : Nat) (G : Nat → Prop) (v : Value) (n : Nat) (hd : Nat → Hd) (i : Nat) (vM : Value) (gh : Nat → Hd) (P : Nat → Nat → Prop) (W : World) : Prop where
  row : khd.R ts W base (fun b => G b ∧ b < S0) v (rowH n hd)
  own : ∀ j, j < n → i ≤ j → Kd.R (Kd.int k) te W base (P j) (hd j).v (List.replicate (hd j).n (mrk j))
  got : ∀ j, j < i → Kd.F (Kd.int k) W (P j) (hd j).A (hd j).n (List.replicate (hd j).n (mrk j)) ∧ Kd.F (Kd.int k) W (P j) (gh j).A (gh j).n (List.replicate ((hd j).n + 80) (mrk j)) ∧ (gh j).n = (hd j).n + 80 ∧ (gh j).n ≤ (gh j).c
  more : khd.R ts W base (fun b => S0 ≤ b) vM (rowH i gh)
  sub : ∀ j b, j < n → P j b → (G b ∨ S0 ≤ b) ∧ b < W.heap.size ∧ vM.ownBlock ≠ some b ∧ v.ownBlock ≠ some b
  ne : ∀ j j' b, j < n → j' < n → P j b → P j' b → j = j'
  le : base ≤ S0 ∧ S0 ≤ W.heap.size
theorem Mor.start {k : IntKind} {te ts : TypeId} {W : World} {base : Nat} {G : Nat → Prop} {v : Value} {n : Nat} {hd : Nat → Hd} {m : Nat} (h : Grp k te ts W base G v n hd n m) (ht : te ≠ ts) (hb : base ≤ W.heap.size) : Mor k te ts base W.heap.size G v n hd 0 (.slice none 0 0) (fun _ => hz) (fun j b => (hd j).v.ownBlock = some b) W := by
  have hown : ∀ j, j < n → ∀ b, (hd j).v.ownBlock = some b → G b ∧ b < W.heap.size ∧ ∃ cs, W.heap[b]? = some (.cells cs te (0, 0)) := fun j hj b q => by
    have h1 := h.marked hj hj
    exact ⟨h1.1 b q, Kd.R_lt h1 b q, Kd.R_typed h1 b q⟩
  refine ⟨Kd.R_mono (Kd.R_bound h.row) (fun b q => ⟨q.1, q.2.2.1⟩), fun j hj _ => R_two (h.marked hj hj), fun j hj => absurd hj (by omega), Kd.R_nil _ _ _ _ _, fun j b hj q => ⟨.inl (hown j hj b q).1, (hown j hj b q).2.1, fun e => by simp [Value.ownBlock] at e, fun e => ?_⟩, fun j j' b hj hj' q q' => ?_, hb, Nat.le_refl _⟩
  · obtain ⟨cs, h1⟩ := (hown j hj b q).2.2
    obtain ⟨ds, h2⟩ := Kd.R_typed h.row b e
    exact typ_neq h1 h2 ht rfl
  · by_cases e : j = j'
    · exact e
    · exact absurd q' (h.ne j j' hj hj' e b q)
structure Inn (k : IntKind) (te ts : TypeId) (base S0 S1 : Nat) (G : Nat → Prop) (v : Value) (n : Nat) (hd : Nat → Hd) (i : Nat) (vM : Value) (gh : Nat → Hd) (P : Nat → Nat → Prop) (t : Nat) (g : Hd) (W : World) : Prop where
  row : khd.R ts W base (fun b => G b ∧ b < S0) v (rowH n hd)
  own : ∀ j, j < n → i + 1 ≤ j → Kd.R (Kd.int k) te W base (P j) (hd j).v (List.replicate (hd j).n (mrk j))
  got : ∀ j, j < i → Kd.F (Kd.int k) W (P j) (hd j).A (hd j).n (List.replicate (hd j).n (mrk j)) ∧ Kd.F (Kd.int k) W (P j) (gh j).A (gh j).n (List.replicate ((hd j).n + 80) (mrk j)) ∧ (gh j).n = (hd j).n + 80 ∧ (gh j).n ≤ (gh j).c
  more : khd.R ts W base (fun b => S0 ≤ b) vM (rowH i gh)
  sub : ∀ j b, j < n → P j b → (G b ∨ S0 ≤ b) ∧ b < S1 ∧ vM.ownBlock ≠ some b ∧ v.ownBlock ≠ some b
  ne : ∀ j j' b, j < n → j' < n → P j b → P j' b → j = j'
  le : base ≤ S0 ∧ S0 ≤ S1 ∧ S1 ≤ W.heap.size
  mlt : ∀ b, vM.ownBlock = some b → b < S1
  cur : Kd.R (Kd.int k) te W base (fun b => P i b ∨ S1 ≤ b) g.v (List.replicate ((hd i).n + t) (mrk i))
  bas : ∃ Pb : Nat → Prop, (∀ b, Pb b → P i b ∨ S1 ≤ b) ∧ (∀ b, Pb b → b < W.heap.size) ∧ Kd.F (Kd.int k) W Pb (hd i).A (hd i).n (List.replicate (hd i).n (mrk i)) ∧ ((∀ b, Pb b → g.v.ownBlock ≠ some b) ∨ (hd i).A = g.A)
theorem Mor.enter {k : IntKind} {te ts : TypeId} {W : World} {base S0 : Nat} {G : Nat → Prop} {v vM : Value} {n i : Nat} {hd gh : Nat → Hd} {P : Nat → Nat → Prop} (h : Mor k te ts base S0 G v n hd i vM gh P W) (hi : i < n) : Inn k te ts base S0 W.heap.size G v n hd i vM gh P 0 (hd i) W :=
  ⟨h.row, fun j hj hij => h.own j hj (by omega), h.got, h.more, fun j b hj q => h.sub j b hj q, h.ne, ⟨h.le.1, h.le.2, Nat.le_refl _⟩, fun b q => Kd.R_lt h.more b q, Kd.R_mono (h.own i hi (Nat.le_refl _)) (fun b q => .inl q), P i, fun b q => .inl q, fun b q => (h.sub i b hi q).2.1, Kd.R_F (h.own i hi (Nat.le_refl _)), .inr rfl⟩
theorem Inn.step {k : IntKind} {te ts : TypeId} {W W1 : World} {base S0 S1 : Nat} {G : Nat → Prop} {v vM : Value} {n i t : Nat} {hd gh : Nat → Hd} {g : Hd} {P : Nat → Nat → Prop} (h : Inn k te ts base S0 S1 G v n hd i vM gh P t g W) (hb : Below W.heap.size W W1) : Inn k te ts base S0 S1 G v n hd i vM gh P t g W1 := by
  obtain ⟨Pb, b1, b2, b3, b4⟩ := h.bas
  exact ⟨Kd.R_below h.row hb, fun j hj hij => Kd.R_below (h.own j hj hij) hb, fun j hj => ⟨Kd.F_below (h.got j hj).1 hb, Kd.F_below (h.got j hj).2.1 hb, (h.got j hj).2.2⟩, Kd.R_below h.more hb, h.sub, h.ne, ⟨h.le.1, h.le.2.1, Nat.le_trans h.le.2.2 hb.size⟩, h.mlt, Kd.R_below h.cur hb, Pb, b1, fun b q => Nat.lt_of_lt_of_le (b2 b q) hb.size, Kd.F_below b3 hb, b4⟩
theorem Inn.more1 {k : IntKind} {te ts : TypeId} {W w1 : World} {base S0 S1 : Nat} {G : Nat → Prop} {v vM v1 : Value} {n i t : Nat} {hd gh : Nat → Hd} {g : Hd} {P : Nat → Nat → Prop} (h : Inn k te ts base S0 S1 G v n hd i vM gh P t g W) (hi : i < n) (ht : te ≠ ts)
    (hR : Kd.R (Kd.int k) te w1 base (fun b => (P i b ∨ S1 ≤ b) ∨ W.heap.size ≤ b) v1 (List.replicate ((hd i).n + t) (mrk i) ++ [mrk i])) (hg : W.grownBy w1 g.v.ownBlock) (hat : v1.ownBlock = g.v.ownBlock ∨ ((∃ b, v1.ownBlock = some b ∧ W.heap.size ≤ b) ∧ W.grownBy w1 none)) :
    ∃ g1 : Hd, v1 = g1.v ∧ g1.n = (hd i).n + (t + 1) ∧ Inn k te ts base S0 S1 G v n hd i vM gh P (t + 1) g1 w1 := by
  obtain ⟨A1, c1, rfl⟩ := Kd.R_slice hR
  have hlen : (List.replicate ((hd i).n + t) (mrk i) ++ [mrk i]).length = (hd i).n + (t + 1) := by simp; omega
  have hrep : List.replicate ((hd i).n + t) (mrk i) ++ [mrk i] = List.replicate ((hd i).n + (t + 1)) (mrk i) := by
    rw [← Nat.add_assoc, List.replicate_succ']
  rw [hlen] at hR hat ⊢
  rw [hrep] at hR
  refine ⟨⟨A1, (hd i).n + (t + 1), c1⟩, rfl, rfl, ?_⟩
  have hcur : Kd.R (Kd.int k) te w1 base (fun b => P i b ∨ S1 ≤ b) (Value.slice A1 ((hd i).n + (t + 1)) c1) (List.replicate ((hd i).n + (t + 1)) (mrk i)) := Kd.R_mono hR (fun b q => q.elim id (fun q => .inr (Nat.le_trans h.le.2.2 q)))
  have hty := Kd.R_typed h.cur
  have hcurlt := h.cur.1
  have hkA : Kept W w1 (fun b => g.v.ownBlock = some b) := Kept.of_grown hg (Kept.refl W _) (fun b q => .inl q)
  have hoff : ∀ j, j < n → j ≠ i → ∀ b, P j b → ¬ g.v.ownBlock = some b := fun j hj hne b q e => by
    rcases hcurlt b e with q2 | q2
    · exact hne (h.ne j i b hj hi q q2)
    · have := (h.sub j b hj q).2.1
      omega
  have hne' : ∀ q, q ∈ ts :: khd.E → q ≠ te := fun q hq => by
    rw [show khd.E = [] from rfl] at hq
    rw [List.mem_singleton.1 hq]
    exact ht.symm
  obtain ⟨Pb, b1, b2, b3, b4⟩ := h.bas
  refine ⟨Kd.R_over' h.row hty hne' hg, fun j hj hij => Kd.R_kept (h.own j hj hij) hkA (fun b q => hoff j hj (by omega) b q), fun j hj => ⟨Kd.F_kept (h.got j hj).1 hkA (fun b q => hoff j (by omega) (by omega) b q), Kd.F_kept (h.got j hj).2.1 hkA (fun b q => hoff j (by omega) (by omega) b q), (h.got j hj).2.2⟩, Kd.R_over' h.more hty hne' hg, h.sub, h.ne, ⟨h.le.1, h.le.2.1, Nat.le_trans h.le.2.2 hkA.1⟩, h.mlt, hcur, ?_⟩
  rcases hat with hat | ⟨⟨b, hb, hge⟩, hgn⟩
  · rcases b4 with b4 | b4
    · exact ⟨Pb, b1, fun b q => Nat.lt_of_lt_of_le (b2 b q) hkA.1, Kd.F_kept b3 hkA (fun b q => b4 b q), .inl (fun b q e => b4 b q (hat ▸ e))⟩
    · have h5 : Kd.F (Kd.int k) w1 (fun b => (Value.slice A1 ((hd i).n + (t + 1)) c1).ownBlock = some b) A1 ((hd i).n + (t + 1)) (List.replicate ((hd i).n + (t + 1)) (mrk i)) := Kd.R_F (R_two hcur)
      have hl1 : (List.replicate ((hd i).n + (t + 1)) (mrk i)).length = (hd i).n + (t + 1) := List.length_replicate
      have h6 : Kd.F (Kd.int k) w1 (fun b => (Value.slice A1 ((hd i).n + (t + 1)) c1).ownBlock = some b) A1 (hd i).n (List.replicate (hd i).n (mrk i)) := Kd.F_imp h5 (fun W' hC => by
        have h9 := Kd.C_take (m := (hd i).n) (show Kd.C (Kd.int k) W' A1 (List.replicate ((hd i).n + (t + 1)) (mrk i)).length (List.replicate ((hd i).n + (t + 1)) (mrk i)) by rw [hl1]; exact hC) (by rw [hl1]; omega)
        rw [List.take_replicate, Nat.min_eq_left (by omega)] at h9
        rw [List.length_replicate] at h9
        exact h9)
      have hA : A1 = g.A := by
        obtain ⟨gb, cap, e, _⟩ := Kd.R_form hcur (by rw [hl1]; omega)
        injection e with e1 _ _
        have e9 : (Value.slice A1 ((hd i).n + (t + 1)) c1).ownBlock = some gb := by rw [e1]; rfl
        rw [hat] at e9
        have e10 : g.v.ownBlock = some gb := e9
        by_cases hz : 0 < (hd i).n + t
        · obtain ⟨gb2, cap2, e2, _⟩ := Kd.R_form h.cur (by rw [List.length_replicate]; exact hz)
          unfold Hd.v at e2 e10
          injection e2 with e3 _ _
          rw [e3] at e10 ⊢
          simp only [Value.ownBlock, Option.some.injEq] at e10
          rw [e1, e10]
        · unfold Hd.v at e10
          cases hgA : g.A with
          | none => rw [hgA] at e10; simp [Value.ownBlock] at e10
          | some ad =>
            rw [hgA] at e10
            simp only [Value.ownBlock, Option.some.injEq] at e10
            have hc := h.cur
            unfold Hd.v at hc
            rw [hgA] at hc
            obtain ⟨g3, e11⟩ := Kd.R_head hc
            subst e11
            rw [e1, ← e10]
      exact ⟨_, fun b q => hcur.1 b q, fun b q => Kd.R_lt hcur b q, by rw [b4, ← hA]; exact h6, .inr (b4.trans hA.symm)⟩
  · have hkN : Kept W w1 (fun _ => False) := Kept.of_grown hgn (Kept.refl W _) (fun b q => by cases q)
    refine ⟨Pb, b1, fun b q => Nat.lt_of_lt_of_le (b2 b q) hkN.1, Kd.F_kept b3 hkN (fun b _ q => q), .inl (fun b' q e => ?_)⟩
    rw [show (Hd.v ⟨A1, (hd i).n + (t + 1), c1⟩).ownBlock = some b from hb] at e
    injection e with e
    have := b2 b' q
    omega
theorem Inn.leave {k : IntKind} {te ts : TypeId} {W w1 : World} {base S0 S1 : Nat} {G : Nat → Prop} {v vM v1 : Value} {n i : Nat} {hd gh : Nat → Hd} {g : Hd} {P : Nat → Nat → Prop} (h : Inn k te ts base S0 S1 G v n hd i vM gh P 80 g W) (hi : i < n) (ht : te ≠ ts)
    (hR : khd.R ts w1 base (fun b => S0 ≤ b ∨ W.heap.size ≤ b) v1 (rowH i gh ++ [g])) (hg : W.grownBy w1 vM.ownBlock) (hat : v1.ownBlock = vM.ownBlock ∨ ∃ b, v1.ownBlock = some b ∧ W.heap.size ≤ b) :
    ∃ (gh' : Nat → Hd) (P' : Nat → Nat → Prop), Mor k te ts base S0 G v n hd (i + 1) v1 gh' P' w1 := by
  obtain ⟨Pb, b1, b2, b3, b4⟩ := h.bas
  have hkA : Kept W w1 (fun b => vM.ownBlock = some b) := Kept.of_grown hg (Kept.refl W _) (fun b q => .inl q)
  have hvM : ∀ b, vM.ownBlock = some b → S0 ≤ b ∧ b < S1 := fun b q => ⟨h.more.1 b q, h.mlt b q⟩
  have hcl := Kd.R_reads' h.cur
  have hn1 : g.n = (hd i).n + 80 := by rw [hcl.1, List.length_replicate]
  have hmt := Kd.R_typed h.more
  have hgt : ∀ b, g.v.ownBlock = some b → ¬ vM.ownBlock = some b := fun b q e => by
    obtain ⟨cs, h1⟩ := Kd.R_typed h.cur b q
    obtain ⟨ds, h2⟩ := hmt b e
    exact typ_neq h1 h2 ht rfl
  have hvt : ∀ b, g.v.ownBlock = some b → ¬ v.ownBlock = some b := fun b q e => by
    obtain ⟨cs, h1⟩ := Kd.R_typed h.cur b q
    obtain ⟨ds, h2⟩ := Kd.R_typed h.row b e
    exact typ_neq h1 h2 ht rfl
  have hP' : ∀ b, (P i b ∨ (S1 ≤ b ∧ (Pb b ∨ g.v.ownBlock = some b))) → vM.ownBlock = some b → False := fun b q e => by
    rcases q with q | ⟨q, q2⟩
    · exact (h.sub i b hi q).2.2.1 e
    · have := (hvM b e).2
      omega
  have hrowlt : ∀ b, v.ownBlock = some b → b < S0 := fun b q => (h.row.1 b q).2
  refine ⟨fun j => if j = i then g else gh j, fun j b => if j = i then P i b ∨ (S1 ≤ b ∧ b < W.heap.size ∧ (Pb b ∨ g.v.ownBlock = some b)) else P j b, ?_⟩
  have hPi : ∀ b, (P i b ∨ (S1 ≤ b ∧ b < W.heap.size ∧ (Pb b ∨ g.v.ownBlock = some b))) → vM.ownBlock ≠ some b := fun b q => fun e => hP' b (q.imp id (fun q => ⟨q.1, q.2.2⟩)) e
  have hcw : ∀ b, (Pb b ∨ g.v.ownBlock = some b) → (P i b ∨ (S1 ≤ b ∧ b < W.heap.size ∧ (Pb b ∨ g.v.ownBlock = some b))) := fun b q => by
    have h1 : P i b ∨ S1 ≤ b := q.elim (b1 b) (fun q => h.cur.1 b q)
    have h2 : b < W.heap.size := q.elim (b2 b) (fun q => Kd.R_lt h.cur b q)
    exact h1.imp id (fun h3 => ⟨h3, h2, q⟩)
  refine ⟨Kd.R_kept h.row hkA (fun b q e => ?_), fun j hj hij => ?_, fun j hj => ?_, ?_, fun j b hj q => ?_, fun j j' b hj hj' q q' => ?_, h.le.1, Nat.le_trans h.le.2.1 (Nat.le_trans h.le.2.2 hkA.1)⟩
  · have := (hvM b e).1
    have := q.2
    omega
  · have hji : ¬ j = i := by omega
    have h1 := Kd.R_kept (h.own j hj (by omega)) hkA (fun b q => (h.sub j b hj q).2.2.1)
    exact Kd.R_mono h1 (fun b q => by simp only [if_neg hji]; exact q)
  · by_cases e : j = i
    · subst e
      simp only [if_pos]
      refine ⟨Kd.F_mono (Kd.F_kept b3 hkA (fun b q => hPi b (hcw b (.inl q)))) (fun b q => hcw b (.inl q)), ?_, hn1, hcl.2.1⟩
      have h5 : Kd.F (Kd.int k) W (fun b => g.v.ownBlock = some b) g.A g.n (List.replicate ((hd j).n + 80) (mrk j)) := Kd.R_F (R_two h.cur)
      exact Kd.F_mono (Kd.F_kept h5 hkA (fun b q => hPi b (hcw b (.inr q)))) (fun b q => hcw b (.inr q))
    · simp only [if_neg e]
      have hji : j < i := by omega
      exact ⟨Kd.F_kept (h.got j hji).1 hkA (fun b q => (h.sub j b (by omega) q).2.2.1), Kd.F_kept (h.got j hji).2.1 hkA (fun b q => (h.sub j b (by omega) q).2.2.1), (h.got j hji).2.2⟩
  · rw [rowH_succ, rowH_same (f := gh) (fun j hj => if_neg (Nat.ne_of_lt hj))]
    rw [show (if i = i then g else gh i) = g from if_pos rfl]
    exact Kd.R_mono hR (fun b q => q.elim id (fun q => Nat.le_trans h.le.2.1 (Nat.le_trans h.le.2.2 q)))
  · have hv1 : ∀ b, v1.ownBlock = some b → vM.ownBlock = some b ∨ W.heap.size ≤ b := fun b e => by
      rcases hat with hat | ⟨b', hb, hge⟩
      · left; rw [← hat]; exact e
      · right
        rw [hb] at e
        injection e with e
        omega
    by_cases e : j = i
    · subst e
      simp only [if_pos] at q
      have h1 : b < W.heap.size := q.elim (fun q => Nat.lt_of_lt_of_le (h.sub j b hj q).2.1 h.le.2.2) (fun q => q.2.1)
      refine ⟨q.elim (fun q => (h.sub j b hj q).1) (fun q => .inr (Nat.le_trans h.le.2.1 q.1)), Nat.lt_of_lt_of_le h1 hkA.1, fun e => (hv1 b e).elim (hPi b q) (fun q2 => by omega), fun e => ?_⟩
      rcases q with q | q
      · exact (h.sub j b hj q).2.2.2 e
      · have := hrowlt b e
        have := h.le.2.1
        omega
    · simp only [if_neg e] at q
      have h1 := h.sub j b hj q
      exact ⟨h1.1, Nat.lt_of_lt_of_le h1.2.1 (Nat.le_trans h.le.2.2 hkA.1), fun e => (hv1 b e).elim h1.2.2.1 (fun q2 => by have := h.le.2.2; omega), h1.2.2.2⟩
  · have hmix : ∀ j, j < n → ¬ j = i → ∀ b, P j b → (P i b ∨ (S1 ≤ b ∧ b < W.heap.size ∧ (Pb b ∨ g.v.ownBlock = some b))) → False := fun j hj hne b q q2 => by
      rcases q2 with q2 | q2
      · exact hne (h.ne j i b hj hi q q2)
      · have := (h.sub j b hj q).2.1
        omega
    by_cases e : j = i
    · by_cases e' : j' = i
      · omega
      · simp only [if_pos e] at q
        simp only [if_neg e'] at q'
        exact (hmix j' hj' e' b q' q).elim
    · simp only [if_neg e] at q
      by_cases e' : j' = i
      · simp only [if_pos e'] at q'
        exact (hmix j hj e b q q').elim
      · simp only [if_neg e'] at q'
        exact h.ne j j' b hj hj' q q'
structure Dun (k : IntKind) (Z : Nat → Prop) (A : Option Addr) (c n : Nat) (hd : Nat → Hd) (AM : Option Addr) (cM : Nat) (gh : Nat → Hd) (W : World) : Prop where
  row : Kd.F khd W Z A n (rowH n hd)
  more : Kd.F khd W Z AM n (rowH n gh)
  got : ∀ j, j < n → Kd.F (Kd.int k) W Z (hd j).A (hd j).n (List.replicate (hd j).n (mrk j)) ∧ Kd.F (Kd.int k) W Z (gh j).A (gh j).n (List.replicate ((hd j).n + 80) (mrk j)) ∧ (gh j).n = (hd j).n + 80
theorem Dun.kept {k : IntKind} {Z S : Nat → Prop} {A AM : Option Addr} {c cM n : Nat} {hd gh : Nat → Hd} {W W1 : World} (h : Dun k Z A c n hd AM cM gh W) (hk : Kept W W1 S) (hZ : ∀ b, Z b → ¬ S b) : Dun k Z A c n hd AM cM gh W1 :=
  ⟨Kd.F_kept h.row hk hZ, Kd.F_kept h.more hk hZ, fun j hj => ⟨Kd.F_kept (h.got j hj).1 hk hZ, Kd.F_kept (h.got j hj).2.1 hk hZ, (h.got j hj).2.2⟩⟩
theorem Dun.step {k : IntKind} {Z : Nat → Prop} {A AM : Option Addr} {c cM n : Nat} {hd gh : Nat → Hd} {W W1 : World} (h : Dun k Z A c n hd AM cM gh W) (hb : Below W.heap.size W W1) : Dun k Z A c n hd AM cM gh W1 := h.kept (S := fun _ => False) (Kept.of_below hb _) (fun _ _ q => q)
theorem Mor.done {k : IntKind} {te ts : TypeId} {W : World} {base S0 : Nat} {G : Nat → Prop} {A AM : Option Addr} {c cM n : Nat} {hd gh : Nat → Hd} {P : Nat → Nat → Prop} (h : Mor k te ts base S0 G (.slice A n c) n hd n (.slice AM n cM) gh P W) : Dun k (fun b => (G b ∨ S0 ≤ b) ∧ b < W.heap.size) A c n hd AM cM gh W := by
  refine ⟨Kd.F_mono (Kd.R_F (Kd.R_bound h.row)) (fun b q => ⟨.inl q.1.1, q.2.2.1⟩), Kd.F_mono (Kd.R_F (Kd.R_bound h.more)) (fun b q => ⟨.inr q.1, q.2.2.1⟩), fun j hj => ?_⟩
  have hs : ∀ b, P j b → (G b ∨ S0 ≤ b) ∧ b < W.heap.size := fun b q => ⟨(h.sub j b hj q).1, (h.sub j b hj q).2.1⟩
  exact ⟨Kd.F_mono (h.got j hj).1 hs, Kd.F_mono (h.got j hj).2.1 hs, (h.got j hj).2.2.1⟩
end Go.Proofs.Ytklbkonehcjmjaa.P

end

section
namespace Go.Proofs.Ytklbkonehcjmjaa.P
open Go.RowKit Go.Proofs.YtklbkonehcjmjaaW.PrintWords Go.Proofs.YtklbkonehcjmjaaW.PrintLast Go.Proofs.YtklbkonehcjmjaaW.PrintMore
attribute [local go_sem] max2_int min2_int max_two min_two max_three min_three max_four min_four
set_option linter.unusedVariables false
set_option linter.unusedSimpArgs false
theorem at_hd {W : World} {A : Option Addr} {n : Nat} {xs : List Hd} (h : khd.C W A n xs) (i : Int) (h0 : 0 ≤ i) (h1 : i < n) : ∃ ad, A = some ad ∧ W.cell? (ad.add i.toNat) = some (rdOf hz xs i).v :=
  ReadsOf.at_ (Kd.reads_of_C (enc := Hd.v) (d := hz) (h1 := fun _ => rfl) h) i h0 h1
theorem rep_at (n j : Nat) (x : Int) (h : j < n) : rd (List.replicate n x) (j : Int) = x := by
  unfold rd
  rw [Int.toNat_natCast, List.getD_eq_getElem?_getD, List.getElem?_replicate, if_pos h]
  rfl
theorem mrk_u8 (i : Nat) : IntKind.u8.wrap (mrk i) = mrk i := by
  have := mrk_range i
  rw [IntKind.wrap_u8]
  omega
theorem wrap_n {j n : Nat} (h : j < n) (hn : n ≤ 9223372036854775807) : wrap64 ((j : Int) + 1) = ((j + 1 : Nat) : Int) := by unfold wrap64; omega
theorem meas_n {j n : Nat} (h : j < n) (hn : n ≤ 9223372036854775807) : ((n : Int) - intOf (.int .i64 (wrap64 ((j : Int) + 1)))).toNat < ((n : Int) - intOf (.int .i64 (j : Int))).toNat := by
  rw [wrap_n h hn]
  show ((n : Int) - ((j + 1 : Nat) : Int)).toNat < ((n : Int) - (j : Int)).toNat
  omega
set_option maxHeartbeats 3200000 in
set_option maxRecDepth 100000 in
theorem marked_sh (w : World) (sh nB nI : Nat) (AB AI MB MI : Option Addr) (cB cI dB dI : Nat) (hdB ghB hdI ghI : Nat → Hd) (ZB ZI : Nat → Prop) (hblk : w.heap[sh]? = some (.cells #[.slice AB nB cB, .slice AI nI cI] 53 (0, 0))) (hDB : Dun .u8 ZB AB cB nB hdB MB dB ghB w) (hDI : Dun .i64 ZI AI cI nI hdI MI dI ghI w) :
    Calls Try.prog 57 #[.pointer (some ⟨sh, 0, none⟩), .slice MB nB dB, .slice MI nI dI] w fun e w' => e = .returned (.bool true) ∧ Below w.heap.size w w' := by
  have HBLK := Aside0.mk hblk
  have HDB := Aside0.mk hDB
  have HDI := Aside0.mk hDI
  have HB := Aside0.mk (Below.refl w.heap.size w)
  have hc0 := blk_cell hblk 0
  clear hblk hDB hDI
  go_enter Try.func57, Try.ntmps57
  go_wp2_with fail
  go_loopw [24] (fun v24 wr => ∃ i : Nat, v24 = .int .i64 (i : Int) ∧ i ≤ nB ∧ Aside0 (Below w.heap.size w wr)) (fun v24 _ => (nB : Int) - intOf v24 |>.toNat)
  case atStart => exact ⟨0, rfl, Nat.zero_le _, HB⟩
  case round =>
    clear HB
    obtain ⟨i, rfl, hi, HB⟩ := hrel
    by_cases c1 : i < nB
    · have c1b : decide ((i : Int) < (nB : Int)) = true := decide_eq_true (by omega)
      have c1c : decide (i < nB) = true := decide_eq_true c1
      have p5 : (0 ≤ (i : Int)) = True := eq_true (by omega)
      have p6 : ((i : Int) < (nB : Int)) = True := eq_true (by omega)
      obtain ⟨q1, e1, hx1⟩ := at_hd (Kd.F_now (Kd.F_below HDB.out.row HB.out)) (i : Int) (by omega) (by omega)
      cases e1
      rw [rowH_at hdB c1, Int.toNat_natCast] at hx1
      have HNO := Aside0.mk (Kd.F_max HDB.out.row)
      have HMK := Aside0.mk (mrk_is i (by have := HNO.out; omega))
      obtain ⟨hg1, hg2, hg3⟩ := HDB.out.got i c1
      obtain ⟨Ai, ni, ci, hq1⟩ : ∃ Ai ni ci, hdB i = ⟨Ai, ni, ci⟩ := ⟨_, _, _, rfl⟩
      obtain ⟨Ag, ng, cg, hq2⟩ : ∃ Ag ng cg, ghB i = ⟨Ag, ng, cg⟩ := ⟨_, _, _, rfl⟩
      rw [hq1] at hx1 hg1 hg2 hg3
      rw [hq2] at hg2 hg3
      change _ = some (Value.slice Ai ni ci) at hx1
      change ng = ni + 80 at hg3
      have HG1 := Aside0.mk (show Kd.F (Kd.int .u8) w _ Ai ni (List.replicate ni (mrk i)) from hg1)
      have HG2 := Aside0.mk (show Kd.F (Kd.int .u8) w _ Ag ng (List.replicate ng (mrk i)) from by rw [hg3]; have := hg2; rw [hg3] at this; exact this)
      have HQ2 := Aside0.mk hq2
      have HI := Aside0.mk c1
      clear c1 hg1 hg2 hg3 hq1 hq2
      go_wp2_with fail
      go_loopw [31] (fun v31 wr => ∃ j : Nat, v31 = .int .i64 (j : Int) ∧ j ≤ ni ∧ Aside0 (Below w.heap.size w wr)) (fun v31 _ => ((ni : Nat) : Int) - intOf v31 |>.toNat)
      case atStart => exact ⟨0, rfl, Nat.zero_le _, HB⟩
      case round =>
        clear HB
        obtain ⟨j, rfl, hj, HB⟩ := hrel
        by_cases c2 : j < ni
        · have c2b : decide ((j : Int) < ((ni : Nat) : Int)) = true := decide_eq_true (by omega)
          have c2c : decide (j < ni) = true := decide_eq_true c2
          have p5 : (0 ≤ (j : Int)) = True := eq_true (by omega)
          have p6 : ((j : Int) < ((ni : Nat) : Int)) = True := eq_true (by omega)
          obtain ⟨ad2, e2, hx2⟩ := Kd.at_int (Kd.F_now (Kd.F_below HG1.out HB.out)) (j : Int) (by omega) (by omega)
          cases e2
          rw [rep_at _ _ _ c2, Int.toNat_natCast] at hx2
          have HJ := Aside0.mk c2
          have HNM := Aside0.mk (Kd.F_max HG1.out)
          clear c2
          go_wp2_with fail
          refine (provisoplain_mark.calls (i : Int) (mrk i) _ HMK.out).mono ?_
          rintro e_ w2 ⟨rfl, m2, rfl⟩
          replace HB := Aside0.mk (pw_below_drewN HB.out m2)
          clear hx2
          have hcv := mrk_u8 i
          go_wp2_with fail
          go_roundw
          case rel => exact ⟨j + 1, (by rw [wrap_n HJ.out HNM.out]), HJ.out, HB⟩
          case measure => exact meas_n HJ.out HNM.out
        · have c2b : decide ((j : Int) < ((ni : Nat) : Int)) = false := decide_eq_false (by omega)
          have c2c : decide (j < ni) = false := decide_eq_false c2
          clear c2 hj
          obtain ⟨q2, e3, hx3⟩ := at_hd (Kd.F_now (Kd.F_below HDB.out.more HB.out)) (i : Int) (by omega) (by have := HI.out; omega)
          cases e3
          rw [rowH_at ghB HI.out, Int.toNat_natCast] at hx3
          rw [HQ2.out] at hx3
          change _ = some (Value.slice Ag ng cg) at hx3
          have p5 : (0 ≤ (i : Int)) = True := eq_true (by omega)
          have p6 : ((i : Int) < (nB : Int)) = True := eq_true (by have := HI.out; omega)
          go_wp2_with fail
          go_loopw [46] (fun v46 wr => ∃ j : Nat, v46 = .int .i64 (j : Int) ∧ j ≤ ng ∧ Aside0 (Below w.heap.size w wr)) (fun v46 _ => ((ng : Nat) : Int) - intOf v46 |>.toNat)
          case atStart => exact ⟨0, rfl, Nat.zero_le _, HB⟩
          case round =>
            clear HB
            obtain ⟨j, rfl, hj, HB⟩ := hrel
            by_cases c2 : j < ng
            · have c2b : decide ((j : Int) < ((ng : Nat) : Int)) = true := decide_eq_true (by omega)
              have c2c : decide (j < ng) = true := decide_eq_true c2
              have p5 : (0 ≤ (j : Int)) = True := eq_true (by omega)
              have p6 : ((j : Int) < ((ng : Nat) : Int)) = True := eq_true (by omega)
              obtain ⟨ad2, e2, hx2⟩ := Kd.at_int (Kd.F_now (Kd.F_below HG2.out HB.out)) (j : Int) (by omega) (by omega)
              cases e2
              rw [rep_at _ _ _ c2, Int.toNat_natCast] at hx2
              have HJ := Aside0.mk c2
              have HNM := Aside0.mk (Kd.F_max HG2.out)
              clear c2
              go_wp2_with fail
              refine (provisoplain_mark.calls (i : Int) (mrk i) _ HMK.out).mono ?_
              rintro e_ w2 ⟨rfl, m2, rfl⟩
              replace HB := Aside0.mk (pw_below_drewN HB.out m2)
              clear hx2
              have hcv := mrk_u8 i
              go_wp2_with fail
              go_roundw
              case rel => exact ⟨j + 1, (by rw [wrap_n HJ.out HNM.out]), HJ.out, HB⟩
              case measure => exact meas_n HJ.out HNM.out
            · have c2b : decide ((j : Int) < ((ng : Nat) : Int)) = false := decide_eq_false (by omega)
              have c2c : decide (j < ng) = false := decide_eq_false c2
              clear c2 hj
              go_wp2_with fail
              go_roundw
              case rel => exact ⟨i + 1, (by rw [wrap_n HI.out HNO.out]), HI.out, HB⟩
              case measure => exact meas_n HI.out HNO.out
    · have c1b : decide ((i : Int) < (nB : Int)) = false := decide_eq_false (by omega)
      have c1c : decide (i < nB) = false := decide_eq_false c1
      clear c1 hi
      have hc1 := blk_cell (blk_below HBLK.out HB.out) 1
      go_wp2_with fail
      go_loopw [62] (fun v62 wr => ∃ i : Nat, v62 = .int .i64 (i : Int) ∧ i ≤ nI ∧ Aside0 (Below w.heap.size w wr)) (fun v62 _ => (nI : Int) - intOf v62 |>.toNat)
      case atStart => exact ⟨0, rfl, Nat.zero_le _, HB⟩
      case round =>
        clear HB
        obtain ⟨i, rfl, hi, HB⟩ := hrel
        by_cases c1 : i < nI
        · have c1b : decide ((i : Int) < (nI : Int)) = true := decide_eq_true (by omega)
          have c1c : decide (i < nI) = true := decide_eq_true c1
          have p5 : (0 ≤ (i : Int)) = True := eq_true (by omega)
          have p6 : ((i : Int) < (nI : Int)) = True := eq_true (by omega)
          obtain ⟨q1, e1, hx1⟩ := at_hd (Kd.F_now (Kd.F_below HDI.out.row HB.out)) (i : Int) (by omega) (by omega)
          cases e1
          rw [rowH_at hdI c1, Int.toNat_natCast] at hx1
          have HNO := Aside0.mk (Kd.F_max HDI.out.row)
          have HMK := Aside0.mk (mrk_is i (by have := HNO.out; omega))
          obtain ⟨hg1, hg2, hg3⟩ := HDI.out.got i c1
          obtain ⟨Ai, ni, ci, hq1⟩ : ∃ Ai ni ci, hdI i = ⟨Ai, ni, ci⟩ := ⟨_, _, _, rfl⟩
          obtain ⟨Ag, ng, cg, hq2⟩ : ∃ Ag ng cg, ghI i = ⟨Ag, ng, cg⟩ := ⟨_, _, _, rfl⟩
          rw [hq1] at hx1 hg1 hg2 hg3
          rw [hq2] at hg2 hg3
          change _ = some (Value.slice Ai ni ci) at hx1
          change ng = ni + 80 at hg3
          have HG1 := Aside0.mk (show Kd.F (Kd.int .i64) w _ Ai ni (List.replicate ni (mrk i)) from hg1)
          have HG2 := Aside0.mk (show Kd.F (Kd.int .i64) w _ Ag ng (List.replicate ng (mrk i)) from by rw [hg3]; have := hg2; rw [hg3] at this; exact this)
          have HQ2 := Aside0.mk hq2
          have HI := Aside0.mk c1
          clear c1 hg1 hg2 hg3 hq1 hq2
          go_wp2_with fail
          go_loopw [69] (fun v69 wr => ∃ j : Nat, v69 = .int .i64 (j : Int) ∧ j ≤ ni ∧ Aside0 (Below w.heap.size w wr)) (fun v69 _ => ((ni : Nat) : Int) - intOf v69 |>.toNat)
          case atStart => exact ⟨0, rfl, Nat.zero_le _, HB⟩
          case round =>
            clear HB
            obtain ⟨j, rfl, hj, HB⟩ := hrel
            by_cases c2 : j < ni
            · have c2b : decide ((j : Int) < ((ni : Nat) : Int)) = true := decide_eq_true (by omega)
              have c2c : decide (j < ni) = true := decide_eq_true c2
              have p5 : (0 ≤ (j : Int)) = True := eq_true (by omega)
              have p6 : ((j : Int) < ((ni : Nat) : Int)) = True := eq_true (by omega)
              obtain ⟨ad2, e2, hx2⟩ := Kd.at_int (Kd.F_now (Kd.F_below HG1.out HB.out)) (j : Int) (by omega) (by omega)
              cases e2
              rw [rep_at _ _ _ c2, Int.toNat_natCast] at hx2
              have HJ := Aside0.mk c2
              have HNM := Aside0.mk (Kd.F_max HG1.out)
              clear c2
              go_wp2_with fail
              refine (provisoplain_mark.calls (i : Int) (mrk i) _ HMK.out).mono ?_
              rintro e_ w2 ⟨rfl, m2, rfl⟩
              replace HB := Aside0.mk (pw_below_drewN HB.out m2)
              clear hx2
              have hcv := mrk_u8 i
              go_wp2_with fail
              go_roundw
              case rel => exact ⟨j + 1, (by rw [wrap_n HJ.out HNM.out]), HJ.out, HB⟩
              case measure => exact meas_n HJ.out HNM.out
            · have c2b : decide ((j : Int) < ((ni : Nat) : Int)) = false := decide_eq_false (by omega)
              have c2c : decide (j < ni) = false := decide_eq_false c2
              clear c2 hj
              obtain ⟨q2, e3, hx3⟩ := at_hd (Kd.F_now (Kd.F_below HDI.out.more HB.out)) (i : Int) (by omega) (by have := HI.out; omega)
              cases e3
              rw [rowH_at ghI HI.out, Int.toNat_natCast] at hx3
              rw [HQ2.out] at hx3
              change _ = some (Value.slice Ag ng cg) at hx3
              have p5 : (0 ≤ (i : Int)) = True := eq_true (by omega)
              have p6 : ((i : Int) < (nI : Int)) = True := eq_true (by have := HI.out; omega)
              go_wp2_with fail
              go_loopw [83] (fun v83 wr => ∃ j : Nat, v83 = .int .i64 (j : Int) ∧ j ≤ ng ∧ Aside0 (Below w.heap.size w wr)) (fun v83 _ => ((ng : Nat) : Int) - intOf v83 |>.toNat)
              case atStart => exact ⟨0, rfl, Nat.zero_le _, HB⟩
              case round =>
                clear HB
                obtain ⟨j, rfl, hj, HB⟩ := hrel
                by_cases c2 : j < ng
                · have c2b : decide ((j : Int) < ((ng : Nat) : Int)) = true := decide_eq_true (by omega)
                  have c2c : decide (j < ng) = true := decide_eq_true c2
                  have p5 : (0 ≤ (j : Int)) = True := eq_true (by omega)
                  have p6 : ((j : Int) < ((ng : Nat) : Int)) = True := eq_true (by omega)
                  obtain ⟨ad2, e2, hx2⟩ := Kd.at_int (Kd.F_now (Kd.F_below HG2.out HB.out)) (j : Int) (by omega) (by omega)
                  cases e2
                  rw [rep_at _ _ _ c2, Int.toNat_natCast] at hx2
                  have HJ := Aside0.mk c2
                  have HNM := Aside0.mk (Kd.F_max HG2.out)
                  clear c2
                  go_wp2_with fail
                  refine (provisoplain_mark.calls (i : Int) (mrk i) _ HMK.out).mono ?_
                  rintro e_ w2 ⟨rfl, m2, rfl⟩
                  replace HB := Aside0.mk (pw_below_drewN HB.out m2)
                  clear hx2
                  have hcv := mrk_u8 i
                  go_wp2_with fail
                  go_roundw
                  case rel => exact ⟨j + 1, (by rw [wrap_n HJ.out HNM.out]), HJ.out, HB⟩
                  case measure => exact meas_n HJ.out HNM.out
                · have c2b : decide ((j : Int) < ((ng : Nat) : Int)) = false := decide_eq_false (by omega)
                  have c2c : decide (j < ng) = false := decide_eq_false c2
                  clear c2 hj
                  go_wp2_with fail
                  go_roundw
                  case rel => exact ⟨i + 1, (by rw [wrap_n HI.out HNO.out]), HI.out, HB⟩
                  case measure => exact meas_n HI.out HNO.out
        · have c1b : decide ((i : Int) < (nI : Int)) = false := decide_eq_false (by omega)
          have c1c : decide (i < nI) = false := decide_eq_false c1
          clear c1 hi
          go_wp2_with fail
          go_ret
          exact ⟨rfl, HB.out⟩
end Go.Proofs.Ytklbkonehcjmjaa.P

end

section
namespace Go.Proofs.Ytklbkonehcjmjaa.P
open Go.RowKit Go.Proofs.YtklbkonehcjmjaaW.PrintWords Go.Proofs.YtklbkonehcjmjaaW.PrintLast Go.Proofs.YtklbkonehcjmjaaW.PrintMore
attribute [local go_sem] max2_int min2_int max_two min_two max_three min_three max_four min_four
set_option linter.unusedVariables false
set_option linter.unusedSimpArgs false
structure PhA (w : World) (base : Nat) (F : Nat → Prop) (sh : Nat) (GB GI : Nat → Prop) (vB vI : Value) (nB nI : Nat) (hB hI : Nat → Hd) (iB mB iI mI : Nat) (W : World) : Prop where
  blk : W.heap[sh]? = some (.cells #[vB, vI] 53 (0, 0))
  gB : Grp .u8 5 23 W base GB vB nB hB iB mB
  gI : Grp .i64 3 95 W base GI vI nI hI iI mI
  kept : Kept w W F
  far : ∀ (B : Nat) (w0 : World), B ≤ base → Below B w0 w → Below B w0 W
structure Sta (w : World) (base : Nat) (F : Nat → Prop) (sh : Nat) (GB GI : Nat → Prop) (nB nI : Nat) (hB hI : Nat → Hd) : Prop where
  fB : ∀ b, GB b → F b
  fI : ∀ b, GI b → F b
  ap : ∀ b, GB b → ¬ GI b
  nsB : ¬ GB sh
  nsI : ¬ GI sh
  fs : F sh
  lt : ∀ b, F b → base ≤ b ∧ b < w.heap.size
  lB : ∀ j, j < nB → (hB j).n + 80 ≤ 140737488351400
  lI : ∀ j, j < nI → ((hI j).n + 80) * 8 ≤ 140737488355328
theorem PhA.putB {w : World} {base : Nat} {F : Nat → Prop} {sh : Nat} {GB GI : Nat → Prop} {vB vI : Value} {nB nI : Nat} {hB hI : Nat → Hd} {iB mB iI mI : Nat} {W : World} (h : PhA w base F sh GB GI vB vI nB nI hB hI iB mB iI mI W) (s : Sta w base F sh GB GI nB nI hB hI) (hi : iB < nB) (hm : mB < (hB iB).n) {b : Nat} (hA : (hB iB).A = some ⟨b, 0, none⟩) : PhA w base F sh GB GI vB vI nB nI hB hI iB (mB + 1) iI mI (W.setCell ⟨b, mB, none⟩ (.int .u8 (mrk iB))) := by
  obtain ⟨xs, h1, _⟩ := h.gB.own iB hi
  obtain ⟨b', e1, e2, e3, _⟩ := (own_form h1).2 mB hm
  rw [hA] at e1
  injection e1 with e1
  injection e1 with e1
  subst e1
  have hk : Kept W (W.setCell ⟨b, mB, none⟩ (.int .u8 (mrk iB))) (fun k => k = b) := (Kept.refl W (fun k => k = b)).setCell (p := ⟨b, mB, none⟩) (.inl rfl) _
  exact ⟨blk_kept h.blk hk (fun q => s.nsB (q ▸ e2)), h.gB.put (by decide) hi hm hA, h.gI.kept hk (fun k q e => s.ap k (e ▸ e2) q), h.kept.setCell (p := ⟨b, mB, none⟩) (.inl (s.fB b e2)) _, fun B w0 hB hb => (h.far B w0 hB hb).setCell (p := ⟨b, mB, none⟩) (Nat.le_trans hB e3) _⟩
theorem PhA.putI {w : World} {base : Nat} {F : Nat → Prop} {sh : Nat} {GB GI : Nat → Prop} {vB vI : Value} {nB nI : Nat} {hB hI : Nat → Hd} {iB mB iI mI : Nat} {W : World} (h : PhA w base F sh GB GI vB vI nB nI hB hI iB mB iI mI W) (s : Sta w base F sh GB GI nB nI hB hI) (hi : iI < nI) (hm : mI < (hI iI).n) {b : Nat} (hA : (hI iI).A = some ⟨b, 0, none⟩) : PhA w base F sh GB GI vB vI nB nI hB hI iB mB iI (mI + 1) (W.setCell ⟨b, mI, none⟩ (.int .i64 (mrk iI))) := by
  obtain ⟨xs, h1, _⟩ := h.gI.own iI hi
  obtain ⟨b', e1, e2, e3, _⟩ := (own_form h1).2 mI hm
  rw [hA] at e1
  injection e1 with e1
  injection e1 with e1
  subst e1
  have hk : Kept W (W.setCell ⟨b, mI, none⟩ (.int .i64 (mrk iI))) (fun k => k = b) := (Kept.refl W (fun k => k = b)).setCell (p := ⟨b, mI, none⟩) (.inl rfl) _
  exact ⟨blk_kept h.blk hk (fun q => s.nsI (q ▸ e2)), h.gB.kept hk (fun k q e => s.ap k q (e ▸ e2)), h.gI.put (by decide) hi hm hA, h.kept.setCell (p := ⟨b, mI, none⟩) (.inl (s.fI b e2)) _, fun B w0 hB hb => (h.far B w0 hB hb).setCell (p := ⟨b, mI, none⟩) (Nat.le_trans hB e3) _⟩
theorem PhA.step {w : World} {base : Nat} {F : Nat → Prop} {sh : Nat} {GB GI : Nat → Prop} {vB vI : Value} {nB nI : Nat} {hB hI : Nat → Hd} {iB mB iI mI : Nat} {W W1 : World} (h : PhA w base F sh GB GI vB vI nB nI hB hI iB mB iI mI W) (hb : Below W.heap.size W W1) (hbase : base ≤ W.heap.size) : PhA w base F sh GB GI vB vI nB nI hB hI iB mB iI mI W1 :=
  ⟨blk_below h.blk hb, h.gB.step hb, h.gI.step hb, h.kept.below hb, fun B w0 hB hw => below_far (h.far B w0 hB hw) (Nat.le_trans hB hbase) hb⟩
theorem PhA.drewN {w : World} {base : Nat} {F : Nat → Prop} {sh : Nat} {GB GI : Nat → Prop} {vB vI : Value} {nB nI : Nat} {hB hI : Nat → Hd} {iB mB iI mI : Nat} {W : World} (h : PhA w base F sh GB GI vB vI nB nI hB hI iB mB iI mI W) (m : Nat) : PhA w base F sh GB GI vB vI nB nI hB hI iB mB iI mI (W.drewN m) :=
  ⟨blk_drewN h.blk m, h.gB.step (pw_below_drewN (Below.refl _ _) m), h.gI.step (pw_below_drewN (Below.refl _ _) m), h.kept.drewN m, fun B w0 hB hw => pw_below_drewN (h.far B w0 hB hw) m⟩
theorem PhA.nextB {w : World} {base : Nat} {F : Nat → Prop} {sh : Nat} {GB GI : Nat → Prop} {vB vI : Value} {nB nI : Nat} {hB hI : Nat → Hd} {iB mB iI mI : Nat} {W : World} (h : PhA w base F sh GB GI vB vI nB nI hB hI iB mB iI mI W) (hm : mB = (hB iB).n) : PhA w base F sh GB GI vB vI nB nI hB hI (iB + 1) 0 iI mI W := ⟨h.blk, h.gB.next hm, h.gI, h.kept, h.far⟩
theorem PhA.nextI {w : World} {base : Nat} {F : Nat → Prop} {sh : Nat} {GB GI : Nat → Prop} {vB vI : Value} {nB nI : Nat} {hB hI : Nat → Hd} {iB mB iI mI : Nat} {W : World} (h : PhA w base F sh GB GI vB vI nB nI hB hI iB mB iI mI W) (hm : mI = (hI iI).n) : PhA w base F sh GB GI vB vI nB nI hB hI iB mB (iI + 1) 0 W := ⟨h.blk, h.gB, h.gI.next hm, h.kept, h.far⟩
structure Fra (w : World) (base S0 : Nat) (F : Nat → Prop) (sh : Nat) (cs : Array Value) (G : Nat → Prop) (Pas : World → Prop) (W : World) : Prop where
  blk : W.heap[sh]? = some (.cells cs 53 (0, 0))
  kept : Kept w W F
  far : ∀ (B : Nat) (w0 : World), B ≤ base → Below B w0 w → Below B w0 W
  pas : Pas W
  stab : ∀ (W W1 : World) (X : Nat → Prop), Pas W → Kept W W1 X → (∀ b, X b → G b ∨ S0 ≤ b) → Pas W1
  gf : ∀ b, G b → F b
  ns : ¬ G sh
  sl : sh < S0
  le : w.heap.size ≤ S0 ∧ base ≤ w.heap.size
theorem Fra.move {w : World} {base S0 : Nat} {F : Nat → Prop} {sh : Nat} {cs : Array Value} {G : Nat → Prop} {Pas : World → Prop} {W W1 : World} (h : Fra w base S0 F sh cs G Pas W) (X : Nat → Prop) (hk : Kept W W1 X) (hX : ∀ b, X b → G b ∨ S0 ≤ b) (hb : Below base W W1) : Fra w base S0 F sh cs G Pas W1 :=
  ⟨blk_kept h.blk hk (fun q => (hX sh q).elim h.ns (fun q => by have := h.sl; omega)), h.kept.then_ hk (fun b q => (hX b q).imp (h.gf b) (fun q => Nat.le_trans h.le.1 q)), fun B w0 hB hw => below_far (h.far B w0 hB hw) hB hb, h.stab W W1 X h.pas hk hX, h.stab, h.gf, h.ns, h.sl, h.le⟩
theorem below_less {B base : Nat} {W W1 : World} (h : Below B W W1) (hB : base ≤ B) : Below base W W1 := ⟨h.os, h.tape, h.output, h.size, fun b hb => h.block b (by omega)⟩
theorem Fra.step {w : World} {base S0 : Nat} {F : Nat → Prop} {sh : Nat} {cs : Array Value} {G : Nat → Prop} {Pas : World → Prop} {W W1 : World} (h : Fra w base S0 F sh cs G Pas W) (hb : Below W.heap.size W W1) : Fra w base S0 F sh cs G Pas W1 := h.move (fun _ => False) (Kept.of_below hb _) (fun _ q => q.elim) (below_less hb (Nat.le_trans h.le.2 h.kept.1))
theorem PhA.fraB {w : World} {base : Nat} {F : Nat → Prop} {sh : Nat} {GB GI : Nat → Prop} {vB vI : Value} {nB nI : Nat} {hB hI : Nat → Hd} {iB mB : Nat} {W : World} (h : PhA w base F sh GB GI vB vI nB nI hB hI iB mB nI 0 W) (s : Sta w base F sh GB GI nB nI hB hI) : Fra w base W.heap.size F sh #[vB, vI] GB (fun W' => Grp .i64 3 95 W' base (fun b => GI b ∧ b < W.heap.size) vI nI hI nI 0) W :=
  ⟨h.blk, h.kept, h.far, (h.gI.bound).mono (fun b q => ⟨q.1, q.2.2.1⟩), fun W1 W2 X hp hk hX => hp.kept hk (fun b q hx => (hX b hx).elim (fun g => s.ap b g q.1) (fun g => by omega)), s.fB, s.nsB, Nat.lt_of_lt_of_le (s.lt sh s.fs).2 h.kept.1, h.kept.1, Nat.le_trans (s.lt sh s.fs).1 (Nat.le_of_lt (s.lt sh s.fs).2)⟩
theorem Fra.turn {w : World} {base S0 : Nat} {F : Nat → Prop} {sh : Nat} {cs : Array Value} {GB GI : Nat → Prop} {vI : Value} {nB nI : Nat} {hB hI gh : Nat → Hd} {AB AM : Option Addr} {cB cM : Nat} {W : World} (h : Fra w base S0 F sh cs GB (fun W' => Grp .i64 3 95 W' base (fun b => GI b ∧ b < S0) vI nI hI nI 0) W) (s : Sta w base F sh GB GI nB nI hB hI) (hS : S0 ≤ W.heap.size) (hd : Dun .u8 (fun b => (GB b ∨ S0 ≤ b) ∧ b < W.heap.size) AB cB nB hB AM cM gh W) :
    Fra w base W.heap.size F sh cs (fun b => GI b ∧ b < S0) (fun W' => Dun .u8 (fun b => (GB b ∨ S0 ≤ b) ∧ b < W.heap.size) AB cB nB hB AM cM gh W') W :=
  ⟨h.blk, h.kept, h.far, hd, fun W1 W2 X hp hk hX => hp.kept hk (fun b q hx => by
    rcases hX b hx with g | g
    · rcases q.1 with q1 | q1
      · exact s.ap b q1 g.1
      · omega
    · omega), fun b q => s.fI b q.1, fun q => s.nsI q.1, Nat.lt_of_lt_of_le h.sl hS, Nat.le_trans h.le.1 hS, h.le.2⟩
theorem int1_fits {n : Nat} (h : n + 80 ≤ 140737488351400) {t : Nat} (ht : t < 80) : Builtin.nextslicecap (n + t + 1) (n + t) * 1 ≤ 281474976710656 := growslice_fits (need := n + t + 1) (old := n + t) (bytes := 1) (by omega) (by omega)
theorem int8_fits {n : Nat} (h : (n + 80) * 8 ≤ 140737488355328) {t : Nat} (ht : t < 80) : Builtin.nextslicecap (n + t + 1) (n + t) * 8 ≤ 281474976710656 := growslice_fits (need := n + t + 1) (old := n + t) (bytes := 8) (by omega) (by omega)
end Go.Proofs.Ytklbkonehcjmjaa.P

end

section
namespace Go.Proofs.Ytklbkonehcjmjaa.P
open Go.RowKit Go.Proofs.YtklbkonehcjmjaaW.PrintWords Go.Proofs.YtklbkonehcjmjaaW.PrintLast Go.Proofs.YtklbkonehcjmjaaW.PrintMore
attribute [local go_sem] max2_int min2_int max_two min_two max_three min_three max_four min_four
set_option linter.unusedVariables false
set_option linter.unusedSimpArgs false
set_option maxHeartbeats 6400000 in
set_option maxRecDepth 100000 in
theorem Own_sh (base : Nat) (F : Nat → Prop) (sh nB nI : Nat) (w : World) (h : ShAt base F sh nB nI w) (hnB : nB ≤ 5864062014804) (hnI : nI ≤ 5864062014804) :
    Calls Try.prog 35 #[.pointer (some ⟨sh, 0, none⟩)] w fun e w' => e = .returned (.bool true) ∧ Kept w w' F ∧ ∀ (B : Nat) (w0 : World), B ≤ base → Below B w0 w → Below B w0 w' := by
  obtain ⟨⟨GB0, GI0, vB, vI, hB, hI, h1, h2, h3, h4, h5, h6, h7, h8⟩, hf, hl⟩ := h
  obtain ⟨AB, cB, ev⟩ := Kd.R_slice h2.row
  obtain ⟨AI, cI, ew⟩ := Kd.R_slice h3.row
  rw [rowH_len] at ev ew
  subst ev ew
  have hsta : Sta w base F sh (fun b => GB0 b ∧ b ≠ sh) (fun b => GI0 b ∧ b ≠ sh) nB nI hB hI := ⟨fun b q => h4 b q.1, fun b q => h5 b q.1, fun b q q2 => h6 b q.1 q2.1, fun q => q.2 rfl, fun q => q.2 rfl, hf, hl, h7, h8⟩
  have hph : PhA w base F sh (fun b => GB0 b ∧ b ≠ sh) (fun b => GI0 b ∧ b ≠ sh) (.slice AB nB cB) (.slice AI nI cI) nB nI hB hI 0 0 0 0 w := ⟨h1, h2.bound.mono (fun b q => ⟨q.1, fun e => by
    obtain ⟨_, _, _, cs, q4⟩ := q
    rw [e] at q4
    rcases q4 with q4 | q4
    · exact typ_neq h1 q4 (by decide) rfl
    · exact typ_neq h1 q4 (by decide) rfl⟩), h3.bound.mono (fun b q => ⟨q.1, fun e => by
    obtain ⟨_, _, _, cs, q4⟩ := q
    rw [e] at q4
    rcases q4 with q4 | q4
    · exact typ_neq h1 q4 (by decide) rfl
    · exact typ_neq h1 q4 (by decide) rfl⟩), Kept.refl w F, fun _ _ _ hb => hb⟩
  obtain ⟨GB, hGB⟩ : ∃ GB, GB = (fun b => GB0 b ∧ b ≠ sh) := ⟨_, rfl⟩
  obtain ⟨GI, hGI⟩ : ∃ GI, GI = (fun b => GI0 b ∧ b ≠ sh) := ⟨_, rfl⟩
  rw [← hGB, ← hGI] at hsta hph
  have S := Aside0.mk hsta
  have HP := Aside0.mk hph
  have HNB := Aside0.mk hnB
  have HNI := Aside0.mk hnI
  have hc0 := blk_cell h1 0
  clear h1 h2 h3 h4 h5 h6 h7 h8 hf hl hsta hph hnB hnI hGB hGI
  go_enter Try.func35, Try.ntmps35
  go_wp2_with fail
  go_loopw [22] (fun v22 wr => ∃ i : Nat, v22 = .int .i64 (i : Int) ∧ i ≤ nB ∧ Aside0 (PhA w base F sh GB GI (.slice AB nB cB) (.slice AI nI cI) nB nI hB hI i 0 0 0 wr)) (fun v22 _ => (nB : Int) - intOf v22 |>.toNat)
  case atStart => exact ⟨0, rfl, Nat.zero_le _, HP⟩
  case round =>
    clear HP
    obtain ⟨i, rfl, hi, HP⟩ := hrel
    by_cases c1 : i < nB
    · have c1b : decide ((i : Int) < (nB : Int)) = true := decide_eq_true (by omega)
      have c1c : decide (i < nB) = true := decide_eq_true c1
      have p5 : (0 ≤ (i : Int)) = True := eq_true (by omega)
      have p6 : ((i : Int) < (nB : Int)) = True := eq_true (by omega)
      obtain ⟨q1, e1, hx1⟩ := at_hd (Kd.R_reads' HP.out.gB.row).2.2 (i : Int) (by omega) (by rw [rowH_len]; omega)
      cases e1
      rw [rowH_at hB c1, Int.toNat_natCast] at hx1
      have HNO := Aside0.mk (show nB ≤ 9223372036854775807 by have := HNB.out; omega)
      have HMK := Aside0.mk (mrk_is i (by have := HNO.out; omega))
      obtain ⟨Ai, ni, ci, hq1⟩ : ∃ Ai ni ci, hB i = ⟨Ai, ni, ci⟩ := ⟨_, _, _, rfl⟩
      rw [hq1] at hx1
      change _ = some (Value.slice Ai ni ci) at hx1
      have HNI2 := Aside0.mk (show ni ≤ 9223372036854775807 by have := S.out.lB i c1; rw [hq1] at this; simp only at this; omega)
      have HQ1 := Aside0.mk hq1
      have HI := Aside0.mk c1
      clear c1 hq1
      go_wp2_with fail
      go_loopw [29] (fun v29 wr => ∃ m : Nat, v29 = .int .i64 (m : Int) ∧ m ≤ ni ∧ Aside0 (PhA w base F sh GB GI (.slice (some q1) nB cB) (.slice AI nI cI) nB nI hB hI i m 0 0 wr)) (fun v29 _ => (ni : Int) - intOf v29 |>.toNat)
      case atStart => exact ⟨0, rfl, Nat.zero_le _, HP⟩
      case round =>
        clear HP
        obtain ⟨m, rfl, hm, HP⟩ := hrel
        by_cases c2 : m < ni
        · have c2b : decide ((m : Int) < (ni : Int)) = true := decide_eq_true (by omega)
          have c2c : decide (m < ni) = true := decide_eq_true c2
          have p5 : (0 ≤ (m : Int)) = True := eq_true (by omega)
          have p6 : ((m : Int) < (ni : Int)) = True := eq_true (by omega)
          obtain ⟨xs, hR, _⟩ := HP.out.gB.own i HI.out
          obtain ⟨b, eA, _⟩ := (own_form hR).2 m (by rw [HQ1.out]; exact c2)
          rw [HQ1.out] at eA
          change Ai = some ⟨b, 0, none⟩ at eA
          subst eA
          rw [HQ1.out] at hR
          change Kd.R _ _ _ _ _ (.slice (some ⟨b, 0, none⟩) ni ci) xs at hR
          obtain ⟨hc1, hf1⟩ := Kd.R_celln 0 hR (m : Int) (by omega) (by omega)
          rw [Int.toNat_natCast] at hc1 hf1
          have HM := Aside0.mk c2
          clear c2 hR
          go_wp2_with fail
          refine (provisoplain_mark.calls (i : Int) (mrk i) _ HMK.out).mono ?_
          rintro e_ w2 ⟨rfl, m2, rfl⟩
          have HP2 := Aside0.mk ((HP.out.drewN m2).putB S.out HI.out (by rw [HQ1.out]; exact HM.out) (b := b) (by rw [HQ1.out]))
          have hcv := mrk_u8 i
          go_wp2_with fail
          go_roundw
          case rel => exact ⟨m + 1, (by rw [wrap_n HM.out HNI2.out]), HM.out, HP2⟩
          case measure => exact meas_n HM.out HNI2.out
        · have c2b : decide ((m : Int) < (ni : Int)) = false := decide_eq_false (by omega)
          have c2c : decide (m < ni) = false := decide_eq_false c2
          obtain rfl : ni = m := by omega
          have HP2 := Aside0.mk (HP.out.nextB (by rw [HQ1.out]))
          clear c2 hm
          go_wp2_with fail
          go_roundw
          case rel => exact ⟨i + 1, (by rw [wrap_n HI.out HNO.out]), HI.out, HP2⟩
          case measure => exact meas_n HI.out HNO.out
    · have c1b : decide ((i : Int) < (nB : Int)) = false := decide_eq_false (by omega)
      have c1c : decide (i < nB) = false := decide_eq_false c1
      obtain rfl : nB = i := by omega
      clear c1 hi
      have hcy := blk_cell HP.out.blk 1
      go_wp2_with fail
      go_loopw [45] (fun v45 wr => ∃ i : Nat, v45 = .int .i64 (i : Int) ∧ i ≤ nI ∧ Aside0 (PhA w base F sh GB GI (.slice AB nB cB) (.slice AI nI cI) nB nI hB hI nB 0 i 0 wr)) (fun v45 _ => (nI : Int) - intOf v45 |>.toNat)
      case atStart => exact ⟨0, rfl, Nat.zero_le _, HP⟩
      case round =>
        clear HP
        obtain ⟨i, rfl, hi, HP⟩ := hrel
        by_cases c1 : i < nI
        · have c1b : decide ((i : Int) < (nI : Int)) = true := decide_eq_true (by omega)
          have c1c : decide (i < nI) = true := decide_eq_true c1
          have p5 : (0 ≤ (i : Int)) = True := eq_true (by omega)
          have p6 : ((i : Int) < (nI : Int)) = True := eq_true (by omega)
          obtain ⟨q1, e1, hx1⟩ := at_hd (Kd.R_reads' HP.out.gI.row).2.2 (i : Int) (by omega) (by rw [rowH_len]; omega)
          cases e1
          rw [rowH_at hI c1, Int.toNat_natCast] at hx1
          have HNO := Aside0.mk (show nI ≤ 9223372036854775807 by have := HNI.out; omega)
          have HMK := Aside0.mk (mrk_is i (by have := HNO.out; omega))
          obtain ⟨Ai, ni, ci, hq1⟩ : ∃ Ai ni ci, hI i = ⟨Ai, ni, ci⟩ := ⟨_, _, _, rfl⟩
          rw [hq1] at hx1
          change _ = some (Value.slice Ai ni ci) at hx1
          have HNI2 := Aside0.mk (show ni ≤ 9223372036854775807 by have := S.out.lI i c1; rw [hq1] at this; simp only at this; omega)
          have HQ1 := Aside0.mk hq1
          have HI := Aside0.mk c1
          clear c1 hq1
          go_wp2_with fail
          go_loopw [52] (fun v52 wr => ∃ m : Nat, v52 = .int .i64 (m : Int) ∧ m ≤ ni ∧ Aside0 (PhA w base F sh GB GI (.slice AB nB cB) (.slice (some q1) nI cI) nB nI hB hI nB 0 i m wr)) (fun v52 _ => (ni : Int) - intOf v52 |>.toNat)
          case atStart => exact ⟨0, rfl, Nat.zero_le _, HP⟩
          case round =>
            clear HP
            obtain ⟨m, rfl, hm, HP⟩ := hrel
            by_cases c2 : m < ni
            · have c2b : decide ((m : Int) < (ni : Int)) = true := decide_eq_true (by omega)
              have c2c : decide (m < ni) = true := decide_eq_true c2
              have p5 : (0 ≤ (m : Int)) = True := eq_true (by omega)
              have p6 : ((m : Int) < (ni : Int)) = True := eq_true (by omega)
              obtain ⟨xs, hR, _⟩ := HP.out.gI.own i HI.out
              obtain ⟨b, eA, _⟩ := (own_form hR).2 m (by rw [HQ1.out]; exact c2)
              rw [HQ1.out] at eA
              change Ai = some ⟨b, 0, none⟩ at eA
              subst eA
              rw [HQ1.out] at hR
              change Kd.R _ _ _ _ _ (.slice (some ⟨b, 0, none⟩) ni ci) xs at hR
              obtain ⟨hc1, hf1⟩ := Kd.R_celln 0 hR (m : Int) (by omega) (by omega)
              rw [Int.toNat_natCast] at hc1 hf1
              have HM := Aside0.mk c2
              clear c2 hR
              go_wp2_with fail
              refine (provisoplain_mark.calls (i : Int) (mrk i) _ HMK.out).mono ?_
              rintro e_ w2 ⟨rfl, m2, rfl⟩
              have HP2 := Aside0.mk ((HP.out.drewN m2).putI S.out HI.out (by rw [HQ1.out]; exact HM.out) (b := b) (by rw [HQ1.out]))
              have hcv := mrk_u8 i
              go_wp2_with fail
              go_roundw
              case rel => exact ⟨m + 1, (by rw [wrap_n HM.out HNI2.out]), HM.out, HP2⟩
              case measure => exact meas_n HM.out HNI2.out
            · have c2b : decide ((m : Int) < (ni : Int)) = false := decide_eq_false (by omega)
              have c2c : decide (m < ni) = false := decide_eq_false c2
              obtain rfl : ni = m := by omega
              have HP2 := Aside0.mk (HP.out.nextI (by rw [HQ1.out]))
              clear c2 hm
              go_wp2_with fail
              go_roundw
              case rel => exact ⟨i + 1, (by rw [wrap_n HI.out HNO.out]), HI.out, HP2⟩
              case measure => exact meas_n HI.out HNO.out
        · have c1b : decide ((i : Int) < (nI : Int)) = false := decide_eq_false (by omega)
          have c1c : decide (i < nI) = false := decide_eq_false c1
          obtain rfl : nI = i := by omega
          clear c1 hi
          have hm0 := Mor.start (HP.out.gB) (by decide) (Nat.le_trans (S.out.lt sh S.out.fs).1 (Nat.le_trans (Nat.le_of_lt (S.out.lt sh S.out.fs).2) HP.out.kept.1))
          have hf0 := HP.out.fraB S.out
          have hcz := blk_cell HP.out.blk 0
          generalize wr.heap.size = S0 at hm0 hf0
          have HMO := Aside0.mk hm0
          have HFR := Aside0.mk hf0
          clear hm0 hf0 HP
          go_wp2_with fail
          go_loopw [67, 9] (fun v67 v9 wr => ∃ (i : Nat), v67 = .int .i64 (i : Int) ∧ i ≤ nB ∧ Aside0 (Fra w base S0 F sh #[.slice AB nB cB, .slice AI nI cI] GB (fun W_ => Grp .i64 3 95 W_ base (fun b => GI b ∧ b < S0) (.slice AI nI cI) nI hI nI 0) wr) ∧ ∃ AM cM, v9 = .slice AM i cM ∧ Aside0 (∃ (gh : Nat → Hd) (P : Nat → Nat → Prop), Mor .u8 5 23 base S0 GB (.slice AB nB cB) nB hB i (.slice AM i cM) gh P wr)) (fun v67 _ _ => (nB : Int) - intOf v67 |>.toNat)
          case atStart => exact ⟨0, rfl, Nat.zero_le _, HFR, _, _, rfl, ⟨_, _, HMO.out⟩⟩
          case round =>
            clear HFR HMO
            obtain ⟨i, rfl, hi, HFR, AM, cM, rfl, HMO⟩ := hrel
            obtain ⟨gh, P, hmo⟩ := HMO.out
            by_cases c1 : i < nB
            · have c1b : decide ((i : Int) < (nB : Int)) = true := decide_eq_true (by omega)
              have c1c : decide (i < nB) = true := decide_eq_true c1
              have p5 : (0 ≤ (i : Int)) = True := eq_true (by omega)
              have p6 : ((i : Int) < (nB : Int)) = True := eq_true (by omega)
              obtain ⟨q1, e1, hx1⟩ := at_hd (Kd.R_reads' hmo.row).2.2 (i : Int) (by omega) (by rw [rowH_len]; omega)
              cases e1
              rw [rowH_at hB c1, Int.toNat_natCast] at hx1
              have HNO := Aside0.mk (show nB ≤ 9223372036854775807 by have := HNB.out; omega)
              have HMK := Aside0.mk (mrk_is i (by have := HNO.out; omega))
              obtain ⟨Ai, ni, ci, hq1⟩ : ∃ Ai ni ci, hB i = ⟨Ai, ni, ci⟩ := ⟨_, _, _, rfl⟩
              rw [hq1] at hx1
              change _ = some (Value.slice Ai ni ci) at hx1
              have HLI := Aside0.mk (show ni + 80 ≤ 140737488351400 by have := S.out.lB i c1; rw [hq1] at this; exact this)
              have HQ1 := Aside0.mk hq1
              have HI := Aside0.mk c1
              have hin := hmo.enter c1
              rw [hq1] at hin
              obtain ⟨wz, hwz⟩ : ∃ wz, wz = wr := ⟨_, rfl⟩
              have HIN0 := Aside0.mk (show Inn .u8 5 23 base S0 wz.heap.size GB (.slice (some q1) nB cB) nB hB i (.slice AM i cM) gh P 0 ⟨Ai, ni, ci⟩ wr by rw [hwz]; exact hin)
              clear c1 hq1 hin hmo HMO hwz
              go_wp2_with fail
              go_loopw [73, 13] (fun v73 v13 wr => ∃ (t : Nat), v73 = .int .i64 (t : Int) ∧ t ≤ 80 ∧ Aside0 (Fra w base S0 F sh #[.slice (some q1) nB cB, .slice AI nI cI] GB (fun W_ => Grp .i64 3 95 W_ base (fun b => GI b ∧ b < S0) (.slice AI nI cI) nI hI nI 0) wr) ∧ ∃ Ag cg, v13 = .slice Ag (ni + t) cg ∧ Aside0 (Inn .u8 5 23 base S0 wz.heap.size GB (.slice (some q1) nB cB) nB hB i (.slice AM i cM) gh P t ⟨Ag, ni + t, cg⟩ wr)) (fun v73 _ _ => ((80 : Nat) : Int) - intOf v73 |>.toNat)
              case atStart => exact ⟨0, rfl, Nat.zero_le _, HFR, Ai, ci, rfl, HIN0⟩
              case round =>
                clear HFR HIN0
                obtain ⟨t, rfl, ht, HFR, Ag, cg, rfl, HIN⟩ := hrel
                by_cases c2 : t < 80
                · have c2b : decide ((t : Int) < 80) = true := decide_eq_true (by omega)
                  have c2c : decide (t < 80) = true := decide_eq_true c2
                  have HT := Aside0.mk c2
                  clear c2
                  go_wp2_with fail
                  refine (provisoplain_mark.calls (i : Int) (mrk i) _ HMK.out).mono ?_
                  rintro e_ w2 ⟨rfl, m2, rfl⟩
                  replace HIN := Aside0.mk (HIN.out.step (pw_below_drewN (Below.refl _ _) m2))
                  replace HFR := Aside0.mk (HFR.out.step (pw_below_drewN (Below.refl _ _) m2))
                  generalize wr.drewN m2 = w3 at HIN HFR ⊢
                  have hcv := mrk_u8 i
                  go_wp2_with (first | (at_builtin; refine R_append2 (Kd.int .u8) base rfl (.tmp 75) (.tmp 79) 23 5 (.int .u8 0) 1 rfl Try.underlying23 (by kernel_rfl) rfl (by decide) (by decide) (.slice Ag (ni + t) cg) (List.replicate (ni + t) (mrk i)) (mrk i) [.int .u8 (mrk i)] (fun b => (P i b ∨ wz.heap.size ≤ b) ∨ w3.heap.size ≤ b) (fun _ => False) rfl rfl rfl (fun _ hk => hk.elim) (fun _ hk => .inr hk) (Kd.R_mono (by have h9 := HIN.out.cur; rw [HQ1.out] at h9; exact h9) (fun _ q => .inl q)) (Nat.le_trans HIN.out.le.1 (Nat.le_trans HIN.out.le.2.1 HIN.out.le.2.2)) (by rw [List.length_replicate]; have := HLI.out; have := HT.out; unfold maxLen; omega) (by rw [List.length_replicate]; exact int1_fits HLI.out HT.out) ?_; intro v1 w4 ho hb hg hat; obtain ⟨g1, e1, hn1, hin1⟩ := HIN.out.more1 HI.out (by decide) (by rw [HQ1.out]; exact ho) hg hat; rw [HQ1.out] at hn1; obtain ⟨A1, n1, c1_⟩ := g1; change n1 = ni + (t + 1) at hn1; subst hn1; change v1 = Value.slice A1 (ni + (t + 1)) c1_ at e1; subst e1; have HFR2 := Aside0.mk (HFR.out.move (fun b => (Value.slice Ag (ni + t) cg).ownBlock = some b) (Kept.of_grown hg (Kept.refl w3 _) (fun b q => .inl q)) (fun b q => (HIN.out.cur.1 b q).elim (fun q2 => (HIN.out.sub i b HI.out q2).1) (fun q2 => .inr (Nat.le_trans HIN.out.le.2.1 q2))) hb); have HIN2 := Aside0.mk hin1; clear ho hb hg hat hin1))
                  go_roundw
                  case rel => exact ⟨t + 1, congrArg (Value.int .i64) (by omega), HT.out, HFR2, A1, c1_, rfl, HIN2⟩
                  case measure => have := HT.out; show ((80 : Int) - ((t : Int) + 1)).toNat < ((80 : Int) - (t : Int)).toNat; omega
                · have c2b : decide ((t : Int) < 80) = false := decide_eq_false (by omega)
                  have c2c : decide (t < 80) = false := decide_eq_false c2
                  obtain rfl : t = 80 := by omega
                  clear c2 ht
                  go_wp2_with (first | (at_builtin; refine R_append2 khd base rfl (.tmp 82) (.tmp 84) 50 23 (.slice none 0 0) 24 rfl Try.underlying50 (by kernel_rfl) rfl (by decide) (by decide) (.slice AM i cM) (rowH i gh) (⟨Ag, ni + 80, cg⟩ : Hd) [.slice Ag (ni + 80) cg] (fun b => S0 ≤ b ∨ wr.heap.size ≤ b) (fun _ => False) rfl rfl rfl (fun _ hk => hk.elim) (fun _ hk => .inr hk) (Kd.R_mono HIN.out.more (fun _ q => .inl q)) (Nat.le_trans HIN.out.le.1 (Nat.le_trans HIN.out.le.2.1 HIN.out.le.2.2)) (by rw [rowH_len]; have := HI.out; have := HNB.out; unfold maxLen; omega) (by rw [rowH_len]; exact khd_fits (by have := HI.out; have := HNB.out; omega)) ?_; intro v1 w4 ho hb hg hat; obtain ⟨gh', P', hm9⟩ := HIN.out.leave HI.out (by decide) ho hg (hat.imp id (fun q => q.1)); have HFR2 := Aside0.mk (HFR.out.move (fun b => (Value.slice AM i cM).ownBlock = some b) (Kept.of_grown hg (Kept.refl wr _) (fun b q => .inl q)) (fun b q => .inr (HIN.out.more.1 b q)) hb); obtain ⟨A1, c1_, e1⟩ := Kd.R_slice ho; rw [List.length_append, rowH_len] at e1; subst e1; have HMO2 := Aside0.mk hm9; clear ho hb hg hat hm9))
                  go_roundw
                  case rel => exact ⟨i + 1, (by rw [wrap_n HI.out HNO.out]), HI.out, HFR2, A1, c1_, rfl, ⟨gh', P', HMO2.out⟩⟩
                  case measure => exact meas_n HI.out HNO.out
            · have c1b : decide ((i : Int) < (nB : Int)) = false := decide_eq_false (by omega)
              have c1c : decide (i < nB) = false := decide_eq_false c1
              obtain rfl : nB = i := by omega
              have HMD := Aside0.mk hmo
              clear c1 hi hmo HMO
              have hdB := HMD.out.done
              have hfi := HFR.out.turn S.out HMD.out.le.2 hdB
              have hm0 := Mor.start HFR.out.pas (by decide) (Nat.le_trans HMD.out.le.1 HMD.out.le.2)
              have hcz := blk_cell HFR.out.blk 1
              clear hcz
              generalize AM = AM2 at *
              generalize cM = cM2 at *
              generalize gh = ghB at *
              have hcz := blk_cell HFR.out.blk 1
              generalize wr.heap.size = S2 at hm0 hfi
              have HMO := Aside0.mk hm0
              clear HFR
              have HFR := Aside0.mk hfi
              clear hm0 hfi HMD hdB
              go_wp2_with fail
              go_loopw [92, 10] (fun v92 v10 wr => ∃ (i : Nat), v92 = .int .i64 (i : Int) ∧ i ≤ nI ∧ Aside0 (Fra w base S2 F sh #[.slice AB nB cB, .slice AI nI cI] (fun b => GI b ∧ b < S0) (fun W_ => Dun .u8 (fun b => (GB b ∨ S0 ≤ b) ∧ b < S2) AB cB nB hB AM2 cM2 ghB W_) wr) ∧ ∃ AM cM, v10 = .slice AM i cM ∧ Aside0 (∃ (gh : Nat → Hd) (P : Nat → Nat → Prop), Mor .i64 3 95 base S2 (fun b => GI b ∧ b < S0) (.slice AI nI cI) nI hI i (.slice AM i cM) gh P wr)) (fun v92 _ _ => (nI : Int) - intOf v92 |>.toNat)
              case atStart => exact ⟨0, rfl, Nat.zero_le _, HFR, _, _, rfl, ⟨_, _, HMO.out⟩⟩
              case round =>
                clear HFR HMO
                obtain ⟨i, rfl, hi, HFR, AM, cM, rfl, HMO⟩ := hrel
                obtain ⟨gh, P, hmo⟩ := HMO.out
                by_cases c1 : i < nI
                · have c1b : decide ((i : Int) < (nI : Int)) = true := decide_eq_true (by omega)
                  have c1c : decide (i < nI) = true := decide_eq_true c1
                  have p5 : (0 ≤ (i : Int)) = True := eq_true (by omega)
                  have p6 : ((i : Int) < (nI : Int)) = True := eq_true (by omega)
                  obtain ⟨q1, e1, hx1⟩ := at_hd (Kd.R_reads' hmo.row).2.2 (i : Int) (by omega) (by rw [rowH_len]; omega)
                  cases e1
                  rw [rowH_at hI c1, Int.toNat_natCast] at hx1
                  have HNO := Aside0.mk (show nI ≤ 9223372036854775807 by have := HNI.out; omega)
                  have HMK := Aside0.mk (mrk_is i (by have := HNO.out; omega))
                  obtain ⟨Ai, ni, ci, hq1⟩ : ∃ Ai ni ci, hI i = ⟨Ai, ni, ci⟩ := ⟨_, _, _, rfl⟩
                  rw [hq1] at hx1
                  change _ = some (Value.slice Ai ni ci) at hx1
                  have HLI := Aside0.mk (show (ni + 80) * 8 ≤ 140737488355328 by have := S.out.lI i c1; rw [hq1] at this; exact this)
                  have HQ1 := Aside0.mk hq1
                  have HI := Aside0.mk c1
                  have hin := hmo.enter c1
                  rw [hq1] at hin
                  obtain ⟨wz, hwz⟩ : ∃ wz, wz = wr := ⟨_, rfl⟩
                  have HIN0 := Aside0.mk (show Inn .i64 3 95 base S2 wz.heap.size (fun b => GI b ∧ b < S0) (.slice (some q1) nI cI) nI hI i (.slice AM i cM) gh P 0 ⟨Ai, ni, ci⟩ wr by rw [hwz]; exact hin)
                  clear c1 hq1 hin hmo HMO hwz
                  go_wp2_with fail
                  go_loopw [98, 16] (fun v98 v16 wr => ∃ (t : Nat), v98 = .int .i64 (t : Int) ∧ t ≤ 80 ∧ Aside0 (Fra w base S2 F sh #[.slice AB nB cB, .slice (some q1) nI cI] (fun b => GI b ∧ b < S0) (fun W_ => Dun .u8 (fun b => (GB b ∨ S0 ≤ b) ∧ b < S2) AB cB nB hB AM2 cM2 ghB W_) wr) ∧ ∃ Ag cg, v16 = .slice Ag (ni + t) cg ∧ Aside0 (Inn .i64 3 95 base S2 wz.heap.size (fun b => GI b ∧ b < S0) (.slice (some q1) nI cI) nI hI i (.slice AM i cM) gh P t ⟨Ag, ni + t, cg⟩ wr)) (fun v98 _ _ => ((80 : Nat) : Int) - intOf v98 |>.toNat)
                  case atStart => exact ⟨0, rfl, Nat.zero_le _, HFR, Ai, ci, rfl, HIN0⟩
                  case round =>
                    clear HFR HIN0
                    obtain ⟨t, rfl, ht, HFR, Ag, cg, rfl, HIN⟩ := hrel
                    by_cases c2 : t < 80
                    · have c2b : decide ((t : Int) < 80) = true := decide_eq_true (by omega)
                      have c2c : decide (t < 80) = true := decide_eq_true c2
                      have HT := Aside0.mk c2
                      clear c2
                      go_wp2_with fail
                      refine (provisoplain_mark.calls (i : Int) (mrk i) _ HMK.out).mono ?_
                      rintro e_ w2 ⟨rfl, m2, rfl⟩
                      replace HIN := Aside0.mk (HIN.out.step (pw_below_drewN (Below.refl _ _) m2))
                      replace HFR := Aside0.mk (HFR.out.step (pw_below_drewN (Below.refl _ _) m2))
                      generalize wr.drewN m2 = w3 at HIN HFR ⊢
                      have hcv := mrk_u8 i
                      go_wp2_with (first | (at_builtin; refine R_append2 (Kd.int .i64) base rfl (.tmp 100) (.tmp 103) 95 3 (.int .i64 0) 8 rfl Try.underlying95 (by kernel_rfl) rfl (by decide) (by decide) (.slice Ag (ni + t) cg) (List.replicate (ni + t) (mrk i)) (mrk i) [.int .i64 (mrk i)] (fun b => (P i b ∨ wz.heap.size ≤ b) ∨ w3.heap.size ≤ b) (fun _ => False) rfl rfl rfl (fun _ hk => hk.elim) (fun _ hk => .inr hk) (Kd.R_mono (by have h9 := HIN.out.cur; rw [HQ1.out] at h9; exact h9) (fun _ q => .inl q)) (Nat.le_trans HIN.out.le.1 (Nat.le_trans HIN.out.le.2.1 HIN.out.le.2.2)) (by rw [List.length_replicate]; have := HLI.out; have := HT.out; unfold maxLen; omega) (by rw [List.length_replicate]; exact int8_fits HLI.out HT.out) ?_; intro v1 w4 ho hb hg hat; obtain ⟨g1, e1, hn1, hin1⟩ := HIN.out.more1 HI.out (by decide) (by rw [HQ1.out]; exact ho) hg hat; rw [HQ1.out] at hn1; obtain ⟨A1, n1, c1_⟩ := g1; change n1 = ni + (t + 1) at hn1; subst hn1; change v1 = Value.slice A1 (ni + (t + 1)) c1_ at e1; subst e1; have HFR2 := Aside0.mk (HFR.out.move (fun b => (Value.slice Ag (ni + t) cg).ownBlock = some b) (Kept.of_grown hg (Kept.refl w3 _) (fun b q => .inl q)) (fun b q => (HIN.out.cur.1 b q).elim (fun q2 => (HIN.out.sub i b HI.out q2).1) (fun q2 => .inr (Nat.le_trans HIN.out.le.2.1 q2))) hb); have HIN2 := Aside0.mk hin1; clear ho hb hg hat hin1))
                      go_roundw
                      case rel => exact ⟨t + 1, congrArg (Value.int .i64) (by omega), HT.out, HFR2, A1, c1_, rfl, HIN2⟩
                      case measure => have := HT.out; show ((80 : Int) - ((t : Int) + 1)).toNat < ((80 : Int) - (t : Int)).toNat; omega
                    · have c2b : decide ((t : Int) < 80) = false := decide_eq_false (by omega)
                      have c2c : decide (t < 80) = false := decide_eq_false c2
                      obtain rfl : t = 80 := by omega
                      clear c2 ht
                      go_wp2_with (first | (at_builtin; refine R_append2 khd base rfl (.tmp 106) (.tmp 108) 51 95 (.slice none 0 0) 24 rfl Try.underlying51 (by kernel_rfl) rfl (by decide) (by decide) (.slice AM i cM) (rowH i gh) (⟨Ag, ni + 80, cg⟩ : Hd) [.slice Ag (ni + 80) cg] (fun b => S2 ≤ b ∨ wr.heap.size ≤ b) (fun _ => False) rfl rfl rfl (fun _ hk => hk.elim) (fun _ hk => .inr hk) (Kd.R_mono HIN.out.more (fun _ q => .inl q)) (Nat.le_trans HIN.out.le.1 (Nat.le_trans HIN.out.le.2.1 HIN.out.le.2.2)) (by rw [rowH_len]; have := HI.out; have := HNI.out; unfold maxLen; omega) (by rw [rowH_len]; exact khd_fits (by have := HI.out; have := HNI.out; omega)) ?_; intro v1 w4 ho hb hg hat; obtain ⟨gh', P', hm9⟩ := HIN.out.leave HI.out (by decide) ho hg (hat.imp id (fun q => q.1)); have HFR2 := Aside0.mk (HFR.out.move (fun b => (Value.slice AM i cM).ownBlock = some b) (Kept.of_grown hg (Kept.refl wr _) (fun b q => .inl q)) (fun b q => .inr (HIN.out.more.1 b q)) hb); obtain ⟨A1, c1_, e1⟩ := Kd.R_slice ho; rw [List.length_append, rowH_len] at e1; subst e1; have HMO2 := Aside0.mk hm9; clear ho hb hg hat hm9))
                      go_roundw
                      case rel => exact ⟨i + 1, (by rw [wrap_n HI.out HNO.out]), HI.out, HFR2, A1, c1_, rfl, ⟨gh', P', HMO2.out⟩⟩
                      case measure => exact meas_n HI.out HNO.out
                · have c1b : decide ((i : Int) < (nI : Int)) = false := decide_eq_false (by omega)
                  have c1c : decide (i < nI) = false := decide_eq_false c1
                  obtain rfl : nI = i := by omega
                  have HMD := Aside0.mk hmo
                  clear c1 hi hmo HMO
                  have hdI := HMD.out.done
                  have HDI := Aside0.mk hdI
                  clear hdI
                  go_wp2_with fail
                  refine (marked_sh _ sh nB nI AB AI AM2 AM cB cI cM2 cM hB ghB hI gh _ _ HFR.out.blk HFR.out.pas HDI.out).mono ?_
                  rintro e_ w9 ⟨rfl, hb⟩
                  have HFR9 := Aside0.mk (HFR.out.step hb)
                  clear hb
                  go_wp2_with fail
                  go_ret
                  exact ⟨rfl, HFR9.out.kept, HFR9.out.far⟩
end Go.Proofs.Ytklbkonehcjmjaa.P

end

section
namespace Go.Proofs.Ytklbkonehcjmjaa.P
open Go.RowKit Go.Proofs.YtklbkonehcjmjaaW.PrintWords Go.Proofs.YtklbkonehcjmjaaW.PrintLast Go.Proofs.YtklbkonehcjmjaaW.PrintMore
attribute [local go_sem] max2_int min2_int max_two min_two max_three min_three max_four min_four
set_option linter.unusedVariables false
set_option linter.unusedSimpArgs false
set_option maxHeartbeats 1600000 in
set_option maxRecDepth 100000 in
theorem Grow_nil (n : Nat) (hn : n ≤ 140737488351232) (w : World) :
    Calls Try.prog 54 #[.slice none 0 0, .int .i64 (n : Int)] w fun e w' => ∃ v : Value, e = .returned v ∧ Kd.R (Kd.int .u8) 5 w' w.heap.size (fun _ => True) v [] ∧ Below w.heap.size w w' := by
  have hw1 : wrap64 ((n : Int) - 0) = (n : Int) := by unfold wrap64; omega
  by_cases c1 : n = 0
  · subst c1
    go_enter Try.func54, Try.ntmps54
    go_wp2_with fail
    go_ret
    exact ⟨_, rfl, Kd.R_nil _ _ _ _ _, Below.refl _ _⟩
  · have c1b : decide ((n : Int) < 0) = false := decide_eq_false (by omega)
    have c1c : decide ((0 : Int) < (n : Int)) = true := decide_eq_true (by omega)
    have c1d : decide (0 < n) = true := decide_eq_true (by omega)
    have HN := Aside0.mk hn
    have H0 := Aside0.mk c1
    clear hn c1
    obtain ⟨i, hi, hzz⟩ := Option.map_eq_some_iff.1 (show (Try.prog.info? 5).map (fun i => (i.zero, i.size, i.bytes)) = some (some (.int .u8 0), 1, 1) by kernel_rfl)
    simp only [Prod.mk.injEq] at hzz
    obtain ⟨hz0, hz1, hz2⟩ := hzz
    have hr : ∀ ty, (Builtin.append_ #[23, 3] ty #[.slice none 0 0, .int .i64 (n : Int)]).run Try.prog w = .ok (.slice (some ⟨w.heap.size, 0, none⟩) n (grownCap w n 0 5)) (w.drew.alloc (.cells (Builtin.zeroCells (Value.int .u8 0).cells n ++ Builtin.zeroCells (Value.int .u8 0).cells (grownCap w n 0 5 - n)) 5)) := fun ty => by
      refine Lib.run_append_nil_zeros (P := Try.prog) w 23 3 ty 5 i (.int .u8 0) .i64 .i64 Try.underlying23 Try.underlying3 hi hz0 n (Nat.pos_of_ne_zero H0.out) ?_ ?_ ?_
      · rw [hz1]; decide
      · have := HN.out; omega
      · rw [hz2]; have := HN.out; omega
    have hge := grownCap_ge w n 0 5
    have hcm := grownCap_le_maxLen w n 0 5 (by have := HN.out; unfold maxLen; omega)
    have hnw := heap_alloc_new w.drew (.cells (Builtin.zeroCells (Value.int .u8 0).cells n ++ Builtin.zeroCells (Value.int .u8 0).cells (grownCap w n 0 5 - n)) 5)
    have hbl := below_alloc (below_drew (Below.refl w.heap.size w)) (.cells (Builtin.zeroCells (Value.int .u8 0).cells n ++ Builtin.zeroCells (Value.int .u8 0).cells (grownCap w n 0 5 - n)) 5)
    generalize (w.drew.alloc (.cells (Builtin.zeroCells (Value.int .u8 0).cells n ++ Builtin.zeroCells (Value.int .u8 0).cells (grownCap w n 0 5 - n)) 5)) = w2 at hr hnw hbl
    have HR := Aside0.mk hr
    have HGE := Aside0.mk hge
    have HCM := Aside0.mk hcm
    have HNW := Aside0.mk hnw
    have HB := Aside0.mk hbl
    have hw2 : wrap64 (n : Int) = (n : Int) := by have := HN.out; unfold wrap64; omega
    clear hr hge hcm hnw hbl hi hz0 hz1 hz2 hw1
    go_enter Try.func54, Try.ntmps54
    go_wp2_with (at_builtin; (refine Lib.wpList_append_run _ rfl (.tmp 20) (.tmp 21) 23 3 rfl (.slice none 0 0) (.int .i64 (wrap64 (n : Int))) rfl rfl _ _ (by rw [hw2]; exact HR.out _) ?_))
    go_ret
    refine ⟨_, rfl, ⟨fun _ _ => trivial, [], ⟨rfl, .inr ⟨w.heap.size, grownCap w n 0 5, _, rfl, Nat.le_refl _, HNW.out, Nat.zero_le _, HCM.out, ?_, ?_⟩⟩, Kd.reps_scalar (enc := Value.int .u8) []⟩, HB.out⟩
    · have := HGE.out
      rw [Array.size_append, size_zeroCells, size_zeroCells]
      show n * 1 + (grownCap w n 0 5 - n) * 1 = grownCap w n 0 5 * 1
      omega
    · simp
set_option maxHeartbeats 3200000 in
set_option maxRecDepth 100000 in
theorem Concat2 (A : Option Addr) (c : Nat) (h1 h2 : Hd) (xs ys : List Int) (w : World) (hC : khd.C w A 2 [h1, h2]) (hx : Kd.C (Kd.int .u8) w h1.A h1.n xs) (hy : Kd.C (Kd.int .u8) w h2.A h2.n ys) (hl : xs.length + ys.length ≤ 140737488351232) :
    Calls Try.prog 31 #[.slice A 2 c] w fun e w' => ∃ v : Value, e = .returned v ∧ Kd.R (Kd.int .u8) 5 w' w.heap.size (fun _ => True) v (xs ++ ys) ∧ Below w.heap.size w w' := by
  obtain ⟨A1, n1, c1⟩ := h1
  obtain ⟨A2, n2, c2⟩ := h2
  obtain ⟨ad, e1, k1⟩ := at_hd hC 0 (by decide) (by decide)
  obtain ⟨ad2, e2, k2⟩ := at_hd hC 1 (by decide) (by decide)
  cases e1
  cases e2
  change w.cell? (ad.add 0) = some (.slice A1 n1 c1) at k1
  rw [show ad.add 0 = ad from rfl] at k1
  change w.cell? ⟨ad.block, ad.off + 1, none⟩ = some (.slice A2 n2 c2) at k2
  obtain rfl : xs.length = n1 := hx.1
  obtain rfl : ys.length = n2 := hy.1
  have K1 := Aside0.mk k1
  have K2 := Aside0.mk k2
  have HX := Aside0.mk hx
  have HY := Aside0.mk hy
  have HL := Aside0.mk hl
  clear hx hy hC k1 k2
  go_enter Try.func31, Try.ntmps31
  go_wp2_with fail
  go_loopw [11, 3] (fun v11 v3 wr => Aside0 (wr = w) ∧ ∃ i : Nat, v11 = .int .i64 (i : Int) ∧ ((i = 0 ∧ v3 = .int .i64 0) ∨ (i = 1 ∧ v3 = .int .i64 (xs.length : Int)) ∨ (i = 2 ∧ v3 = .int .i64 ((xs.length + ys.length : Nat) : Int)))) (fun v11 _ _ => (3 - intOf v11).toNat)
  case atStart => exact ⟨⟨rfl⟩, 0, rfl, .inl ⟨rfl, rfl⟩⟩
  case round =>
    obtain ⟨HWR, i, rfl, hi⟩ := hrel
    obtain rfl := HWR.out.symm
    have hx9 : (0 : Int) ≤ (xs.length : Int) := by omega
    rcases hi with ⟨rfl, rfl⟩ | ⟨rfl, rfl⟩ | ⟨rfl, rfl⟩
    · have k1 := K1.out
      have w1 : wrap64 ((0 : Int) + (xs.length : Int)) = (xs.length : Int) := by have := HL.out; unfold wrap64; omega
      have c1b : decide ((xs.length : Int) < 0) = false := decide_eq_false (by omega)
      go_wp2_with fail
      go_roundw
      case rel => exact ⟨⟨trivial⟩, 1, rfl, .inr (.inl ⟨rfl, rfl⟩)⟩
      case measure => decide
    · have k2 := K2.out
      have w1 : wrap64 ((xs.length : Int) + (ys.length : Int)) = (xs.length : Int) + (ys.length : Int) := by have := HL.out; unfold wrap64; omega
      have c1b : decide ((xs.length : Int) + (ys.length : Int) < 0) = false := decide_eq_false (by omega)
      go_wp2_with fail
      go_roundw
      case rel => exact ⟨⟨trivial⟩, 2, rfl, .inr (.inr ⟨rfl, by rw [Int.natCast_add]⟩)⟩
      case measure => decide
    · go_wp2_with fail
      refine (Grow_nil (xs.length + ys.length) HL.out w).mono ?_
      rintro e_ w2 ⟨v, rfl, hR, hb⟩
      obtain ⟨Av, cv, e3⟩ := Kd.R_slice hR
      subst e3
      have HR := Aside0.mk hR
      have HB := Aside0.mk hb
      clear hR hb
      go_wp2_with fail
      go_loopw [27, 6] (fun v27 v6 wr => ∃ (i : Nat) (acc : List Int), v27 = .int .i64 (i : Int) ∧ i ≤ 2 ∧ Aside0 (acc = if i = 0 then [] else if i = 1 then xs else xs ++ ys) ∧ (∃ Av cv, v6 = .slice Av acc.length cv ∧ Aside0 (Kd.R (Kd.int .u8) 5 wr w.heap.size (fun _ => True) (.slice Av acc.length cv) acc)) ∧ Aside0 (Below w.heap.size w wr)) (fun v27 _ _ => (3 - intOf v27).toNat)
      case atStart => exact ⟨0, [], rfl, by decide, ⟨rfl⟩, ⟨_, _, rfl, HR⟩, HB⟩
      case round =>
        clear HR HB
        obtain ⟨i, acc, rfl, hi, HA, ⟨Av, cv, rfl, HR⟩, HB⟩ := hrel
        have hi3 : i = 0 ∨ i = 1 ∨ i = 2 := by omega
        rcases hi3 with rfl | rfl | rfl
        · have k1 := (HB.out.cell (World.block_lt_of_cell? w _ K1.out)).trans K1.out
          have HX2 := Aside0.mk (Kd.C_below HX.out HB.out)
          have hal : acc = [] := HA.out
          subst hal
          have HLX := Aside0.mk (show xs.length ≤ 140737488351232 by have := HL.out; omega)
          go_wp2_with (first | (at_builtin; refine Kd.R_append_rows (Kd.int .u8) (w0 := w) w.heap.size rfl (.tmp 31) (.tmp 32) 23 5 (.int .u8 0) 1 rfl Try.underlying23 info5 rfl (by decide) (by omega) (.slice Av ([] : List Int).length cv) [] xs A1 xs.length c1 (fun _ => True) (fun _ => False) rfl rfl HR.out HX2.out (fun _ _ h => h) (fun _ h => h.elim) (fun k hk => trivial) HB.out HB.out.size (by have := HLX.out; simp; omega) ?_; intro v1 w1 ho hb hg hat; obtain ⟨Av, cv, e7⟩ := Kd.R_slice ho; rw [List.nil_append] at ho e7; subst e7; have HO := Aside0.mk ho; have HB2 := Aside0.mk hb; clear ho hb hg hat))
          go_roundw
          case rel => exact ⟨1, xs, rfl, by decide, ⟨rfl⟩, ⟨_, _, rfl, HO⟩, HB2⟩
          case measure => decide
        · have k2 := (HB.out.cell (World.block_lt_of_cell? w _ K2.out)).trans K2.out
          have HX2 := Aside0.mk (Kd.C_below HY.out HB.out)
          have hal : acc = xs := HA.out
          subst hal
          go_wp2_with (first | (at_builtin; refine Kd.R_append_rows (Kd.int .u8) (w0 := w) w.heap.size rfl (.tmp 31) (.tmp 32) 23 5 (.int .u8 0) 1 rfl Try.underlying23 info5 rfl (by decide) (by omega) (.slice Av acc.length cv) acc ys A2 ys.length c2 (fun _ => True) (fun _ => False) rfl rfl HR.out HX2.out (fun _ _ h => h) (fun _ h => h.elim) (fun k hk => trivial) HB.out HB.out.size (by have := HL.out; omega) ?_; intro v1 w1 ho hb hg hat; obtain ⟨Av, cv, e7⟩ := Kd.R_slice ho; subst e7; have HO := Aside0.mk ho; have HB2 := Aside0.mk hb; clear ho hb hg hat))
          go_roundw
          case rel => exact ⟨2, acc ++ ys, rfl, by decide, ⟨rfl⟩, ⟨_, _, by rw [List.length_append], HO⟩, HB2⟩
          case measure => decide
        · have hal : acc = xs ++ ys := HA.out
          go_wp2_with fail
          go_ret
          exact ⟨_, rfl, by rw [← hal]; exact HR.out, HB.out⟩
end Go.Proofs.Ytklbkonehcjmjaa.P

end

section
namespace Go.Proofs.Ytklbkonehcjmjaa.P
open Go.RowKit Go.Proofs.YtklbkonehcjmjaaW.PrintWords Go.Proofs.YtklbkonehcjmjaaW.PrintLast Go.Proofs.YtklbkonehcjmjaaW.PrintMore
attribute [local go_sem] max2_int min2_int max_two min_two max_three min_three max_four min_four
set_option linter.unusedVariables false
set_option linter.unusedSimpArgs false
structure Ent where
  g : Nat
  p : Nat
  bs : List Int
  ar : Nat
  ap : Nat
def BsAt (w0 W : World) (A : Option Addr) (c : Nat) (bs : List Int) : Prop := bs.length ≤ c ∧ (Kd.C (Kd.int .u8) w0 A bs.length bs ∨ Kd.R (Kd.int .u8) 5 W w0.heap.size (fun _ => True) (.slice A bs.length c) bs)
theorem BsAt.step {w0 W W1 : World} {A : Option Addr} {c : Nat} {bs : List Int} (h : BsAt w0 W A c bs) (hb : Below W.heap.size W W1) : BsAt w0 W1 A c bs := ⟨h.1, h.2.imp id (fun q => Kd.R_below q hb)⟩
theorem BsAt.set {w0 W : World} {A : Option Addr} {c : Nat} {bs : List Int} (h : BsAt w0 W A c bs) {g t : Nat} {cs : Array Value} (hg : W.heap[g]? = some (.cells cs t (0, 0))) (ht : 5 ≠ t) (j : Nat) (u : Value) : BsAt w0 (W.setCell ⟨g, j, none⟩ u) A c bs := ⟨h.1, h.2.imp id (fun q => Kd.R_set q hg (fun z hz => by
  rcases List.mem_cons.1 hz with rfl | hz
  · exact ht
  · cases hz) j u)⟩
theorem BsAt.reads {w0 W : World} {A : Option Addr} {c : Nat} {bs : List Int} (h : BsAt w0 W A c bs) (hb : Below w0.heap.size w0 W) : Kd.C (Kd.int .u8) W A bs.length bs := h.2.elim (fun q => Kd.C_below q hb) (fun q => (Kd.R_reads' q).2.2)
structure EntAt (w0 : World) (e : Ent) (W : World) : Prop where
  rd : RdAt w0.heap.size e.g e.bs e.ar W
  ge : w0.heap.size ≤ e.p
  pl : ∃ A c, W.heap[e.p]? = some (.cells #[.slice A e.bs.length c, .int .i64 (e.ap : Int)] 65 (0, 0)) ∧ BsAt w0 W A c e.bs
  by_ : ∀ x ∈ e.bs, 0 ≤ x ∧ x ≤ 255
  lim : e.bs.length ≤ 140737488351232
theorem EntAt.step {w0 W W1 : World} {e : Ent} (h : EntAt w0 e W) (hb : Below W.heap.size W W1) : EntAt w0 e W1 := by
  obtain ⟨A, c, h1, h2⟩ := h.pl
  exact ⟨h.rd.step hb, h.ge, ⟨A, c, blk_below h1 hb, h2.step hb⟩, h.by_, h.lim⟩
theorem RdAt.away {base g : Nat} {bs : List Int} {at_ : Nat} {W : World} (h : RdAt base g bs at_ W) {g2 t : Nat} {cs : Array Value} (h2 : W.heap[g2]? = some (.cells cs t (0, 0))) (ht : 5 ≠ t) (hne : g ≠ g2) (j : Nat) (u : Value) : RdAt base g bs at_ (W.setCell ⟨g2, j, none⟩ u) := by
  obtain ⟨h1, h2', v, h3, h4⟩ := h
  exact ⟨h1, h2', v, blk_far h3 (by simpa using hne) _, Kd.R_set h4 h2 (fun z hz => by
    rcases List.mem_cons.1 hz with rfl | hz
    · exact ht
    · cases hz) _ _⟩
theorem EntAt.far {w0 W : World} {e : Ent} (h : EntAt w0 e W) {g2 t : Nat} {cs : Array Value} (h2 : W.heap[g2]? = some (.cells cs t (0, 0))) (ht : 5 ≠ t) (hg : e.g ≠ g2) (hp : e.p ≠ g2) (j : Nat) (u : Value) : EntAt w0 e (W.setCell ⟨g2, j, none⟩ u) := by
  obtain ⟨A, c, h1, h3⟩ := h.pl
  exact ⟨h.rd.away h2 ht hg j u, h.ge, ⟨A, c, blk_far h1 (by simpa using hp) _, h3.set h2 ht j u⟩, h.by_, h.lim⟩
structure RSt (w0 : World) (n : Nat) (f : Nat → Ent) (W : World) : Prop where
  below : Below w0.heap.size w0 W
  all : ∀ i, i < n → EntAt w0 (f i) W
  ng : ∀ i j, i < n → j < n → i ≠ j → (f i).g ≠ (f j).g
  np : ∀ i j, i < n → j < n → i ≠ j → (f i).p ≠ (f j).p
theorem RSt.step {w0 W W1 : World} {n : Nat} {f : Nat → Ent} (h : RSt w0 n f W) (hb : Below W.heap.size W W1) : RSt w0 n f W1 := ⟨below_step h.below hb, fun i hi => (h.all i hi).step hb, h.ng, h.np⟩
def upR (f : Nat → Ent) (i k : Nat) : Nat → Ent := fun j => if j = i then { f i with ar := k } else f j
theorem upR_same (f : Nat → Ent) (i k j : Nat) : (upR f i k j).g = (f j).g ∧ (upR f i k j).p = (f j).p ∧ (upR f i k j).bs = (f j).bs ∧ (upR f i k j).ap = (f j).ap := by
  unfold upR
  split
  · subst_vars; exact ⟨rfl, rfl, rfl, rfl⟩
  · exact ⟨rfl, rfl, rfl, rfl⟩
def seg (bs : List Int) (a n : Nat) : List Int := (bs.take (a + n)).drop a
def RPost (w0 : World) (n : Nat) (f : Nat → Ent) (i k : Nat) (W w' : World) : Prop := RSt w0 n (upR f i k) w' ∧ Kept W w' (fun b => b = (f i).g)
end Go.Proofs.Ytklbkonehcjmjaa.P

end

section
namespace Go.Proofs.Ytklbkonehcjmjaa.P
open Go.RowKit Go.Proofs.YtklbkonehcjmjaaW.PrintWords Go.Proofs.YtklbkonehcjmjaaW.PrintLast Go.Proofs.YtklbkonehcjmjaaW.PrintMore
attribute [local go_sem] max2_int min2_int max_two min_two max_three min_three max_four min_four
set_option linter.unusedVariables false
set_option linter.unusedSimpArgs false
theorem RPost.drew {w0 : World} {n : Nat} {f : Nat → Ent} {i k : Nat} {W W1 : World} (h : RPost w0 n f i k W W1) (m : Nat) : RPost w0 n f i k W (W1.drewN m) := ⟨h.1.step (pw_below_drewN (Below.refl _ _) m), h.2.drewN m⟩
theorem RPost.cells {w0 : World} {n : Nat} {f : Nat → Ent} {i k : Nat} {W W1 : World} (h : RPost w0 n f i k W W1) (hi : i < n) : ∃ v, W1.heap[(f i).g]? = some (.cells #[v, .int .i64 (k : Int), .bool true] 79 (0, 0)) := by
  have h1 := (h.1.all i hi).rd
  rw [(upR_same f i k i).1] at h1
  obtain ⟨_, _, v, h3, _⟩ := h1
  rw [show (upR f i k i).ar = k by unfold upR; rw [if_pos rfl]] at h3
  exact ⟨v, h3⟩
end Go.Proofs.Ytklbkonehcjmjaa.P

end

section
namespace Go.Proofs.Ytklbkonehcjmjaa.P
open Go.RowKit Go.Proofs.YtklbkonehcjmjaaW.PrintWords Go.Proofs.YtklbkonehcjmjaaW.PrintLast Go.Proofs.YtklbkonehcjmjaaW.PrintMore
attribute [local go_sem] max2_int min2_int max_two min_two max_three min_three max_four min_four
set_option linter.unusedVariables false
set_option linter.unusedSimpArgs false
theorem ShAt.more {base : Nat} {F F' : Nat → Prop} {sh nB nI : Nat} {W : World} (h : ShAt base F sh nB nI W) (hF : ∀ b, F b → F' b) (hl : ∀ b, F' b → base ≤ b ∧ b < W.heap.size) : ShAt base F' sh nB nI W := by
  obtain ⟨⟨GB, GI, vB, vI, hB, hI, h1, h2, h3, h4, h5, h6, h7, h8⟩, hf, _⟩ := h
  exact ⟨⟨GB, GI, vB, vI, hB, hI, h1, h2, h3, fun b q => hF b (h4 b q), fun b q => hF b (h5 b q), h6, h7, h8⟩, hF _ hf, hl⟩
theorem WtAt.tight {base g : Nat} {ok : Nat → Prop} {bs : List Int} {W : World} (h : WtAt base g ok bs W) : WtAt base g (fun k => ok k ∧ base ≤ k ∧ k < W.heap.size) bs W := by
  obtain ⟨h1, h2, v, h3, h4⟩ := h
  exact ⟨h1, h2, v, h3, Kd.R_mono (Kd.R_bound h4) (fun k q => ⟨q.1, q.2.1, q.2.2.1⟩)⟩
theorem WtAt.lt {base g : Nat} {ok : Nat → Prop} {bs : List Int} {W : World} (h : WtAt base g ok bs W) : base ≤ g ∧ g < W.heap.size := by
  obtain ⟨v, h3, h4⟩ := h.now
  exact ⟨h.ge, blk_lt h3⟩
theorem RdAt.lt {base g : Nat} {bs : List Int} {at_ : Nat} {W : World} (h : RdAt base g bs at_ W) : base ≤ g ∧ g < W.heap.size := by
  obtain ⟨h1, h2, v, h3, h4⟩ := h
  exact ⟨h2, blk_lt h3⟩
def Row (b0 a b : Nat) (v : Value) (xs : List Int) (W : World) : Prop := Kd.R (Kd.int .u8) 5 W b0 (fun k => a ≤ k ∧ k < b) v xs
theorem Row.mk0 {b0 : Nat} {W w1 : World} {v : Value} {xs : List Int} {ok : Nat → Prop} (h : Kd.R (Kd.int .u8) 5 w1 W.heap.size ok v xs) (hb : b0 ≤ W.heap.size) : Row b0 W.heap.size w1.heap.size v xs w1 := Kd.R_lower (Kd.R_mono (Kd.R_bound h) (fun k q => ⟨q.2.1, q.2.2.1⟩)) hb
theorem Row.kept {b0 a b : Nat} {v : Value} {xs : List Int} {W W1 : World} {S : Nat → Prop} (h : Row b0 a b v xs W) (hk : Kept W W1 S) (hS : ∀ k, a ≤ k → k < b → ¬ S k) : Row b0 a b v xs W1 := Kd.R_kept h hk (fun k q => hS k q.1 q.2)
theorem Row.below {b0 a b : Nat} {v : Value} {xs : List Int} {W W1 : World} (h : Row b0 a b v xs W) (hb : Below W.heap.size W W1) : Row b0 a b v xs W1 := Kd.R_below h hb
theorem Row.typed {b0 a b : Nat} {v : Value} {xs : List Int} {W W1 : World} {F : Nat → Prop} {ts : Nat} (h : Row b0 a b v xs W) (hk : Kept W W1 (fun b => F b ∧ ∃ cs t, W.heap[b]? = some (.cells cs t (0, 0)) ∧ (t = 53 ∨ t = ts))) (ht : 5 ≠ ts) : Row b0 a b v xs W1 :=
  Kd.R_mono (Kd.R_move (Kd.R_bound h) (fun k q => hk.2 k q.2.2.1 (fun q2 => by
    obtain ⟨_, _, _, u, hu, cells, hc⟩ := q
    rw [show (Kd.int .u8).E = [] from rfl] at hu
    obtain rfl := List.mem_singleton.1 hu
    obtain ⟨_, cs, t, hd, ht2⟩ := q2
    rcases ht2 with rfl | rfl
    · exact typ_neq hc hd (by decide) rfl
    · exact typ_neq hc hd ht rfl))) (fun k q => q.1)
theorem hd_lit2 (W : World) (t : Nat) (h1 h2 : Hd) : khd.C (W.alloc (.cells #[h1.v, h2.v] t (0, 0))) (some ⟨W.heap.size, 0, none⟩) 2 [h1, h2] :=
  (Kd.R_reads' (show khd.R t (W.alloc (.cells #[h1.v, h2.v] t (0, 0))) W.heap.size (fun _ => True) (.slice (some ⟨W.heap.size, 0, none⟩) 2 2) [h1, h2] from ⟨fun _ _ => trivial, [h1.v, h2.v], ⟨rfl, .inr ⟨W.heap.size, 2, _, rfl, Nat.le_refl _, blk_new _ _, Nat.le_refl _, by decide, rfl, rfl⟩⟩, Kd.reps_scalar (enc := Hd.v) [h1, h2]⟩)).2.2
theorem Put_any {base g : Nat} {ok : Nat → Prop} {w : World} (h : WtAt base g ok [] w) (A : Option Addr) (c : Nat) (l0 : List Int) (hr : Kd.C (Kd.int .u8) w A l0.length l0) :
    Calls Try.prog 33 #[.pointer (some ⟨g, 0, none⟩), .slice A l0.length c] w fun e w' => ∃ (r : Int) (bs : List Int), provisolaw01_fresh.f l0 = some r ∧ e = .returned (.int .i64 r) ∧ bs.length ≤ 1048576 ∧ WtAt base g (fun k => ok k ∨ w.heap.size ≤ k) bs w' ∧ Below base w w' ∧ Kept w w' (fun k => ok k ∨ k = g) := by
  by_cases c1 : l0.length ≤ 1048576
  · refine (Put_good (more := l0) h A c hr (by simpa using c1)).mono ?_
    rintro e w1 ⟨rfl, h1, h2, h3⟩
    refine ⟨0, l0, ?_, rfl, c1, h1, h2, h3⟩
    unfold provisolaw01_fresh.f
    rw [if_neg (by omega)]
  · refine (Put_full h A l0.length c (by simp; omega)).mono ?_
    rintro e w1 ⟨rfl, m, rfl⟩
    refine ⟨7, [], ?_, rfl, by simp, (h.mono (fun k q => .inl q)).drewN m, pw_below_drewN (Below.refl _ _) m, (Kept.refl _ _).drewN m⟩
    unfold provisolaw01_fresh.f
    rw [if_pos (by omega)]
theorem Byte1_any {base g : Nat} {ok : Nat → Prop} {bs : List Int} {w : World} (h : WtAt base g ok bs w) (hl : bs.length ≤ 1048576) :
    Calls Try.prog 36 #[.pointer (some ⟨g, 0, none⟩), .int .i64 1] w fun e w' => ∃ r, provisolaw01_full.f (bs.length : Int) = some r ∧ e = .returned (.int .i64 r) ∧ Below base w w' := by
  have hbase : base ≤ w.heap.size := by
    have := h.lt
    omega
  refine (wByte_good h 1 (by decide) (by decide)).mono ?_
  rintro e w1 ⟨h1, h2⟩
  by_cases c : bs.length + 1 ≤ 1048576
  · obtain ⟨rfl, _, h3, _⟩ := h1 c
    refine ⟨0, ?_, rfl, h3⟩
    unfold provisolaw01_full.f
    rw [if_neg (by omega)]
  · obtain ⟨rfl, h3⟩ := h2 (by omega)
    refine ⟨7, ?_, rfl, below_less h3 hbase⟩
    unfold provisolaw01_full.f
    rw [if_pos (by omega)]
end Go.Proofs.Ytklbkonehcjmjaa.P

end

section
namespace Go.Proofs.Ytklbkonehcjmjaa.P
open Go.RowKit Go.Proofs.YtklbkonehcjmjaaW.PrintWords Go.Proofs.YtklbkonehcjmjaaW.PrintLast Go.Proofs.YtklbkonehcjmjaaW.PrintMore
attribute [local go_sem] max2_int min2_int max_two min_two max_three min_three max_four min_four
set_option linter.unusedVariables false
set_option linter.unusedSimpArgs false
def provisolaw01_WireOwn.Facts (l0 : List Int) (a1 : Int) : Prop := l0.length ≤ 140737488351232 ∧ (∀ x ∈ l0, 0 ≤ x ∧ x ≤ 255) ∧ ∃ K, ∀ xs : List Int, xs.length ≤ 140737488351232 → slices_Equal_byte_byte.f K xs xs = some true
set_option maxHeartbeats 6400000 in
set_option maxRecDepth 100000 in
theorem provisolaw01_WireOwn.calls (A0 : Option Addr) (c0 : Nat) (l0 : List Int) (a1 : Int) (w : World) (hr0 : Kd.C (Kd.int .u8) w A0 l0.length l0) (hc0 : l0.length ≤ c0) (h : provisolaw01_WireOwn.Facts l0 a1) :
    Calls Try.prog 7 #[.slice A0 l0.length c0, .int .i64 a1] w fun e w' => e = .returned (.bool true) ∧ Below w.heap.size w w' := by
  obtain ⟨hlim, hby, KK, heq⟩ := h
  have HLIM := Aside0.mk hlim
  have HBY := Aside0.mk hby
  have HEQ := Aside0.mk heq
  have HR0 := Aside0.mk hr0
  have HC0 := Aside0.mk hc0
  clear hlim hby heq hr0 hc0
  go_enter Try.func7, Try.ntmps7
  go_wp2_with fail
  have hsh := ShAt.new w
  have hsz1 : (w.alloc (.cells #[.slice none 0 0, .slice none 0 0] 53 (0, 0))).heap.size = w.heap.size + 1 := by simp
  have hb1 := below_alloc (Below.refl w.heap.size w) (.cells #[.slice none 0 0, .slice none 0 0] 53 (0, 0))
  obtain ⟨w1, hw1⟩ : ∃ w1, w1 = (w.alloc (.cells #[.slice none 0 0, .slice none 0 0] 53 (0, 0))) := ⟨_, rfl⟩
  rw [← hw1] at hsh hsz1 hb1 ⊢
  obtain ⟨sh, hsheq⟩ : ∃ sh, sh = w.heap.size := ⟨_, rfl⟩
  have hsh2 : ShAt w.heap.size (fun b => b = w.heap.size) sh 0 0 w1 := by rw [hsheq]; exact hsh
  rw [← hsheq]
  have HSZ1 := Aside0.mk (show w.heap.size + 1 = w1.heap.size from hsz1.symm)
  have HB := Aside0.mk hb1
  have HSH := Aside0.mk (hsh2.more (F' := (fun b => (w.heap.size ≤ b ∧ b < w1.heap.size))) (fun b q => by omega) (fun b q => q))
  clear hw1 hsz1 hb1 hsh hsh2 hsheq
  refine (slices_Clone_byte_byte.calls A0 c0 l0 l0 w1 (Kd.C_below HR0.out HB.out) HC0.out (by unfold slices_Clone_byte_byte.f; rw [if_pos (by have := HLIM.out; omega)])).mono ?_
  rintro e_ w2 ⟨v2, rfl, hR, hb⟩
  obtain ⟨A2, c2, e2⟩ := Kd.R_slice hR
  subst e2
  have HC2 := Aside0.mk (Kd.R_reads' hR).2.2
  have HD2 := Aside0.mk (Kd.R_reads' hR).2.1
  have HSw2 := Aside0.mk (show w1.heap.size ≤ w2.heap.size from (hb).size)
  replace HB := Aside0.mk (below_step HB.out (hb))
  replace HSH := Aside0.mk (HSH.out.step (hb))
  clear hR hb
  go_wp2_with fail
  refine (Over_calls A2 c2 l0 w2 HC2.out HD2.out (by have := HLIM.out; omega)).mono ?_
  rintro e_ w3 ⟨g, rfl, hrd, hb⟩
  have HG := Aside0.mk hrd.lt
  have HRD := Aside0.mk hrd
  have HSw3 := Aside0.mk (show w2.heap.size ≤ w3.heap.size from (hb).size)
  replace HB := Aside0.mk (below_step HB.out (hb))
  replace HSH := Aside0.mk (HSH.out.step (hb))
  clear hrd hb HC2 HD2
  go_wp2_with fail
  refine (New_calls w3).mono ?_
  rintro e_ w4 ⟨gw, rfl, hwt, hb⟩
  have HGW := Aside0.mk hwt.lt
  have HWT := Aside0.mk (hwt.tight.mono (ok' := (fun b => (w3.heap.size ≤ b ∧ b < w4.heap.size))) (fun k q => ⟨q.2.1, q.2.2⟩))
  have HSw4 := Aside0.mk (show w3.heap.size ≤ w4.heap.size from (hb).size)
  replace HB := Aside0.mk (below_step HB.out (hb))
  replace HSH := Aside0.mk (HSH.out.step (hb))
  replace HRD := Aside0.mk (HRD.out.step (hb))
  clear hwt hb
  have hwr : wrap64 ((l0.length : Int) + 1) = (l0.length : Int) + 1 := by have := HLIM.out; unfold wrap64; omega
  obtain ⟨k, hk, hpk⟩ := pick_some a1 (l0.length + 1) (by omega) (by have := HLIM.out; omega)
  have HK := Aside0.mk (show k ≤ l0.length by omega)
  rw [Int.natCast_add] at hpk
  have HPK := Aside0.mk hpk
  clear hk hpk
  go_wp2_with fail
  refine (provisolaw01_pick.calls a1 _ _ _ HPK.out).mono ?_
  rintro e_ w5 ⟨rfl, q0⟩
  have hb := q0.below
  have HSw5 := Aside0.mk (show w4.heap.size ≤ w5.heap.size from (hb).size)
  replace HB := Aside0.mk (below_step HB.out (hb))
  replace HSH := Aside0.mk (HSH.out.step (hb))
  replace HRD := Aside0.mk (HRD.out.step (hb))
  replace HWT := Aside0.mk (HWT.out.step (hb))
  clear hb q0 hwr
  go_wp2_with fail
  refine (Take_good HRD.out k (by have := HK.out; omega) (by have := HLIM.out; omega)).mono ?_
  rintro e_ w6 ⟨v6, m, m2, wa, rfl, hwa, hR, hb⟩
  have hsa : wa.heap.size = w5.heap.size := by rw [hwa]; simp [World.setCell]
  have hkk : Kept w5 w6 (fun b => b = g) := by
    have h9 : Kept w5 wa (fun b => b = g) := by
      rw [hwa]
      exact ((Kept.refl w5 (fun b => b = g)).drewN m |>.setCell (p := ⟨g, 1, none⟩) (.inl rfl) _).drewN m2
    exact h9.below hb
  have hrd := (HRD.out.self (0 + k) m m2 (by have := HK.out; omega))
  rw [← hwa] at hrd
  have hbl := below_rd HB.out (g := g) (by have := HG.out; have := HSZ1.out; have := HSw2.out; have := HSw3.out; have := HSw4.out; have := HSw5.out; omega) m m2 (.int .i64 ((0 + k : Nat) : Int))
  rw [← hwa] at hbl
  replace HRD := Aside0.mk (hrd.step hb)
  replace HB := Aside0.mk (below_step hbl hb)
  rw [show (l0.take (0 + k)).drop (0) = l0.take k from by rw [Nat.zero_add]; rfl] at hR
  obtain ⟨A6, c6, e6⟩ := Kd.R_slice hR
  subst e6
  have HSw6 := Aside0.mk (show w5.heap.size ≤ w6.heap.size from (hkk).1)
  replace HSH := Aside0.mk (HSH.out.kept hkk (fun b q e => by have := HG.out; have := HSZ1.out; have := HSw2.out; have := HSw3.out; have := HSw4.out; have := HSw5.out; have := HSw6.out; omega))
  replace HWT := Aside0.mk (HWT.out.kept hkk (fun b q e => by have := HG.out; have := HSZ1.out; have := HSw2.out; have := HSw3.out; have := HSw4.out; have := HSw5.out; have := HSw6.out; omega) (fun e => by have := HGW.out; have := HG.out; have := HSZ1.out; have := HSw2.out; have := HSw3.out; have := HSw4.out; have := HSw5.out; have := HSw6.out; omega))
  have Row1 := Aside0.mk (Row.mk0 hR (by rw [hsa]; exact (show w.heap.size ≤ w5.heap.size by have := HSZ1.out; have := HSw2.out; have := HSw3.out; have := HSw4.out; have := HSw5.out; have := HSw6.out; omega)))
  rw [hsa] at Row1
  clear hwa hsa hkk hrd hbl hb hR
  have hlk : (l0.take k).length = k := by rw [List.length_take]; have := HK.out; omega
  rw [hlk] at Row1 ⊢
  have hwr : wrap64 ((l0.length : Int) - (k : Int)) = ((l0.length - k : Nat) : Int) := by have := HLIM.out; have := HK.out; unfold wrap64; omega
  have h9 := HRD.out
  rw [Nat.zero_add] at h9
  replace HRD := Aside0.mk h9
  clear h9
  go_wp2_with fail
  refine (Take_good HRD.out (l0.length - k) (by have := HK.out; omega) (by have := HLIM.out; omega)).mono ?_
  rintro e_ w7 ⟨v7, m, m2, wa, rfl, hwa, hR, hb⟩
  have hsa : wa.heap.size = w6.heap.size := by rw [hwa]; simp [World.setCell]
  have hkk : Kept w6 w7 (fun b => b = g) := by
    have h9 : Kept w6 wa (fun b => b = g) := by
      rw [hwa]
      exact ((Kept.refl w6 (fun b => b = g)).drewN m |>.setCell (p := ⟨g, 1, none⟩) (.inl rfl) _).drewN m2
    exact h9.below hb
  have hrd := (HRD.out.self (k + (l0.length - k)) m m2 (by have := HK.out; omega))
  rw [← hwa] at hrd
  have hbl := below_rd HB.out (g := g) (by have := HG.out; have := HSZ1.out; have := HSw2.out; have := HSw3.out; have := HSw4.out; have := HSw5.out; have := HSw6.out; omega) m m2 (.int .i64 ((k + (l0.length - k) : Nat) : Int))
  rw [← hwa] at hbl
  replace HRD := Aside0.mk (hrd.step hb)
  replace HB := Aside0.mk (below_step hbl hb)
  rw [show (l0.take (k + (l0.length - k))).drop (k) = l0.drop k from by rw [show k + (l0.length - k) = l0.length by have := HK.out; omega, List.take_length]] at hR
  obtain ⟨A7, c7, e7⟩ := Kd.R_slice hR
  subst e7
  have HSw7 := Aside0.mk (show w6.heap.size ≤ w7.heap.size from (hkk).1)
  replace HSH := Aside0.mk (HSH.out.kept hkk (fun b q e => by have := HG.out; have := HSZ1.out; have := HSw2.out; have := HSw3.out; have := HSw4.out; have := HSw5.out; have := HSw6.out; have := HSw7.out; omega))
  replace HWT := Aside0.mk (HWT.out.kept hkk (fun b q e => by have := HG.out; have := HSZ1.out; have := HSw2.out; have := HSw3.out; have := HSw4.out; have := HSw5.out; have := HSw6.out; have := HSw7.out; omega) (fun e => by have := HGW.out; have := HG.out; have := HSZ1.out; have := HSw2.out; have := HSw3.out; have := HSw4.out; have := HSw5.out; have := HSw6.out; have := HSw7.out; omega))
  replace Row1 := Aside0.mk (Row1.out.kept hkk (fun k q1 q2 e => by have := HG.out; have := HSZ1.out; have := HSw2.out; have := HSw3.out; have := HSw4.out; have := HSw5.out; have := HSw6.out; have := HSw7.out; omega))
  have Row2 := Aside0.mk (Row.mk0 hR (by rw [hsa]; exact (show w.heap.size ≤ w6.heap.size by have := HSZ1.out; have := HSw2.out; have := HSw3.out; have := HSw4.out; have := HSw5.out; have := HSw6.out; have := HSw7.out; omega)))
  rw [hsa] at Row2
  clear hwa hsa hkk hrd hbl hb hR
  have hld : (l0.drop k).length = l0.length - k := List.length_drop
  rw [hld] at Row2 ⊢
  clear HRD hwr
  go_wp2_with fail
  have hlit := hd_lit2 w7 23 ⟨A6, k, c6⟩ ⟨A7, l0.length - k, c7⟩
  have hb := below_alloc (Below.refl w7.heap.size w7) (.cells #[.slice A6 k c6, .slice A7 (l0.length - k) c7] 23 (0, 0))
  change khd.C (w7.alloc (.cells #[.slice A6 k c6, .slice A7 (l0.length - k) c7] 23 (0, 0))) _ 2 _ at hlit
  generalize (w7.alloc (.cells #[.slice A6 k c6, .slice A7 (l0.length - k) c7] 23 (0, 0))) = w8 at hlit hb ⊢
  have HSw8 := Aside0.mk (show w7.heap.size ≤ w8.heap.size from (hb).size)
  replace HB := Aside0.mk (below_step HB.out (hb))
  replace HSH := Aside0.mk (HSH.out.step (hb))
  replace HWT := Aside0.mk (HWT.out.step (hb))
  replace Row1 := Aside0.mk (Row1.out.below (hb))
  replace Row2 := Aside0.mk (Row2.out.below (hb))
  clear hb
  refine (Concat2 _ 2 ⟨A6, k, c6⟩ ⟨A7, l0.length - k, c7⟩ (l0.take k) (l0.drop k) w8 hlit ?_ ?_ ?_).mono ?_
  · have h9 := (Kd.R_reads' Row1.out).2.2
    rw [hlk] at h9
    exact h9
  · have h9 := (Kd.R_reads' Row2.out).2.2
    rw [hld] at h9
    exact h9
  · rw [hlk, hld]; have := HLIM.out; have := HK.out; omega
  rintro e_ w9 ⟨v9, rfl, hR, hb⟩
  rw [List.take_append_drop] at hR
  obtain ⟨A9, c9, e9⟩ := Kd.R_slice hR
  subst e9
  have HC9 := Aside0.mk (Kd.R_reads' hR).2.2
  have HD9 := Aside0.mk (Kd.R_reads' hR).2.1
  have HSw9 := Aside0.mk (show w8.heap.size ≤ w9.heap.size from (hb).size)
  replace HB := Aside0.mk (below_step HB.out (hb))
  replace HSH := Aside0.mk (HSH.out.step (hb))
  replace HWT := Aside0.mk (HWT.out.step (hb))
  replace Row1 := Aside0.mk (Row1.out.below (hb))
  replace Row2 := Aside0.mk (Row2.out.below (hb))
  clear hb hR hlit
  go_wp2_with fail
  refine (slices_Equal_byte_byte.calls KK A9 c9 l0 A0 c0 l0 true w9 HC9.out HD9.out (Kd.C_below HR0.out HB.out) HC0.out (HEQ.out l0 HLIM.out)).mono ?_
  rintro e_ w10 ⟨rfl, q0⟩
  have hb := q0.below
  have HSw10 := Aside0.mk (show w9.heap.size ≤ w10.heap.size from (hb).size)
  replace HB := Aside0.mk (below_step HB.out (hb))
  replace HSH := Aside0.mk (HSH.out.step (hb))
  replace HWT := Aside0.mk (HWT.out.step (hb))
  replace Row1 := Aside0.mk (Row1.out.below (hb))
  replace Row2 := Aside0.mk (Row2.out.below (hb))
  clear hb q0 HC9 HD9
  have HLK := Aside0.mk hlk
  have HLD := Aside0.mk hld
  clear hlk hld
  go_wp2_with fail
  refine (Bytes_sh w.heap.size _ _ sh 0 0 w10 HSH.out (.slice A6 k c6) _ Row1.out (fun b q1 q2 => by have := HGW.out; have := HSZ1.out; have := HSw2.out; have := HSw3.out; have := HSw4.out; have := HSw5.out; have := HSw6.out; have := HSw7.out; have := HSw8.out; have := HSw9.out; have := HSw10.out; omega) (by rw [HLK.out]; have := HLIM.out; have := HK.out; omega) (by decide)).mono ?_
  rintro e_ w11 ⟨rfl, hs, hkk, hfar⟩
  have hsz := hkk.1
  replace HSH := Aside0.mk (hs.more (F' := (fun b => (w.heap.size ≤ b ∧ b < w1.heap.size) ∨ (w5.heap.size ≤ b ∧ b < w6.heap.size) ∨ (w10.heap.size ≤ b ∧ b < w11.heap.size))) (fun b q => by
    rcases q with ⟨q | q | q, q2⟩
    · have := HSZ1.out; have := HSw2.out; have := HSw3.out; have := HSw4.out; have := HSw5.out; have := HSw6.out; have := HSw7.out; have := HSw8.out; have := HSw9.out; have := HSw10.out; omega
    · have h9 := Row1.out.1 b q.symm
      simp only at h9
      have := HSZ1.out; have := HSw2.out; have := HSw3.out; have := HSw4.out; have := HSw5.out; have := HSw6.out; have := HSw7.out; have := HSw8.out; have := HSw9.out; have := HSw10.out
      omega
    · have := HSZ1.out; have := HSw2.out; have := HSw3.out; have := HSw4.out; have := HSw5.out; have := HSw6.out; have := HSw7.out; have := HSw8.out; have := HSw9.out; have := HSw10.out; omega) (fun b q => by have := HSZ1.out; have := HSw2.out; have := HSw3.out; have := HSw4.out; have := HSw5.out; have := HSw6.out; have := HSw7.out; have := HSw8.out; have := HSw9.out; have := HSw10.out; omega))
  replace HB := Aside0.mk (hfar _ _ (Nat.le_refl _) HB.out)
  have hkk2 : Kept w10 w11 (fun b => (w.heap.size ≤ b ∧ b < w1.heap.size)) := hkk.mono (fun b q => q.1)
  replace Row1 := Aside0.mk (Row1.out.typed hkk (by decide))
  have HSw11 := Aside0.mk (show w10.heap.size ≤ w11.heap.size from hsz)
  replace HWT := Aside0.mk (HWT.out.kept hkk2 (fun b q e => by have := HSZ1.out; have := HSw2.out; have := HSw3.out; have := HSw4.out; have := HSw5.out; have := HSw6.out; have := HSw7.out; have := HSw8.out; have := HSw9.out; have := HSw10.out; have := HSw11.out; omega) (fun e => by have := HGW.out; have := HSZ1.out; have := HSw2.out; have := HSw3.out; have := HSw4.out; have := HSw5.out; have := HSw6.out; have := HSw7.out; have := HSw8.out; have := HSw9.out; have := HSw10.out; have := HSw11.out; omega))
  replace Row2 := Aside0.mk (Row2.out.kept hkk2 (fun k q1 q2 e => by have := HSZ1.out; have := HSw2.out; have := HSw3.out; have := HSw4.out; have := HSw5.out; have := HSw6.out; have := HSw7.out; have := HSw8.out; have := HSw9.out; have := HSw10.out; have := HSw11.out; omega))
  clear hs hkk hkk2 hfar hsz
  go_wp2_with fail
  refine (Bytes_sh w.heap.size _ _ sh 1 0 w11 HSH.out (.slice A7 (l0.length - k) c7) _ Row2.out (fun b q1 q2 => by have := HGW.out; have := HSZ1.out; have := HSw2.out; have := HSw3.out; have := HSw4.out; have := HSw5.out; have := HSw6.out; have := HSw7.out; have := HSw8.out; have := HSw9.out; have := HSw10.out; have := HSw11.out; omega) (by rw [HLD.out]; have := HLIM.out; omega) (by decide)).mono ?_
  rintro e_ w12 ⟨rfl, hs, hkk, hfar⟩
  have hsz := hkk.1
  replace HSH := Aside0.mk (hs.more (F' := (fun b => (w.heap.size ≤ b ∧ b < w1.heap.size) ∨ (w5.heap.size ≤ b ∧ b < w6.heap.size) ∨ (w10.heap.size ≤ b ∧ b < w11.heap.size) ∨ (w6.heap.size ≤ b ∧ b < w7.heap.size) ∨ (w11.heap.size ≤ b ∧ b < w12.heap.size))) (fun b q => by
    rcases q with ⟨q | q | q, q2⟩
    · have := HSZ1.out; have := HSw2.out; have := HSw3.out; have := HSw4.out; have := HSw5.out; have := HSw6.out; have := HSw7.out; have := HSw8.out; have := HSw9.out; have := HSw10.out; have := HSw11.out; omega
    · have h9 := Row2.out.1 b q.symm
      simp only at h9
      have := HSZ1.out; have := HSw2.out; have := HSw3.out; have := HSw4.out; have := HSw5.out; have := HSw6.out; have := HSw7.out; have := HSw8.out; have := HSw9.out; have := HSw10.out; have := HSw11.out
      omega
    · have := HSZ1.out; have := HSw2.out; have := HSw3.out; have := HSw4.out; have := HSw5.out; have := HSw6.out; have := HSw7.out; have := HSw8.out; have := HSw9.out; have := HSw10.out; have := HSw11.out; omega) (fun b q => by have := HSZ1.out; have := HSw2.out; have := HSw3.out; have := HSw4.out; have := HSw5.out; have := HSw6.out; have := HSw7.out; have := HSw8.out; have := HSw9.out; have := HSw10.out; have := HSw11.out; omega))
  replace HB := Aside0.mk (hfar _ _ (Nat.le_refl _) HB.out)
  have hkk2 : Kept w11 w12 (fun b => (w.heap.size ≤ b ∧ b < w1.heap.size) ∨ (w5.heap.size ≤ b ∧ b < w6.heap.size) ∨ (w10.heap.size ≤ b ∧ b < w11.heap.size)) := hkk.mono (fun b q => q.1)
  replace Row1 := Aside0.mk (Row1.out.typed hkk (by decide))
  replace Row2 := Aside0.mk (Row2.out.typed hkk (by decide))
  have HSw12 := Aside0.mk (show w11.heap.size ≤ w12.heap.size from hsz)
  replace HWT := Aside0.mk (HWT.out.kept hkk2 (fun b q e => by have := HSZ1.out; have := HSw2.out; have := HSw3.out; have := HSw4.out; have := HSw5.out; have := HSw6.out; have := HSw7.out; have := HSw8.out; have := HSw9.out; have := HSw10.out; have := HSw11.out; have := HSw12.out; omega) (fun e => by have := HGW.out; have := HSZ1.out; have := HSw2.out; have := HSw3.out; have := HSw4.out; have := HSw5.out; have := HSw6.out; have := HSw7.out; have := HSw8.out; have := HSw9.out; have := HSw10.out; have := HSw11.out; have := HSw12.out; omega))
  clear hs hkk hkk2 hfar hsz
  go_wp2_with fail
  refine (slices_Clone_byte_byte.calls A0 c0 l0 l0 w12 (Kd.C_below HR0.out HB.out) HC0.out (by unfold slices_Clone_byte_byte.f; rw [if_pos (by have := HLIM.out; omega)])).mono ?_
  rintro e_ w13 ⟨v13, rfl, hR, hb⟩
  obtain ⟨A13, c13, e13⟩ := Kd.R_slice hR
  subst e13
  have HSw13 := Aside0.mk (show w12.heap.size ≤ w13.heap.size from (hb).size)
  replace HB := Aside0.mk (below_step HB.out (hb))
  replace HSH := Aside0.mk (HSH.out.step (hb))
  replace HWT := Aside0.mk (HWT.out.step (hb))
  replace Row1 := Aside0.mk (Row1.out.below (hb))
  replace Row2 := Aside0.mk (Row2.out.below (hb))
  have Row3 := Aside0.mk (Row.mk0 hR (show w.heap.size ≤ w12.heap.size by have := HSZ1.out; have := HSw2.out; have := HSw3.out; have := HSw4.out; have := HSw5.out; have := HSw6.out; have := HSw7.out; have := HSw8.out; have := HSw9.out; have := HSw10.out; have := HSw11.out; have := HSw12.out; have := HSw13.out; omega))
  clear hb hR
  go_wp2_with fail
  refine (Put_any HWT.out A13 c13 l0 (Kd.R_reads' Row3.out).2.2).mono ?_
  rintro e_ w14 ⟨r, bs, hfr, rfl, hbl, hwt, hb, hkk⟩
  have HFR := Aside0.mk hfr
  have HBL := Aside0.mk hbl
  have hkk2 : Kept w13 w14 (fun k => w3.heap.size ≤ k ∧ k < w4.heap.size) := hkk.mono (fun k q => q.elim id (fun q => by rw [q]; exact HGW.out))
  replace HB := Aside0.mk (below_far HB.out (show w.heap.size ≤ w3.heap.size by have := HSZ1.out; have := HSw2.out; have := HSw3.out; have := HSw4.out; have := HSw5.out; have := HSw6.out; have := HSw7.out; have := HSw8.out; have := HSw9.out; have := HSw10.out; have := HSw11.out; have := HSw12.out; have := HSw13.out; omega) hb)
  have HSw14 := Aside0.mk (show w13.heap.size ≤ w14.heap.size from (hkk2).1)
  replace HSH := Aside0.mk (HSH.out.kept hkk2 (fun b q e => by have := HSZ1.out; have := HSw2.out; have := HSw3.out; have := HSw4.out; have := HSw5.out; have := HSw6.out; have := HSw7.out; have := HSw8.out; have := HSw9.out; have := HSw10.out; have := HSw11.out; have := HSw12.out; have := HSw13.out; have := HSw14.out; omega))
  replace Row1 := Aside0.mk (Row1.out.kept hkk2 (fun k q1 q2 e => by have := HSZ1.out; have := HSw2.out; have := HSw3.out; have := HSw4.out; have := HSw5.out; have := HSw6.out; have := HSw7.out; have := HSw8.out; have := HSw9.out; have := HSw10.out; have := HSw11.out; have := HSw12.out; have := HSw13.out; have := HSw14.out; omega))
  replace Row2 := Aside0.mk (Row2.out.kept hkk2 (fun k q1 q2 e => by have := HSZ1.out; have := HSw2.out; have := HSw3.out; have := HSw4.out; have := HSw5.out; have := HSw6.out; have := HSw7.out; have := HSw8.out; have := HSw9.out; have := HSw10.out; have := HSw11.out; have := HSw12.out; have := HSw13.out; have := HSw14.out; omega))
  replace Row3 := Aside0.mk (Row3.out.kept hkk2 (fun k q1 q2 e => by have := HSZ1.out; have := HSw2.out; have := HSw3.out; have := HSw4.out; have := HSw5.out; have := HSw6.out; have := HSw7.out; have := HSw8.out; have := HSw9.out; have := HSw10.out; have := HSw11.out; have := HSw12.out; have := HSw13.out; have := HSw14.out; omega))
  replace HWT := Aside0.mk (hwt.tight.mono (ok' := (fun b => (w3.heap.size ≤ b ∧ b < w4.heap.size) ∨ (w13.heap.size ≤ b ∧ b < w14.heap.size))) (fun k q => q.1.elim .inl (fun h => .inr ⟨h, q.2.2⟩)))
  clear hfr hbl hwt hb hkk hkk2
  go_wp2_with fail
  refine (provisolaw01_fresh.calls A0 c0 l0 r w14 (Kd.C_below HR0.out HB.out) HC0.out HFR.out).mono ?_
  rintro e_ w15 ⟨rfl, q0⟩
  have hb := q0.below
  have HSw15 := Aside0.mk (show w14.heap.size ≤ w15.heap.size from (hb).size)
  replace HB := Aside0.mk (below_step HB.out (hb))
  replace HSH := Aside0.mk (HSH.out.step (hb))
  replace HWT := Aside0.mk (HWT.out.step (hb))
  replace Row1 := Aside0.mk (Row1.out.below (hb))
  replace Row2 := Aside0.mk (Row2.out.below (hb))
  replace Row3 := Aside0.mk (Row3.out.below (hb))
  clear hb q0
  go_wp2_with fail
  refine (Bytes_sh w.heap.size _ _ sh 2 0 w15 HSH.out (.slice A13 l0.length c13) _ Row3.out (fun b q1 q2 => by have := HGW.out; have := HSZ1.out; have := HSw2.out; have := HSw3.out; have := HSw4.out; have := HSw5.out; have := HSw6.out; have := HSw7.out; have := HSw8.out; have := HSw9.out; have := HSw10.out; have := HSw11.out; have := HSw12.out; have := HSw13.out; have := HSw14.out; have := HSw15.out; omega) (by have := HLIM.out; omega) (by decide)).mono ?_
  rintro e_ w16 ⟨rfl, hs, hkk, hfar⟩
  have hsz := hkk.1
  replace HSH := Aside0.mk (hs.more (F' := (fun b => (w.heap.size ≤ b ∧ b < w1.heap.size) ∨ (w5.heap.size ≤ b ∧ b < w6.heap.size) ∨ (w10.heap.size ≤ b ∧ b < w11.heap.size) ∨ (w6.heap.size ≤ b ∧ b < w7.heap.size) ∨ (w11.heap.size ≤ b ∧ b < w12.heap.size) ∨ (w12.heap.size ≤ b ∧ b < w13.heap.size) ∨ (w15.heap.size ≤ b ∧ b < w16.heap.size))) (fun b q => by
    rcases q with ⟨q | q | q, q2⟩
    · have := HSZ1.out; have := HSw2.out; have := HSw3.out; have := HSw4.out; have := HSw5.out; have := HSw6.out; have := HSw7.out; have := HSw8.out; have := HSw9.out; have := HSw10.out; have := HSw11.out; have := HSw12.out; have := HSw13.out; have := HSw14.out; have := HSw15.out; omega
    · have h9 := Row3.out.1 b q.symm
      simp only at h9
      have := HSZ1.out; have := HSw2.out; have := HSw3.out; have := HSw4.out; have := HSw5.out; have := HSw6.out; have := HSw7.out; have := HSw8.out; have := HSw9.out; have := HSw10.out; have := HSw11.out; have := HSw12.out; have := HSw13.out; have := HSw14.out; have := HSw15.out
      omega
    · have := HSZ1.out; have := HSw2.out; have := HSw3.out; have := HSw4.out; have := HSw5.out; have := HSw6.out; have := HSw7.out; have := HSw8.out; have := HSw9.out; have := HSw10.out; have := HSw11.out; have := HSw12.out; have := HSw13.out; have := HSw14.out; have := HSw15.out; omega) (fun b q => by have := HSZ1.out; have := HSw2.out; have := HSw3.out; have := HSw4.out; have := HSw5.out; have := HSw6.out; have := HSw7.out; have := HSw8.out; have := HSw9.out; have := HSw10.out; have := HSw11.out; have := HSw12.out; have := HSw13.out; have := HSw14.out; have := HSw15.out; omega))
  replace HB := Aside0.mk (hfar _ _ (Nat.le_refl _) HB.out)
  have hkk2 : Kept w15 w16 (fun b => (w.heap.size ≤ b ∧ b < w1.heap.size) ∨ (w5.heap.size ≤ b ∧ b < w6.heap.size) ∨ (w10.heap.size ≤ b ∧ b < w11.heap.size) ∨ (w6.heap.size ≤ b ∧ b < w7.heap.size) ∨ (w11.heap.size ≤ b ∧ b < w12.heap.size)) := hkk.mono (fun b q => q.1)
  replace Row1 := Aside0.mk (Row1.out.typed hkk (by decide))
  replace Row2 := Aside0.mk (Row2.out.typed hkk (by decide))
  replace Row3 := Aside0.mk (Row3.out.typed hkk (by decide))
  have HSw16 := Aside0.mk (show w15.heap.size ≤ w16.heap.size from hsz)
  replace HWT := Aside0.mk (HWT.out.kept hkk2 (fun b q e => by have := HSZ1.out; have := HSw2.out; have := HSw3.out; have := HSw4.out; have := HSw5.out; have := HSw6.out; have := HSw7.out; have := HSw8.out; have := HSw9.out; have := HSw10.out; have := HSw11.out; have := HSw12.out; have := HSw13.out; have := HSw14.out; have := HSw15.out; have := HSw16.out; omega) (fun e => by have := HGW.out; have := HSZ1.out; have := HSw2.out; have := HSw3.out; have := HSw4.out; have := HSw5.out; have := HSw6.out; have := HSw7.out; have := HSw8.out; have := HSw9.out; have := HSw10.out; have := HSw11.out; have := HSw12.out; have := HSw13.out; have := HSw14.out; have := HSw15.out; have := HSw16.out; omega))
  clear hs hkk hkk2 hfar hsz
  go_wp2_with fail
  refine (Bytes_wt HWT.out).mono ?_
  rintro e_ w17 ⟨v17, rfl, hR, hb⟩
  obtain ⟨A17, c17, e17⟩ := Kd.R_slice hR
  subst e17
  have HSw17 := Aside0.mk (show w16.heap.size ≤ w17.heap.size from (hb).size)
  replace HB := Aside0.mk (below_step HB.out (hb))
  replace HSH := Aside0.mk (HSH.out.step (hb))
  replace HWT := Aside0.mk (HWT.out.step (hb))
  replace Row1 := Aside0.mk (Row1.out.below (hb))
  replace Row2 := Aside0.mk (Row2.out.below (hb))
  replace Row3 := Aside0.mk (Row3.out.below (hb))
  have Row4 := Aside0.mk (Row.mk0 hR (show w.heap.size ≤ w16.heap.size by have := HSZ1.out; have := HSw2.out; have := HSw3.out; have := HSw4.out; have := HSw5.out; have := HSw6.out; have := HSw7.out; have := HSw8.out; have := HSw9.out; have := HSw10.out; have := HSw11.out; have := HSw12.out; have := HSw13.out; have := HSw14.out; have := HSw15.out; have := HSw16.out; have := HSw17.out; omega))
  clear hb hR
  go_wp2_with fail
  refine (Bytes_wt HWT.out).mono ?_
  rintro e_ w18 ⟨v18, rfl, hR, hb⟩
  obtain ⟨A18, c18, e18⟩ := Kd.R_slice hR
  subst e18
  have HSw18 := Aside0.mk (show w17.heap.size ≤ w18.heap.size from (hb).size)
  replace HB := Aside0.mk (below_step HB.out (hb))
  replace HSH := Aside0.mk (HSH.out.step (hb))
  replace HWT := Aside0.mk (HWT.out.step (hb))
  replace Row1 := Aside0.mk (Row1.out.below (hb))
  replace Row2 := Aside0.mk (Row2.out.below (hb))
  replace Row3 := Aside0.mk (Row3.out.below (hb))
  replace Row4 := Aside0.mk (Row4.out.below (hb))
  have Row5 := Aside0.mk (Row.mk0 hR (show w.heap.size ≤ w17.heap.size by have := HSZ1.out; have := HSw2.out; have := HSw3.out; have := HSw4.out; have := HSw5.out; have := HSw6.out; have := HSw7.out; have := HSw8.out; have := HSw9.out; have := HSw10.out; have := HSw11.out; have := HSw12.out; have := HSw13.out; have := HSw14.out; have := HSw15.out; have := HSw16.out; have := HSw17.out; have := HSw18.out; omega))
  clear hb hR
  go_wp2_with fail
  refine (slices_Equal_byte_byte.calls KK A17 c17 bs A18 c18 bs true w18 (Kd.R_reads' Row4.out).2.2 (Kd.R_reads' Row4.out).2.1 (Kd.R_reads' Row5.out).2.2 (Kd.R_reads' Row5.out).2.1 (HEQ.out bs (by have := HBL.out; omega))).mono ?_
  rintro e_ w19 ⟨rfl, q0⟩
  have hb := q0.below
  have HSw19 := Aside0.mk (show w18.heap.size ≤ w19.heap.size from (hb).size)
  replace HB := Aside0.mk (below_step HB.out (hb))
  replace HSH := Aside0.mk (HSH.out.step (hb))
  replace HWT := Aside0.mk (HWT.out.step (hb))
  replace Row1 := Aside0.mk (Row1.out.below (hb))
  replace Row2 := Aside0.mk (Row2.out.below (hb))
  replace Row3 := Aside0.mk (Row3.out.below (hb))
  replace Row4 := Aside0.mk (Row4.out.below (hb))
  replace Row5 := Aside0.mk (Row5.out.below (hb))
  clear hb q0
  go_wp2_with fail
  refine (Bytes_sh w.heap.size _ _ sh 3 0 w19 HSH.out (.slice A17 bs.length c17) _ Row4.out (fun b q1 q2 => by have := HGW.out; have := HSZ1.out; have := HSw2.out; have := HSw3.out; have := HSw4.out; have := HSw5.out; have := HSw6.out; have := HSw7.out; have := HSw8.out; have := HSw9.out; have := HSw10.out; have := HSw11.out; have := HSw12.out; have := HSw13.out; have := HSw14.out; have := HSw15.out; have := HSw16.out; have := HSw17.out; have := HSw18.out; have := HSw19.out; omega) (by have := HBL.out; omega) (by decide)).mono ?_
  rintro e_ w20 ⟨rfl, hs, hkk, hfar⟩
  have hsz := hkk.1
  replace HSH := Aside0.mk (hs.more (F' := (fun b => (w.heap.size ≤ b ∧ b < w1.heap.size) ∨ (w5.heap.size ≤ b ∧ b < w6.heap.size) ∨ (w10.heap.size ≤ b ∧ b < w11.heap.size) ∨ (w6.heap.size ≤ b ∧ b < w7.heap.size) ∨ (w11.heap.size ≤ b ∧ b < w12.heap.size) ∨ (w12.heap.size ≤ b ∧ b < w13.heap.size) ∨ (w15.heap.size ≤ b ∧ b < w16.heap.size) ∨ (w16.heap.size ≤ b ∧ b < w17.heap.size) ∨ (w19.heap.size ≤ b ∧ b < w20.heap.size))) (fun b q => by
    rcases q with ⟨q | q | q, q2⟩
    · have := HSZ1.out; have := HSw2.out; have := HSw3.out; have := HSw4.out; have := HSw5.out; have := HSw6.out; have := HSw7.out; have := HSw8.out; have := HSw9.out; have := HSw10.out; have := HSw11.out; have := HSw12.out; have := HSw13.out; have := HSw14.out; have := HSw15.out; have := HSw16.out; have := HSw17.out; have := HSw18.out; have := HSw19.out; omega
    · have h9 := Row4.out.1 b q.symm
      simp only at h9
      have := HSZ1.out; have := HSw2.out; have := HSw3.out; have := HSw4.out; have := HSw5.out; have := HSw6.out; have := HSw7.out; have := HSw8.out; have := HSw9.out; have := HSw10.out; have := HSw11.out; have := HSw12.out; have := HSw13.out; have := HSw14.out; have := HSw15.out; have := HSw16.out; have := HSw17.out; have := HSw18.out; have := HSw19.out
      omega
    · have := HSZ1.out; have := HSw2.out; have := HSw3.out; have := HSw4.out; have := HSw5.out; have := HSw6.out; have := HSw7.out; have := HSw8.out; have := HSw9.out; have := HSw10.out; have := HSw11.out; have := HSw12.out; have := HSw13.out; have := HSw14.out; have := HSw15.out; have := HSw16.out; have := HSw17.out; have := HSw18.out; have := HSw19.out; omega) (fun b q => by have := HSZ1.out; have := HSw2.out; have := HSw3.out; have := HSw4.out; have := HSw5.out; have := HSw6.out; have := HSw7.out; have := HSw8.out; have := HSw9.out; have := HSw10.out; have := HSw11.out; have := HSw12.out; have := HSw13.out; have := HSw14.out; have := HSw15.out; have := HSw16.out; have := HSw17.out; have := HSw18.out; have := HSw19.out; omega))
  replace HB := Aside0.mk (hfar _ _ (Nat.le_refl _) HB.out)
  have hkk2 : Kept w19 w20 (fun b => (w.heap.size ≤ b ∧ b < w1.heap.size) ∨ (w5.heap.size ≤ b ∧ b < w6.heap.size) ∨ (w10.heap.size ≤ b ∧ b < w11.heap.size) ∨ (w6.heap.size ≤ b ∧ b < w7.heap.size) ∨ (w11.heap.size ≤ b ∧ b < w12.heap.size) ∨ (w12.heap.size ≤ b ∧ b < w13.heap.size) ∨ (w15.heap.size ≤ b ∧ b < w16.heap.size)) := hkk.mono (fun b q => q.1)
  replace Row1 := Aside0.mk (Row1.out.typed hkk (by decide))
  replace Row2 := Aside0.mk (Row2.out.typed hkk (by decide))
  replace Row3 := Aside0.mk (Row3.out.typed hkk (by decide))
  replace Row4 := Aside0.mk (Row4.out.typed hkk (by decide))
  have HSw20 := Aside0.mk (show w19.heap.size ≤ w20.heap.size from hsz)
  replace HWT := Aside0.mk (HWT.out.kept hkk2 (fun b q e => by have := HSZ1.out; have := HSw2.out; have := HSw3.out; have := HSw4.out; have := HSw5.out; have := HSw6.out; have := HSw7.out; have := HSw8.out; have := HSw9.out; have := HSw10.out; have := HSw11.out; have := HSw12.out; have := HSw13.out; have := HSw14.out; have := HSw15.out; have := HSw16.out; have := HSw17.out; have := HSw18.out; have := HSw19.out; have := HSw20.out; omega) (fun e => by have := HGW.out; have := HSZ1.out; have := HSw2.out; have := HSw3.out; have := HSw4.out; have := HSw5.out; have := HSw6.out; have := HSw7.out; have := HSw8.out; have := HSw9.out; have := HSw10.out; have := HSw11.out; have := HSw12.out; have := HSw13.out; have := HSw14.out; have := HSw15.out; have := HSw16.out; have := HSw17.out; have := HSw18.out; have := HSw19.out; have := HSw20.out; omega))
  replace Row5 := Aside0.mk (Row5.out.kept hkk2 (fun k q1 q2 e => by have := HSZ1.out; have := HSw2.out; have := HSw3.out; have := HSw4.out; have := HSw5.out; have := HSw6.out; have := HSw7.out; have := HSw8.out; have := HSw9.out; have := HSw10.out; have := HSw11.out; have := HSw12.out; have := HSw13.out; have := HSw14.out; have := HSw15.out; have := HSw16.out; have := HSw17.out; have := HSw18.out; have := HSw19.out; have := HSw20.out; omega))
  clear hs hkk hkk2 hfar hsz
  go_wp2_with fail
  refine (Bytes_sh w.heap.size _ _ sh 4 0 w20 HSH.out (.slice A18 bs.length c18) _ Row5.out (fun b q1 q2 => by have := HGW.out; have := HSZ1.out; have := HSw2.out; have := HSw3.out; have := HSw4.out; have := HSw5.out; have := HSw6.out; have := HSw7.out; have := HSw8.out; have := HSw9.out; have := HSw10.out; have := HSw11.out; have := HSw12.out; have := HSw13.out; have := HSw14.out; have := HSw15.out; have := HSw16.out; have := HSw17.out; have := HSw18.out; have := HSw19.out; have := HSw20.out; omega) (by have := HBL.out; omega) (by decide)).mono ?_
  rintro e_ w21 ⟨rfl, hs, hkk, hfar⟩
  have hsz := hkk.1
  replace HSH := Aside0.mk (hs.more (F' := (fun b => (w.heap.size ≤ b ∧ b < w1.heap.size) ∨ (w5.heap.size ≤ b ∧ b < w6.heap.size) ∨ (w10.heap.size ≤ b ∧ b < w11.heap.size) ∨ (w6.heap.size ≤ b ∧ b < w7.heap.size) ∨ (w11.heap.size ≤ b ∧ b < w12.heap.size) ∨ (w12.heap.size ≤ b ∧ b < w13.heap.size) ∨ (w15.heap.size ≤ b ∧ b < w16.heap.size) ∨ (w16.heap.size ≤ b ∧ b < w17.heap.size) ∨ (w19.heap.size ≤ b ∧ b < w20.heap.size) ∨ (w17.heap.size ≤ b ∧ b < w18.heap.size) ∨ (w20.heap.size ≤ b ∧ b < w21.heap.size))) (fun b q => by
    rcases q with ⟨q | q | q, q2⟩
    · have := HSZ1.out; have := HSw2.out; have := HSw3.out; have := HSw4.out; have := HSw5.out; have := HSw6.out; have := HSw7.out; have := HSw8.out; have := HSw9.out; have := HSw10.out; have := HSw11.out; have := HSw12.out; have := HSw13.out; have := HSw14.out; have := HSw15.out; have := HSw16.out; have := HSw17.out; have := HSw18.out; have := HSw19.out; have := HSw20.out; omega
    · have h9 := Row5.out.1 b q.symm
      simp only at h9
      have := HSZ1.out; have := HSw2.out; have := HSw3.out; have := HSw4.out; have := HSw5.out; have := HSw6.out; have := HSw7.out; have := HSw8.out; have := HSw9.out; have := HSw10.out; have := HSw11.out; have := HSw12.out; have := HSw13.out; have := HSw14.out; have := HSw15.out; have := HSw16.out; have := HSw17.out; have := HSw18.out; have := HSw19.out; have := HSw20.out
      omega
    · have := HSZ1.out; have := HSw2.out; have := HSw3.out; have := HSw4.out; have := HSw5.out; have := HSw6.out; have := HSw7.out; have := HSw8.out; have := HSw9.out; have := HSw10.out; have := HSw11.out; have := HSw12.out; have := HSw13.out; have := HSw14.out; have := HSw15.out; have := HSw16.out; have := HSw17.out; have := HSw18.out; have := HSw19.out; have := HSw20.out; omega) (fun b q => by have := HSZ1.out; have := HSw2.out; have := HSw3.out; have := HSw4.out; have := HSw5.out; have := HSw6.out; have := HSw7.out; have := HSw8.out; have := HSw9.out; have := HSw10.out; have := HSw11.out; have := HSw12.out; have := HSw13.out; have := HSw14.out; have := HSw15.out; have := HSw16.out; have := HSw17.out; have := HSw18.out; have := HSw19.out; have := HSw20.out; omega))
  replace HB := Aside0.mk (hfar _ _ (Nat.le_refl _) HB.out)
  have hkk2 : Kept w20 w21 (fun b => (w.heap.size ≤ b ∧ b < w1.heap.size) ∨ (w5.heap.size ≤ b ∧ b < w6.heap.size) ∨ (w10.heap.size ≤ b ∧ b < w11.heap.size) ∨ (w6.heap.size ≤ b ∧ b < w7.heap.size) ∨ (w11.heap.size ≤ b ∧ b < w12.heap.size) ∨ (w12.heap.size ≤ b ∧ b < w13.heap.size) ∨ (w15.heap.size ≤ b ∧ b < w16.heap.size) ∨ (w16.heap.size ≤ b ∧ b < w17.heap.size) ∨ (w19.heap.size ≤ b ∧ b < w20.heap.size)) := hkk.mono (fun b q => q.1)
  replace Row1 := Aside0.mk (Row1.out.typed hkk (by decide))
  replace Row2 := Aside0.mk (Row2.out.typed hkk (by decide))
  replace Row3 := Aside0.mk (Row3.out.typed hkk (by decide))
  replace Row4 := Aside0.mk (Row4.out.typed hkk (by decide))
  replace Row5 := Aside0.mk (Row5.out.typed hkk (by decide))
  have HSw21 := Aside0.mk (show w20.heap.size ≤ w21.heap.size from hsz)
  replace HWT := Aside0.mk (HWT.out.kept hkk2 (fun b q e => by have := HSZ1.out; have := HSw2.out; have := HSw3.out; have := HSw4.out; have := HSw5.out; have := HSw6.out; have := HSw7.out; have := HSw8.out; have := HSw9.out; have := HSw10.out; have := HSw11.out; have := HSw12.out; have := HSw13.out; have := HSw14.out; have := HSw15.out; have := HSw16.out; have := HSw17.out; have := HSw18.out; have := HSw19.out; have := HSw20.out; have := HSw21.out; omega) (fun e => by have := HGW.out; have := HSZ1.out; have := HSw2.out; have := HSw3.out; have := HSw4.out; have := HSw5.out; have := HSw6.out; have := HSw7.out; have := HSw8.out; have := HSw9.out; have := HSw10.out; have := HSw11.out; have := HSw12.out; have := HSw13.out; have := HSw14.out; have := HSw15.out; have := HSw16.out; have := HSw17.out; have := HSw18.out; have := HSw19.out; have := HSw20.out; have := HSw21.out; omega))
  clear hs hkk hkk2 hfar hsz
  go_wp2_with fail
  refine (slices_Clone_byte_byte.calls A17 c17 bs bs w21 (Kd.R_reads' Row4.out).2.2 (Kd.R_reads' Row4.out).2.1 (by unfold slices_Clone_byte_byte.f; rw [if_pos (by have := HBL.out; omega)])).mono ?_
  rintro e_ w22 ⟨v22, rfl, hR, hb⟩
  obtain ⟨A22, c22, e22⟩ := Kd.R_slice hR
  subst e22
  have HSw22 := Aside0.mk (show w21.heap.size ≤ w22.heap.size from (hb).size)
  replace HB := Aside0.mk (below_step HB.out (hb))
  replace HSH := Aside0.mk (HSH.out.step (hb))
  replace HWT := Aside0.mk (HWT.out.step (hb))
  replace Row1 := Aside0.mk (Row1.out.below (hb))
  replace Row2 := Aside0.mk (Row2.out.below (hb))
  replace Row3 := Aside0.mk (Row3.out.below (hb))
  replace Row4 := Aside0.mk (Row4.out.below (hb))
  replace Row5 := Aside0.mk (Row5.out.below (hb))
  have Row6 := Aside0.mk (Row.mk0 hR (show w.heap.size ≤ w21.heap.size by have := HSZ1.out; have := HSw2.out; have := HSw3.out; have := HSw4.out; have := HSw5.out; have := HSw6.out; have := HSw7.out; have := HSw8.out; have := HSw9.out; have := HSw10.out; have := HSw11.out; have := HSw12.out; have := HSw13.out; have := HSw14.out; have := HSw15.out; have := HSw16.out; have := HSw17.out; have := HSw18.out; have := HSw19.out; have := HSw20.out; have := HSw21.out; have := HSw22.out; omega))
  clear hb hR
  go_wp2_with fail
  refine (Own_sh w.heap.size _ sh 5 0 w22 HSH.out (by decide) (by decide)).mono ?_
  rintro e_ w23 ⟨rfl, hkk, hfar⟩
  replace HB := Aside0.mk (hfar _ _ (Nat.le_refl _) HB.out)
  clear hfar Row1 Row2 Row3 Row4 Row5
  have HSw23 := Aside0.mk (show w22.heap.size ≤ w23.heap.size from (hkk).1)
  replace HWT := Aside0.mk (HWT.out.kept hkk (fun b q e => by have := HSZ1.out; have := HSw2.out; have := HSw3.out; have := HSw4.out; have := HSw5.out; have := HSw6.out; have := HSw7.out; have := HSw8.out; have := HSw9.out; have := HSw10.out; have := HSw11.out; have := HSw12.out; have := HSw13.out; have := HSw14.out; have := HSw15.out; have := HSw16.out; have := HSw17.out; have := HSw18.out; have := HSw19.out; have := HSw20.out; have := HSw21.out; have := HSw22.out; have := HSw23.out; omega) (fun e => by have := HGW.out; have := HSZ1.out; have := HSw2.out; have := HSw3.out; have := HSw4.out; have := HSw5.out; have := HSw6.out; have := HSw7.out; have := HSw8.out; have := HSw9.out; have := HSw10.out; have := HSw11.out; have := HSw12.out; have := HSw13.out; have := HSw14.out; have := HSw15.out; have := HSw16.out; have := HSw17.out; have := HSw18.out; have := HSw19.out; have := HSw20.out; have := HSw21.out; have := HSw22.out; have := HSw23.out; omega))
  replace Row6 := Aside0.mk (Row6.out.kept hkk (fun k q1 q2 e => by have := HSZ1.out; have := HSw2.out; have := HSw3.out; have := HSw4.out; have := HSw5.out; have := HSw6.out; have := HSw7.out; have := HSw8.out; have := HSw9.out; have := HSw10.out; have := HSw11.out; have := HSw12.out; have := HSw13.out; have := HSw14.out; have := HSw15.out; have := HSw16.out; have := HSw17.out; have := HSw18.out; have := HSw19.out; have := HSw20.out; have := HSw21.out; have := HSw22.out; have := HSw23.out; omega))
  clear hkk HSH
  go_wp2_with fail
  refine (Bytes_wt HWT.out).mono ?_
  rintro e_ w24 ⟨v24, rfl, hR, hb⟩
  obtain ⟨A24, c24, e24⟩ := Kd.R_slice hR
  subst e24
  have HSw24 := Aside0.mk (show w23.heap.size ≤ w24.heap.size from (hb).size)
  replace HB := Aside0.mk (below_step HB.out (hb))
  replace HWT := Aside0.mk (HWT.out.step (hb))
  replace Row6 := Aside0.mk (Row6.out.below (hb))
  have Row7 := Aside0.mk (Row.mk0 hR (show w.heap.size ≤ w23.heap.size by have := HSZ1.out; have := HSw2.out; have := HSw3.out; have := HSw4.out; have := HSw5.out; have := HSw6.out; have := HSw7.out; have := HSw8.out; have := HSw9.out; have := HSw10.out; have := HSw11.out; have := HSw12.out; have := HSw13.out; have := HSw14.out; have := HSw15.out; have := HSw16.out; have := HSw17.out; have := HSw18.out; have := HSw19.out; have := HSw20.out; have := HSw21.out; have := HSw22.out; have := HSw23.out; have := HSw24.out; omega))
  clear hb hR
  go_wp2_with fail
  refine (slices_Equal_byte_byte.calls KK A24 c24 bs A22 c22 bs true w24 (Kd.R_reads' Row7.out).2.2 (Kd.R_reads' Row7.out).2.1 (Kd.R_reads' Row6.out).2.2 (Kd.R_reads' Row6.out).2.1 (HEQ.out bs (by have := HBL.out; omega))).mono ?_
  rintro e_ w25 ⟨rfl, q0⟩
  have hb := q0.below
  have HSw25 := Aside0.mk (show w24.heap.size ≤ w25.heap.size from (hb).size)
  replace HB := Aside0.mk (below_step HB.out (hb))
  replace HWT := Aside0.mk (HWT.out.step (hb))
  replace Row6 := Aside0.mk (Row6.out.below (hb))
  replace Row7 := Aside0.mk (Row7.out.below (hb))
  clear hb q0
  go_wp2_with fail
  refine (Byte1_any HWT.out HBL.out).mono ?_
  rintro e_ w26 ⟨r2, hfu, rfl, hb⟩
  replace HB := Aside0.mk (below_far HB.out (show w.heap.size ≤ w3.heap.size by have := HSZ1.out; have := HSw2.out; have := HSw3.out; have := HSw4.out; have := HSw5.out; have := HSw6.out; have := HSw7.out; have := HSw8.out; have := HSw9.out; have := HSw10.out; have := HSw11.out; have := HSw12.out; have := HSw13.out; have := HSw14.out; have := HSw15.out; have := HSw16.out; have := HSw17.out; have := HSw18.out; have := HSw19.out; have := HSw20.out; have := HSw21.out; have := HSw22.out; have := HSw23.out; have := HSw24.out; have := HSw25.out; omega) hb)
  have HFU := Aside0.mk hfu
  clear hfu hb
  go_wp2_with fail
  refine (provisolaw01_full.calls _ r2 w26 HFU.out).mono ?_
  rintro e_ w27 ⟨rfl, m, rfl⟩
  go_wp2_with fail
  go_ret
  exact ⟨rfl, pw_below_drewN HB.out m⟩
end Go.Proofs.Ytklbkonehcjmjaa.P

end

section
namespace Go.Proofs.Ytklbkonehcjmjaa.P
open Go.RowKit Go.Proofs.YtklbkonehcjmjaaW.PrintWords
def provisolaw01_WireOwn.Pure : Prop := ∀ (l0 : List (Int)) (a1 : Int), (fun l : List (Int) => l.length ≤ 9223372036854775807 ∧ l.length * 1 ≤ 140737488351232 ∧ ∀ x ∈ l, (fun n : Int => (Lit.int .u8 n).wf = true) x) l0 → (fun n : Int => (Lit.int .i64 n).wf = true) a1 → provisolaw01_WireOwn.Facts l0 a1
end Go.Proofs.Ytklbkonehcjmjaa.P

end

section
namespace Go.Proofs.Ytklbkonehcjmjaa.P
open Go.RowKit Go.Proofs.YtklbkonehcjmjaaW.PrintWords Go.Proofs.YtklbkonehcjmjaaW.PrintLast Go.Proofs.YtklbkonehcjmjaaW.PrintMore
set_option linter.unusedVariables false
set_option linter.unusedSimpArgs false
theorem equal_self (xs : List Int) (hl : xs.length ≤ 9223372036854775807) : ∀ (d i k : Nat), i + d = xs.length → d < k → slices_Equal_byte_byte.l0 k xs xs (xs.length : Int) (i : Int) = some true
  | 0, i, k, hd, hk => by
    obtain ⟨k, rfl⟩ : ∃ m, k = m + 1 := ⟨k - 1, by omega⟩
    simp only [slices_Equal_byte_byte.l0]
    rw [if_neg (by omega)]
  | d + 1, i, k, hd, hk => by
    obtain ⟨k, rfl⟩ : ∃ m, k = m + 1 := ⟨k - 1, by omega⟩
    have hw : wrap64 ((i : Int) + 1) = ((i + 1 : Nat) : Int) := by unfold wrap64; omega
    have ih := equal_self xs hl d (i + 1) k (by omega) (by omega)
    simp only [slices_Equal_byte_byte.l0]
    rw [if_pos (by omega), if_pos (by omega), if_pos (by omega), if_pos (by omega), if_pos trivial, hw]
    exact ih
theorem equal_is (xs : List Int) (hl : xs.length ≤ 9223372036854775807) (k : Nat) (hk : xs.length < k) : slices_Equal_byte_byte.f k xs xs = some true := by
  unfold slices_Equal_byte_byte.f
  rw [if_pos rfl]
  exact equal_self xs hl xs.length 0 k (by omega) hk
end Go.Proofs.Ytklbkonehcjmjaa.P

end

section
namespace Go.Proofs.Ytklbkonehcjmjaa.Pure
open Go.RowKit Go.Proofs.Ytklbkonehcjmjaa.P Go.Proofs.YtklbkonehcjmjaaW.PrintWords Go.Proofs.YtklbkonehcjmjaaW.PrintLast Go.Proofs.YtklbkonehcjmjaaW.PrintMore
theorem WireOwn : provisolaw01_WireOwn.Pure := by
  intro l0 a1 h0 _
  refine ⟨by have := h0.2.1; omega, fun x hx => ?_, 140737488355328, fun xs hl => equal_is xs (by omega) _ (by omega)⟩
  have := h0.2.2 x hx
  simp [Lit.wf, IntKind.min, IntKind.max, IntKind.signed, IntKind.bits] at this
  exact this
end Go.Proofs.Ytklbkonehcjmjaa.Pure

end

section
namespace Go.Proofs.Ytklbkonehcjmjaa.wireOwn
open Go.ChangeShapes Go.WideShapes Go.ChangeAt Go.RowKit Go.Proofs.YtklbkonehcjmjaaW.PrintWords Go.Proofs.Ytklbkonehcjmjaa.Sees Go.Proofs.Ytklbkonehcjmjaa.P
open Go.ChangeMaps (open_string shut_string)
set_option linter.unusedVariables false
set_option linter.unusedSimpArgs false
theorem own : ownKnob Try.prog.godebug = none := by kernel_rfl
theorem laidOut : laidOutB Try.prog = true := by kernel_rfl
set_option maxRecDepth 100000 in
theorem lifted (os : Os) (started : os.Started) (H : Type) (enc : TypeId × Value → H) :
    ReturnsInHanded {} Try.checked os 7 .any (Rows.wireOwnSpec.pre6 enc Try.prog Try.f7 Rows.wireOwnRow.domain false) (Rows.wireOwnSpec.post enc Try.prog Try.f7 false true false false) := by
  refine returnsInHanded_of_change_sized (C := Try.checked) own started (by kernel_rfl) Try.func7
    (ChangeSpec.witness6 (enc := enc) (C := Try.checked) false ⟨#[], #[.slice none 0 0, .int .i64 0], []⟩ 8 (by kernel_rfl) (by kernel_rfl) (by kernel_rfl) (by kernel_rfl)) ?_
  intro W base args ds gs before hval0 hW hcnd hsz0 _
  have hsz : (DataW.weightsEach Try.prog (Try.f7.params.toList ++ Rows.wireOwnSpec.plain.varTypes Try.prog) (ds ++ gs)).all (· ≤ reachBytes) = true := hsz0
  have hval : ∀ (j : Nat) t v, Try.f7.params[j]? = some t → args[j]? = some v → Value.okWide Try.prog W .any base t v := hval0
  have hW' := hW
  obtain ⟨p, q, hA0, hV, rfl, hfz, hnd⟩ := hW
  have hA : DataW.TrodAll enc Try.prog W 0 (fun _ => true) true Try.f7.params.toList args.toList ds p := hA0
  rw [Try.params7] at hA hval hsz
  obtain ⟨v0, vs0, d0, ds0, p0, q0, hargs, rfl, rfl, h0, r0⟩ := trodAll_cons hA
  obtain ⟨v1, vs1, d1, ds1, p1, q1, rfl, rfl, rfl, h1, r1⟩ := trodAll_cons r0
  obtain ⟨rfl, rfl, rfl⟩ := trodAll_nil r1
  obtain rfl : args = #[v0, v1] := by cases args; simp_all
  obtain ⟨rfl, rfl⟩ := trodVars_none hV
  have k0 := h0
  have lt0 : ∀ x ∈ p0, x.block < W.heap.size := by obtain ⟨m, hm⟩ := k0; exact DataW.trod_lt m _ _ _ hm
  obtain ⟨y0, hy0, oy0⟩ := see_arg (j := 0) (t := 23) (sees_slice (B := 1) Try.underlying23 (by kernel_rfl) (by kernel_rfl) (sees_int Try.underlying5)) hsz rfl rfl h0
  obtain ⟨a0, len0, cap0, rfl⟩ := okWide_slice Try.underlying23 (hval 0 23 v0 rfl rfl)
  obtain ⟨rfl, hc0, hr0⟩ := see_slice rfl hy0
  have k1 := h1
  have lt1 : ∀ x ∈ p1, x.block < W.heap.size := by obtain ⟨m, hm⟩ := k1; exact DataW.trod_lt m _ _ _ hm
  obtain ⟨y1, hy1, oy1⟩ := see_arg (j := 1) (t := 3) (sees_int Try.underlying3) hsz rfl rfl h1
  obtain ⟨z1, rfl, rfl, rfl, _⟩ := open_int Try.underlying3 (hval 1 3 v1 rfl rfl) h1
  obtain rfl : z1 = y1 := by have e_ := hy1; simp [Kd.int, Kd.bool, Kd.string, Kd.scalar, Value.cells] at e_; exact e_
  clear hA0 hval0 hsz0 hsz
  have hk := Pure.WireOwn y0 z1 oy0 oy1
  refine (provisolaw01_WireOwn.calls _ _ y0 z1 W hr0 hc0 hk).mono ?_
  rintro e W' ⟨rfl, bel0⟩
  have bel : Below W.heap.size W W' := bel0
  exact ⟨_, rfl, _, _, _, [], _, [], hW', trodAll_mk1 (shut_bool Try.underlying4 _), (trodAll_cons_mk (Below.trod laidOut (by kernel_rfl) (of_decide_eq_true (by kernel_rfl)) k0 bel lt0) (trodAll_cons_mk (Below.trod laidOut (by kernel_rfl) (of_decide_eq_true (by kernel_rfl)) k1 bel lt1) trodAll_mk0)), rfl, bel.frame _, fun h => by cases h⟩
theorem over : Rows.wireOwnRow.holds Try.pinned (OpenSpec.ofChange Rows.wireOwnSpec) :=
  OpenClaim.holds_of_wide 7 Try.f7 rfl rfl rfl rfl rfl rfl rfl ⟨rfl, rfl, rfl, rfl, rfl⟩ rfl rfl rfl rfl rfl (by kernel_rfl) Try.func7 (by kernel_rfl)
    (of_decide_eq_true (by kernel_rfl)) (by unfold Func.isWrapper; first | (rw [if_pos (by decide +kernel)]; kernel_rfl) | (rw [if_neg (by decide +kernel)]; exact ⟨rfl, rfl⟩))
    (fun os started H enc _ => lifted os started H enc)
theorem proved : Rows.WireOwnSaid := over
end Go.Proofs.Ytklbkonehcjmjaa.wireOwn
namespace Go.Proofs.Ytklbkonehcjmjaa
theorem wireOwn_holds : Rows.WireOwnSaid := wireOwn.proved
end Go.Proofs.Ytklbkonehcjmjaa

end

