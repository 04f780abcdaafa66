/- Proved: the law TypesSteps holds for every input that the row lets in. No condition of ours. -/
import Derived.Test.YtghgloepameloaaBTypesStepsc
import Derived.Test.YtghgloepameloaaRows
import Derived.ShutString
import Derived.ChangeOld
import Derived.Lib.SmallJoins
section
namespace Go.Proofs.Ytghgloepameloaa.P
open Go.RowKit Go.Proofs.YtghgloepameloaaW.PrintWords Go.Proofs.YtghgloepameloaaW.PrintLast Go.Proofs.YtghgloepameloaaW.PrintMore
attribute [local go_sem] max2_int min2_int max_two min_two max_three min_three max_four min_four   -- for this text's walks alone
set_option linter.unusedVariables false
set_option linter.unusedSimpArgs false

set_option maxHeartbeats 8000000 in
set_option maxRecDepth 100000 in
theorem provisoref02_Made.calls (k : Nat) (A0 : Option Addr) (c0 : Nat) (l0 : List (S38)) (r : Bool) (w : World) (hr0 : Kd.C k38 w A0 l0.length l0) (hc0 : l0.length ≤ c0) (h : provisoref02_Made.f k l0 = some r) :
    Calls Try.prog 11 #[.slice A0 l0.length c0] w fun e w' => e = .returned (.bool r) ∧ Below w.heap.size w w' := by
  have HR0 := Aside0.mk hr0
  have HC0 := Aside0.mk hc0
  clear hr0 hc0
  have HB := Aside0.mk (Below.refl w.heap.size w)
  have H : ((provisoref02_Check.f k l0).bind fun bt135 => (some (bt135.2 == 0))) = some r := h
  clear h
  replace H := Option.bind_eq_some_iff.mp H
  obtain ⟨⟨t135, t136⟩, A20, H⟩ := H
  replace H : (some (t136 == 0)) = some r := H
  have A2 := Aside0.mk A20
  clear A20
  obtain rfl := Option.some.inj H
  go_enter Try.func11, Try.ntmps11
  go_wp2_with (first | ((with_reducible refine gate_callee (f := 37) rfl ?_); refine goesL_ (some 7) rfl rfl Try.func37 (by kernel_rfl) rfl #[.slice A0 l0.length c0] rfl (by (try simp only [List.map_toArray, List.map_cons, List.map_nil]); first | done | rfl | (simp only [List.length_drop, List.length_take]; rfl)) ?_; (with_reducible refine (provisoref02_Check.calls k _ _ l0 t135 t136 _ ?side1 ?side2 A2.out).mono ?_); (case side1 => repeat (first | exact HR0.out | (with_reducible refine Kd.C_alloc ?_ _) | (with_reducible refine Kd.C_drewN ?_ _) | (with_reducible refine Kd.C_drew ?_))); (case side2 => exact HC0.out); rintro e w3 ⟨rfl, hb⟩; refine ⟨_, rfl, ?_⟩; have n0_ := Aside0.mk (below_step (by repeat (first | (with_reducible first | exact HB.out | apply below_alloc | apply pw_below_drewN | apply below_drew1) | exact HB.out)) hb); clear HB; have HB := n0_; clear n0_; (try clear hb); (try clear hb2); (try clear hk); (try clear hi)))
  go_ret
  exact ⟨by first | rfl | (simp [errW_none, errW_some] <;> rfl) | (simp [*, errW_none, errW_some] <;> rfl), by repeat (first | (with_reducible first | exact HB.out | apply below_alloc | apply pw_below_drewN | apply below_drew1) | exact HB.out)⟩

def types_class.f (l0 : List (S38)) (a1 : Int) : Option (Int) := if a1 < 16 then (some (-1)) else (if ((a1 - 16) % 256) ≥ (l0.length : Int) then (some (-1)) else (some ((a1 - 16) % 256)))
set_option maxHeartbeats 8000000 in
set_option maxRecDepth 100000 in
theorem types_class.calls (A0 : Option Addr) (c0 : Nat) (l0 : List (S38)) (a1 : Int) (r : Int) (w : World) (hr0 : Kd.C k38 w A0 l0.length l0) (hc0 : l0.length ≤ c0) (h : types_class.f l0 a1 = some r) :
    Calls Try.prog 39 #[.slice A0 l0.length c0, .int .u8 a1] w fun e w' => e = .returned (.int .i64 r) ∧ Drawn0 w w' := by
  have HR0 := Aside0.mk hr0
  have HC0 := Aside0.mk hc0
  clear hr0 hc0
  have H : (if a1 < 16 then (some (-1)) else (if ((a1 - 16) % 256) ≥ (l0.length : Int) then (some (-1)) else (some ((a1 - 16) % 256)))) = some r := h
  clear h
  by_cases c3 : a1 < 16
  · rw [if_pos c3] at H
    have c3b0 : decide (a1 < 16) = true := decide_eq_true c3
    clear c3
    obtain rfl := Option.some.inj H
    go_enter Try.func39, Try.ntmps39
    go_wp2
    go_ret
    exact ⟨by first | rfl | (simp; done) | (simp [*]; done), by repeat (first | exact Drawn0.refl _ | apply Drawn0.step)⟩
  · rw [if_neg c3] at H
    have c3b0 : decide (a1 < 16) = false := decide_eq_false c3
    clear c3
    by_cases c4 : ((a1 - 16) % 256) ≥ (l0.length : Int)
    · rw [if_pos c4] at H
      have c4b0 : decide ((l0.length : Int) ≤ ((a1 - 16) % 256)) = true := decide_eq_true c4
      clear c4
      obtain rfl := Option.some.inj H
      go_enter Try.func39, Try.ntmps39
      go_wp2
      go_ret
      exact ⟨by first | rfl | (simp; done) | (simp [*]; done), by repeat (first | exact Drawn0.refl _ | apply Drawn0.step)⟩
    · rw [if_neg c4] at H
      have c4b0 : decide ((l0.length : Int) ≤ ((a1 - 16) % 256)) = false := decide_eq_false c4
      clear c4
      obtain rfl := Option.some.inj H
      go_enter Try.func39, Try.ntmps39
      go_wp2
      go_ret
      exact ⟨by first | rfl | (simp; done) | (simp [*]; done), by repeat (first | exact Drawn0.refl _ | apply Drawn0.step)⟩

def types_IsRef.f (a0 : Int) : Option (Bool) := if a0 = 3 then (some true) else (if a0 = 4 then (some true) else (if a0 = 5 then (some true) else (some (decide (a0 ≥ 16)))))
set_option maxHeartbeats 8000000 in
set_option maxRecDepth 100000 in
theorem types_IsRef.calls (a0 : Int) (r : Bool) (w : World) (h : types_IsRef.f a0 = some r) :
    Calls Try.prog 28 #[.int .u8 a0] w fun e w' => e = .returned (.bool r) ∧ Drawn0 w w' := by
  have H : (if a0 = 3 then (some true) else (if a0 = 4 then (some true) else (if a0 = 5 then (some true) else (some (decide (a0 ≥ 16)))))) = some r := h
  clear h
  by_cases c2 : a0 = 3
  · rw [if_pos c2] at H
    have c2b0 : (a0 == 3) = true := beq_iff_eq.mpr c2
    have c2b1 : (a0 != 3) = false := bne_eq_false_iff_eq.mpr c2
    clear c2
    obtain rfl := Option.some.inj H
    go_enter Try.func28, Try.ntmps28
    go_wp2
    go_ret
    exact ⟨by first | rfl | (simp; done) | (simp [*]; done), by repeat (first | exact Drawn0.refl _ | apply Drawn0.step)⟩
  · rw [if_neg c2] at H
    have c2b0 : (a0 == 3) = false := beq_eq_false_iff_ne.mpr c2
    have c2b1 : (a0 != 3) = true := bne_iff_ne.mpr c2
    by_cases c3 : a0 = 4
    · rw [if_pos c3] at H
      have c3b0 : (a0 == 4) = true := beq_iff_eq.mpr c3
      have c3b1 : (a0 != 4) = false := bne_eq_false_iff_eq.mpr c3
      clear c3
      obtain rfl := Option.some.inj H
      go_enter Try.func28, Try.ntmps28
      go_wp2
      go_ret
      exact ⟨by first | rfl | (simp; done) | (simp [*]; done), by repeat (first | exact Drawn0.refl _ | apply Drawn0.step)⟩
    · rw [if_neg c3] at H
      have c3b0 : (a0 == 4) = false := beq_eq_false_iff_ne.mpr c3
      have c3b1 : (a0 != 4) = true := bne_iff_ne.mpr c3
      by_cases c4 : a0 = 5
      · rw [if_pos c4] at H
        have c4b0 : (a0 == 5) = true := beq_iff_eq.mpr c4
        have c4b1 : (a0 != 5) = false := bne_eq_false_iff_eq.mpr c4
        clear c4
        obtain rfl := Option.some.inj H
        go_enter Try.func28, Try.ntmps28
        go_wp2
        go_ret
        exact ⟨by first | rfl | (simp; done) | (simp [*]; done), by repeat (first | exact Drawn0.refl _ | apply Drawn0.step)⟩
      · rw [if_neg c4] at H
        have c4b0 : (a0 == 5) = false := beq_eq_false_iff_ne.mpr c4
        have c4b1 : (a0 != 5) = true := bne_iff_ne.mpr c4
        obtain rfl := Option.some.inj H
        go_enter Try.func28, Try.ntmps28
        go_wp2
        go_ret
        exact ⟨by first | rfl | (simp; done) | (simp [*]; done), by repeat (first | exact Drawn0.refl _ | apply Drawn0.step)⟩

def types_Valid.f (l0 : List (S38)) (a1 : Int) : Option (Bool) := if a1 ≤ 5 then (some true) else ((types_class.f l0 a1).bind fun t157 => (some (decide (t157 ≥ 0))))
set_option maxHeartbeats 8000000 in
set_option maxRecDepth 100000 in
theorem types_Valid.calls (A0 : Option Addr) (c0 : Nat) (l0 : List (S38)) (a1 : Int) (r : Bool) (w : World) (hr0 : Kd.C k38 w A0 l0.length l0) (hc0 : l0.length ≤ c0) (h : types_Valid.f l0 a1 = some r) :
    Calls Try.prog 30 #[.slice A0 l0.length c0, .int .u8 a1] w fun e w' => e = .returned (.bool r) ∧ Drawn0 w w' := by
  have HR0 := Aside0.mk hr0
  have HC0 := Aside0.mk hc0
  clear hr0 hc0
  have H : (if a1 ≤ 5 then (some true) else ((types_class.f l0 a1).bind fun t157 => (some (decide (t157 ≥ 0))))) = some r := h
  clear h
  by_cases c3 : a1 ≤ 5
  · rw [if_pos c3] at H
    have c3b0 : decide (a1 ≤ 5) = true := decide_eq_true c3
    clear c3
    obtain rfl := Option.some.inj H
    go_enter Try.func30, Try.ntmps30
    go_wp2
    go_ret
    exact ⟨by first | rfl | (simp; done) | (simp [*]; done), by repeat (first | exact Drawn0.refl _ | apply Drawn0.step)⟩
  · rw [if_neg c3] at H
    have c3b0 : decide (a1 ≤ 5) = false := decide_eq_false c3
    clear c3
    replace H := Option.bind_eq_some_iff.mp H
    obtain ⟨t157, A40, H⟩ := H
    replace H : (some (decide (t157 ≥ 0))) = some r := H
    have A4 := Aside0.mk A40
    clear A40
    obtain rfl := Option.some.inj H
    go_enter Try.func30, Try.ntmps30
    go_wp2_with (first | (go_at_call 39; (with_reducible refine (types_class.calls _ _ l0 a1 t157 _ ?side1 ?side2 A4.out).mono ?_); (case side1 => repeat (first | exact HR0.out | (with_reducible refine Kd.C_alloc ?_ _) | (with_reducible refine Kd.C_drewN ?_ _) | (with_reducible refine Kd.C_drew ?_))); (case side2 => exact HC0.out); rintro e w' ⟨rfl, ⟨nd, rfl⟩⟩))
    go_ret
    exact ⟨by first | rfl | (simp; done) | (simp [*]; done), by repeat (first | exact Drawn0.refl _ | apply Drawn0.step)⟩

end Go.Proofs.Ytghgloepameloaa.P

end

section
namespace Go.Proofs.Ytghgloepameloaa.P
open Go.RowKit Go.Proofs.YtghgloepameloaaW.PrintWords Go.Proofs.YtghgloepameloaaW.PrintLast Go.Proofs.YtghgloepameloaaW.PrintMore
attribute [local go_sem] max2_int min2_int max_two min_two max_three min_three max_four min_four   -- for this text's walks alone
set_option linter.unusedVariables false
set_option linter.unusedSimpArgs false

def climbF (l : List S38) : Nat → Int → List Int
  | 0, _ => []
  | f + 1, c => if 0 ≤ c ∧ c < (l.length : Int) then c :: (if (rd_T38 l c).f1 ≥ c then [] else climbF l f (rd_T38 l c).f1) else []
def climbL (l : List S38) (c : Int) : List Int := climbF l (c.toNat + 1) c
theorem climbF_le (l : List S38) : ∀ (f g : Nat) (c : Int), c.toNat < f → f ≤ g → climbF l g c = climbF l f c
  | 0, _, _, h, _ => by omega
  | f + 1, 0, _, _, h => by omega
  | f + 1, g + 1, c, h, hg => by
    simp only [climbF]
    split
    · split
      · rfl
      · rename_i h1 h2
        by_cases h3 : 0 ≤ (rd_T38 l c).f1
        · rw [climbF_le l f g _ (by omega) (by omega)]
        · have e : ∀ k, climbF l k (rd_T38 l c).f1 = [] := by
            intro k
            cases k with
            | zero => rfl
            | succ k => simp only [climbF]; rw [if_neg (by omega)]
          rw [e, e]
    · rfl
theorem climbL_in (l : List S38) (c : Int) (h0 : 0 ≤ c) (h1 : c < (l.length : Int)) (h2 : (rd_T38 l c).f1 < c) : climbL l c = c :: climbL l (rd_T38 l c).f1 := by
  unfold climbL
  rw [climbF, if_pos ⟨h0, h1⟩, if_neg (by omega)]
  by_cases h3 : 0 ≤ (rd_T38 l c).f1
  · rw [climbF_le l _ c.toNat _ (Nat.lt_succ_self _) (by omega)]
  · have e : ∀ k, climbF l k (rd_T38 l c).f1 = [] := by
      intro k
      cases k with
      | zero => rfl
      | succ k => simp only [climbF]; rw [if_neg (by omega)]
    rw [e, e]
theorem climbL_last (l : List S38) (c : Int) (h0 : 0 ≤ c) (h1 : c < (l.length : Int)) (h2 : ¬ (rd_T38 l c).f1 < c) : climbL l c = [c] := by
  unfold climbL
  rw [climbF, if_pos ⟨h0, h1⟩, if_pos (by omega)]
theorem climbL_out (l : List S38) (c : Int) (h : ¬ (0 ≤ c ∧ c < (l.length : Int))) : climbL l c = [] := by
  unfold climbL
  rw [climbF, if_neg h]

set_option maxHeartbeats 800000 in
set_option maxRecDepth 100000 in
theorem climb_any (fid : Nat) (caps : Array Value) (A0 : Option Addr) (c0 : Nat) (l : List S38) (W0 : World) (hr : Kd.C k38 W0 A0 l.length l) (Inv : List Int → World → Prop) (Fin : World → Prop)
    (hB : ∀ xs W, Inv xs W → Below W0.heap.size W0 W) (hnil : ∀ W, Inv [] W → Fin W)
    (hstep : ∀ x xs W, Inv (x :: xs) W → Calls Try.prog fid (#[.int .i64 x] ++ caps) W fun e W' => (e = .returned (.bool true) ∧ Inv xs W') ∨ (e = .returned (.bool false) ∧ Fin W'))
    (hcf : ∀ (vs : Array Value) (w : World), Sem.run Try.prog (callFunc fid vs) w = .ok (.enter fid vs) w)
    (x0 : Int) (W : World) (h0 : Inv (climbL l x0) W) :
    Calls Try.prog 42 #[.slice A0 l.length c0, .int .i64 x0, .func (.func fid) #[] caps] W fun e W' => e = .returned (.tuple #[]) ∧ Fin W' := by
  have H0 := Aside0.mk h0
  have HN := Aside0.mk hnil
  have HS := Aside0.mk hstep
  have HB := Aside0.mk hB
  have HR := Aside0.mk hr
  clear h0 hnil hstep hB hr
  go_enter Try.func42, Try.ntmps42
  go_wp2
  go_loopw [1] (fun v wr => ∃ y : Int, v = .int .i64 y ∧ Aside0 (Inv (climbL l y) wr)) (fun v _ => (intOf v + 1).toNat)
  case atStart => exact ⟨x0, rfl, H0⟩
  case round =>
    obtain ⟨y, rfl, HI⟩ := hrel
    by_cases c1 : 0 ≤ y
    · have c1b : decide (0 ≤ y) = true := decide_eq_true c1
      by_cases c2 : y < (l.length : Int)
      · have c2b : decide (y < (l.length : Int)) = true := decide_eq_true c2
        obtain ⟨ad, A2, c3, e0, _, hx1, _, _, _⟩ := at_T38 HR.out y c1 c2
        subst e0
        have HX := Aside0.mk hx1
        clear hx1
        by_cases c3 : (rd_T38 l y).f1 < y
        · have HI2 := HI.out
          rw [climbL_in l y c1 c2 c3] at HI2
          have HC := Aside0.mk (HS.out _ _ _ HI2)
          have c3b : decide (y ≤ (rd_T38 l y).f1) = false := decide_eq_false (by omega)
          clear HI2
          go_wp2_with fail
          refine HC.out.mono ?_
          rintro e w1 (⟨rfl, h1⟩ | ⟨rfl, h1⟩)
          · have hB1 := HB.out _ _ h1
            have H1 := Aside0.mk h1
            have hx := (hB1.cell (World.block_lt_of_cell? W0 _ HX.out)).trans HX.out
            clear hB1 h1
            go_wp2
            go_roundw
            case rel => exact ⟨_, rfl, H1⟩
            case measure => simp [intOf]; omega
          · have H1 := Aside0.mk h1
            clear h1
            go_wp2
            go_end0
            exact ⟨rfl, H1.out⟩
        · have HI2 := HI.out
          rw [climbL_last l y c1 c2 c3] at HI2
          have HC := Aside0.mk (HS.out _ _ _ HI2)
          have c3b : decide (y ≤ (rd_T38 l y).f1) = true := decide_eq_true (by omega)
          clear HI2
          go_wp2_with fail
          refine HC.out.mono ?_
          rintro e w1 (⟨rfl, h1⟩ | ⟨rfl, h1⟩)
          · have hB1 := HB.out _ _ h1
            have H1 := Aside0.mk (HN.out _ h1)
            have hx := (hB1.cell (World.block_lt_of_cell? W0 _ HX.out)).trans HX.out
            clear hB1 h1
            go_wp2
            (try simp only [Exit.inBlock, Exit.then])
            refine bodyPost_ret (results_none rfl _ _ _) rfl ?_
            exact ⟨rfl, H1.out⟩
          · have H1 := Aside0.mk h1
            clear h1
            go_wp2
            go_end0
            exact ⟨rfl, H1.out⟩
      · have c2b : decide (y < (l.length : Int)) = false := decide_eq_false c2
        have HI2 := HI.out
        rw [climbL_out l y (by omega)] at HI2
        have H1 := Aside0.mk (HN.out _ HI2)
        clear HI2
        go_wp2
        go_end0
        exact ⟨rfl, H1.out⟩
    · have c1b : decide (0 ≤ y) = false := decide_eq_false c1
      have HI2 := HI.out
      rw [climbL_out l y (by omega)] at HI2
      have H1 := Aside0.mk (HN.out _ HI2)
      clear HI2
      go_wp2
      go_end0
      exact ⟨rfl, H1.out⟩
theorem callFunc_run {f : Nat} {fn : Func} (hf : Try.prog.funcs[f]? = some fn) (hname : (fn.name == "runtime.NumGoroutine") = false) (hb : fn.body.isSome = true) (vs : Array Value) (w : World) : Sem.run Try.prog (callFunc f vs) w = .ok (.enter f vs) w := enters_ hf hname hb vs w

theorem climbF_length (l : List S38) : ∀ (f : Nat) (c : Int), (climbF l f c).length ≤ f
  | 0, _ => Nat.le_refl _
  | f + 1, c => by
    simp only [climbF]
    split
    · split
      · simp
      · simpa using climbF_length l f _
    · simp
theorem climbL_length (l : List S38) (c : Int) : (climbL l c).length ≤ l.length := by
  by_cases h : 0 ≤ c ∧ c < (l.length : Int)
  · exact Nat.le_trans (climbF_length l _ c) (by omega)
  · rw [climbL_out l c h]; simp
theorem climbL_mem (l : List S38) (c : Int) : ∀ x ∈ climbL l c, 0 ≤ x ∧ x < (l.length : Int) := by
  have h : ∀ (f : Nat) (c : Int), ∀ x ∈ climbF l f c, 0 ≤ x ∧ x < (l.length : Int) := by
    intro f
    induction f with
    | zero => intro c x hx; cases hx
    | succ f ih =>
      intro c x hx
      simp only [climbF] at hx
      split at hx
      · rename_i h1
        rcases List.mem_cons.1 hx with rfl | h2
        · exact h1
        · split at h2
          · cases h2
          · exact ih _ x h2
      · cases hx
  exact h _ c

def types_above.f (l0 : List S38) (a1 a2 : Int) : Option Bool := some (decide (a2 ∈ climbL l0 a1))
set_option maxHeartbeats 800000 in
theorem types_above_step (Bt Bi : Nat) (top x : Int) (W : World) (hT : W.cell? ⟨Bt, 0, none⟩ = some (.int .i64 top)) (hI : W.cell? ⟨Bi, 0, none⟩ = some (.bool false)) (hF : W.frozen? ⟨Bi, 0, none⟩ = false) :
    Calls Try.prog 56 #[.int .i64 x, .pointer (some ⟨Bt, 0, none⟩), .pointer (some ⟨Bi, 0, none⟩)] W fun e W' => e = .returned (.bool (!(x == top))) ∧ W' = W.setCell ⟨Bi, 0, none⟩ (.bool (x == top)) := by
  have hI2 : (W.setCell ⟨Bi, 0, none⟩ (.bool (x == top))).cell? ⟨Bi, 0, none⟩ = some (.bool (x == top)) := World.cell?_setCell_same W _ _ hI
  go_enter Try.func56, Try.ntmps56
  go_wp2
  go_ret
  exact ⟨rfl, rfl⟩
structure AboveInv (W0 : World) (top : Int) (r : Bool) (xs : List Int) (W : World) : Prop where
  tops : W.cell? ⟨W0.heap.size, 0, none⟩ = some (.int .i64 top)
  now : W.cell? ⟨W0.heap.size + 1, 0, none⟩ = some (.bool false)
  free : W.frozen? ⟨W0.heap.size + 1, 0, none⟩ = false
  below : Below W0.heap.size W0 W
  left : decide (top ∈ xs) = r
structure AboveFin (W0 : World) (r : Bool) (W : World) : Prop where
  now : W.cell? ⟨W0.heap.size + 1, 0, none⟩ = some (.bool r)
  below : Below W0.heap.size W0 W
set_option maxHeartbeats 800000 in
set_option maxRecDepth 100000 in
theorem types_above.calls (A0 : Option Addr) (c0 : Nat) (l0 : List S38) (a1 a2 : Int) (r : Bool) (w : World) (hr0 : Kd.C k38 w A0 l0.length l0) (hc0 : l0.length ≤ c0) (h : types_above.f l0 a1 a2 = some r) :
    Calls Try.prog 41 #[.slice A0 l0.length c0, .int .i64 a1, .int .i64 a2] w fun e w' => e = .returned (.bool r) ∧ Below w.heap.size w w' := by
  obtain rfl := Option.some.inj h
  have hmf : ∀ (fn : Fn) (first cap : Array Value) (w : World), (Instr.makeFunc fn first cap).run Try.prog w = .ok (.func fn first cap) w := fun _ _ _ _ => rfl
  have HR := Aside0.mk hr0
  clear hr0 h
  go_enter Try.func41, Try.ntmps41
  go_wp2_with fail
  refine (climb_any 56 _ A0 c0 l0 w HR.out (AboveInv w a2 (decide (a2 ∈ climbL l0 a1))) (AboveFin w (decide (a2 ∈ climbL l0 a1))) (fun _ _ h => h.below) ?_ ?_ (callFunc_run Try.func56 (by kernel_rfl) (by kernel_rfl)) a1 _ ?_).mono ?_
  · rintro W ⟨h1, h2, h3, h4, h5⟩
    exact ⟨by rw [← h5]; exact h2, h4⟩
  · rintro x xs W ⟨h1, h2, h3, h4, h5⟩
    refine (types_above_step _ _ a2 x W h1 h2 h3).mono ?_
    rintro e W' ⟨rfl, rfl⟩
    by_cases e : x = a2
    · subst e
      right
      refine ⟨by simp, ?_, h4.setCell (by simp) _⟩
      rw [← h5]
      simpa using World.cell?_setCell_same W _ _ h2
    · left
      refine ⟨by simp [e], ?_, ?_, ?_, h4.setCell (by simp) _, ?_⟩
      · rw [World.cell?_setCell_other W _ _ _ (by simp)]; exact h1
      · have e' : (x == a2) = false := by simp [e]
        rw [e']; exact World.cell?_setCell_same W _ _ h2
      · simpa using h3
      · rw [← h5]; simp [Ne.symm e]
  · refine ⟨?_, ?_, World.frozen?_alloc_at _ _ _ _ (by simp), ((Below.refl _ _).alloc (Nat.le_refl _) _).alloc (by simp) _, rfl⟩
    · rw [World.cell?_alloc_past _ _ _ (by simp), World.cell?_alloc_at _ _ _ _ rfl]; rfl
    · rw [World.cell?_alloc_at _ _ _ _ (by simp)]; rfl
  · rintro e w1 ⟨rfl, h1, h2⟩
    go_wp2
    go_ret
    exact ⟨rfl, h2⟩

mutual
def types_Sub.j0 : Nat → List (S38) → Int → Int → Bool → Option (Bool)
  | 0, _, _, _, _ => none
  | k + 1, x0, x1, x2, x18 => if x18 = true then (some false) else (if x1 = x2 then (types_Sub.j1 k x0 x1 x2 true) else (types_Sub.j1 k x0 x1 x2 (x2 == 0)))
def types_Sub.j1 : Nat → List (S38) → Int → Int → Bool → Option (Bool)
  | 0, _, _, _, _ => none
  | k + 1, x0, x1, x2, x19 => if x19 = true then (some true) else (if x1 = 3 then (types_Sub.j2 k x0 x1 x2 true) else (types_Sub.j2 k x0 x1 x2 (x2 == 5)))
def types_Sub.j2 : Nat → List (S38) → Int → Int → Bool → Option (Bool)
  | 0, _, _, _, _ => none
  | k + 1, x0, x1, x2, x27 => if x27 = true then ((types_IsRef.f x1).bind fun t160 => (if t160 = true then ((types_IsRef.f x2).bind fun t161 => (some t161)) else (some false))) else ((types_class.f x0 x1).bind fun t162 => ((types_class.f x0 x2).bind fun t163 => (if t162 ≥ 0 then (if t163 ≥ 0 then ((types_above.f x0 t162 t163).bind fun t164 => (some t164)) else (some false)) else (some false))))
end
def types_Sub.f (k : Nat) (l0 : List (S38)) (a1 : Int) (a2 : Int) : Option (Bool) := (types_Valid.f l0 a1).bind fun t158 => (if t158 = true then ((types_Valid.f l0 a2).bind fun t159 => (types_Sub.j0 k l0 a1 a2 (!t159))) else (types_Sub.j0 k l0 a1 a2 true))
set_option maxHeartbeats 8000000 in
set_option maxRecDepth 100000 in
theorem types_Sub.calls (k : Nat) (A0 : Option Addr) (c0 : Nat) (l0 : List (S38)) (a1 : Int) (a2 : Int) (r : Bool) (w : World) (hr0 : Kd.C k38 w A0 l0.length l0) (hc0 : l0.length ≤ c0) (h : types_Sub.f k l0 a1 a2 = some r) :
    Calls Try.prog 16 #[.slice A0 l0.length c0, .int .u8 a1, .int .u8 a2] w fun e w' => e = .returned (.bool r) ∧ Below w.heap.size w w' := by
  have HR0 := Aside0.mk hr0
  have HC0 := Aside0.mk hc0
  clear hr0 hc0
  have HB := Aside0.mk (Below.refl w.heap.size w)
  have H : ((types_Valid.f l0 a1).bind fun t158 => (if t158 = true then ((types_Valid.f l0 a2).bind fun t159 => (types_Sub.j0 k l0 a1 a2 (!t159))) else (types_Sub.j0 k l0 a1 a2 true))) = some r := h
  clear h
  have HC4 := Aside0.mk H
  clear H
  go_enter Try.func16, Try.ntmps16
  go_upto_region 1 with (fail)
  go_cut [18] (fun v18 wc => ∃ (kq : Nat) (x18_3 : Bool), v18 = .bool x18_3 ∧ Aside0 (types_Sub.j0 kq l0 a1 a2 x18_3 = some r) ∧ Aside0 (kq ≤ k) ∧ Aside0 (Below w.heap.size w wc))
  case first =>
    have H := HC4.out
    clear HC4
    replace H := Option.bind_eq_some_iff.mp H
    obtain ⟨t158, A50, H⟩ := H
    replace H : (if t158 = true then ((types_Valid.f l0 a2).bind fun t159 => (types_Sub.j0 k l0 a1 a2 (!t159))) else (types_Sub.j0 k l0 a1 a2 true)) = some r := H
    have A5 := Aside0.mk A50
    clear A50
    by_cases c6 : t158 = true
    · subst c6
      have H1 : ((types_Valid.f l0 a2).bind fun t159 => (types_Sub.j0 k l0 a1 a2 (!t159))) = some r := by rw [if_pos rfl] at H; exact H
      clear H
      have H := H1
      clear H1
      replace H := Option.bind_eq_some_iff.mp H
      obtain ⟨t159, A70, H⟩ := H
      replace H : (types_Sub.j0 k l0 a1 a2 (!t159)) = some r := H
      have A7 := Aside0.mk A70
      clear A70
      have H' := Aside0.mk H
      clear H
      go_wp2_with (first | ((with_reducible refine gate_callee (f := 30) rfl ?_); refine goesL_ (some 11) rfl rfl Try.func30 (by kernel_rfl) rfl #[.slice A0 l0.length c0, .int .u8 a1] rfl (by (try simp only [List.map_toArray, List.map_cons, List.map_nil]); first | done | rfl | (simp only [List.length_drop, List.length_take]; rfl)) ?_; (with_reducible refine (types_Valid.calls _ _ l0 a1 true _ ?side1 ?side2 A5.out).mono ?_); (case side1 => repeat (first | exact (Kd.C_below HR0.out HB.out) | (with_reducible refine Kd.C_alloc ?_ _) | (with_reducible refine Kd.C_drewN ?_ _) | (with_reducible refine Kd.C_drew ?_))); (case side2 => exact HC0.out); rintro e w' ⟨rfl, ⟨nd, rfl⟩⟩; refine ⟨_, rfl, ?_⟩) | (go_at_call 30; (with_reducible refine (types_Valid.calls _ _ l0 a2 t159 _ ?side1 ?side2 A7.out).mono ?_); (case side1 => repeat (first | exact (Kd.C_below HR0.out (by repeat (first | (with_reducible first | exact HB.out | apply below_alloc | apply pw_below_drewN | apply below_drew1) | exact HB.out))) | (with_reducible refine Kd.C_alloc ?_ _) | (with_reducible refine Kd.C_drewN ?_ _) | (with_reducible refine Kd.C_drew ?_))); (case side2 => exact HC0.out); rintro e w' ⟨rfl, ⟨nd, rfl⟩⟩))
      go_meet
      case rel => exact ⟨_, (!t159), (by first | rfl | (simp; done) | (simp [*]; done)), H', ⟨by first | omega | exact Nat.le_refl _⟩, ⟨by repeat (first | (with_reducible first | exact HB.out | apply below_alloc | apply pw_below_drewN | apply below_drew1) | exact HB.out)⟩⟩
    · replace c6 := Bool.eq_false_iff.mpr c6
      subst c6
      have H1 : (types_Sub.j0 k l0 a1 a2 true) = some r := by rw [if_neg (show ¬ (false = true) by decide)] at H; exact H
      clear H
      have H := H1
      clear H1
      have H' := Aside0.mk H
      clear H
      go_wp2_with (first | ((with_reducible refine gate_callee (f := 30) rfl ?_); refine goesL_ (some 11) rfl rfl Try.func30 (by kernel_rfl) rfl #[.slice A0 l0.length c0, .int .u8 a1] rfl (by (try simp only [List.map_toArray, List.map_cons, List.map_nil]); first | done | rfl | (simp only [List.length_drop, List.length_take]; rfl)) ?_; (with_reducible refine (types_Valid.calls _ _ l0 a1 false _ ?side1 ?side2 A5.out).mono ?_); (case side1 => repeat (first | exact (Kd.C_below HR0.out HB.out) | (with_reducible refine Kd.C_alloc ?_ _) | (with_reducible refine Kd.C_drewN ?_ _) | (with_reducible refine Kd.C_drew ?_))); (case side2 => exact HC0.out); rintro e w' ⟨rfl, ⟨nd, rfl⟩⟩; refine ⟨_, rfl, ?_⟩))
      go_meet
      case rel => exact ⟨_, (true), (by first | rfl | (simp; done) | (simp [*]; done)), H', ⟨by first | omega | exact Nat.le_refl _⟩, ⟨by repeat (first | (with_reducible first | exact HB.out | apply below_alloc | apply pw_below_drewN | apply below_drew1) | exact HB.out)⟩⟩
  case rest =>
    clear HC4
    try clear c1
    try clear p2
    try clear c3
    try clear c6
    obtain ⟨kq, x18_3, rfl, HA, HJ3, HB⟩ := hcut
    cases kq with
    | zero => exact absurd HA.out (by simp [types_Sub.j0])
    | succ kj3 =>
      have H := HA.out
      clear HA
      simp only [types_Sub.j0] at H
      by_cases c8 : x18_3 = true
      · subst c8
        have H1 : (some false) = some r := by rw [if_pos rfl] at H; exact H
        clear H
        have H := H1
        clear H1
        obtain rfl := Option.some.inj H
        go_wp2
        go_ret
        exact ⟨by first | rfl | (simp [errW_none, errW_some] <;> rfl) | (simp [*, errW_none, errW_some] <;> rfl), by repeat (first | (with_reducible first | exact HB.out | apply below_alloc | apply pw_below_drewN | apply below_drew1) | exact HB.out)⟩
      · replace c8 := Bool.eq_false_iff.mpr c8
        subst c8
        have H1 : (if a1 = a2 then (types_Sub.j1 kj3 l0 a1 a2 true) else (types_Sub.j1 kj3 l0 a1 a2 (a2 == 0))) = some r := by rw [if_neg (show ¬ (false = true) by decide)] at H; exact H
        clear H
        have H := H1
        clear H1
        have HC9 := Aside0.mk H
        clear H
        go_upto_region 3 with (fail)
        go_cut [19] (fun v19 wc => ∃ (kq : Nat) (x19_8 : Bool), v19 = .bool x19_8 ∧ Aside0 (types_Sub.j1 kq l0 a1 a2 x19_8 = some r) ∧ Aside0 (kq ≤ kj3) ∧ Aside0 (Below w.heap.size w wc))
        case first =>
          have H := HC9.out
          clear HC9
          by_cases c10 : a1 = a2
          · rw [if_pos c10] at H
            have c10b0 : (a1 == a2) = true := beq_iff_eq.mpr c10
            have c10b1 : (a1 != a2) = false := bne_eq_false_iff_eq.mpr c10
            clear c10
            (first | rw [c10b0] | (simp only [i64_w, i32_w]; rw [c10b0]) | skip)
            have H' := Aside0.mk H
            clear H
            go_wp2
            go_meet
            case rel => exact ⟨_, (true), (by first | rfl | (simp; done) | (simp [*]; done)), H', ⟨by have := HJ3.out; first | omega | exact Nat.le_refl _⟩, ⟨by repeat (first | (with_reducible first | exact HB.out | apply below_alloc | apply pw_below_drewN | apply below_drew1) | exact HB.out)⟩⟩
          · rw [if_neg c10] at H
            have c10b0 : (a1 == a2) = false := beq_eq_false_iff_ne.mpr c10
            have c10b1 : (a1 != a2) = true := bne_iff_ne.mpr c10
            (first | rw [c10b0] | (simp only [i64_w, i32_w]; rw [c10b0]) | skip)
            have H' := Aside0.mk H
            clear H
            go_wp2
            go_meet
            case rel => exact ⟨_, ((a2 == 0)), (by first | rfl | (simp; done) | (simp [*]; done)), H', ⟨by have := HJ3.out; first | omega | exact Nat.le_refl _⟩, ⟨by repeat (first | (with_reducible first | exact HB.out | apply below_alloc | apply pw_below_drewN | apply below_drew1) | exact HB.out)⟩⟩
        case rest =>
          clear HC9
          try clear c1
          try clear p2
          try clear c3
          try clear c6
          try clear c8
          try clear c10
          try clear c10b0
          try clear c10b1
          try clear p2
          obtain ⟨kq, x19_8, rfl, HA, HJ8, HB⟩ := hcut
          cases kq with
          | zero => exact absurd HA.out (by simp [types_Sub.j1])
          | succ kj8 =>
            have H := HA.out
            clear HA
            simp only [types_Sub.j1] at H
            by_cases c11 : x19_8 = true
            · subst c11
              have H1 : (some true) = some r := by rw [if_pos rfl] at H; exact H
              clear H
              have H := H1
              clear H1
              obtain rfl := Option.some.inj H
              go_wp2
              go_ret
              exact ⟨by first | rfl | (simp [errW_none, errW_some] <;> rfl) | (simp [*, errW_none, errW_some] <;> rfl), by repeat (first | (with_reducible first | exact HB.out | apply below_alloc | apply pw_below_drewN | apply below_drew1) | exact HB.out)⟩
            · replace c11 := Bool.eq_false_iff.mpr c11
              subst c11
              have H1 : (if a1 = 3 then (types_Sub.j2 kj8 l0 a1 a2 true) else (types_Sub.j2 kj8 l0 a1 a2 (a2 == 5))) = some r := by rw [if_neg (show ¬ (false = true) by decide)] at H; exact H
              clear H
              have H := H1
              clear H1
              have HC12 := Aside0.mk H
              clear H
              go_upto_region 5 with (fail)
              go_cut [27] (fun v27 wc => ∃ (kq : Nat) (x27_11 : Bool), v27 = .bool x27_11 ∧ Aside0 (types_Sub.j2 kq l0 a1 a2 x27_11 = some r) ∧ Aside0 (kq ≤ kj8) ∧ Aside0 (Below w.heap.size w wc))
              case first =>
                have H := HC12.out
                clear HC12
                by_cases c13 : a1 = 3
                · rw [if_pos c13] at H
                  have c13b0 : (a1 == 3) = true := beq_iff_eq.mpr c13
                  have c13b1 : (a1 != 3) = false := bne_eq_false_iff_eq.mpr c13
                  clear c13
                  (first | rw [c13b0] | (simp only [i64_w, i32_w]; rw [c13b0]) | skip)
                  have H' := Aside0.mk H
                  clear H
                  go_wp2
                  go_meet
                  case rel => exact ⟨_, (true), (by first | rfl | (simp; done) | (simp [*]; done)), H', ⟨by have := HJ3.out; have := HJ8.out; first | omega | exact Nat.le_refl _⟩, ⟨by repeat (first | (with_reducible first | exact HB.out | apply below_alloc | apply pw_below_drewN | apply below_drew1) | exact HB.out)⟩⟩
                · rw [if_neg c13] at H
                  have c13b0 : (a1 == 3) = false := beq_eq_false_iff_ne.mpr c13
                  have c13b1 : (a1 != 3) = true := bne_iff_ne.mpr c13
                  (first | rw [c13b0] | (simp only [i64_w, i32_w]; rw [c13b0]) | skip)
                  have H' := Aside0.mk H
                  clear H
                  go_wp2
                  go_meet
                  case rel => exact ⟨_, ((a2 == 5)), (by first | rfl | (simp; done) | (simp [*]; done)), H', ⟨by have := HJ3.out; have := HJ8.out; first | omega | exact Nat.le_refl _⟩, ⟨by repeat (first | (with_reducible first | exact HB.out | apply below_alloc | apply pw_below_drewN | apply below_drew1) | exact HB.out)⟩⟩
              case rest =>
                clear HC12
                try clear c1
                try clear p2
                try clear c3
                try clear c6
                try clear c8
                try clear c10
                try clear c10b0
                try clear c10b1
                try clear c11
                try clear c13
                try clear c13b0
                try clear c13b1
                try clear p2
                obtain ⟨kq, x27_11, rfl, HA, HJ11, HB⟩ := hcut
                cases kq with
                | zero => exact absurd HA.out (by simp [types_Sub.j2])
                | succ kj11 =>
                  have H := HA.out
                  clear HA
                  simp only [types_Sub.j2] at H
                  by_cases c14 : x27_11 = true
                  · subst c14
                    have H1 : ((types_IsRef.f a1).bind fun t160 => (if t160 = true then ((types_IsRef.f a2).bind fun t161 => (some t161)) else (some false))) = some r := by rw [if_pos rfl] at H; exact H
                    clear H
                    have H := H1
                    clear H1
                    replace H := Option.bind_eq_some_iff.mp H
                    obtain ⟨t160, A150, H⟩ := H
                    replace H : (if t160 = true then ((types_IsRef.f a2).bind fun t161 => (some t161)) else (some false)) = some r := H
                    have A15 := Aside0.mk A150
                    clear A150
                    by_cases c16 : t160 = true
                    · subst c16
                      have H1 : ((types_IsRef.f a2).bind fun t161 => (some t161)) = some r := by rw [if_pos rfl] at H; exact H
                      clear H
                      have H := H1
                      clear H1
                      replace H := Option.bind_eq_some_iff.mp H
                      obtain ⟨t161, A170, H⟩ := H
                      replace H : (some t161) = some r := H
                      have A17 := Aside0.mk A170
                      clear A170
                      obtain rfl := Option.some.inj H
                      go_wp2_with (first | ((with_reducible refine gate_callee (f := 28) rfl ?_); refine goesL_ (some 35) rfl rfl Try.func28 (by kernel_rfl) rfl #[.int .u8 a1] rfl (by (try simp only [List.map_toArray, List.map_cons, List.map_nil]); first | done | rfl | (simp only [List.length_drop, List.length_take]; rfl)) ?_; (with_reducible refine (types_IsRef.calls a1 true _ A15.out).mono ?_); rintro e w' ⟨rfl, ⟨nd, rfl⟩⟩; refine ⟨_, rfl, ?_⟩) | (go_at_call 28; (with_reducible refine (types_IsRef.calls a2 t161 _ A17.out).mono ?_); rintro e w' ⟨rfl, ⟨nd, rfl⟩⟩))
                      go_ret
                      exact ⟨by first | rfl | (simp [errW_none, errW_some] <;> rfl) | (simp [*, errW_none, errW_some] <;> rfl), by repeat (first | (with_reducible first | exact HB.out | apply below_alloc | apply pw_below_drewN | apply below_drew1) | exact HB.out)⟩
                    · replace c16 := Bool.eq_false_iff.mpr c16
                      subst c16
                      have H1 : (some false) = some r := by rw [if_neg (show ¬ (false = true) by decide)] at H; exact H
                      clear H
                      have H := H1
                      clear H1
                      obtain rfl := Option.some.inj H
                      go_wp2_with (first | ((with_reducible refine gate_callee (f := 28) rfl ?_); refine goesL_ (some 35) rfl rfl Try.func28 (by kernel_rfl) rfl #[.int .u8 a1] rfl (by (try simp only [List.map_toArray, List.map_cons, List.map_nil]); first | done | rfl | (simp only [List.length_drop, List.length_take]; rfl)) ?_; (with_reducible refine (types_IsRef.calls a1 false _ A15.out).mono ?_); rintro e w' ⟨rfl, ⟨nd, rfl⟩⟩; refine ⟨_, rfl, ?_⟩))
                      go_ret
                      exact ⟨by first | rfl | (simp [errW_none, errW_some] <;> rfl) | (simp [*, errW_none, errW_some] <;> rfl), by repeat (first | (with_reducible first | exact HB.out | apply below_alloc | apply pw_below_drewN | apply below_drew1) | exact HB.out)⟩
                  · replace c14 := Bool.eq_false_iff.mpr c14
                    subst c14
                    have H1 : ((types_class.f l0 a1).bind fun t162 => ((types_class.f l0 a2).bind fun t163 => (if t162 ≥ 0 then (if t163 ≥ 0 then ((types_above.f l0 t162 t163).bind fun t164 => (some t164)) else (some false)) else (some false)))) = some r := by rw [if_neg (show ¬ (false = true) by decide)] at H; exact H
                    clear H
                    have H := H1
                    clear H1
                    replace H := Option.bind_eq_some_iff.mp H
                    obtain ⟨t162, A180, H⟩ := H
                    replace H : ((types_class.f l0 a2).bind fun t163 => (if t162 ≥ 0 then (if t163 ≥ 0 then ((types_above.f l0 t162 t163).bind fun t164 => (some t164)) else (some false)) else (some false))) = some r := H
                    have A18 := Aside0.mk A180
                    clear A180
                    replace H := Option.bind_eq_some_iff.mp H
                    obtain ⟨t163, A190, H⟩ := H
                    replace H : (if t162 ≥ 0 then (if t163 ≥ 0 then ((types_above.f l0 t162 t163).bind fun t164 => (some t164)) else (some false)) else (some false)) = some r := H
                    have A19 := Aside0.mk A190
                    clear A190
                    by_cases c20 : t162 ≥ 0
                    · rw [if_pos c20] at H
                      have c20b0 : decide (0 ≤ t162) = true := decide_eq_true c20
                      clear c20
                      by_cases c21 : t163 ≥ 0
                      · rw [if_pos c21] at H
                        have c21b0 : decide (0 ≤ t163) = true := decide_eq_true c21
                        clear c21
                        replace H := Option.bind_eq_some_iff.mp H
                        obtain ⟨t164, A220, H⟩ := H
                        replace H : (some t164) = some r := H
                        have A22 := Aside0.mk A220
                        clear A220
                        obtain rfl := Option.some.inj H
                        go_wp2_with (first | ((with_reducible refine gate_callee (f := 39) rfl ?_); refine goesL_ (some 42) rfl rfl Try.func39 (by kernel_rfl) rfl #[.slice A0 l0.length c0, .int .u8 a1] rfl (by (try simp only [List.map_toArray, List.map_cons, List.map_nil]); first | done | rfl | (simp only [List.length_drop, List.length_take]; rfl)) ?_; (with_reducible refine (types_class.calls _ _ l0 a1 t162 _ ?side1 ?side2 A18.out).mono ?_); (case side1 => repeat (first | exact (Kd.C_below HR0.out HB.out) | (with_reducible refine Kd.C_alloc ?_ _) | (with_reducible refine Kd.C_drewN ?_ _) | (with_reducible refine Kd.C_drew ?_))); (case side2 => exact HC0.out); rintro e w' ⟨rfl, ⟨nd, rfl⟩⟩; refine ⟨_, rfl, ?_⟩) | ((with_reducible refine gate_callee (f := 39) rfl ?_); refine goesL_ (some 45) rfl rfl Try.func39 (by kernel_rfl) rfl #[.slice A0 l0.length c0, .int .u8 a2] rfl (by (try simp only [List.map_toArray, List.map_cons, List.map_nil]); first | done | rfl | (simp only [List.length_drop, List.length_take]; rfl)) ?_; (with_reducible refine (types_class.calls _ _ l0 a2 t163 _ ?side1 ?side2 A19.out).mono ?_); (case side1 => repeat (first | exact (Kd.C_below HR0.out (by repeat (first | (with_reducible first | exact HB.out | apply below_alloc | apply pw_below_drewN | apply below_drew1) | exact HB.out))) | (with_reducible refine Kd.C_alloc ?_ _) | (with_reducible refine Kd.C_drewN ?_ _) | (with_reducible refine Kd.C_drew ?_))); (case side2 => exact HC0.out); rintro e w' ⟨rfl, ⟨nd, rfl⟩⟩; refine ⟨_, rfl, ?_⟩) | (go_at_call 41; (with_reducible refine (types_above.calls _ _ l0 t162 t163 t164 _ ?side1 ?side2 A22.out).mono ?_); (case side1 => repeat (first | exact (Kd.C_below HR0.out (by repeat (first | (with_reducible first | exact HB.out | apply below_alloc | apply pw_below_drewN | apply below_drew1) | exact HB.out))) | (with_reducible refine Kd.C_alloc ?_ _) | (with_reducible refine Kd.C_drewN ?_ _) | (with_reducible refine Kd.C_drew ?_))); (case side2 => exact HC0.out); rintro e w23 ⟨rfl, hb⟩; have n0_ := Aside0.mk (below_step (by repeat (first | (with_reducible first | exact HB.out | apply below_alloc | apply pw_below_drewN | apply below_drew1) | exact HB.out)) hb); clear HB; have HB := n0_; clear n0_; (try clear hb); (try clear hb2); (try clear hk); (try clear hi)))
                        go_ret
                        exact ⟨by first | rfl | (simp [errW_none, errW_some] <;> rfl) | (simp [*, errW_none, errW_some] <;> rfl), by repeat (first | (with_reducible first | exact HB.out | apply below_alloc | apply pw_below_drewN | apply below_drew1) | exact HB.out)⟩
                      · rw [if_neg c21] at H
                        have c21b0 : decide (0 ≤ t163) = false := decide_eq_false c21
                        clear c21
                        obtain rfl := Option.some.inj H
                        go_wp2_with (first | ((with_reducible refine gate_callee (f := 39) rfl ?_); refine goesL_ (some 42) rfl rfl Try.func39 (by kernel_rfl) rfl #[.slice A0 l0.length c0, .int .u8 a1] rfl (by (try simp only [List.map_toArray, List.map_cons, List.map_nil]); first | done | rfl | (simp only [List.length_drop, List.length_take]; rfl)) ?_; (with_reducible refine (types_class.calls _ _ l0 a1 t162 _ ?side1 ?side2 A18.out).mono ?_); (case side1 => repeat (first | exact (Kd.C_below HR0.out HB.out) | (with_reducible refine Kd.C_alloc ?_ _) | (with_reducible refine Kd.C_drewN ?_ _) | (with_reducible refine Kd.C_drew ?_))); (case side2 => exact HC0.out); rintro e w' ⟨rfl, ⟨nd, rfl⟩⟩; refine ⟨_, rfl, ?_⟩) | ((with_reducible refine gate_callee (f := 39) rfl ?_); refine goesL_ (some 45) rfl rfl Try.func39 (by kernel_rfl) rfl #[.slice A0 l0.length c0, .int .u8 a2] rfl (by (try simp only [List.map_toArray, List.map_cons, List.map_nil]); first | done | rfl | (simp only [List.length_drop, List.length_take]; rfl)) ?_; (with_reducible refine (types_class.calls _ _ l0 a2 t163 _ ?side1 ?side2 A19.out).mono ?_); (case side1 => repeat (first | exact (Kd.C_below HR0.out (by repeat (first | (with_reducible first | exact HB.out | apply below_alloc | apply pw_below_drewN | apply below_drew1) | exact HB.out))) | (with_reducible refine Kd.C_alloc ?_ _) | (with_reducible refine Kd.C_drewN ?_ _) | (with_reducible refine Kd.C_drew ?_))); (case side2 => exact HC0.out); rintro e w' ⟨rfl, ⟨nd, rfl⟩⟩; refine ⟨_, rfl, ?_⟩))
                        go_ret
                        exact ⟨by first | rfl | (simp [errW_none, errW_some] <;> rfl) | (simp [*, errW_none, errW_some] <;> rfl), by repeat (first | (with_reducible first | exact HB.out | apply below_alloc | apply pw_below_drewN | apply below_drew1) | exact HB.out)⟩
                    · rw [if_neg c20] at H
                      have c20b0 : decide (0 ≤ t162) = false := decide_eq_false c20
                      clear c20
                      obtain rfl := Option.some.inj H
                      go_wp2_with (first | ((with_reducible refine gate_callee (f := 39) rfl ?_); refine goesL_ (some 42) rfl rfl Try.func39 (by kernel_rfl) rfl #[.slice A0 l0.length c0, .int .u8 a1] rfl (by (try simp only [List.map_toArray, List.map_cons, List.map_nil]); first | done | rfl | (simp only [List.length_drop, List.length_take]; rfl)) ?_; (with_reducible refine (types_class.calls _ _ l0 a1 t162 _ ?side1 ?side2 A18.out).mono ?_); (case side1 => repeat (first | exact (Kd.C_below HR0.out HB.out) | (with_reducible refine Kd.C_alloc ?_ _) | (with_reducible refine Kd.C_drewN ?_ _) | (with_reducible refine Kd.C_drew ?_))); (case side2 => exact HC0.out); rintro e w' ⟨rfl, ⟨nd, rfl⟩⟩; refine ⟨_, rfl, ?_⟩) | ((with_reducible refine gate_callee (f := 39) rfl ?_); refine goesL_ (some 45) rfl rfl Try.func39 (by kernel_rfl) rfl #[.slice A0 l0.length c0, .int .u8 a2] rfl (by (try simp only [List.map_toArray, List.map_cons, List.map_nil]); first | done | rfl | (simp only [List.length_drop, List.length_take]; rfl)) ?_; (with_reducible refine (types_class.calls _ _ l0 a2 t163 _ ?side1 ?side2 A19.out).mono ?_); (case side1 => repeat (first | exact (Kd.C_below HR0.out (by repeat (first | (with_reducible first | exact HB.out | apply below_alloc | apply pw_below_drewN | apply below_drew1) | exact HB.out))) | (with_reducible refine Kd.C_alloc ?_ _) | (with_reducible refine Kd.C_drewN ?_ _) | (with_reducible refine Kd.C_drew ?_))); (case side2 => exact HC0.out); rintro e w' ⟨rfl, ⟨nd, rfl⟩⟩; refine ⟨_, rfl, ?_⟩))
                      go_ret
                      exact ⟨by first | rfl | (simp [errW_none, errW_some] <;> rfl) | (simp [*, errW_none, errW_some] <;> rfl), by repeat (first | (with_reducible first | exact HB.out | apply below_alloc | apply pw_below_drewN | apply below_drew1) | exact HB.out)⟩

end Go.Proofs.Ytghgloepameloaa.P

end

section
namespace Go.Proofs.Ytghgloepameloaa.P
open Go.RowKit Go.Proofs.YtghgloepameloaaW.PrintWords Go.Proofs.YtghgloepameloaaW.PrintLast Go.Proofs.YtghgloepameloaaW.PrintMore
attribute [local go_sem] max2_int min2_int max_two min_two max_three min_three max_four min_four   -- for this text's walks alone
set_option linter.unusedVariables false
set_option linter.unusedSimpArgs false

def classOf (l : List S38) (a : Int) : Int := if a < 16 then -1 else if (a - 16) % 256 ≥ (l.length : Int) then -1 else (a - 16) % 256
theorem class_is (l : List S38) (a : Int) : types_class.f l a = some (classOf l a) := by
  unfold types_class.f classOf
  split
  · rfl
  · split <;> rfl
def isRefB (a : Int) : Bool := decide (a = 3) || decide (a = 4) || decide (a = 5) || decide (a ≥ 16)
theorem isRef_is (a : Int) : types_IsRef.f a = some (isRefB a) := by
  unfold types_IsRef.f isRefB
  by_cases h3 : a = 3 <;> by_cases h4 : a = 4 <;> by_cases h5 : a = 5 <;> simp [h3, h4, h5]
structure MergeHeld (W0 : World) (Bo : Nat) (A0 : Option Addr) (c0 : Nat) (l : List S38) (W : World) : Prop where
  reads : Kd.C k38 W A0 l.length l
  below : Below W0.heap.size W0 W
  lies : W.heap[W0.heap.size]? = some (.cells #[.slice A0 l.length c0] 22 (0, 0))
  out : W.heap[Bo]? = some (.cells #[.int .u8 5] 23 (0, 0))
theorem MergeHeld.drew {W0 : World} {Bo : Nat} {A0 : Option Addr} {c0 : Nat} {l : List S38} {W : World} (h : MergeHeld W0 Bo A0 c0 l W) : MergeHeld W0 Bo A0 c0 l W.drew := ⟨Kd.C_drew h.reads, below_drew1 h.below, blk_drew h.lies, blk_drew h.out⟩
theorem MergeHeld.drewN {W0 : World} {Bo : Nat} {A0 : Option Addr} {c0 : Nat} {l : List S38} {W : World} (h : MergeHeld W0 Bo A0 c0 l W) (m : Nat) : MergeHeld W0 Bo A0 c0 l (W.drewN m) := ⟨Kd.C_drewN h.reads m, pw_below_drewN h.below m, blk_drewN h.lies m, blk_drewN h.out m⟩
theorem MergeHeld.alloc {W0 : World} {Bo : Nat} {A0 : Option Addr} {c0 : Nat} {l : List S38} {W : World} (h : MergeHeld W0 Bo A0 c0 l W) (o : Obj) : MergeHeld W0 Bo A0 c0 l (W.alloc o) := ⟨Kd.C_alloc h.reads o, below_alloc h.below o, blk_alloc h.lies o, blk_alloc h.out o⟩
end Go.Proofs.Ytghgloepameloaa.P

end

section
namespace Go.Proofs.Ytghgloepameloaa.P
open Go.RowKit Go.Proofs.YtghgloepameloaaW.PrintWords Go.Proofs.YtghgloepameloaaW.PrintLast Go.Proofs.YtghgloepameloaaW.PrintMore
attribute [local go_sem] max2_int min2_int max_two min_two max_three min_three max_four min_four   -- for this text's walks alone
set_option linter.unusedVariables false
set_option linter.unusedSimpArgs false

def types_deep.f (l0 : List S38) (a1 : Int) : Option Int := some ((climbL l0 a1).length : Int)
set_option maxHeartbeats 800000 in
theorem types_deep_step (B : Nat) (n x : Int) (W : World) (hI : W.heap[B]? = some (.cells #[.int .i64 n] 3 (0, 0))) (h0 : 0 ≤ n) (h1 : n < 9223372036854775807) :
    Calls Try.prog 57 #[.int .i64 x, .pointer (some ⟨B, 0, none⟩)] W fun e W' => e = .returned (.bool true) ∧ W' = W.setCell ⟨B, 0, none⟩ (.int .i64 (n + 1)) := by
  have hc := blk_cell hI 0
  have hf := blk_frozen hI 0
  go_enter Try.func57, Try.ntmps57
  go_wp2
  go_ret
  exact ⟨rfl, rfl⟩
structure DeepInv (W0 : World) (r : Int) (xs : List Int) (W : World) : Prop where
  now : ∃ n : Int, W.heap[W0.heap.size]? = some (.cells #[.int .i64 n] 3 (0, 0)) ∧ 0 ≤ n ∧ n + xs.length = r
  below : Below W0.heap.size W0 W
structure DeepFin (W0 : World) (r : Int) (W : World) : Prop where
  now : W.heap[W0.heap.size]? = some (.cells #[.int .i64 r] 3 (0, 0))
  below : Below W0.heap.size W0 W
set_option maxHeartbeats 800000 in
set_option maxRecDepth 100000 in
theorem types_deep.calls (A0 : Option Addr) (c0 : Nat) (l0 : List S38) (a1 : Int) (r : Int) (w : World) (hr0 : Kd.C k38 w A0 l0.length l0) (hc0 : l0.length ≤ c0) (h : types_deep.f l0 a1 = some r) :
    Calls Try.prog 45 #[.slice A0 l0.length c0, .int .i64 a1] w fun e w' => e = .returned (.int .i64 r) ∧ Below w.heap.size w w' := by
  obtain rfl := Option.some.inj h
  have hmf : ∀ (fn : Fn) (first cap : Array Value) (w : World), (Instr.makeFunc fn first cap).run Try.prog w = .ok (.func fn first cap) w := fun _ _ _ _ => rfl
  have HR := Aside0.mk hr0
  have hlen : l0.length ≤ 9223372036854775807 := hr0.2.1
  have hcl := climbL_length l0 a1
  obtain ⟨m, hm⟩ : ∃ m : Nat, m = (climbL l0 a1).length := ⟨_, rfl⟩
  have HM := Aside0.mk hm
  have hml : m ≤ 9223372036854775807 := by omega
  clear hr0 h hm hlen hcl
  rw [← HM.out]
  go_enter Try.func45, Try.ntmps45
  go_wp2_with fail
  refine (climb_any 57 _ A0 c0 l0 w HR.out (DeepInv w m) (DeepFin w m) (fun _ _ h => h.below) ?_ ?_ (callFunc_run Try.func57 (by kernel_rfl) (by kernel_rfl)) a1 _ ?_).mono ?_
  · rintro W ⟨⟨n, h1, h2, h3⟩, h4⟩
    exact ⟨by rw [← h3]; simpa using h1, h4⟩
  · rintro x xs W ⟨⟨n, h1, h2, h3⟩, h4⟩
    simp only [List.length_cons] at h3
    refine (types_deep_step _ n x W h1 h2 (by omega)).mono ?_
    rintro e W' ⟨rfl, rfl⟩
    left
    exact ⟨rfl, ⟨n + 1, blk_set h1 0 _, by omega, by omega⟩, h4.setCell (Nat.le_refl _) _⟩
  · exact ⟨⟨0, blk_new _ _, by omega, by rw [HM.out]; omega⟩, (Below.refl _ _).alloc (Nat.le_refl _) _⟩
  · rintro e w1 ⟨rfl, h1, h2⟩
    have hc := blk_cell h1 0
    clear h1
    go_wp2
    go_ret
    exact ⟨rfl, h2⟩


end Go.Proofs.Ytghgloepameloaa.P

end

section
namespace Go.Proofs.Ytghgloepameloaa.P
open Go.RowKit Go.Proofs.YtghgloepameloaaW.PrintWords Go.Proofs.YtghgloepameloaaW.PrintLast Go.Proofs.YtghgloepameloaaW.PrintMore
attribute [local go_sem] max2_int min2_int max_two min_two max_three min_three max_four min_four   -- for this text's walks alone
set_option linter.unusedVariables false
set_option linter.unusedSimpArgs false

attribute [local go_sem high] eqA40
mutual
def types_Rank.j0 : Nat → List (S38) → Int → Bool → Option (Int)
  | 0, _, _, _ => none
  | k + 1, x0, x1, x7 => if x7 = true then (some 0) else (if x1 = 4 then (some 2) else (if x1 = 3 then (types_Rank.l0 k x0 2 (x0.length : Int) 0) else (if x1 ≥ 16 then ((types_class.f x0 x1).bind fun t202 => ((types_deep.f x0 t202).bind fun t203 => (some (wrap64 (1 + t203))))) else (some 1))))
def types_Rank.l0 : Nat → List (S38) → Int → Int → Int → Option (Int)
  | 0, _, _, _, _ => none
  | k + 1, x0, x5, x23, x24 => if x24 < x23 then ((types_deep.f x0 x24).bind fun t201 => (types_Rank.l0 k x0 (mx x5 (wrap64 (1 + t201))) x23 (wrap64 (x24 + 1)))) else (some (wrap64 (x5 + 1)))
end
def types_Rank.f (k : Nat) (l0 : List (S38)) (a1 : Int) : Option (Int) := (types_Valid.f l0 a1).bind fun t200 => (if t200 = true then (types_Rank.j0 k l0 a1 (a1 == 0)) else (types_Rank.j0 k l0 a1 true))
set_option maxHeartbeats 8000000 in
set_option maxRecDepth 100000 in
theorem types_Rank.calls (k : Nat) (A0 : Option Addr) (c0 : Nat) (l0 : List (S38)) (a1 : Int) (r : Int) (w : World) (hr0 : Kd.C k38 w A0 l0.length l0) (hc0 : l0.length ≤ c0) (h : types_Rank.f k l0 a1 = some r) :
    Calls Try.prog 21 #[.slice A0 l0.length c0, .int .u8 a1] w fun e w' => e = .returned (.int .i64 r) ∧ Below w.heap.size w w' := by
  have HR0 := Aside0.mk hr0
  have HC0 := Aside0.mk hc0
  clear hr0 hc0
  have HB := Aside0.mk (Below.refl w.heap.size w)
  have H : ((types_Valid.f l0 a1).bind fun t200 => (if t200 = true then (types_Rank.j0 k l0 a1 (a1 == 0)) else (types_Rank.j0 k l0 a1 true))) = some r := h
  clear h
  have HC3 := Aside0.mk H
  clear H
  go_enter Try.func21, Try.ntmps21
  go_upto_region 1 with (fail)
  go_cut [7] (fun v7 wc => ∃ (kq : Nat) (x7_2 : Bool), v7 = .bool x7_2 ∧ Aside0 (types_Rank.j0 kq l0 a1 x7_2 = some r) ∧ Aside0 (kq ≤ k) ∧ Aside0 (Below w.heap.size w wc))
  case first =>
    have H := HC3.out
    clear HC3
    replace H := Option.bind_eq_some_iff.mp H
    obtain ⟨t200, A40, H⟩ := H
    replace H : (if t200 = true then (types_Rank.j0 k l0 a1 (a1 == 0)) else (types_Rank.j0 k l0 a1 true)) = some r := H
    have A4 := Aside0.mk A40
    clear A40
    by_cases c5 : t200 = true
    · subst c5
      have H1 : (types_Rank.j0 k l0 a1 (a1 == 0)) = some r := by rw [if_pos rfl] at H; exact H
      clear H
      have H := H1
      clear H1
      have H' := Aside0.mk H
      clear H
      go_wp2_with (first | ((with_reducible refine gate_callee (f := 30) rfl ?_); refine goesL_ (some 10) rfl rfl Try.func30 (by kernel_rfl) rfl #[.slice A0 l0.length c0, .int .u8 a1] rfl (by (try simp only [List.map_toArray, List.map_cons, List.map_nil]); first | done | rfl | (simp only [List.length_drop, List.length_take]; rfl)) ?_; (with_reducible refine (types_Valid.calls _ _ l0 a1 true _ ?side1 ?side2 A4.out).mono ?_); (case side1 => repeat (first | exact (Kd.C_below HR0.out HB.out) | (with_reducible refine Kd.C_alloc ?_ _) | (with_reducible refine Kd.C_drewN ?_ _) | (with_reducible refine Kd.C_drew ?_))); (case side2 => exact HC0.out); rintro e w' ⟨rfl, ⟨nd, rfl⟩⟩; refine ⟨_, rfl, ?_⟩))
      go_meet
      case rel => exact ⟨_, ((a1 == 0)), (by first | rfl | (simp; done) | (simp [*]; done)), H', ⟨by first | omega | exact Nat.le_refl _⟩, ⟨by repeat (first | (with_reducible first | exact HB.out | apply below_alloc | apply pw_below_drewN | apply below_drew1) | exact HB.out)⟩⟩
    · replace c5 := Bool.eq_false_iff.mpr c5
      subst c5
      have H1 : (types_Rank.j0 k l0 a1 true) = some r := by rw [if_neg (show ¬ (false = true) by decide)] at H; exact H
      clear H
      have H := H1
      clear H1
      have H' := Aside0.mk H
      clear H
      go_wp2_with (first | ((with_reducible refine gate_callee (f := 30) rfl ?_); refine goesL_ (some 10) rfl rfl Try.func30 (by kernel_rfl) rfl #[.slice A0 l0.length c0, .int .u8 a1] rfl (by (try simp only [List.map_toArray, List.map_cons, List.map_nil]); first | done | rfl | (simp only [List.length_drop, List.length_take]; rfl)) ?_; (with_reducible refine (types_Valid.calls _ _ l0 a1 false _ ?side1 ?side2 A4.out).mono ?_); (case side1 => repeat (first | exact (Kd.C_below HR0.out HB.out) | (with_reducible refine Kd.C_alloc ?_ _) | (with_reducible refine Kd.C_drewN ?_ _) | (with_reducible refine Kd.C_drew ?_))); (case side2 => exact HC0.out); rintro e w' ⟨rfl, ⟨nd, rfl⟩⟩; refine ⟨_, rfl, ?_⟩))
      go_meet
      case rel => exact ⟨_, (true), (by first | rfl | (simp; done) | (simp [*]; done)), H', ⟨by first | omega | exact Nat.le_refl _⟩, ⟨by repeat (first | (with_reducible first | exact HB.out | apply below_alloc | apply pw_below_drewN | apply below_drew1) | exact HB.out)⟩⟩
  case rest =>
    clear HC3
    try clear c2
    try clear p2
    try clear c3
    try clear c5
    obtain ⟨kq, x7_2, rfl, HA, HJ2, HB⟩ := hcut
    cases kq with
    | zero => exact absurd HA.out (by simp [types_Rank.j0])
    | succ kj2 =>
      have H := HA.out
      clear HA
      simp only [types_Rank.j0] at H
      by_cases c6 : x7_2 = true
      · subst c6
        have H1 : (some 0) = some r := by rw [if_pos rfl] at H; exact H
        clear H
        have H := H1
        clear H1
        obtain rfl := Option.some.inj H
        go_wp2
        go_ret
        exact ⟨by first | rfl | (simp [errW_none, errW_some] <;> rfl) | (simp [*, errW_none, errW_some] <;> rfl), by repeat (first | (with_reducible first | exact HB.out | apply below_alloc | apply pw_below_drewN | apply below_drew1) | exact HB.out)⟩
      · replace c6 := Bool.eq_false_iff.mpr c6
        subst c6
        have H1 : (if a1 = 4 then (some 2) else (if a1 = 3 then (types_Rank.l0 kj2 l0 2 (l0.length : Int) 0) else (if a1 ≥ 16 then ((types_class.f l0 a1).bind fun t202 => ((types_deep.f l0 t202).bind fun t203 => (some (wrap64 (1 + t203))))) else (some 1)))) = some r := by rw [if_neg (show ¬ (false = true) by decide)] at H; exact H
        clear H
        have H := H1
        clear H1
        by_cases c7 : a1 = 4
        · rw [if_pos c7] at H
          have c7b0 : (a1 == 4) = true := beq_iff_eq.mpr c7
          have c7b1 : (a1 != 4) = false := bne_eq_false_iff_eq.mpr c7
          clear c7
          obtain rfl := Option.some.inj H
          go_wp2
          go_ret
          exact ⟨by first | rfl | (simp [errW_none, errW_some] <;> rfl) | (simp [*, errW_none, errW_some] <;> rfl), by repeat (first | (with_reducible first | exact HB.out | apply below_alloc | apply pw_below_drewN | apply below_drew1) | exact HB.out)⟩
        · rw [if_neg c7] at H
          have c7b0 : (a1 == 4) = false := beq_eq_false_iff_ne.mpr c7
          have c7b1 : (a1 != 4) = true := bne_iff_ne.mpr c7
          by_cases c8 : a1 = 3
          · rw [if_pos c8] at H
            have c8b0 : (a1 == 3) = true := beq_iff_eq.mpr c8
            have c8b1 : (a1 != 3) = false := bne_eq_false_iff_eq.mpr c8
            clear c8
            have H' := Aside0.mk H
            clear H
            go_wp2
            go_loopg [5, 24] kj2 (fun kq v5 v24 w' => ∃ (x5_2 : Int) (x24_2 : Int), v5 = .int .i64 x5_2 ∧ v24 = .int .i64 x24_2 ∧ Aside0 (types_Rank.l0 kq l0 x5_2 (l0.length : Int) x24_2 = some r) ∧ Aside0 (kq ≤ kj2) ∧ Aside0 (Below w.heap.size w w'))
            case atStart => exact ⟨(2), (0), (by first | rfl | (simp; done) | (simp [*]; done)), (by first | rfl | (simp; done) | (simp [*]; done)), H', ⟨Nat.le_refl _⟩, ⟨by repeat (first | (with_reducible first | exact HB.out | apply below_alloc | apply pw_below_drewN | apply below_drew1) | exact HB.out)⟩⟩
            case round =>
              clear H'
              try clear c2
              try clear p2
              try clear c3
              try clear c5
              try clear c6
              try clear p6
              try clear c7
              try clear c7b0
              try clear c7b1
              try clear c8
              try clear c8b0
              try clear c8b1
              try clear p2
              obtain ⟨x5_2, x24_2, rfl, rfl, HA, HK2, HB⟩ := hrel
              cases gk with
              | zero => exact absurd HA.out (by simp [types_Rank.l0])
              | succ k2 =>
                have H := HA.out
                clear HA
                simp only [types_Rank.l0] at H
                by_cases c9 : x24_2 < (l0.length : Int)
                · rw [if_pos c9] at H
                  have c9b0 : decide (x24_2 < (l0.length : Int)) = true := decide_eq_true c9
                  clear c9
                  replace H := Option.bind_eq_some_iff.mp H
                  obtain ⟨t201, A100, H⟩ := H
                  replace H : (types_Rank.l0 k2 l0 (mx x5_2 (wrap64 (1 + t201))) (l0.length : Int) (wrap64 (x24_2 + 1))) = some r := H
                  have A10 := Aside0.mk A100
                  clear A100
                  obtain ⟨ji11, hji11⟩ : ∃ j_ : Int, (mx x5_2 (wrap64 (1 + t201))) = j_ := ⟨_, rfl⟩
                  replace H : (types_Rank.l0 k2 l0 ji11 (l0.length : Int) (wrap64 (x24_2 + 1))) = some r := by first | (rw [hji11] at H; exact H) | (simp only [hji11] at H ⊢; exact H)
                  (try rw [hji11] at A10)
                  have hji11_ : (if x5_2 < (wrap64 (1 + t201)) then (wrap64 (1 + t201)) else x5_2) = ji11 := hji11
                  have H' := Aside0.mk H
                  clear H
                  go_wp2_with (first | ((with_reducible refine gate_callee (f := 45) rfl ?_); refine goesL_ (some 30) rfl rfl Try.func45 (by kernel_rfl) rfl #[.slice A0 l0.length c0, .int .i64 x24_2] rfl (by (try simp only [List.map_toArray, List.map_cons, List.map_nil]); first | done | rfl | (simp only [List.length_drop, List.length_take]; rfl)) ?_; (with_reducible refine (types_deep.calls _ _ l0 x24_2 t201 _ ?side1 ?side2 A10.out).mono ?_); (case side1 => repeat (first | exact (Kd.C_below HR0.out HB.out) | (with_reducible refine Kd.C_alloc ?_ _) | (with_reducible refine Kd.C_drewN ?_ _) | (with_reducible refine Kd.C_drew ?_))); (case side2 => exact HC0.out); rintro e w12 ⟨rfl, hb⟩; refine ⟨_, rfl, ?_⟩; have n0_ := Aside0.mk (below_step (by repeat (first | (with_reducible first | exact HB.out | apply below_alloc | apply pw_below_drewN | apply below_drew1) | exact HB.out)) hb); clear HB; have HB := n0_; clear n0_; (try clear hb); (try clear hb2); (try clear hk); (try clear hi)))
                  go_roundg k2
                  case measure => have := HJ2.out; have := HK2.out; omega
                  case rel => exact ⟨(ji11), (wrap64 (x24_2 + 1)), (by first | rfl | (simp; done) | (simp only [← hji11] <;> (first | rfl | simp)) | (simp [*]; done)), (by first | rfl | (simp; done) | (simp [*]; done)), H', ⟨by have := HJ2.out; have := HK2.out; omega⟩, ⟨by repeat (first | (with_reducible first | exact HB.out | apply below_alloc | apply pw_below_drewN | apply below_drew1) | exact HB.out)⟩⟩
                · rw [if_neg c9] at H
                  have c9b0 : decide (x24_2 < (l0.length : Int)) = false := decide_eq_false c9
                  clear c9
                  obtain rfl := Option.some.inj H
                  go_wp2
                  go_ret
                  exact ⟨by first | rfl | (simp [errW_none, errW_some] <;> rfl) | (simp [*, errW_none, errW_some] <;> rfl), by repeat (first | (with_reducible first | exact HB.out | apply below_alloc | apply pw_below_drewN | apply below_drew1) | exact HB.out)⟩
          · rw [if_neg c8] at H
            have c8b0 : (a1 == 3) = false := beq_eq_false_iff_ne.mpr c8
            have c8b1 : (a1 != 3) = true := bne_iff_ne.mpr c8
            by_cases c13 : a1 ≥ 16
            · rw [if_pos c13] at H
              have c13b0 : decide (16 ≤ a1) = true := decide_eq_true c13
              clear c13
              replace H := Option.bind_eq_some_iff.mp H
              obtain ⟨t202, A140, H⟩ := H
              replace H : ((types_deep.f l0 t202).bind fun t203 => (some (wrap64 (1 + t203)))) = some r := H
              have A14 := Aside0.mk A140
              clear A140
              replace H := Option.bind_eq_some_iff.mp H
              obtain ⟨t203, A150, H⟩ := H
              replace H : (some (wrap64 (1 + t203))) = some r := H
              have A15 := Aside0.mk A150
              clear A150
              obtain rfl := Option.some.inj H
              go_wp2_with (first | ((with_reducible refine gate_callee (f := 39) rfl ?_); refine goesL_ (some 42) rfl rfl Try.func39 (by kernel_rfl) rfl #[.slice A0 l0.length c0, .int .u8 a1] rfl (by (try simp only [List.map_toArray, List.map_cons, List.map_nil]); first | done | rfl | (simp only [List.length_drop, List.length_take]; rfl)) ?_; (with_reducible refine (types_class.calls _ _ l0 a1 t202 _ ?side1 ?side2 A14.out).mono ?_); (case side1 => repeat (first | exact (Kd.C_below HR0.out HB.out) | (with_reducible refine Kd.C_alloc ?_ _) | (with_reducible refine Kd.C_drewN ?_ _) | (with_reducible refine Kd.C_drew ?_))); (case side2 => exact HC0.out); rintro e w' ⟨rfl, ⟨nd, rfl⟩⟩; refine ⟨_, rfl, ?_⟩) | ((with_reducible refine gate_callee (f := 45) rfl ?_); refine goesL_ (some 43) rfl rfl Try.func45 (by kernel_rfl) rfl #[.slice A0 l0.length c0, .int .i64 t202] rfl (by (try simp only [List.map_toArray, List.map_cons, List.map_nil]); first | done | rfl | (simp only [List.length_drop, List.length_take]; rfl)) ?_; (with_reducible refine (types_deep.calls _ _ l0 t202 t203 _ ?side1 ?side2 A15.out).mono ?_); (case side1 => repeat (first | exact (Kd.C_below HR0.out (by repeat (first | (with_reducible first | exact HB.out | apply below_alloc | apply pw_below_drewN | apply below_drew1) | exact HB.out))) | (with_reducible refine Kd.C_alloc ?_ _) | (with_reducible refine Kd.C_drewN ?_ _) | (with_reducible refine Kd.C_drew ?_))); (case side2 => exact HC0.out); rintro e w16 ⟨rfl, hb⟩; refine ⟨_, rfl, ?_⟩; have n0_ := Aside0.mk (below_step (by repeat (first | (with_reducible first | exact HB.out | apply below_alloc | apply pw_below_drewN | apply below_drew1) | exact HB.out)) hb); clear HB; have HB := n0_; clear n0_; (try clear hb); (try clear hb2); (try clear hk); (try clear hi)))
              go_ret
              exact ⟨by first | rfl | (simp [errW_none, errW_some] <;> rfl) | (simp [*, errW_none, errW_some] <;> rfl), by repeat (first | (with_reducible first | exact HB.out | apply below_alloc | apply pw_below_drewN | apply below_drew1) | exact HB.out)⟩
            · rw [if_neg c13] at H
              have c13b0 : decide (16 ≤ a1) = false := decide_eq_false c13
              clear c13
              obtain rfl := Option.some.inj H
              go_wp2
              go_ret
              exact ⟨by first | rfl | (simp [errW_none, errW_some] <;> rfl) | (simp [*, errW_none, errW_some] <;> rfl), by repeat (first | (with_reducible first | exact HB.out | apply below_alloc | apply pw_below_drewN | apply below_drew1) | exact HB.out)⟩

mutual
def provisolaw02_TypesSteps.j0 : Nat → List (S38) → Int → Int → Bool → Option (Bool)
  | 0, _, _, _, _ => none
  | k + 1, x0, x1, x2, x18 => if x18 = true then (some false) else ((types_Rank.f k x0 x1).bind fun t207 => (if t207 < 0 then (provisolaw02_TypesSteps.j1 k x0 x1 x2 t207 true) else (provisolaw02_TypesSteps.j1 k x0 x1 x2 t207 (decide (t207 > 34)))))
def provisolaw02_TypesSteps.j1 : Nat → List (S38) → Int → Int → Int → Bool → Option (Bool)
  | 0, _, _, _, _, _ => none
  | k + 1, x0, x1, x2, x7, x27 => if x27 = true then (some false) else (if x1 = x2 then (some true) else ((types_Sub.f k x0 x1 x2).bind fun t208 => (if t208 = true then ((types_Rank.f k x0 x2).bind fun t209 => (some (decide (x7 > t209)))) else (some true))))
end
def provisolaw02_TypesSteps.f (k : Nat) (l0 : List (S38)) (a1 : Int) (a2 : Int) : Option (Bool) := (provisoref02_Made.f k l0).bind fun t204 => (if t204 = true then ((types_Rank.f k l0 5).bind fun t205 => (if t205 = 1 then ((types_Rank.f k l0 4).bind fun t206 => (provisolaw02_TypesSteps.j0 k l0 a1 a2 (t206 != 2))) else (provisolaw02_TypesSteps.j0 k l0 a1 a2 true))) else (some true))
set_option maxHeartbeats 8000000 in
set_option maxRecDepth 100000 in
theorem provisolaw02_TypesSteps.calls (k : Nat) (A0 : Option Addr) (c0 : Nat) (l0 : List (S38)) (a1 : Int) (a2 : Int) (r : Bool) (w : World) (hr0 : Kd.C k38 w A0 l0.length l0) (hc0 : l0.length ≤ c0) (h : provisolaw02_TypesSteps.f k l0 a1 a2 = some r) :
    Calls Try.prog 7 #[.slice A0 l0.length c0, .int .u8 a1, .int .u8 a2] w fun e w' => e = .returned (.bool r) ∧ Below w.heap.size w w' := by
  have HR0 := Aside0.mk hr0
  have HC0 := Aside0.mk hc0
  clear hr0 hc0
  have HB := Aside0.mk (Below.refl w.heap.size w)
  have H : ((provisoref02_Made.f k l0).bind fun t204 => (if t204 = true then ((types_Rank.f k l0 5).bind fun t205 => (if t205 = 1 then ((types_Rank.f k l0 4).bind fun t206 => (provisolaw02_TypesSteps.j0 k l0 a1 a2 (t206 != 2))) else (provisolaw02_TypesSteps.j0 k l0 a1 a2 true))) else (some true))) = some r := h
  clear h
  replace H := Option.bind_eq_some_iff.mp H
  obtain ⟨t204, A40, H⟩ := H
  replace H : (if t204 = true then ((types_Rank.f k l0 5).bind fun t205 => (if t205 = 1 then ((types_Rank.f k l0 4).bind fun t206 => (provisolaw02_TypesSteps.j0 k l0 a1 a2 (t206 != 2))) else (provisolaw02_TypesSteps.j0 k l0 a1 a2 true))) else (some true)) = some r := H
  have A4 := Aside0.mk A40
  clear A40
  by_cases c5 : t204 = true
  · subst c5
    have H1 : ((types_Rank.f k l0 5).bind fun t205 => (if t205 = 1 then ((types_Rank.f k l0 4).bind fun t206 => (provisolaw02_TypesSteps.j0 k l0 a1 a2 (t206 != 2))) else (provisolaw02_TypesSteps.j0 k l0 a1 a2 true))) = some r := by rw [if_pos rfl] at H; exact H
    clear H
    have H := H1
    clear H1
    have HC6 := Aside0.mk H
    clear H
    go_enter Try.func7, Try.ntmps7
    go_upto_region 3 with (first | ((with_reducible refine gate_callee (f := 11) rfl ?_); refine goesL_ (some 9) rfl rfl Try.func11 (by kernel_rfl) rfl #[.slice A0 l0.length c0] rfl (by (try simp only [List.map_toArray, List.map_cons, List.map_nil]); first | done | rfl | (simp only [List.length_drop, List.length_take]; rfl)) ?_; (with_reducible refine (provisoref02_Made.calls k _ _ l0 true _ ?side1 ?side2 A4.out).mono ?_); (case side1 => repeat (first | exact HR0.out | (with_reducible refine Kd.C_alloc ?_ _) | (with_reducible refine Kd.C_drewN ?_ _) | (with_reducible refine Kd.C_drew ?_))); (case side2 => exact HC0.out); rintro e w7 ⟨rfl, hb⟩; refine ⟨_, rfl, ?_⟩; have n0_ := Aside0.mk (below_step (by repeat (first | (with_reducible first | exact HB.out | apply below_alloc | apply pw_below_drewN | apply below_drew1) | exact HB.out)) hb); clear HB; have HB := n0_; clear n0_; (try clear hb); (try clear hb2); (try clear hk); (try clear hi)))
    (try simp only [Act.put, List.setIfInBounds_toArray, List.set_cons_zero, List.set_cons_succ])
    go_cut [18] (fun v18 wc => ∃ (kq : Nat) (x18_5 : Bool), v18 = .bool x18_5 ∧ Aside0 (provisolaw02_TypesSteps.j0 kq l0 a1 a2 x18_5 = some r) ∧ Aside0 (kq ≤ k) ∧ Aside0 (Below w.heap.size w wc))
    case first =>
      have H := HC6.out
      clear HC6
      replace H := Option.bind_eq_some_iff.mp H
      obtain ⟨t205, A80, H⟩ := H
      replace H : (if t205 = 1 then ((types_Rank.f k l0 4).bind fun t206 => (provisolaw02_TypesSteps.j0 k l0 a1 a2 (t206 != 2))) else (provisolaw02_TypesSteps.j0 k l0 a1 a2 true)) = some r := H
      have A8 := Aside0.mk A80
      clear A80
      by_cases c9 : t205 = 1
      · rw [if_pos c9] at H
        have c9b0 : (t205 == 1) = true := beq_iff_eq.mpr c9
        have c9b1 : (t205 != 1) = false := bne_eq_false_iff_eq.mpr c9
        clear c9
        (first | rw [c9b0] | (simp only [i64_w, i32_w]; rw [c9b0]) | skip)
        replace H := Option.bind_eq_some_iff.mp H
        obtain ⟨t206, A100, H⟩ := H
        replace H : (provisolaw02_TypesSteps.j0 k l0 a1 a2 (t206 != 2)) = some r := H
        have A10 := Aside0.mk A100
        clear A100
        have H' := Aside0.mk H
        clear H
        go_wp2_with (first | ((with_reducible refine gate_callee (f := 21) rfl ?_); refine goesL_ (some 12) rfl rfl Try.func21 (by kernel_rfl) rfl #[.slice A0 l0.length c0, .int .u8 5] rfl (by (try simp only [List.map_toArray, List.map_cons, List.map_nil]); first | done | rfl | (simp only [List.length_drop, List.length_take]; rfl)) ?_; (with_reducible refine (types_Rank.calls k _ _ l0 5 t205 _ ?side1 ?side2 A8.out).mono ?_); (case side1 => repeat (first | exact (Kd.C_below HR0.out HB.out) | (with_reducible refine Kd.C_alloc ?_ _) | (with_reducible refine Kd.C_drewN ?_ _) | (with_reducible refine Kd.C_drew ?_))); (case side2 => exact HC0.out); rintro e w11 ⟨rfl, hb⟩; refine ⟨_, rfl, ?_⟩; have n0_ := Aside0.mk (below_step (by repeat (first | (with_reducible first | exact HB.out | apply below_alloc | apply pw_below_drewN | apply below_drew1) | exact HB.out)) hb); clear HB; have HB := n0_; clear n0_; (try clear hb); (try clear hb2); (try clear hk); (try clear hi)) | (go_at_call 21; (with_reducible refine (types_Rank.calls k _ _ l0 4 t206 _ ?side1 ?side2 A10.out).mono ?_); (case side1 => repeat (first | exact (Kd.C_below HR0.out HB.out) | (with_reducible refine Kd.C_alloc ?_ _) | (with_reducible refine Kd.C_drewN ?_ _) | (with_reducible refine Kd.C_drew ?_))); (case side2 => exact HC0.out); rintro e w12 ⟨rfl, hb⟩; have n0_ := Aside0.mk (below_step (by repeat (first | (with_reducible first | exact HB.out | apply below_alloc | apply pw_below_drewN | apply below_drew1) | exact HB.out)) hb); clear HB; have HB := n0_; clear n0_; (try clear hb); (try clear hb2); (try clear hk); (try clear hi)))
        go_meet
        case rel => exact ⟨_, ((t206 != 2)), (by first | rfl | (simp; done) | (simp [*]; done)), H', ⟨by first | omega | exact Nat.le_refl _⟩, ⟨by repeat (first | (with_reducible first | exact HB.out | apply below_alloc | apply pw_below_drewN | apply below_drew1) | exact HB.out)⟩⟩
      · rw [if_neg c9] at H
        have c9b0 : (t205 == 1) = false := beq_eq_false_iff_ne.mpr c9
        have c9b1 : (t205 != 1) = true := bne_iff_ne.mpr c9
        (first | rw [c9b0] | (simp only [i64_w, i32_w]; rw [c9b0]) | skip)
        have H' := Aside0.mk H
        clear H
        go_wp2_with (first | ((with_reducible refine gate_callee (f := 21) rfl ?_); refine goesL_ (some 12) rfl rfl Try.func21 (by kernel_rfl) rfl #[.slice A0 l0.length c0, .int .u8 5] rfl (by (try simp only [List.map_toArray, List.map_cons, List.map_nil]); first | done | rfl | (simp only [List.length_drop, List.length_take]; rfl)) ?_; (with_reducible refine (types_Rank.calls k _ _ l0 5 t205 _ ?side1 ?side2 A8.out).mono ?_); (case side1 => repeat (first | exact (Kd.C_below HR0.out HB.out) | (with_reducible refine Kd.C_alloc ?_ _) | (with_reducible refine Kd.C_drewN ?_ _) | (with_reducible refine Kd.C_drew ?_))); (case side2 => exact HC0.out); rintro e w13 ⟨rfl, hb⟩; refine ⟨_, rfl, ?_⟩; have n0_ := Aside0.mk (below_step (by repeat (first | (with_reducible first | exact HB.out | apply below_alloc | apply pw_below_drewN | apply below_drew1) | exact HB.out)) hb); clear HB; have HB := n0_; clear n0_; (try clear hb); (try clear hb2); (try clear hk); (try clear hi)))
        go_meet
        case rel => exact ⟨_, (true), (by first | rfl | (simp; done) | (simp [*]; done)), H', ⟨by first | omega | exact Nat.le_refl _⟩, ⟨by repeat (first | (with_reducible first | exact HB.out | apply below_alloc | apply pw_below_drewN | apply below_drew1) | exact HB.out)⟩⟩
    case rest =>
      clear HC6
      try clear c1
      try clear c2
      try clear p2
      try clear c5
      try clear c7
      try clear c9
      try clear c9b0
      try clear c9b1
      try clear c11
      obtain ⟨kq, x18_5, rfl, HA, HJ5, HB⟩ := hcut
      cases kq with
      | zero => exact absurd HA.out (by simp [provisolaw02_TypesSteps.j0])
      | succ kj5 =>
        have H := HA.out
        clear HA
        simp only [provisolaw02_TypesSteps.j0] at H
        by_cases c14 : x18_5 = true
        · subst c14
          have H1 : (some false) = some r := by rw [if_pos rfl] at H; exact H
          clear H
          have H := H1
          clear H1
          obtain rfl := Option.some.inj H
          go_wp2
          go_ret
          exact ⟨by first | rfl | (simp [errW_none, errW_some] <;> rfl) | (simp [*, errW_none, errW_some] <;> rfl), by repeat (first | (with_reducible first | exact HB.out | apply below_alloc | apply pw_below_drewN | apply below_drew1) | exact HB.out)⟩
        · replace c14 := Bool.eq_false_iff.mpr c14
          subst c14
          have H1 : ((types_Rank.f kj5 l0 a1).bind fun t207 => (if t207 < 0 then (provisolaw02_TypesSteps.j1 kj5 l0 a1 a2 t207 true) else (provisolaw02_TypesSteps.j1 kj5 l0 a1 a2 t207 (decide (t207 > 34))))) = some r := by rw [if_neg (show ¬ (false = true) by decide)] at H; exact H
          clear H
          have H := H1
          clear H1
          replace H := Option.bind_eq_some_iff.mp H
          obtain ⟨t207, A150, H⟩ := H
          replace H : (if t207 < 0 then (provisolaw02_TypesSteps.j1 kj5 l0 a1 a2 t207 true) else (provisolaw02_TypesSteps.j1 kj5 l0 a1 a2 t207 (decide (t207 > 34)))) = some r := H
          have A15 := Aside0.mk A150
          clear A150
          have HC16 := Aside0.mk H
          clear H
          go_upto_region 6 with (first | ((with_reducible refine gate_callee (f := 21) rfl ?_); refine goesL_ (some 21) rfl rfl Try.func21 (by kernel_rfl) rfl #[.slice A0 l0.length c0, .int .u8 a1] rfl (by (try simp only [List.map_toArray, List.map_cons, List.map_nil]); first | done | rfl | (simp only [List.length_drop, List.length_take]; rfl)) ?_; (with_reducible refine (types_Rank.calls kj5 _ _ l0 a1 t207 _ ?side1 ?side2 A15.out).mono ?_); (case side1 => repeat (first | exact (Kd.C_below HR0.out HB.out) | (with_reducible refine Kd.C_alloc ?_ _) | (with_reducible refine Kd.C_drewN ?_ _) | (with_reducible refine Kd.C_drew ?_))); (case side2 => exact HC0.out); rintro e w17 ⟨rfl, hb⟩; refine ⟨_, rfl, ?_⟩; have n0_ := Aside0.mk (below_step (by repeat (first | (with_reducible first | exact HB.out | apply below_alloc | apply pw_below_drewN | apply below_drew1) | exact HB.out)) hb); clear HB; have HB := n0_; clear n0_; (try clear hb); (try clear hb2); (try clear hk); (try clear hi)))
          (try simp only [Act.put, List.setIfInBounds_toArray, List.set_cons_zero, List.set_cons_succ])
          go_cut [27] (fun v27 wc => ∃ (kq : Nat) (x27_15 : Bool), v27 = .bool x27_15 ∧ Aside0 (provisolaw02_TypesSteps.j1 kq l0 a1 a2 t207 x27_15 = some r) ∧ Aside0 (kq ≤ kj5) ∧ Aside0 (Below w.heap.size w wc))
          case first =>
            have H := HC16.out
            clear HC16
            by_cases c18 : t207 < 0
            · rw [if_pos c18] at H
              have c18b0 : decide (t207 < 0) = true := decide_eq_true c18
              clear c18
              (first | rw [c18b0] | (simp only [i64_w, i32_w]; rw [c18b0]) | skip)
              have H' := Aside0.mk H
              clear H
              go_wp2
              go_meet
              case rel => exact ⟨_, (true), (by first | rfl | (simp; done) | (simp [*]; done)), H', ⟨by have := HJ5.out; first | omega | exact Nat.le_refl _⟩, ⟨by repeat (first | (with_reducible first | exact HB.out | apply below_alloc | apply pw_below_drewN | apply below_drew1) | exact HB.out)⟩⟩
            · rw [if_neg c18] at H
              have c18b0 : decide (t207 < 0) = false := decide_eq_false c18
              clear c18
              (first | rw [c18b0] | (simp only [i64_w, i32_w]; rw [c18b0]) | skip)
              have H' := Aside0.mk H
              clear H
              go_wp2
              go_meet
              case rel => exact ⟨_, (decide (t207 > 34)), (by first | rfl | (simp; done) | (simp [*]; done)), H', ⟨by have := HJ5.out; first | omega | exact Nat.le_refl _⟩, ⟨by repeat (first | (with_reducible first | exact HB.out | apply below_alloc | apply pw_below_drewN | apply below_drew1) | exact HB.out)⟩⟩
          case rest =>
            clear HC16
            try clear c1
            try clear c2
            try clear p2
            try clear c5
            try clear c7
            try clear c9
            try clear c9b0
            try clear c9b1
            try clear c11
            try clear c14
            try clear c18
            try clear c18b0
            try clear p2
            obtain ⟨kq, x27_15, rfl, HA, HJ15, HB⟩ := hcut
            cases kq with
            | zero => exact absurd HA.out (by simp [provisolaw02_TypesSteps.j1])
            | succ kj15 =>
              have H := HA.out
              clear HA
              simp only [provisolaw02_TypesSteps.j1] at H
              by_cases c19 : x27_15 = true
              · subst c19
                have H1 : (some false) = some r := by rw [if_pos rfl] at H; exact H
                clear H
                have H := H1
                clear H1
                obtain rfl := Option.some.inj H
                go_wp2
                go_ret
                exact ⟨by first | rfl | (simp [errW_none, errW_some] <;> rfl) | (simp [*, errW_none, errW_some] <;> rfl), by repeat (first | (with_reducible first | exact HB.out | apply below_alloc | apply pw_below_drewN | apply below_drew1) | exact HB.out)⟩
              · replace c19 := Bool.eq_false_iff.mpr c19
                subst c19
                have H1 : (if a1 = a2 then (some true) else ((types_Sub.f kj15 l0 a1 a2).bind fun t208 => (if t208 = true then ((types_Rank.f kj15 l0 a2).bind fun t209 => (some (decide (t207 > t209)))) else (some true)))) = some r := by rw [if_neg (show ¬ (false = true) by decide)] at H; exact H
                clear H
                have H := H1
                clear H1
                by_cases c20 : a1 = a2
                · rw [if_pos c20] at H
                  have c20b0 : (a1 == a2) = true := beq_iff_eq.mpr c20
                  have c20b1 : (a1 != a2) = false := bne_eq_false_iff_eq.mpr c20
                  clear c20
                  obtain rfl := Option.some.inj H
                  go_wp2
                  go_ret
                  exact ⟨by first | rfl | (simp [errW_none, errW_some] <;> rfl) | (simp [*, errW_none, errW_some] <;> rfl), by repeat (first | (with_reducible first | exact HB.out | apply below_alloc | apply pw_below_drewN | apply below_drew1) | exact HB.out)⟩
                · rw [if_neg c20] at H
                  have c20b0 : (a1 == a2) = false := beq_eq_false_iff_ne.mpr c20
                  have c20b1 : (a1 != a2) = true := bne_iff_ne.mpr c20
                  replace H := Option.bind_eq_some_iff.mp H
                  obtain ⟨t208, A210, H⟩ := H
                  replace H : (if t208 = true then ((types_Rank.f kj15 l0 a2).bind fun t209 => (some (decide (t207 > t209)))) else (some true)) = some r := H
                  have A21 := Aside0.mk A210
                  clear A210
                  by_cases c22 : t208 = true
                  · subst c22
                    have H1 : ((types_Rank.f kj15 l0 a2).bind fun t209 => (some (decide (t207 > t209)))) = some r := by rw [if_pos rfl] at H; exact H
                    clear H
                    have H := H1
                    clear H1
                    replace H := Option.bind_eq_some_iff.mp H
                    obtain ⟨t209, A230, H⟩ := H
                    replace H : (some (decide (t207 > t209))) = some r := H
                    have A23 := Aside0.mk A230
                    clear A230
                    obtain rfl := Option.some.inj H
                    go_wp2_with (first | (go_at_call 16; (with_reducible refine (types_Sub.calls kj15 _ _ l0 a1 a2 true _ ?side1 ?side2 A21.out).mono ?_); (case side1 => repeat (first | exact (Kd.C_below HR0.out HB.out) | (with_reducible refine Kd.C_alloc ?_ _) | (with_reducible refine Kd.C_drewN ?_ _) | (with_reducible refine Kd.C_drew ?_))); (case side2 => exact HC0.out); rintro e w24 ⟨rfl, hb⟩; have n0_ := Aside0.mk (below_step (by repeat (first | (with_reducible first | exact HB.out | apply below_alloc | apply pw_below_drewN | apply below_drew1) | exact HB.out)) hb); clear HB; have HB := n0_; clear n0_; (try clear hb); (try clear hb2); (try clear hk); (try clear hi)) | (go_at_call 21; (with_reducible refine (types_Rank.calls kj15 _ _ l0 a2 t209 _ ?side1 ?side2 A23.out).mono ?_); (case side1 => repeat (first | exact (Kd.C_below HR0.out HB.out) | (with_reducible refine Kd.C_alloc ?_ _) | (with_reducible refine Kd.C_drewN ?_ _) | (with_reducible refine Kd.C_drew ?_))); (case side2 => exact HC0.out); rintro e w25 ⟨rfl, hb⟩; have n0_ := Aside0.mk (below_step (by repeat (first | (with_reducible first | exact HB.out | apply below_alloc | apply pw_below_drewN | apply below_drew1) | exact HB.out)) hb); clear HB; have HB := n0_; clear n0_; (try clear hb); (try clear hb2); (try clear hk); (try clear hi)))
                    go_ret
                    exact ⟨by first | rfl | (simp [errW_none, errW_some] <;> rfl) | (simp [*, errW_none, errW_some] <;> rfl), by repeat (first | (with_reducible first | exact HB.out | apply below_alloc | apply pw_below_drewN | apply below_drew1) | exact HB.out)⟩
                  · replace c22 := Bool.eq_false_iff.mpr c22
                    subst c22
                    have H1 : (some true) = some r := by rw [if_neg (show ¬ (false = true) by decide)] at H; exact H
                    clear H
                    have H := H1
                    clear H1
                    obtain rfl := Option.some.inj H
                    go_wp2_with (first | (go_at_call 16; (with_reducible refine (types_Sub.calls kj15 _ _ l0 a1 a2 false _ ?side1 ?side2 A21.out).mono ?_); (case side1 => repeat (first | exact (Kd.C_below HR0.out HB.out) | (with_reducible refine Kd.C_alloc ?_ _) | (with_reducible refine Kd.C_drewN ?_ _) | (with_reducible refine Kd.C_drew ?_))); (case side2 => exact HC0.out); rintro e w26 ⟨rfl, hb⟩; have n0_ := Aside0.mk (below_step (by repeat (first | (with_reducible first | exact HB.out | apply below_alloc | apply pw_below_drewN | apply below_drew1) | exact HB.out)) hb); clear HB; have HB := n0_; clear n0_; (try clear hb); (try clear hb2); (try clear hk); (try clear hi)))
                    go_ret
                    exact ⟨by first | rfl | (simp [errW_none, errW_some] <;> rfl) | (simp [*, errW_none, errW_some] <;> rfl), by repeat (first | (with_reducible first | exact HB.out | apply below_alloc | apply pw_below_drewN | apply below_drew1) | exact HB.out)⟩
  · replace c5 := Bool.eq_false_iff.mpr c5
    subst c5
    have H1 : (some true) = some r := by rw [if_neg (show ¬ (false = true) by decide)] at H; exact H
    clear H
    have H := H1
    clear H1
    obtain rfl := Option.some.inj H
    go_enter Try.func7, Try.ntmps7
    go_wp2_with (first | ((with_reducible refine gate_callee (f := 11) rfl ?_); refine goesL_ (some 9) rfl rfl Try.func11 (by kernel_rfl) rfl #[.slice A0 l0.length c0] rfl (by (try simp only [List.map_toArray, List.map_cons, List.map_nil]); first | done | rfl | (simp only [List.length_drop, List.length_take]; rfl)) ?_; (with_reducible refine (provisoref02_Made.calls k _ _ l0 false _ ?side1 ?side2 A4.out).mono ?_); (case side1 => repeat (first | exact HR0.out | (with_reducible refine Kd.C_alloc ?_ _) | (with_reducible refine Kd.C_drewN ?_ _) | (with_reducible refine Kd.C_drew ?_))); (case side2 => exact HC0.out); rintro e w27 ⟨rfl, hb⟩; refine ⟨_, rfl, ?_⟩; have n0_ := Aside0.mk (below_step (by repeat (first | (with_reducible first | exact HB.out | apply below_alloc | apply pw_below_drewN | apply below_drew1) | exact HB.out)) hb); clear HB; have HB := n0_; clear n0_; (try clear hb); (try clear hb2); (try clear hk); (try clear hi)))
    go_ret
    exact ⟨by first | rfl | (simp [errW_none, errW_some] <;> rfl) | (simp [*, errW_none, errW_some] <;> rfl), by repeat (first | (with_reducible first | exact HB.out | apply below_alloc | apply pw_below_drewN | apply below_drew1) | exact HB.out)⟩

end Go.Proofs.Ytghgloepameloaa.P

end

section
namespace Go.Proofs.Ytghgloepameloaa.P
open Go.RowKit Go.Proofs.YtghgloepameloaaW.PrintWords
def provisolaw02_TypesSteps.Pure : Prop := ∀ (l0 : List (S38)) (a1 : Int) (a2 : Int), (fun l : List (S38) => l.length ≤ 9223372036854775807 ∧ l.length * 48 ≤ 140737488351232 ∧ ∀ x ∈ l, Ok38 x) l0 → (fun n : Int => (Lit.int .u8 n).wf = true) a1 → (fun n : Int => (Lit.int .u8 n).wf = true) a2 → ∃ k, provisolaw02_TypesSteps.f k l0 a1 a2 = some true
end Go.Proofs.Ytghgloepameloaa.P

end

section
namespace Go.Proofs.Ytghgloepameloaa.P
open Go.RowKit Go.Proofs.YtghgloepameloaaW.PrintWords Go.Proofs.YtghgloepameloaaW.PrintLast Go.Proofs.YtghgloepameloaaW.PrintMore
set_option linter.unusedVariables false
set_option linter.unusedSimpArgs false

theorem w_next {i : Int} {n : Nat} (h0 : 0 ≤ i) (h : i < (n : Int)) (hn : n ≤ 9223372036854775807) : wrap64 (i + 1) = i + 1 := by
  unfold wrap64
  omega

def sign (i c : Int) : Bool :=
  (decide (97 ≤ c) && decide (c ≤ 122)) || (decide (65 ≤ c) && decide (c ≤ 90)) || (decide (0 < i) && ((decide (48 ≤ c) && decide (c ≤ 57)) || decide (c = 95)))
def tailOk (s : ByteArray) : Nat → Bool
  | 0 => true
  | d + 1 => sign ((s.size : Int) - (d + 1)) (bt s ((s.size : Int) - (d + 1))) && tailOk s d
def nameOk (s : ByteArray) : Bool := decide (1 ≤ s.size) && decide (s.size ≤ 24) && tailOk s s.size
theorem ref_name_tail (s : ByteArray) (hn : s.size ≤ 140737488351232) (d : Nat) : ∀ (i : Int), 0 ≤ i → i ≤ s.size → (s.size : Int) - i = d → Ev (fun k => provisoref02_IsName.l0 k s i) (tailOk s d) := by
  induction d with
  | zero =>
    intro i h0 h1 hd
    exact Ev.step (f := fun _ => some true) (fun k => by simp only [provisoref02_IsName.l0]; rw [if_neg (by omega)]) (Ev.now _)
  | succ d ih =>
    intro i h0 h1 hd
    have hlt : i < (s.size : Int) := by omega
    have hi : (s.size : Int) - (d + 1) = i := by omega
    have h := ih (i + 1) (by omega) (by omega) (by omega)
    cases hs : sign i (bt s i) with
    | true =>
      refine Ev.step (fun k => ?_) (show Ev _ (tailOk s (d + 1)) from by simp only [tailOk, hi, hs, Bool.true_and]; exact h)
      simp only [provisoref02_IsName.l0]
      rw [if_pos hlt, if_pos h0, w_next h0 hlt (by omega)]
      revert hs
      generalize bt s i = c
      intro hs
      by_cases a1 : 97 ≤ c <;> by_cases a2 : c ≤ 122 <;> by_cases a3 : 65 ≤ c <;> by_cases a4 : c ≤ 90 <;> by_cases a5 : i = 0 <;> by_cases a6 : c < 48 <;> by_cases a7 : 57 < c <;> by_cases a8 : c = 95 <;> (try omega) <;> (have a9 : 0 < i ∨ i = 0 := by omega) <;> simp [sign, a1, a2, a3, a4, a5, a6, a7, a8] at hs ⊢ <;> omega
    | false =>
      refine Ev.step (f := fun _ => some false) (fun k => ?_) (show Ev _ (tailOk s (d + 1)) from by simp only [tailOk, hi, hs, Bool.false_and]; exact Ev.now _)
      simp only [provisoref02_IsName.l0]
      rw [if_pos hlt, if_pos h0, w_next h0 hlt (by omega)]
      revert hs
      generalize bt s i = c
      intro hs
      by_cases a1 : 97 ≤ c <;> by_cases a2 : c ≤ 122 <;> by_cases a3 : 65 ≤ c <;> by_cases a4 : c ≤ 90 <;> by_cases a5 : i = 0 <;> by_cases a6 : c < 48 <;> by_cases a7 : 57 < c <;> by_cases a8 : c = 95 <;> (try omega) <;> (have a9 : 0 < i ∨ i = 0 := by omega) <;> simp [sign, a1, a2, a3, a4, a5, a6, a7, a8] at hs ⊢ <;> omega
theorem ref_name (s : ByteArray) (hn : s.size ≤ 140737488351232) : Ev (fun k => provisoref02_IsName.f k s) (nameOk s) := by
  have h := ref_name_tail s hn s.size 0 (by omega) (by omega) (by omega)
  by_cases a1 : (s.size : Int) < 1
  · have e : nameOk s = false := by unfold nameOk; rw [decide_eq_false (by omega)]; simp
    rw [e]
    refine Ev.congr (f := fun k => provisoref02_IsName.j0 k s true) (fun k => by unfold provisoref02_IsName.f; rw [if_pos a1]) ?_
    exact Ev.step (f := fun _ => some false) (fun k => by simp only [provisoref02_IsName.j0]; rfl) (Ev.now _)
  · refine Ev.congr (f := fun k => provisoref02_IsName.j0 k s (decide ((s.size : Int) > 24))) (fun k => by unfold provisoref02_IsName.f; rw [if_neg a1]) ?_
    by_cases a2 : (s.size : Int) > 24
    · have e : nameOk s = false := by unfold nameOk; rw [decide_eq_false (p := s.size ≤ 24) (by omega)]; simp
      rw [e]
      exact Ev.step (f := fun _ => some false) (fun k => by simp only [provisoref02_IsName.j0]; simp [a2]) (Ev.now _)
    · have e : nameOk s = tailOk s s.size := by unfold nameOk; rw [decide_eq_true (p := s.size ≤ 24) (by omega), decide_eq_true (p := 1 ≤ s.size) (by omega)]; simp
      rw [e]
      exact Ev.step (fun k => by simp only [provisoref02_IsName.j0]; simp [a2]) h

theorem str_eq (a b : ByteArray) : a.toList = b.toList ↔ a = b :=
  ⟨fun h => by rw [ByteArray.toList_eq, ByteArray.toList_eq] at h; exact Go.WideShapes.bytes_inj h, fun h => by rw [h]⟩
def words6 : List ByteArray := [⟨#[116, 111, 112]⟩, ⟨#[105, 110, 116]⟩, ⟨#[98, 111, 111, 108]⟩, ⟨#[110, 117, 108, 108]⟩, ⟨#[105, 110, 116, 115]⟩, ⟨#[97, 110, 121]⟩]
def isWordB (s : ByteArray) : Bool := words6.any fun t => decide (t = s)
theorem ref_word (s : ByteArray) : Ev (fun k => provisoref02_isWord.f k s) (isWordB s) := by
  have step : ∀ (x : Int) (t : ByteArray) (r : Bool), 0 ≤ x → x ≤ 5 → provisoref02_word.f x = some t → Ev (fun k => provisoref02_isWord.l0 k s (x + 1)) r → Ev (fun k => provisoref02_isWord.l0 k s x) (decide (t = s) || r) := by
    intro x t r h0 h5 ht h
    by_cases e : t = s
    · rw [decide_eq_true e, Bool.true_or]
      exact Ev.step (f := fun _ => some true) (fun k => by simp only [provisoref02_isWord.l0]; rw [if_pos (by omega), ht]; simp [e]) (Ev.now _)
    · rw [decide_eq_false e, Bool.false_or]
      refine Ev.step (fun k => ?_) h
      simp only [provisoref02_isWord.l0]
      rw [if_pos (by omega), ht]
      simp only [Option.bind_some, str_eq]
      rw [if_neg e, show (x + 1) % 256 = x + 1 from by omega]
  have h6 : Ev (fun k => provisoref02_isWord.l0 k s 6) false := Ev.step (f := fun _ => some false) (fun k => by simp only [provisoref02_isWord.l0]; rw [if_neg (by omega)]) (Ev.now _)
  have h := step 0 _ _ (by omega) (by omega) rfl (step 1 _ _ (by omega) (by omega) rfl (step 2 _ _ (by omega) (by omega) rfl (step 3 _ _ (by omega) (by omega) rfl (step 4 _ _ (by omega) (by omega) rfl (step 5 _ _ (by omega) (by omega) rfl h6)))))
  exact h

abbrev Tbl := List S38
def par (l : Tbl) (c : Int) : Int := (rd_T38 l c).f1
def nam (l : Tbl) (c : Int) : ByteArray := (rd_T38 l c).f0
def own (l : Tbl) (c : Int) : List S40 := (rd_T38 l c).f2
def Dec (l : Tbl) (n : Int) : Prop := ∀ i : Int, 0 ≤ i → i < n → par l i < i
def fieldsOf (l : Tbl) (c : Int) : List S40 := (climbL l c).reverse.flatMap fun i => own l i
theorem line_tells (l : Tbl) (n : Int) (hn : n ≤ l.length) (hl : l.length * 48 ≤ 140737488351232) (hd : Dec l n) : ∀ (d : Nat) (c : Int) (acc : List Int), c < n → (c + 1).toNat ≤ d → (acc.length : Int) + c < l.length → acc.length ≤ l.length →
    Ev (fun k => provisoref02_Line.l0 k l c acc) (acc ++ climbL l c)
  | 0, c, acc, _, h, _, _ => by
    rw [climbL_out l c (by omega), List.append_nil]
    exact Ev.step (f := fun _ => some acc) (fun k => by simp only [provisoref02_Line.l0]; rw [if_neg (by omega)]) (Ev.now _)
  | d + 1, c, acc, hc, hcd, ha, ha2 => by
    by_cases h0 : 0 ≤ c
    · have hp := hd c h0 hc
      have hcl : c < (l.length : Int) := by omega
      rw [climbL_in l c h0 hcl hp]
      have hx := line_tells l n hn hl hd d (par l c) (acc ++ [c]) (by omega) (by omega) (by simp; omega) (by simp; omega)
      rw [List.append_assoc] at hx
      refine Ev.step (fun k => ?_) hx
      simp only [provisoref02_Line.l0]
      rw [if_pos h0, if_pos hcl, if_pos (by omega), if_pos (by omega), if_pos h0]
      rfl
    · rw [climbL_out l c (by omega), List.append_nil]
      exact Ev.step (f := fun _ => some acc) (fun k => by simp only [provisoref02_Line.l0]; rw [if_neg (by omega)]) (Ev.now _)
theorem ref_line (l : Tbl) (n : Int) (hn : n ≤ l.length) (hl : l.length * 48 ≤ 140737488351232) (hd : Dec l n) (c : Int) (hc : c < n) : Ev (fun k => provisoref02_Line.f k l c) (climbL l c) := by
  by_cases h0 : l.length = 0
  · rw [climbL_out l c (by omega)]
    refine Ev.congr (f := fun k => provisoref02_Line.l0 k l c []) (fun k => rfl) ?_
    exact Ev.step (f := fun _ => some []) (fun k => by simp only [provisoref02_Line.l0]; rw [if_neg (by omega)]) (Ev.now _)
  · have := line_tells l n hn hl hd (c + 1).toNat c [] hc (Nat.le_refl _) (by simp; omega) (by simp)
    rw [List.nil_append] at this
    exact this
theorem fields_tells (l : Tbl) (line : List Int) (hm : ∀ x ∈ line, 0 ≤ x ∧ x < (l.length : Int)) (hl : l.length * 48 ≤ 140737488351232) (hll : line.length ≤ l.length) (hlim : (line.reverse.flatMap fun i => own l i).length < 5864062014805) : ∀ (d : Nat), d ≤ line.length →
    Ev (fun k => provisoref02_Fields.l0 k l line ((line.drop d).reverse.flatMap fun i => own l i) ((d : Int) - 1)) (line.reverse.flatMap fun i => own l i)
  | 0, _ => by
    rw [List.drop_zero]
    exact Ev.step (f := fun _ => some _) (fun k => by simp only [provisoref02_Fields.l0]; rw [if_neg (by omega)]) (Ev.now _)
  | d + 1, hd => by
    have ih := fields_tells l line hm hl hll hlim d (by omega)
    have hrd : rd line ((d : Nat) : Int) = line[d]'(by omega) := by simp [rd, List.getD_eq_getElem?_getD, show d < line.length by omega]
    have hmd := hm (line[d]'(by omega)) (List.getElem_mem _)
    have e1 : ((line.drop d).reverse.flatMap fun i => own l i) = ((line.drop (d + 1)).reverse.flatMap fun i => own l i) ++ own l (line[d]'(by omega)) := by
      rw [List.drop_eq_getElem_cons (by omega), List.reverse_cons, List.flatMap_append]
      simp
    have hle : ((line.drop d).reverse.flatMap fun i => own l i).length ≤ (line.reverse.flatMap fun i => own l i).length := by
      have : line = line.take d ++ line.drop d := by simp
      conv => rhs; rw [this, List.reverse_append, List.flatMap_append, List.length_append]
      omega
    rw [e1] at ih hle
    rw [List.length_append] at hle
    refine Ev.step (fun k => ?_) ih
    simp only [provisoref02_Fields.l0]
    rw [show ((d + 1 : Nat) : Int) - 1 = (d : Int) by omega, hrd, if_pos (by omega), if_pos (by omega), if_pos (by omega), if_pos hmd.1, if_pos hmd.2]
    rw [if_pos (by unfold own at hle hlim ⊢; omega), show wrap64 ((d : Int) - 1) = (d : Int) - 1 by unfold wrap64; omega]
    rfl
theorem ref_fields (l : Tbl) (n : Int) (hn : n ≤ l.length) (hl : l.length * 48 ≤ 140737488351232) (hd : Dec l n) (c : Int) (hc : c < n) (hlim : (fieldsOf l c).length < 5864062014805) : Ev (fun k => provisoref02_Fields.f k l c) (fieldsOf l c) := by
  have hll := climbL_length l c
  have h := fields_tells l (climbL l c) (climbL_mem l c) hl hll hlim (climbL l c).length (Nat.le_refl _)
  rw [List.drop_length, List.reverse_nil, List.flatMap_nil] at h
  refine Ev.congr (fun k => rfl) (Ev.bind (ref_line l n hn hl hd c hc) (f := fun k t => provisoref02_Fields.l0 k l t [] (wrap64 ((t.length : Int) - 1))) ?_)
  rw [show wrap64 (((climbL l c).length : Int) - 1) = ((climbL l c).length : Int) - 1 by unfold wrap64; omega]
  exact h

def hasB (fs : List S40) (s : ByteArray) : Bool := fs.any fun f => decide (f.f0 = s)
theorem has_tells (fs : List S40) (s : ByteArray) (hl : fs.length ≤ 9223372036854775807) : ∀ (d i : Nat), fs.length - i = d → i ≤ fs.length → Ev (fun k => provisoref02_has.l0 k fs s (i : Int)) (hasB (fs.drop i) s)
  | 0, i, hd, hi => by
    rw [List.drop_of_length_le (by omega)]
    exact Ev.step (f := fun _ => some false) (fun k => by simp only [provisoref02_has.l0]; rw [if_neg (by omega)]) (Ev.now _)
  | d + 1, i, hd, hi => by
    have ih := has_tells fs s hl d (i + 1) (by omega) (by omega)
    have hlt : i < fs.length := by omega
    have hrd : rd_T40 fs ((i : Nat) : Int) = fs[i] := by simp [rd_T40, List.getD_eq_getElem?_getD, hlt]
    rw [List.drop_eq_getElem_cons hlt]
    by_cases e : fs[i].f0 = s
    · have e2 : hasB (fs[i] :: fs.drop (i + 1)) s = true := by unfold hasB; rw [List.any_cons, decide_eq_true e, Bool.true_or]
      rw [e2]
      exact Ev.step (f := fun _ => some true) (fun k => by simp only [provisoref02_has.l0]; rw [if_pos (by omega), if_pos (by omega), hrd]; simp [e]) (Ev.now _)
    · have e2 : hasB (fs[i] :: fs.drop (i + 1)) s = hasB (fs.drop (i + 1)) s := by unfold hasB; rw [List.any_cons, decide_eq_false e, Bool.false_or]
      rw [e2]
      refine Ev.step (fun k => ?_) ih
      simp only [provisoref02_has.l0]
      rw [if_pos (by omega), if_pos (by omega), hrd, if_neg (by rw [str_eq]; exact e), w_next (n := fs.length) (by omega) (by omega) hl]
      rfl
theorem ref_has (fs : List S40) (s : ByteArray) (hl : fs.length ≤ 9223372036854775807) : Ev (fun k => provisoref02_has.f k fs s) (hasB fs s) := by
  have := has_tells fs s hl fs.length 0 (by omega) (by omega)
  rw [List.drop_zero] at this
  exact this
def validB (l : Tbl) (a : Int) : Bool := decide (a ≤ 5) || (decide (16 ≤ a) && decide (a - 16 < (l.length : Int)))
theorem ref_valid (l : Tbl) (a : Int) (ha : 0 ≤ a ∧ a ≤ 255) : provisoref02_Valid.f l a = some (validB l a) := by
  unfold provisoref02_Valid.f validB
  by_cases h1 : a ≤ 5
  · simp [h1]
  · by_cases h2 : a ≥ 16
    · rw [if_neg h1, if_pos h2, show (a - 16) % 256 = a - 16 by omega]
      simp [h1, h2]
    · rw [if_neg h1, if_neg h2]
      simp [h1, h2]
def storedB (l : Tbl) (a : Int) : Bool := validB l a && decide (a ≠ 0) && decide (a ≠ 3)
theorem ref_stored (l : Tbl) (a : Int) (ha : 0 ≤ a ∧ a ≤ 255) : provisoref02_Stored.f l a = some (storedB l a) := by
  unfold provisoref02_Stored.f storedB
  rw [ref_valid l a ha]
  simp only [Option.bind_some]
  cases validB l a <;> by_cases h0 : a = 0 <;> by_cases h3 : a = 3 <;> simp [h0, h3]
end Go.Proofs.Ytghgloepameloaa.P

end

section
namespace Go.Proofs.Ytghgloepameloaa.P
open Go.RowKit Go.Proofs.YtghgloepameloaaW.PrintWords Go.Proofs.YtghgloepameloaaW.PrintLast Go.Proofs.YtghgloepameloaaW.PrintMore
set_option linter.unusedVariables false
set_option linter.unusedSimpArgs false

def Sane (l : Tbl) : Prop := l.length ≤ 9223372036854775807 ∧ l.length * 48 ≤ 140737488351232 ∧ ∀ x ∈ l, Ok38 x
theorem rd_mem (l : Tbl) (c : Int) (h0 : 0 ≤ c) (h1 : c < (l.length : Int)) : rd_T38 l c ∈ l := by
  have h : c.toNat < l.length := by omega
  simp [rd_T38, List.getD_eq_getElem?_getD, h]
theorem Sane.size {l : Tbl} (h : Sane l) : l.length ≤ 2932031007320 := by have := h.2.1; omega
theorem Sane.nam {l : Tbl} (h : Sane l) {c : Int} (h0 : 0 ≤ c) (h1 : c < (l.length : Int)) : (nam l c).size ≤ 140737488351232 := (h.2.2 _ (rd_mem l c h0 h1)).1
theorem Sane.par {l : Tbl} (h : Sane l) {c : Int} (h0 : 0 ≤ c) (h1 : c < (l.length : Int)) : -9223372036854775808 ≤ par l c ∧ par l c ≤ 9223372036854775807 := by
  have := (h.2.2 _ (rd_mem l c h0 h1)).2.1
  simp [Lit.wf, IntKind.min, IntKind.max, IntKind.signed, IntKind.bits] at this
  exact this
theorem Sane.own {l : Tbl} (h : Sane l) {c : Int} (h0 : 0 ≤ c) (h1 : c < (l.length : Int)) : (own l c).length * 24 ≤ 140737488351232 ∧ ∀ x ∈ own l c, x.f0.size ≤ 140737488351232 ∧ (0 ≤ x.f1 ∧ x.f1 ≤ 255) := by
  obtain ⟨_, h2, h3⟩ := (h.2.2 _ (rd_mem l c h0 h1)).2.2
  refine ⟨h2, fun x hx => ⟨(h3 x hx).1, ?_⟩⟩
  have := (h3 x hx).2
  simp [Lit.wf, IntKind.min, IntKind.max, IntKind.signed, IntKind.bits] at this
  exact this

theorem nam_eq (l : Tbl) (i : Int) (s : ByteArray) : (rd_T38 l i).f0.toList = s.toList ↔ nam l i = s := str_eq _ _

def fieldFaultFrom (l : Tbl) (all fs : List S40) : Nat → Nat → Int
  | 0, _ => if (fs.length : Int) > 32 - (all.length : Int) then 4 else 0
  | d + 1, i => if nameOk (rd_T40 fs i).f0 = true then (if hasB all (rd_T40 fs i).f0 = true then 20 else if hasB (fs.take i) (rd_T40 fs i).f0 = true then 20 else if storedB l (rd_T40 fs i).f1 = true then fieldFaultFrom l all fs d (i + 1) else 22) else 6
def fieldFault (l : Tbl) (all fs : List S40) : Int := fieldFaultFrom l all fs fs.length 0
def aheadFrom (l : Tbl) (c : Int) : Nat → Bool
  | 0 => false
  | d + 1 => decide (nam l (c - (d + 1)) = nam l c) || aheadFrom l c d
def aheadB (l : Tbl) (c : Int) : Bool := aheadFrom l c c.toNat
def parFault (l : Tbl) (c : Int) : Int := if par l c < -1 then 21 else if par l c ≥ c then 21 else fieldFault l (fieldsOf l (par l c)) (own l c)
def faultB (l : Tbl) (c : Int) : Int :=
  if c ≥ 32 then 4 else if nameOk (nam l c) = true then (if isWordB (nam l c) = true then 6 else if aheadB l c = true then 20 else parFault l c) else 6

theorem fields_fault (l : Tbl) (all fs : List S40) (h1 : all.length ≤ 5864062014805) (h2 : fs.length * 24 ≤ 140737488351232) (h3 : ∀ x ∈ fs, x.f0.size ≤ 140737488351232 ∧ (0 ≤ x.f1 ∧ x.f1 ≤ 255)) (nm : ByteArray) (pr : Int) : ∀ (d i : Nat), fs.length - i = d → i ≤ fs.length →
    Ev (fun k => provisoref02_fault.l1 k l all (i : Int) nm pr fs) (fieldFaultFrom l all fs d i)
  | 0, i, hd, hi => by
    unfold fieldFaultFrom
    refine Ev.step (f := fun _ => some _) (fun k => ?_) (Ev.now _)
    simp only [provisoref02_fault.l1]
    rw [if_neg (by omega), show wrap64 (32 - (all.length : Int)) = 32 - (all.length : Int) by unfold wrap64; omega]
    split <;> rfl
  | d + 1, i, hd, hi => by
    have hlt : i < fs.length := by omega
    have hrd : rd_T40 fs ((i : Nat) : Int) = fs[i] := by simp [rd_T40, List.getD_eq_getElem?_getD, hlt]
    obtain ⟨hs, ht⟩ := h3 fs[i] (List.getElem_mem _)
    have ih := fields_fault l all fs h1 h2 h3 nm pr d (i + 1) (by omega) (by omega)
    unfold fieldFaultFrom
    rw [hrd]
    refine Ev.step (fun k => by simp only [provisoref02_fault.l1]; rw [if_pos (by omega), if_pos (by omega), hrd]) ?_
    refine Ev.bind (f := fun k t => if t = true then _ else _) (ref_name _ hs) ?_
    cases nameOk fs[i].f0 with
    | false => exact Ev.now _
    | true =>
      refine Ev.bind (f := fun k t => if t = true then _ else _) (ref_has all _ (by omega)) ?_
      cases hasB all fs[i].f0 with
      | true => exact Ev.now _
      | false =>
        refine Ev.congr (f := fun k => (provisoref02_has.f k (fs.take i) fs[i].f0).bind _) (fun k => by
          show (if (i : Int) ≤ (fs.length : Int) then _ else _) = _
          rw [if_pos (by omega), Int.toNat_natCast]) ?_
        refine Ev.bind (f := fun k t => if t = true then _ else _) (ref_has (fs.take i) _ (by simp; omega)) ?_
        cases hasB (fs.take i) fs[i].f0 with
        | true => exact Ev.now _
        | false =>
          refine Ev.congr (f := fun k => if storedB l fs[i].f1 = true then _ else _) (fun k => by
            show (provisoref02_Stored.f l fs[i].f1).bind _ = _
            rw [ref_stored l _ ht]
            rfl) ?_
          cases storedB l fs[i].f1 with
          | false => exact Ev.now _
          | true =>
            refine Ev.congr (fun k => ?_) ih
            show provisoref02_fault.l1 k l all (wrap64 ((i : Int) + 1)) nm pr fs = _
            rw [w_next (n := fs.length) (by omega) (by omega) (by omega)]
            rfl
theorem par_fault (l : Tbl) (hs : Sane l) (c : Int) (h0 : 0 ≤ c) (h1 : c < (l.length : Int)) (hd : Dec l c) (hlim : ∀ p : Int, -1 ≤ p → p < c → (fieldsOf l p).length ≤ 32) :
    Ev (fun k => provisoref02_fault.l0 k l c c (nam l c) (par l c) (own l c)) (parFault l c) := by
  unfold parFault
  have hj : Ev (fun k => provisoref02_fault.j2 k l true (nam l c) (par l c) (own l c)) 21 := Ev.step (f := fun _ => some 21) (fun k => by simp only [provisoref02_fault.j2]; rfl) (Ev.now _)
  by_cases p1 : par l c < -1
  · rw [if_pos p1]
    exact Ev.step (fun k => by simp only [provisoref02_fault.l0]; rw [if_neg (by omega), if_pos p1]) hj
  · rw [if_neg p1]
    by_cases p2 : par l c ≥ c
    · rw [if_pos p2]
      exact Ev.step (fun k => by simp only [provisoref02_fault.l0]; rw [if_neg (by omega), if_neg p1, decide_eq_true p2]) hj
    · rw [if_neg p2]
      refine Ev.step (f := fun k => provisoref02_fault.j2 k l false (nam l c) (par l c) (own l c)) (fun k => by simp only [provisoref02_fault.l0]; rw [if_neg (by omega), if_neg p1, decide_eq_false p2]) ?_
      have hlp := hlim (par l c) (by omega) (by omega)
      refine Ev.step (f := fun k => (provisoref02_Fields.f k l (par l c)).bind fun t => provisoref02_fault.l1 k l t 0 (nam l c) (par l c) (own l c)) (fun k => by simp only [provisoref02_fault.j2]; rfl) ?_
      refine Ev.bind (f := fun k t => provisoref02_fault.l1 k l t 0 (nam l c) (par l c) (own l c)) (ref_fields l c (by omega) hs.2.1 hd (par l c) (by omega) (by omega)) ?_
      exact fields_fault l _ (own l c) (by omega) (hs.own h0 h1).1 (hs.own h0 h1).2 _ _ _ 0 (by omega) (by omega)
theorem ahead_fault (l : Tbl) (hs : Sane l) (c : Int) (h0 : 0 ≤ c) (h1 : c < (l.length : Int)) (hd : Dec l c) (hlim : ∀ p : Int, -1 ≤ p → p < c → (fieldsOf l p).length ≤ 32) : ∀ (d : Nat), (d : Int) ≤ c →
    Ev (fun k => provisoref02_fault.l0 k l c (c - d) (nam l c) (par l c) (own l c)) (if aheadFrom l c d = true then 20 else parFault l c)
  | 0, _ => by
    have := par_fault l hs c h0 h1 hd hlim
    simpa [aheadFrom] using this
  | d + 1, hdc => by
    have ih := ahead_fault l hs c h0 h1 hd hlim d (by omega)
    have hsz := hs.size
    have e1 : c - ((d : Int) + 1) + 1 = c - d := by omega
    by_cases e : nam l (c - ((d : Int) + 1)) = nam l c
    · have e2 : aheadFrom l c (d + 1) = true := by unfold aheadFrom; rw [decide_eq_true e, Bool.true_or]
      rw [e2, if_pos rfl]
      refine Ev.step (f := fun _ => some 20) (fun k => ?_) (Ev.now _)
      show provisoref02_fault.l0 (k + 1) l c (c - ((d : Int) + 1)) (nam l c) (par l c) (own l c) = _
      simp only [provisoref02_fault.l0]
      rw [if_pos (by omega), if_pos (by omega), if_pos (by omega), if_pos ((nam_eq l _ _).mpr e)]
    · have e2 : aheadFrom l c (d + 1) = aheadFrom l c d := by conv => lhs; unfold aheadFrom
                                                              rw [decide_eq_false e, Bool.false_or]
      rw [e2]
      refine Ev.step (fun k => ?_) ih
      show provisoref02_fault.l0 (k + 1) l c (c - ((d : Int) + 1)) (nam l c) (par l c) (own l c) = _
      simp only [provisoref02_fault.l0]
      rw [if_pos (by omega), if_pos (by omega), if_pos (by omega), if_neg (fun h9 => e ((nam_eq l _ _).mp h9)), show wrap64 (c - ((d : Int) + 1) + 1) = c - d by rw [e1]; unfold wrap64; omega]
theorem ref_fault (l : Tbl) (hs : Sane l) (c : Int) (h0 : 0 ≤ c) (h1 : c < (l.length : Int)) (hd : Dec l c) (hlim : ∀ p : Int, -1 ≤ p → p < c → (fieldsOf l p).length ≤ 32) : Ev (fun k => provisoref02_fault.f k l c) (faultB l c) := by
  unfold faultB
  have ha := ahead_fault l hs c h0 h1 hd hlim c.toNat (by omega)
  rw [show c - (c.toNat : Int) = 0 by omega] at ha
  have hj : ∀ b : Bool, Ev (fun k => provisoref02_fault.j0 k l c b (nam l c) (par l c) (own l c)) (if b = true then 6 else if aheadB l c = true then 20 else parFault l c) := by
    intro b
    cases b with
    | true => exact Ev.step (f := fun _ => some 6) (fun k => by simp only [provisoref02_fault.j0]; rfl) (Ev.now _)
    | false => exact Ev.step (fun k => by simp only [provisoref02_fault.j0]; rfl) ha
  by_cases h32 : c ≥ 32
  · rw [if_pos h32]
    exact Ev.congr (f := fun _ => some 4) (fun k => by unfold provisoref02_fault.f; rw [if_pos h0, if_pos h1, if_pos h32]) (Ev.now _)
  · rw [if_neg h32]
    refine Ev.congr (fun k => by unfold provisoref02_fault.f; rw [if_pos h0, if_pos h1, if_neg h32]; rfl) (Ev.bind (f := fun k t => if t = true then ((provisoref02_isWord.f k (nam l c)).bind fun t119 => provisoref02_fault.j0 k l c t119 (nam l c) (par l c) (own l c)) else provisoref02_fault.j0 k l c true (nam l c) (par l c) (own l c)) (ref_name _ (hs.nam h0 h1)) ?_)
    have hjt := hj true
    cases nameOk (nam l c) with
    | false => exact hjt
    | true => exact Ev.bind (f := fun k t => provisoref02_fault.j0 k l c t (nam l c) (par l c) (own l c)) (ref_word _) (hj _)

def GoodTo (l : Tbl) (n : Int) : Prop := ∀ c : Int, 0 ≤ c → c < n → faultB l c = 0
theorem field_fault_long (l : Tbl) (all fs : List S40) : ∀ (d i : Nat), fieldFaultFrom l all fs d i = 0 → (fs.length : Int) ≤ 32 - all.length
  | 0, i, h => by
    unfold fieldFaultFrom at h
    split at h <;> omega
  | d + 1, i, h => by
    unfold fieldFaultFrom at h
    split at h
    · split at h
      · omega
      · split at h
        · omega
        · split at h
          · exact field_fault_long l all fs d (i + 1) h
          · omega
    · omega
theorem fault_zero {l : Tbl} {c : Int} (h : faultB l c = 0) : c < 32 ∧ nameOk (nam l c) = true ∧ isWordB (nam l c) = false ∧ aheadB l c = false ∧ -1 ≤ par l c ∧ par l c < c ∧ fieldFault l (fieldsOf l (par l c)) (own l c) = 0 := by
  unfold faultB parFault at h
  split at h
  · omega
  · split at h
    · split at h
      · omega
      · split at h
        · omega
        · split at h
          · omega
          · split at h
            · omega
            · rename_i h1 h2 h3 h4 h5 h6
              exact ⟨by omega, h2, by simpa using h3, by simpa using h4, by omega, by omega, h⟩
    · omega
theorem GoodTo.dec {l : Tbl} {n : Int} (h : GoodTo l n) : Dec l n := fun i h0 h1 => (fault_zero (h i h0 h1)).2.2.2.2.2.1
theorem fieldsOf_in (l : Tbl) (c : Int) (h0 : 0 ≤ c) (h1 : c < (l.length : Int)) (h2 : par l c < c) : fieldsOf l c = fieldsOf l (par l c) ++ own l c := by
  unfold fieldsOf
  rw [climbL_in l c h0 h1 h2, List.reverse_cons, List.flatMap_append]
  simp [par]
theorem fieldsOf_out (l : Tbl) (c : Int) (h : ¬ (0 ≤ c ∧ c < (l.length : Int))) : fieldsOf l c = [] := by
  unfold fieldsOf
  rw [climbL_out l c h]
  rfl
theorem GoodTo.fields {l : Tbl} {n : Int} (hn : n ≤ l.length) (h : GoodTo l n) (c : Int) (hc : c < n) : (fieldsOf l c).length ≤ 32 := by
  by_cases h0 : 0 ≤ c
  · obtain ⟨_, _, _, _, h5, h6, h7⟩ := fault_zero (h c h0 hc)
    have := field_fault_long l _ _ _ _ h7
    rw [fieldsOf_in l c h0 (by omega) h6, List.length_append]
    omega
  · rw [fieldsOf_out l c (by omega)]
    simp
def checkFrom (l : Tbl) : Nat → Int → Int × Int
  | 0, _ => (0, 0)
  | d + 1, c => if faultB l c = 0 then checkFrom l d (c + 1) else (c, faultB l c)
def checkB (l : Tbl) : Int × Int := checkFrom l l.length 0
theorem check_tells (l : Tbl) (hs : Sane l) : ∀ (d : Nat) (c : Int), 0 ≤ c → (l.length : Int) - c = d → GoodTo l c → Ev (fun k => provisoref02_Check.l0 k l c) (checkFrom l d c)
  | 0, c, h0, hd, hg => by
    unfold checkFrom
    exact Ev.step (f := fun _ => some _) (fun k => by simp only [provisoref02_Check.l0]; rw [if_neg (by omega)]) (Ev.now _)
  | d + 1, c, h0, hd, hg => by
    have hf := ref_fault l hs c h0 (by omega) hg.dec (fun p hp1 hp2 => hg.fields (by omega) p hp2)
    unfold checkFrom
    refine Ev.step (fun k => by simp only [provisoref02_Check.l0]; rw [if_pos (by omega)]) (Ev.bind (f := fun k t => if t = 0 then _ else _) hf ?_)
    by_cases e : faultB l c = 0
    · rw [if_pos e]
      have hsz := hs.size
      refine Ev.congr (fun k => ?_) (check_tells l hs d (c + 1) (by omega) (by omega) (fun i hi0 hi1 => if hi : i < c then hg i hi0 hi else by rw [show i = c by omega]; exact e))
      rw [if_pos e, show wrap64 (c + 1) = c + 1 by unfold wrap64; omega]
    · rw [if_neg e]
      exact Ev.congr (f := fun _ => some _) (fun k => by rw [if_neg e]) (Ev.now _)
theorem ref_check (l : Tbl) (hs : Sane l) : Ev (fun k => provisoref02_Check.f k l) (checkB l) :=
  check_tells l hs l.length 0 (by omega) (by omega) (fun i h0 h1 => by omega)
theorem checkFrom_zero (l : Tbl) : ∀ (d : Nat) (c : Int), (checkFrom l d c).2 = 0 ↔ ∀ i : Int, c ≤ i → i < c + d → faultB l i = 0
  | 0, c => by
    constructor
    · intro _ i h1 h2; omega
    · intro _; rfl
  | d + 1, c => by
    unfold checkFrom
    split
    · rename_i e
      rw [checkFrom_zero l d (c + 1)]
      constructor
      · intro h i h1 h2
        by_cases hi : i = c
        · rw [hi]; exact e
        · exact h i (by omega) (by omega)
      · intro h i h1 h2
        exact h i (by omega) (by omega)
    · rename_i e
      constructor
      · intro h; exact absurd h e
      · intro h; exact h c (by omega) (by omega)
def Good (l : Tbl) : Prop := GoodTo l l.length
theorem good_iff (l : Tbl) : (checkB l).2 = 0 ↔ Good l := by
  unfold checkB
  rw [checkFrom_zero l l.length 0]
  unfold Good GoodTo
  simp
def madeB (l : Tbl) : Bool := (checkB l).2 == 0
theorem madeB_iff (l : Tbl) : madeB l = true ↔ Good l := by unfold madeB; rw [beq_iff_eq]; exact good_iff l
theorem ref_made (l : Tbl) (hs : Sane l) : Ev (fun k => provisoref02_Made.f k l) (madeB l) :=
  Ev.congr (fun k => rfl) (Ev.bind (f := fun k (b : Int × Int) => some (b.2 == 0)) (ref_check l hs) (Ev.now _))
theorem Good.short {l : Tbl} (h : Good l) : l.length ≤ 32 := by
  rcases Nat.lt_or_ge 32 l.length with h1 | h1
  · have := (fault_zero (h 32 (by omega) (by omega))).1
    omega
  · exact h1
theorem Good.dec {l : Tbl} (h : Good l) : Dec l l.length := GoodTo.dec h
end Go.Proofs.Ytghgloepameloaa.P

end

section
namespace Go.Proofs.Ytghgloepameloaa.P
open Go.RowKit Go.Proofs.YtghgloepameloaaW.PrintWords Go.Proofs.YtghgloepameloaaW.PrintLast Go.Proofs.YtghgloepameloaaW.PrintMore
set_option linter.unusedVariables false
set_option linter.unusedSimpArgs false

theorem u8_of {a : Int} (h : (Lit.int .u8 a).wf = true) : 0 ≤ a ∧ a ≤ 255 := by
  simp [Lit.wf, IntKind.min, IntKind.max, IntKind.signed, IntKind.bits] at h
  exact h
theorem Good.nameOk {l : Tbl} (h : Good l) {c : Int} (h0 : 0 ≤ c) (h1 : c < (l.length : Int)) : nameOk (nam l c) = true ∧ isWordB (nam l c) = false :=
  ⟨(fault_zero (h c h0 h1)).2.1, (fault_zero (h c h0 h1)).2.2.1⟩
end Go.Proofs.Ytghgloepameloaa.P

end

section
namespace Go.Proofs.Ytghgloepameloaa.P
open Go.RowKit Go.Proofs.YtghgloepameloaaW.PrintWords Go.Proofs.YtghgloepameloaaW.PrintLast Go.Proofs.YtghgloepameloaaW.PrintMore
set_option linter.unusedVariables false
set_option linter.unusedSimpArgs false

theorem climb_self (l : Tbl) (x : Int) (h0 : 0 ≤ x) (h1 : x < (l.length : Int)) : x ∈ climbL l x := by
  unfold climbL
  rw [climbF, if_pos ⟨h0, h1⟩]
  exact List.mem_cons_self
theorem climb_suffix {l : Tbl} (hd : Dec l l.length) : ∀ (d : Nat) (x y : Int), (x + 1).toNat ≤ d → y ∈ climbL l x → ∃ pre, climbL l x = pre ++ climbL l y
  | 0, x, y, h, hm => by
    rw [climbL_out l x (by omega)] at hm
    cases hm
  | d + 1, x, y, h, hm => by
    by_cases hx : 0 ≤ x ∧ x < (l.length : Int)
    · have hp := hd x hx.1 hx.2
      rw [climbL_in l x hx.1 hx.2 hp] at hm ⊢
      rcases List.mem_cons.1 hm with rfl | hm
      · exact ⟨[], by rw [climbL_in l y hx.1 hx.2 hp]; rfl⟩
      · obtain ⟨pre, e⟩ := climb_suffix hd d _ y (by unfold par at hp; omega) hm
        exact ⟨x :: pre, by rw [e]; rfl⟩
    · rw [climbL_out l x hx] at hm
      cases hm
theorem climb_le {l : Tbl} (hd : Dec l l.length) : ∀ (d : Nat) (x y : Int), (x + 1).toNat ≤ d → y ∈ climbL l x → y ≤ x
  | 0, x, y, h, hm => by
    rw [climbL_out l x (by omega)] at hm
    cases hm
  | d + 1, x, y, h, hm => by
    by_cases hx : 0 ≤ x ∧ x < (l.length : Int)
    · have hp := hd x hx.1 hx.2
      rw [climbL_in l x hx.1 hx.2 hp] at hm
      rcases List.mem_cons.1 hm with rfl | hm
      · exact Int.le_refl _
      · have := climb_le hd d _ y (by unfold par at hp; omega) hm
        unfold par at hp
        omega
    · rw [climbL_out l x hx] at hm
      cases hm
theorem climb_antisymm {l : Tbl} (hd : Dec l l.length) {x y : Int} (h1 : y ∈ climbL l x) (h2 : x ∈ climbL l y) : x = y := by
  have a := climb_le hd _ x y (Nat.le_refl _) h1
  have b := climb_le hd _ y x (Nat.le_refl _) h2
  omega
theorem climb_shorter {l : Tbl} (hd : Dec l l.length) {x y : Int} (h1 : y ∈ climbL l x) (hne : x ≠ y) : (climbL l y).length < (climbL l x).length := by
  obtain ⟨pre, e⟩ := climb_suffix hd _ x y (Nat.le_refl _) h1
  have hx := climbL_mem l x
  cases pre with
  | nil =>
    exfalso
    rw [List.nil_append] at e
    have hy := climbL_mem l x y h1
    have hxx : x ∈ climbL l x := by
      by_cases h : 0 ≤ x ∧ x < (l.length : Int)
      · exact climb_self l x h.1 h.2
      · rw [climbL_out l x h] at h1; cases h1
    rw [e] at hxx
    exact hne (climb_antisymm hd h1 hxx)
  | cons a pre =>
    rw [e]
    simp
    omega

theorem class_valid (l : Tbl) (a : Int) (ha : 0 ≤ a ∧ a ≤ 255) : classOf l a = if 16 ≤ a ∧ a - 16 < (l.length : Int) then a - 16 else -1 := by
  unfold classOf
  by_cases h1 : a < 16
  · rw [if_pos h1, if_neg (by omega)]
  · rw [if_neg h1, show (a - 16) % 256 = a - 16 by omega]
    by_cases h2 : a - 16 ≥ (l.length : Int)
    · rw [if_pos h2, if_neg (by omega)]
    · rw [if_neg h2, if_pos (by omega)]
theorem impl_valid (l : Tbl) (a : Int) (ha : 0 ≤ a ∧ a ≤ 255) : types_Valid.f l a = some (validB l a) := by
  unfold types_Valid.f validB
  by_cases h1 : a ≤ 5
  · simp [h1]
  · rw [if_neg h1, class_is, class_valid l a ha]
    by_cases h2 : 16 ≤ a ∧ a - 16 < (l.length : Int)
    · rw [if_pos h2]
      simp [h1, h2.1, h2.2]
    · rw [if_neg h2]
      simp [h1]
      omega
def subB (l : Tbl) (a b : Int) : Bool :=
  if validB l a = true ∧ validB l b = true then (if a = b then true else if b = 0 then true else if a = 3 ∨ b = 5 then isRefB a && isRefB b else if 0 ≤ classOf l a ∧ 0 ≤ classOf l b then decide (classOf l b ∈ climbL l (classOf l a)) else false) else false
theorem impl_sub (l : Tbl) (a b : Int) (ha : 0 ≤ a ∧ a ≤ 255) (hb : 0 ≤ b ∧ b ≤ 255) (k : Nat) : types_Sub.f (k + 3) l a b = some (subB l a b) := by
  unfold types_Sub.f subB
  rw [impl_valid l a ha, impl_valid l b hb]
  simp only [Option.bind_some, types_Sub.j0, types_Sub.j1, types_Sub.j2, isRef_is, class_is, types_above.f]
  cases validB l a with
  | false => simp
  | true =>
    cases validB l b with
    | false => simp
    | true =>
      by_cases e1 : a = b
      · simp [e1]
      · by_cases e2 : b = 0
        · simp [e1, e2]
        · by_cases e3 : a = 3
          · cases hra : isRefB a <;> cases hrb : isRefB b <;> simp [e1, e2, e3, hra, hrb] <;> simp_all
          · by_cases e5 : b = 5
            · cases hra : isRefB a <;> cases hrb : isRefB b <;> simp [e1, e2, e3, e5, hra, hrb] <;> simp_all
            · by_cases g1 : 0 ≤ classOf l a <;> by_cases g2 : 0 ≤ classOf l b <;> simp [e1, e2, e3, e5, g1, g2] <;> omega

theorem valid_cases {l : Tbl} {a : Int} (ha : 0 ≤ a ∧ a ≤ 255) (h : validB l a = true) : (a ≤ 5 ∧ classOf l a = -1) ∨ (16 ≤ a ∧ a - 16 < (l.length : Int) ∧ classOf l a = a - 16) := by
  unfold validB at h
  rw [class_valid l a ha]
  simp at h
  rcases h with h | ⟨h1, h2⟩
  · exact .inl ⟨h, by rw [if_neg (by omega)]⟩
  · exact .inr ⟨h1, by omega, by rw [if_pos (by omega)]⟩
theorem sub_iff (l : Tbl) (a b : Int) : subB l a b = true ↔ validB l a = true ∧ validB l b = true ∧ (a = b ∨ b = 0 ∨ ((a = 3 ∨ b = 5) ∧ isRefB a = true ∧ isRefB b = true) ∨ (¬ (a = 3 ∨ b = 5) ∧ 0 ≤ classOf l a ∧ 0 ≤ classOf l b ∧ classOf l b ∈ climbL l (classOf l a))) := by
  unfold subB
  by_cases h : validB l a = true ∧ validB l b = true
  · rw [if_pos h]
    by_cases e1 : a = b
    · simp [e1, h.2]
    · rw [if_neg e1]
      by_cases e2 : b = 0
      · simp [e2, h.1]
        rw [← e2]; exact h.2
      · rw [if_neg e2]
        by_cases e3 : a = 3 ∨ b = 5
        · rw [if_pos e3]
          simp [h.1, h.2, e1, e2, e3]
        · rw [if_neg e3]
          by_cases g : 0 ≤ classOf l a ∧ 0 ≤ classOf l b
          · rw [if_pos g]
            simp [h.1, h.2, e1, e2, e3, g.1, g.2]
          · rw [if_neg g]
            simp [h.1, h.2, e1, e2, e3]
            intro g1 g2
            exact absurd ⟨g1, g2⟩ g
  · rw [if_neg h]
    simp
    intro h1 h2
    exact absurd ⟨h1, h2⟩ h
theorem isRef_iff (a : Int) : isRefB a = true ↔ a = 3 ∨ a = 4 ∨ a = 5 ∨ a ≥ 16 := by unfold isRefB; simp [or_assoc]
end Go.Proofs.Ytghgloepameloaa.P

end

section
namespace Go.Proofs.Ytghgloepameloaa.P
open Go.RowKit Go.Proofs.YtghgloepameloaaW.PrintWords Go.Proofs.YtghgloepameloaaW.PrintLast Go.Proofs.YtghgloepameloaaW.PrintMore
set_option linter.unusedVariables false
set_option linter.unusedSimpArgs false

def deepOf (l : Tbl) (c : Int) : Int := 1 + ((climbL l c).length : Int)
def deepFrom (l : Tbl) : Nat → Int → Int → Int
  | 0, _, n => n
  | d + 1, i, n => deepFrom l d (i + 1) (mx n (deepOf l i))
def rankB (l : Tbl) (a : Int) : Int :=
  if validB l a = true ∧ a ≠ 0 then (if a = 4 then 2 else if a = 3 then deepFrom l l.length 0 2 + 1 else if a ≥ 16 then deepOf l (classOf l a) else 1) else 0
theorem deepOf_le (l : Tbl) (c : Int) : 1 ≤ deepOf l c ∧ deepOf l c ≤ 1 + l.length := by
  have := climbL_length l c
  unfold deepOf
  omega
theorem mx_le (a b : Int) : a ≤ mx a b ∧ b ≤ mx a b := by unfold mx; split <;> omega
theorem mx_is (a b : Int) : mx a b = a ∨ mx a b = b := by unfold mx; split <;> simp
theorem deepFrom_ge (l : Tbl) : ∀ (d : Nat) (i n : Int), n ≤ deepFrom l d i n ∧ ∀ c : Int, i ≤ c → c < i + d → deepOf l c ≤ deepFrom l d i n
  | 0, i, n => ⟨Int.le_refl _, fun c h1 h2 => by omega⟩
  | d + 1, i, n => by
    obtain ⟨h1, h2⟩ := deepFrom_ge l d (i + 1) (mx n (deepOf l i))
    have hm := mx_le n (deepOf l i)
    unfold deepFrom
    refine ⟨by omega, fun c g1 g2 => ?_⟩
    by_cases e : c = i
    · rw [e]; omega
    · exact h2 c (by omega) (by omega)
theorem deepFrom_le (l : Tbl) (b : Int) (hb : 1 + (l.length : Int) ≤ b) : ∀ (d : Nat) (i n : Int), n ≤ b → deepFrom l d i n ≤ b
  | 0, i, n, h => h
  | d + 1, i, n, h => by
    unfold deepFrom
    refine deepFrom_le l b hb d (i + 1) _ ?_
    have := deepOf_le l i
    rcases mx_is n (deepOf l i) with e | e <;> omega
theorem rank_tells (l : Tbl) (hl : l.length ≤ 2932031007320) (k : Nat) : ∀ (d : Nat) (i n : Int), 0 ≤ i → (l.length : Int) - i = d → 0 ≤ n → n ≤ 2932031007321 + 2 → types_Rank.l0 (k + d + 1) l n (l.length : Int) i = some (deepFrom l d i n + 1)
  | 0, i, n, h0, hd, hn, hn2 => by
    simp only [types_Rank.l0]
    rw [if_neg (by omega)]
    unfold deepFrom
    rw [show wrap64 (n + 1) = n + 1 by unfold wrap64; omega]
  | d + 1, i, n, h0, hd, hn, hn2 => by
    have hdl := deepOf_le l i
    have hm := mx_is n (deepOf l i)
    have ih := rank_tells l hl k d (i + 1) (mx n (deepOf l i)) (by omega) (by omega) (by omega) (by omega)
    rw [show k + (d + 1) + 1 = (k + d + 1) + 1 by omega]
    show (if i < (l.length : Int) then ((types_deep.f l i).bind fun t201 => (types_Rank.l0 (k + d + 1) l (mx n (wrap64 (1 + t201))) (l.length : Int) (wrap64 (i + 1)))) else (some (wrap64 (n + 1)))) = _
    rw [if_pos (by omega)]
    simp only [types_deep.f, Option.bind_some]
    rw [show wrap64 (1 + ((climbL l i).length : Int)) = deepOf l i by unfold deepOf wrap64; unfold deepOf at hdl; omega, show wrap64 (i + 1) = i + 1 by unfold wrap64; omega, ih]
    rfl
theorem impl_rank (l : Tbl) (hl : l.length ≤ 2932031007320) (a : Int) (ha : 0 ≤ a ∧ a ≤ 255) (k : Nat) : types_Rank.f (k + l.length + 2) l a = some (rankB l a) := by
  have hk : k + l.length + 2 = (k + l.length + 1) + 1 := by omega
  unfold types_Rank.f rankB
  rw [impl_valid l a ha]
  have h3 := rank_tells l hl k l.length 0 2 (by omega) (by omega) (by omega) (by omega)
  rw [hk]
  simp only [Option.bind_some, types_Rank.j0, class_is, types_deep.f, h3]
  cases hv : validB l a with
  | false => simp
  | true =>
    by_cases e0 : a = 0
    · simp [e0]
    · by_cases e4 : a = 4
      · simp [e4]
      · by_cases e3 : a = 3
        · simp [e3]
        · by_cases e16 : a ≥ 16
          · have := deepOf_le l (classOf l a)
            have hw : wrap64 (1 + ((climbL l (classOf l a)).length : Int)) = deepOf l (classOf l a) := by unfold deepOf wrap64; unfold deepOf at this; omega
            simp [e0, e4, e3, e16, hw]
          · simp [e0, e4, e3, e16]
theorem rank_bounds (l : Tbl) (hg : Good l) (a : Int) : 0 ≤ rankB l a ∧ rankB l a ≤ 34 := by
  have hs := hg.short
  have h1 := deepFrom_ge l l.length 0 2
  have h2 := deepFrom_le l 33 (by omega) l.length 0 2 (by omega)
  have h3 := deepOf_le l (classOf l a)
  unfold rankB
  split
  · split
    · omega
    · split
      · omega
      · split <;> omega
  · omega
theorem rank_falls (l : Tbl) (hg : Good l) {a b : Int} (ha : 0 ≤ a ∧ a ≤ 255) (hb : 0 ≤ b ∧ b ≤ 255) (hne : a ≠ b) (h : subB l a b = true) : rankB l b < rankB l a := by
  rw [sub_iff] at h
  obtain ⟨va, vb, h⟩ := h
  have ka := valid_cases ha va
  have kb := valid_cases hb vb
  rw [isRef_iff, isRef_iff] at h
  have h1 := deepFrom_ge l l.length 0 2
  have hpos : ∀ c : Int, 0 ≤ c → c < (l.length : Int) → 2 ≤ deepOf l c := by
    intro c h0 h1
    have := List.length_pos_of_mem (climb_self l c h0 h1)
    unfold deepOf
    omega
  have ra : a ≠ 0 → rankB l a = (if a = 4 then 2 else if a = 3 then deepFrom l l.length 0 2 + 1 else if a ≥ 16 then deepOf l (classOf l a) else 1) := fun e => by
    unfold rankB
    rw [if_pos ⟨va, e⟩]
  have rb : b ≠ 0 → rankB l b = (if b = 4 then 2 else if b = 3 then deepFrom l l.length 0 2 + 1 else if b ≥ 16 then deepOf l (classOf l b) else 1) := fun e => by
    unfold rankB
    rw [if_pos ⟨vb, e⟩]
  have rb0 : b = 0 → rankB l b = 0 := fun e => by
    unfold rankB
    rw [if_neg (fun h => h.2 e)]
  rcases h with h | rfl | ⟨p1, p2, p3⟩ | ⟨p1, p2, p3, p4⟩
  · exact absurd h hne
  · rw [rb0 rfl, ra hne]
    have := deepOf_le l (classOf l a)
    split
    · omega
    · split
      · omega
      · split <;> omega
  · rw [ra (by omega), rb (by omega)]
    by_cases b5 : b = 5
    · rw [if_neg (show ¬ b = 4 by omega), if_neg (show ¬ b = 3 by omega), if_neg (show ¬ b ≥ 16 by omega)]
      by_cases a4 : a = 4
      · rw [if_pos a4]; decide
      · rw [if_neg a4]
        by_cases a3 : a = 3
        · rw [if_pos a3]; omega
        · have a16 : 16 ≤ a := by omega
          rw [if_neg a3, if_pos a16]
          have := hpos (classOf l a) (by omega) (by omega)
          omega
    · have a3 : a = 3 := by omega
      rw [if_neg (show ¬ a = 4 by omega), if_pos a3]
      by_cases b4 : b = 4
      · rw [if_pos b4]; omega
      · have b16 : 16 ≤ b := by omega
        rw [if_neg b4, if_neg (by omega), if_pos b16]
        have := h1.2 (classOf l b) (by omega) (by omega)
        omega
  · rw [ra (by omega), rb (by omega), if_neg (show ¬ b = 4 by omega), if_neg (show ¬ b = 3 by omega), if_pos (show b ≥ 16 by omega), if_neg (show ¬ a = 4 by omega), if_neg (show ¬ a = 3 by omega), if_pos (show a ≥ 16 by omega)]
    have := climb_shorter hg.dec p4 (by omega)
    unfold deepOf
    omega
end Go.Proofs.Ytghgloepameloaa.P

end

section
namespace Go.Proofs.Ytghgloepameloaa.Pure
open Go.RowKit Go.Proofs.Ytghgloepameloaa.P Go.Proofs.YtghgloepameloaaW.PrintWords
set_option linter.unusedSimpArgs false
theorem TypesSteps : provisolaw02_TypesSteps.Pure := by
  intro l a b hl ha hb
  have ha := u8_of ha
  have hb := u8_of hb
  have hs : Sane l := hl
  obtain ⟨K, hK⟩ := ref_made l hs
  refine ⟨K + l.length + 9, ?_⟩
  have hm : provisoref02_Made.f (K + l.length + 9) l = some (madeB l) := hK (K + l.length + 9) (by omega)
  have s : types_Sub.f (K + l.length + 7) l a b = some (subB l a b) := impl_sub l a b ha hb (K + l.length + 4)
  have r : ∀ (n : Nat) (x : Int), 2 ≤ n → (0 ≤ x ∧ x ≤ 255) → types_Rank.f (K + l.length + n) l x = some (rankB l x) := fun n x hn hx => by
    have := impl_rank l hs.size x hx (K + n - 2)
    rw [show K + n - 2 + l.length + 2 = K + l.length + n by omega] at this
    exact this
  unfold provisolaw02_TypesSteps.f
  rw [hm]
  simp only [Option.bind_some]
  cases hmd : madeB l with
  | false => simp
  | true =>
    have hg := (madeB_iff l).mp hmd
    have r5 : rankB l 5 = 1 := by unfold rankB; simp [validB]
    have r4 : rankB l 4 = 2 := by unfold rankB; simp [validB]
    rw [if_pos rfl, r 9 5 (by omega) (by omega), r 9 4 (by omega) (by omega), r5, r4]
    simp only [Option.bind_some, if_true]
    simp only [provisolaw02_TypesSteps.j0, provisolaw02_TypesSteps.j1]
    rw [r 8 a (by omega) ha, r 7 b (by omega) hb, s]
    have hbd := rank_bounds l hg a
    have hfall := fun h1 h2 => rank_falls l hg (a := a) (b := b) ha hb h1 h2
    simp only [Option.bind_some]
    rw [if_neg (by simp), if_neg (by omega), if_neg (by simp; omega)]
    by_cases e : a = b
    · rw [if_pos e]
    · rw [if_neg e]
      cases hsb : subB l a b with
      | false => simp
      | true => rw [if_pos rfl]; simp; exact hfall e hsb
end Go.Proofs.Ytghgloepameloaa.Pure

end

section
namespace Go.Proofs.Ytghgloepameloaa.typesSteps
open Go.ChangeShapes Go.WideShapes Go.ChangeAt Go.RowKit Go.Proofs.YtghgloepameloaaW.PrintWords Go.Proofs.Ytghgloepameloaa.Sees Go.Proofs.Ytghgloepameloaa.P
open Go.ChangeMaps (open_string shut_string)
set_option linter.unusedVariables false
set_option linter.unusedSimpArgs false
theorem own : ownKnob Try.prog.godebug = none := by kernel_rfl
theorem laidOut : laidOutB Try.prog = true := by kernel_rfl
set_option maxRecDepth 100000 in
theorem lifted (os : Os) (started : os.Started) (H : Type) (enc : TypeId × Value → H) :
    ReturnsInHanded {} Try.checked os 7 .any (Rows.typesStepsSpec.pre6 enc Try.prog Try.f7 Rows.typesStepsRow.domain false) (Rows.typesStepsSpec.post enc Try.prog Try.f7 false true false false) := by
  refine returnsInHanded_of_change_sized (C := Try.checked) own started (by kernel_rfl) Try.func7
    (ChangeSpec.witness6 (enc := enc) (C := Try.checked) false ⟨#[], #[.slice none 0 0, .int .u8 0, .int .u8 0], []⟩ 8 (by kernel_rfl) (by kernel_rfl) (by kernel_rfl) (by kernel_rfl)) ?_
  intro W base args ds gs before hval0 hW hcnd hsz0 _
  have hsz : (DataW.weightsEach Try.prog (Try.f7.params.toList ++ Rows.typesStepsSpec.plain.varTypes Try.prog) (ds ++ gs)).all (· ≤ reachBytes) = true := hsz0
  have hval : ∀ (j : Nat) t v, Try.f7.params[j]? = some t → args[j]? = some v → Value.okWide Try.prog W .any base t v := hval0
  have hW' := hW
  obtain ⟨p, q, hA0, hV, rfl, hfz, hnd⟩ := hW
  have hA : DataW.TrodAll enc Try.prog W 0 (fun _ => true) true Try.f7.params.toList args.toList ds p := hA0
  rw [Try.params7] at hA hval hsz
  obtain ⟨v0, vs0, d0, ds0, p0, q0, hargs, rfl, rfl, h0, r0⟩ := trodAll_cons hA
  obtain ⟨v1, vs1, d1, ds1, p1, q1, rfl, rfl, rfl, h1, r1⟩ := trodAll_cons r0
  obtain ⟨v2, vs2, d2, ds2, p2, q2, rfl, rfl, rfl, h2, r2⟩ := trodAll_cons r1
  obtain ⟨rfl, rfl, rfl⟩ := trodAll_nil r2
  obtain rfl : args = #[v0, v1, v2] := by cases args; simp_all
  obtain ⟨rfl, rfl⟩ := trodVars_none hV
  have k0 := h0
  have lt0 : ∀ x ∈ p0, x.block < W.heap.size := by obtain ⟨m, hm⟩ := k0; exact DataW.trod_lt m _ _ _ hm
  obtain ⟨y0, hy0, oy0⟩ := see_arg (j := 0) (t := 22) (sees_slice (B := 48) Try.underlying22 (by kernel_rfl) (by kernel_rfl) sees38) hsz rfl rfl h0
  obtain ⟨a0, len0, cap0, rfl⟩ := okWide_slice Try.underlying22 (hval 0 22 v0 rfl rfl)
  obtain ⟨rfl, hc0, hr0⟩ := see_slice rfl hy0
  have k1 := h1
  have lt1 : ∀ x ∈ p1, x.block < W.heap.size := by obtain ⟨m, hm⟩ := k1; exact DataW.trod_lt m _ _ _ hm
  obtain ⟨y1, hy1, oy1⟩ := see_arg (j := 1) (t := 23) (sees_int Try.underlying23) hsz rfl rfl h1
  obtain ⟨z1, rfl, rfl, rfl, _⟩ := open_int Try.underlying23 (hval 1 23 v1 rfl rfl) h1
  obtain rfl : z1 = y1 := by have e_ := hy1; simp [Kd.int, Kd.bool, Kd.string, Kd.scalar, Value.cells] at e_; exact e_
  have k2 := h2
  have lt2 : ∀ x ∈ p2, x.block < W.heap.size := by obtain ⟨m, hm⟩ := k2; exact DataW.trod_lt m _ _ _ hm
  obtain ⟨y2, hy2, oy2⟩ := see_arg (j := 2) (t := 23) (sees_int Try.underlying23) hsz rfl rfl h2
  obtain ⟨z2, rfl, rfl, rfl, _⟩ := open_int Try.underlying23 (hval 2 23 v2 rfl rfl) h2
  obtain rfl : z2 = y2 := by have e_ := hy2; simp [Kd.int, Kd.bool, Kd.string, Kd.scalar, Value.cells] at e_; exact e_
  clear hA0 hval0 hsz0 hsz
  obtain ⟨k, hk⟩ := Pure.TypesSteps y0 z1 z2 oy0 oy1 oy2
  refine (provisolaw02_TypesSteps.calls k _ _ y0 z1 z2 true W hr0 hc0 hk).mono ?_
  rintro e W' ⟨rfl, bel0⟩
  have bel : Below W.heap.size W W' := bel0
  exact ⟨_, rfl, _, _, _, [], _, [], hW', trodAll_mk1 (shut_bool Try.underlying4 _), (trodAll_cons_mk (Below.trod laidOut (by kernel_rfl) (of_decide_eq_true (by kernel_rfl)) k0 bel lt0) (trodAll_cons_mk (Below.trod laidOut (by kernel_rfl) (of_decide_eq_true (by kernel_rfl)) k1 bel lt1) (trodAll_cons_mk (Below.trod laidOut (by kernel_rfl) (of_decide_eq_true (by kernel_rfl)) k2 bel lt2) trodAll_mk0))), rfl, bel.frame _, fun h => by cases h⟩
theorem over : Rows.typesStepsRow.holds Try.pinned (OpenSpec.ofChange Rows.typesStepsSpec) :=
  OpenClaim.holds_of_wide 7 Try.f7 rfl rfl rfl rfl rfl rfl rfl ⟨rfl, rfl, rfl, rfl, rfl⟩ rfl rfl rfl rfl rfl (by kernel_rfl) Try.func7 (by kernel_rfl)
    (of_decide_eq_true (by kernel_rfl)) (by unfold Func.isWrapper; first | (rw [if_pos (by decide +kernel)]; kernel_rfl) | (rw [if_neg (by decide +kernel)]; exact ⟨rfl, rfl⟩))
    (fun os started H enc _ => lifted os started H enc)
theorem proved : Rows.TypesStepsSaid := over
end Go.Proofs.Ytghgloepameloaa.typesSteps
namespace Go.Proofs.Ytghgloepameloaa
theorem typesSteps_holds : Rows.TypesStepsSaid := typesSteps.proved
end Go.Proofs.Ytghgloepameloaa

end

