/- Proved: the law TypesStays holds for every input that the row lets in. No condition of ours. -/
import Derived.Test.YtghgloepameloaaBTypesStaysc
import Derived.Test.YtghgloepameloaaRows
import Derived.ShutString
import Derived.ChangeOld
import Derived.Lib.SmallJoins
section
namespace Go.Proofs.Ytghgloepameloaa.P
open Go.RowKit Go.Proofs.YtghgloepameloaaW.PrintWords Go.Proofs.YtghgloepameloaaW.PrintLast Go.Proofs.YtghgloepameloaaW.PrintMore
attribute [local go_sem] max2_int min2_int max_two min_two max_three min_three max_four min_four   -- for this text's walks alone
set_option linter.unusedVariables false
set_option linter.unusedSimpArgs false

set_option maxHeartbeats 8000000 in
set_option maxRecDepth 100000 in
theorem provisoref02_Made.calls (k : Nat) (A0 : Option Addr) (c0 : Nat) (l0 : List (S38)) (r : Bool) (w : World) (hr0 : Kd.C k38 w A0 l0.length l0) (hc0 : l0.length ≤ c0) (h : provisoref02_Made.f k l0 = some r) :
    Calls Try.prog 11 #[.slice A0 l0.length c0] w fun e w' => e = .returned (.bool r) ∧ Below w.heap.size w w' := by
  have HR0 := Aside0.mk hr0
  have HC0 := Aside0.mk hc0
  clear hr0 hc0
  have HB := Aside0.mk (Below.refl w.heap.size w)
  have H : ((provisoref02_Check.f k l0).bind fun bt135 => (some (bt135.2 == 0))) = some r := h
  clear h
  replace H := Option.bind_eq_some_iff.mp H
  obtain ⟨⟨t135, t136⟩, A20, H⟩ := H
  replace H : (some (t136 == 0)) = some r := H
  have A2 := Aside0.mk A20
  clear A20
  obtain rfl := Option.some.inj H
  go_enter Try.func11, Try.ntmps11
  go_wp2_with (first | ((with_reducible refine gate_callee (f := 37) rfl ?_); refine goesL_ (some 7) rfl rfl Try.func37 (by kernel_rfl) rfl #[.slice A0 l0.length c0] rfl (by (try simp only [List.map_toArray, List.map_cons, List.map_nil]); first | done | rfl | (simp only [List.length_drop, List.length_take]; rfl)) ?_; (with_reducible refine (provisoref02_Check.calls k _ _ l0 t135 t136 _ ?side1 ?side2 A2.out).mono ?_); (case side1 => repeat (first | exact HR0.out | (with_reducible refine Kd.C_alloc ?_ _) | (with_reducible refine Kd.C_drewN ?_ _) | (with_reducible refine Kd.C_drew ?_))); (case side2 => exact HC0.out); rintro e w3 ⟨rfl, hb⟩; refine ⟨_, rfl, ?_⟩; have n0_ := Aside0.mk (below_step (by repeat (first | (with_reducible first | exact HB.out | apply below_alloc | apply pw_below_drewN | apply below_drew1) | exact HB.out)) hb); clear HB; have HB := n0_; clear n0_; (try clear hb); (try clear hb2); (try clear hk); (try clear hi)))
  go_ret
  exact ⟨by first | rfl | (simp [errW_none, errW_some] <;> rfl) | (simp [*, errW_none, errW_some] <;> rfl), by repeat (first | (with_reducible first | exact HB.out | apply below_alloc | apply pw_below_drewN | apply below_drew1) | exact HB.out)⟩

def types_class.f (l0 : List (S38)) (a1 : Int) : Option (Int) := if a1 < 16 then (some (-1)) else (if ((a1 - 16) % 256) ≥ (l0.length : Int) then (some (-1)) else (some ((a1 - 16) % 256)))
set_option maxHeartbeats 8000000 in
set_option maxRecDepth 100000 in
theorem types_class.calls (A0 : Option Addr) (c0 : Nat) (l0 : List (S38)) (a1 : Int) (r : Int) (w : World) (hr0 : Kd.C k38 w A0 l0.length l0) (hc0 : l0.length ≤ c0) (h : types_class.f l0 a1 = some r) :
    Calls Try.prog 39 #[.slice A0 l0.length c0, .int .u8 a1] w fun e w' => e = .returned (.int .i64 r) ∧ Drawn0 w w' := by
  have HR0 := Aside0.mk hr0
  have HC0 := Aside0.mk hc0
  clear hr0 hc0
  have H : (if a1 < 16 then (some (-1)) else (if ((a1 - 16) % 256) ≥ (l0.length : Int) then (some (-1)) else (some ((a1 - 16) % 256)))) = some r := h
  clear h
  by_cases c3 : a1 < 16
  · rw [if_pos c3] at H
    have c3b0 : decide (a1 < 16) = true := decide_eq_true c3
    clear c3
    obtain rfl := Option.some.inj H
    go_enter Try.func39, Try.ntmps39
    go_wp2
    go_ret
    exact ⟨by first | rfl | (simp; done) | (simp [*]; done), by repeat (first | exact Drawn0.refl _ | apply Drawn0.step)⟩
  · rw [if_neg c3] at H
    have c3b0 : decide (a1 < 16) = false := decide_eq_false c3
    clear c3
    by_cases c4 : ((a1 - 16) % 256) ≥ (l0.length : Int)
    · rw [if_pos c4] at H
      have c4b0 : decide ((l0.length : Int) ≤ ((a1 - 16) % 256)) = true := decide_eq_true c4
      clear c4
      obtain rfl := Option.some.inj H
      go_enter Try.func39, Try.ntmps39
      go_wp2
      go_ret
      exact ⟨by first | rfl | (simp; done) | (simp [*]; done), by repeat (first | exact Drawn0.refl _ | apply Drawn0.step)⟩
    · rw [if_neg c4] at H
      have c4b0 : decide ((l0.length : Int) ≤ ((a1 - 16) % 256)) = false := decide_eq_false c4
      clear c4
      obtain rfl := Option.some.inj H
      go_enter Try.func39, Try.ntmps39
      go_wp2
      go_ret
      exact ⟨by first | rfl | (simp; done) | (simp [*]; done), by repeat (first | exact Drawn0.refl _ | apply Drawn0.step)⟩

def types_IsRef.f (a0 : Int) : Option (Bool) := if a0 = 3 then (some true) else (if a0 = 4 then (some true) else (if a0 = 5 then (some true) else (some (decide (a0 ≥ 16)))))
set_option maxHeartbeats 8000000 in
set_option maxRecDepth 100000 in
theorem types_IsRef.calls (a0 : Int) (r : Bool) (w : World) (h : types_IsRef.f a0 = some r) :
    Calls Try.prog 28 #[.int .u8 a0] w fun e w' => e = .returned (.bool r) ∧ Drawn0 w w' := by
  have H : (if a0 = 3 then (some true) else (if a0 = 4 then (some true) else (if a0 = 5 then (some true) else (some (decide (a0 ≥ 16)))))) = some r := h
  clear h
  by_cases c2 : a0 = 3
  · rw [if_pos c2] at H
    have c2b0 : (a0 == 3) = true := beq_iff_eq.mpr c2
    have c2b1 : (a0 != 3) = false := bne_eq_false_iff_eq.mpr c2
    clear c2
    obtain rfl := Option.some.inj H
    go_enter Try.func28, Try.ntmps28
    go_wp2
    go_ret
    exact ⟨by first | rfl | (simp; done) | (simp [*]; done), by repeat (first | exact Drawn0.refl _ | apply Drawn0.step)⟩
  · rw [if_neg c2] at H
    have c2b0 : (a0 == 3) = false := beq_eq_false_iff_ne.mpr c2
    have c2b1 : (a0 != 3) = true := bne_iff_ne.mpr c2
    by_cases c3 : a0 = 4
    · rw [if_pos c3] at H
      have c3b0 : (a0 == 4) = true := beq_iff_eq.mpr c3
      have c3b1 : (a0 != 4) = false := bne_eq_false_iff_eq.mpr c3
      clear c3
      obtain rfl := Option.some.inj H
      go_enter Try.func28, Try.ntmps28
      go_wp2
      go_ret
      exact ⟨by first | rfl | (simp; done) | (simp [*]; done), by repeat (first | exact Drawn0.refl _ | apply Drawn0.step)⟩
    · rw [if_neg c3] at H
      have c3b0 : (a0 == 4) = false := beq_eq_false_iff_ne.mpr c3
      have c3b1 : (a0 != 4) = true := bne_iff_ne.mpr c3
      by_cases c4 : a0 = 5
      · rw [if_pos c4] at H
        have c4b0 : (a0 == 5) = true := beq_iff_eq.mpr c4
        have c4b1 : (a0 != 5) = false := bne_eq_false_iff_eq.mpr c4
        clear c4
        obtain rfl := Option.some.inj H
        go_enter Try.func28, Try.ntmps28
        go_wp2
        go_ret
        exact ⟨by first | rfl | (simp; done) | (simp [*]; done), by repeat (first | exact Drawn0.refl _ | apply Drawn0.step)⟩
      · rw [if_neg c4] at H
        have c4b0 : (a0 == 5) = false := beq_eq_false_iff_ne.mpr c4
        have c4b1 : (a0 != 5) = true := bne_iff_ne.mpr c4
        obtain rfl := Option.some.inj H
        go_enter Try.func28, Try.ntmps28
        go_wp2
        go_ret
        exact ⟨by first | rfl | (simp; done) | (simp [*]; done), by repeat (first | exact Drawn0.refl _ | apply Drawn0.step)⟩

def types_Valid.f (l0 : List (S38)) (a1 : Int) : Option (Bool) := if a1 ≤ 5 then (some true) else ((types_class.f l0 a1).bind fun t157 => (some (decide (t157 ≥ 0))))
set_option maxHeartbeats 8000000 in
set_option maxRecDepth 100000 in
theorem types_Valid.calls (A0 : Option Addr) (c0 : Nat) (l0 : List (S38)) (a1 : Int) (r : Bool) (w : World) (hr0 : Kd.C k38 w A0 l0.length l0) (hc0 : l0.length ≤ c0) (h : types_Valid.f l0 a1 = some r) :
    Calls Try.prog 30 #[.slice A0 l0.length c0, .int .u8 a1] w fun e w' => e = .returned (.bool r) ∧ Drawn0 w w' := by
  have HR0 := Aside0.mk hr0
  have HC0 := Aside0.mk hc0
  clear hr0 hc0
  have H : (if a1 ≤ 5 then (some true) else ((types_class.f l0 a1).bind fun t157 => (some (decide (t157 ≥ 0))))) = some r := h
  clear h
  by_cases c3 : a1 ≤ 5
  · rw [if_pos c3] at H
    have c3b0 : decide (a1 ≤ 5) = true := decide_eq_true c3
    clear c3
    obtain rfl := Option.some.inj H
    go_enter Try.func30, Try.ntmps30
    go_wp2
    go_ret
    exact ⟨by first | rfl | (simp; done) | (simp [*]; done), by repeat (first | exact Drawn0.refl _ | apply Drawn0.step)⟩
  · rw [if_neg c3] at H
    have c3b0 : decide (a1 ≤ 5) = false := decide_eq_false c3
    clear c3
    replace H := Option.bind_eq_some_iff.mp H
    obtain ⟨t157, A40, H⟩ := H
    replace H : (some (decide (t157 ≥ 0))) = some r := H
    have A4 := Aside0.mk A40
    clear A40
    obtain rfl := Option.some.inj H
    go_enter Try.func30, Try.ntmps30
    go_wp2_with (first | (go_at_call 39; (with_reducible refine (types_class.calls _ _ l0 a1 t157 _ ?side1 ?side2 A4.out).mono ?_); (case side1 => repeat (first | exact HR0.out | (with_reducible refine Kd.C_alloc ?_ _) | (with_reducible refine Kd.C_drewN ?_ _) | (with_reducible refine Kd.C_drew ?_))); (case side2 => exact HC0.out); rintro e w' ⟨rfl, ⟨nd, rfl⟩⟩))
    go_ret
    exact ⟨by first | rfl | (simp; done) | (simp [*]; done), by repeat (first | exact Drawn0.refl _ | apply Drawn0.step)⟩

end Go.Proofs.Ytghgloepameloaa.P

end

section
namespace Go.Proofs.Ytghgloepameloaa.P
open Go.RowKit Go.Proofs.YtghgloepameloaaW.PrintWords Go.Proofs.YtghgloepameloaaW.PrintLast Go.Proofs.YtghgloepameloaaW.PrintMore
attribute [local go_sem] max2_int min2_int max_two min_two max_three min_three max_four min_four   -- for this text's walks alone
set_option linter.unusedVariables false
set_option linter.unusedSimpArgs false

def climbF (l : List S38) : Nat → Int → List Int
  | 0, _ => []
  | f + 1, c => if 0 ≤ c ∧ c < (l.length : Int) then c :: (if (rd_T38 l c).f1 ≥ c then [] else climbF l f (rd_T38 l c).f1) else []
def climbL (l : List S38) (c : Int) : List Int := climbF l (c.toNat + 1) c
theorem climbF_le (l : List S38) : ∀ (f g : Nat) (c : Int), c.toNat < f → f ≤ g → climbF l g c = climbF l f c
  | 0, _, _, h, _ => by omega
  | f + 1, 0, _, _, h => by omega
  | f + 1, g + 1, c, h, hg => by
    simp only [climbF]
    split
    · split
      · rfl
      · rename_i h1 h2
        by_cases h3 : 0 ≤ (rd_T38 l c).f1
        · rw [climbF_le l f g _ (by omega) (by omega)]
        · have e : ∀ k, climbF l k (rd_T38 l c).f1 = [] := by
            intro k
            cases k with
            | zero => rfl
            | succ k => simp only [climbF]; rw [if_neg (by omega)]
          rw [e, e]
    · rfl
theorem climbL_in (l : List S38) (c : Int) (h0 : 0 ≤ c) (h1 : c < (l.length : Int)) (h2 : (rd_T38 l c).f1 < c) : climbL l c = c :: climbL l (rd_T38 l c).f1 := by
  unfold climbL
  rw [climbF, if_pos ⟨h0, h1⟩, if_neg (by omega)]
  by_cases h3 : 0 ≤ (rd_T38 l c).f1
  · rw [climbF_le l _ c.toNat _ (Nat.lt_succ_self _) (by omega)]
  · have e : ∀ k, climbF l k (rd_T38 l c).f1 = [] := by
      intro k
      cases k with
      | zero => rfl
      | succ k => simp only [climbF]; rw [if_neg (by omega)]
    rw [e, e]
theorem climbL_last (l : List S38) (c : Int) (h0 : 0 ≤ c) (h1 : c < (l.length : Int)) (h2 : ¬ (rd_T38 l c).f1 < c) : climbL l c = [c] := by
  unfold climbL
  rw [climbF, if_pos ⟨h0, h1⟩, if_pos (by omega)]
theorem climbL_out (l : List S38) (c : Int) (h : ¬ (0 ≤ c ∧ c < (l.length : Int))) : climbL l c = [] := by
  unfold climbL
  rw [climbF, if_neg h]

set_option maxHeartbeats 800000 in
set_option maxRecDepth 100000 in
theorem climb_any (fid : Nat) (caps : Array Value) (A0 : Option Addr) (c0 : Nat) (l : List S38) (W0 : World) (hr : Kd.C k38 W0 A0 l.length l) (Inv : List Int → World → Prop) (Fin : World → Prop)
    (hB : ∀ xs W, Inv xs W → Below W0.heap.size W0 W) (hnil : ∀ W, Inv [] W → Fin W)
    (hstep : ∀ x xs W, Inv (x :: xs) W → Calls Try.prog fid (#[.int .i64 x] ++ caps) W fun e W' => (e = .returned (.bool true) ∧ Inv xs W') ∨ (e = .returned (.bool false) ∧ Fin W'))
    (hcf : ∀ (vs : Array Value) (w : World), Sem.run Try.prog (callFunc fid vs) w = .ok (.enter fid vs) w)
    (x0 : Int) (W : World) (h0 : Inv (climbL l x0) W) :
    Calls Try.prog 42 #[.slice A0 l.length c0, .int .i64 x0, .func (.func fid) #[] caps] W fun e W' => e = .returned (.tuple #[]) ∧ Fin W' := by
  have H0 := Aside0.mk h0
  have HN := Aside0.mk hnil
  have HS := Aside0.mk hstep
  have HB := Aside0.mk hB
  have HR := Aside0.mk hr
  clear h0 hnil hstep hB hr
  go_enter Try.func42, Try.ntmps42
  go_wp2
  go_loopw [1] (fun v wr => ∃ y : Int, v = .int .i64 y ∧ Aside0 (Inv (climbL l y) wr)) (fun v _ => (intOf v + 1).toNat)
  case atStart => exact ⟨x0, rfl, H0⟩
  case round =>
    obtain ⟨y, rfl, HI⟩ := hrel
    by_cases c1 : 0 ≤ y
    · have c1b : decide (0 ≤ y) = true := decide_eq_true c1
      by_cases c2 : y < (l.length : Int)
      · have c2b : decide (y < (l.length : Int)) = true := decide_eq_true c2
        obtain ⟨ad, A2, c3, e0, _, hx1, _, _, _⟩ := at_T38 HR.out y c1 c2
        subst e0
        have HX := Aside0.mk hx1
        clear hx1
        by_cases c3 : (rd_T38 l y).f1 < y
        · have HI2 := HI.out
          rw [climbL_in l y c1 c2 c3] at HI2
          have HC := Aside0.mk (HS.out _ _ _ HI2)
          have c3b : decide (y ≤ (rd_T38 l y).f1) = false := decide_eq_false (by omega)
          clear HI2
          go_wp2_with fail
          refine HC.out.mono ?_
          rintro e w1 (⟨rfl, h1⟩ | ⟨rfl, h1⟩)
          · have hB1 := HB.out _ _ h1
            have H1 := Aside0.mk h1
            have hx := (hB1.cell (World.block_lt_of_cell? W0 _ HX.out)).trans HX.out
            clear hB1 h1
            go_wp2
            go_roundw
            case rel => exact ⟨_, rfl, H1⟩
            case measure => simp [intOf]; omega
          · have H1 := Aside0.mk h1
            clear h1
            go_wp2
            go_end0
            exact ⟨rfl, H1.out⟩
        · have HI2 := HI.out
          rw [climbL_last l y c1 c2 c3] at HI2
          have HC := Aside0.mk (HS.out _ _ _ HI2)
          have c3b : decide (y ≤ (rd_T38 l y).f1) = true := decide_eq_true (by omega)
          clear HI2
          go_wp2_with fail
          refine HC.out.mono ?_
          rintro e w1 (⟨rfl, h1⟩ | ⟨rfl, h1⟩)
          · have hB1 := HB.out _ _ h1
            have H1 := Aside0.mk (HN.out _ h1)
            have hx := (hB1.cell (World.block_lt_of_cell? W0 _ HX.out)).trans HX.out
            clear hB1 h1
            go_wp2
            (try simp only [Exit.inBlock, Exit.then])
            refine bodyPost_ret (results_none rfl _ _ _) rfl ?_
            exact ⟨rfl, H1.out⟩
          · have H1 := Aside0.mk h1
            clear h1
            go_wp2
            go_end0
            exact ⟨rfl, H1.out⟩
      · have c2b : decide (y < (l.length : Int)) = false := decide_eq_false c2
        have HI2 := HI.out
        rw [climbL_out l y (by omega)] at HI2
        have H1 := Aside0.mk (HN.out _ HI2)
        clear HI2
        go_wp2
        go_end0
        exact ⟨rfl, H1.out⟩
    · have c1b : decide (0 ≤ y) = false := decide_eq_false c1
      have HI2 := HI.out
      rw [climbL_out l y (by omega)] at HI2
      have H1 := Aside0.mk (HN.out _ HI2)
      clear HI2
      go_wp2
      go_end0
      exact ⟨rfl, H1.out⟩
theorem callFunc_run {f : Nat} {fn : Func} (hf : Try.prog.funcs[f]? = some fn) (hname : (fn.name == "runtime.NumGoroutine") = false) (hb : fn.body.isSome = true) (vs : Array Value) (w : World) : Sem.run Try.prog (callFunc f vs) w = .ok (.enter f vs) w := enters_ hf hname hb vs w

theorem climbF_length (l : List S38) : ∀ (f : Nat) (c : Int), (climbF l f c).length ≤ f
  | 0, _ => Nat.le_refl _
  | f + 1, c => by
    simp only [climbF]
    split
    · split
      · simp
      · simpa using climbF_length l f _
    · simp
theorem climbL_length (l : List S38) (c : Int) : (climbL l c).length ≤ l.length := by
  by_cases h : 0 ≤ c ∧ c < (l.length : Int)
  · exact Nat.le_trans (climbF_length l _ c) (by omega)
  · rw [climbL_out l c h]; simp
theorem climbL_mem (l : List S38) (c : Int) : ∀ x ∈ climbL l c, 0 ≤ x ∧ x < (l.length : Int) := by
  have h : ∀ (f : Nat) (c : Int), ∀ x ∈ climbF l f c, 0 ≤ x ∧ x < (l.length : Int) := by
    intro f
    induction f with
    | zero => intro c x hx; cases hx
    | succ f ih =>
      intro c x hx
      simp only [climbF] at hx
      split at hx
      · rename_i h1
        rcases List.mem_cons.1 hx with rfl | h2
        · exact h1
        · split at h2
          · cases h2
          · exact ih _ x h2
      · cases hx
  exact h _ c

def types_above.f (l0 : List S38) (a1 a2 : Int) : Option Bool := some (decide (a2 ∈ climbL l0 a1))
set_option maxHeartbeats 800000 in
theorem types_above_step (Bt Bi : Nat) (top x : Int) (W : World) (hT : W.cell? ⟨Bt, 0, none⟩ = some (.int .i64 top)) (hI : W.cell? ⟨Bi, 0, none⟩ = some (.bool false)) (hF : W.frozen? ⟨Bi, 0, none⟩ = false) :
    Calls Try.prog 56 #[.int .i64 x, .pointer (some ⟨Bt, 0, none⟩), .pointer (some ⟨Bi, 0, none⟩)] W fun e W' => e = .returned (.bool (!(x == top))) ∧ W' = W.setCell ⟨Bi, 0, none⟩ (.bool (x == top)) := by
  have hI2 : (W.setCell ⟨Bi, 0, none⟩ (.bool (x == top))).cell? ⟨Bi, 0, none⟩ = some (.bool (x == top)) := World.cell?_setCell_same W _ _ hI
  go_enter Try.func56, Try.ntmps56
  go_wp2
  go_ret
  exact ⟨rfl, rfl⟩
structure AboveInv (W0 : World) (top : Int) (r : Bool) (xs : List Int) (W : World) : Prop where
  tops : W.cell? ⟨W0.heap.size, 0, none⟩ = some (.int .i64 top)
  now : W.cell? ⟨W0.heap.size + 1, 0, none⟩ = some (.bool false)
  free : W.frozen? ⟨W0.heap.size + 1, 0, none⟩ = false
  below : Below W0.heap.size W0 W
  left : decide (top ∈ xs) = r
structure AboveFin (W0 : World) (r : Bool) (W : World) : Prop where
  now : W.cell? ⟨W0.heap.size + 1, 0, none⟩ = some (.bool r)
  below : Below W0.heap.size W0 W
set_option maxHeartbeats 800000 in
set_option maxRecDepth 100000 in
theorem types_above.calls (A0 : Option Addr) (c0 : Nat) (l0 : List S38) (a1 a2 : Int) (r : Bool) (w : World) (hr0 : Kd.C k38 w A0 l0.length l0) (hc0 : l0.length ≤ c0) (h : types_above.f l0 a1 a2 = some r) :
    Calls Try.prog 41 #[.slice A0 l0.length c0, .int .i64 a1, .int .i64 a2] w fun e w' => e = .returned (.bool r) ∧ Below w.heap.size w w' := by
  obtain rfl := Option.some.inj h
  have hmf : ∀ (fn : Fn) (first cap : Array Value) (w : World), (Instr.makeFunc fn first cap).run Try.prog w = .ok (.func fn first cap) w := fun _ _ _ _ => rfl
  have HR := Aside0.mk hr0
  clear hr0 h
  go_enter Try.func41, Try.ntmps41
  go_wp2_with fail
  refine (climb_any 56 _ A0 c0 l0 w HR.out (AboveInv w a2 (decide (a2 ∈ climbL l0 a1))) (AboveFin w (decide (a2 ∈ climbL l0 a1))) (fun _ _ h => h.below) ?_ ?_ (callFunc_run Try.func56 (by kernel_rfl) (by kernel_rfl)) a1 _ ?_).mono ?_
  · rintro W ⟨h1, h2, h3, h4, h5⟩
    exact ⟨by rw [← h5]; exact h2, h4⟩
  · rintro x xs W ⟨h1, h2, h3, h4, h5⟩
    refine (types_above_step _ _ a2 x W h1 h2 h3).mono ?_
    rintro e W' ⟨rfl, rfl⟩
    by_cases e : x = a2
    · subst e
      right
      refine ⟨by simp, ?_, h4.setCell (by simp) _⟩
      rw [← h5]
      simpa using World.cell?_setCell_same W _ _ h2
    · left
      refine ⟨by simp [e], ?_, ?_, ?_, h4.setCell (by simp) _, ?_⟩
      · rw [World.cell?_setCell_other W _ _ _ (by simp)]; exact h1
      · have e' : (x == a2) = false := by simp [e]
        rw [e']; exact World.cell?_setCell_same W _ _ h2
      · simpa using h3
      · rw [← h5]; simp [Ne.symm e]
  · refine ⟨?_, ?_, World.frozen?_alloc_at _ _ _ _ (by simp), ((Below.refl _ _).alloc (Nat.le_refl _) _).alloc (by simp) _, rfl⟩
    · rw [World.cell?_alloc_past _ _ _ (by simp), World.cell?_alloc_at _ _ _ _ rfl]; rfl
    · rw [World.cell?_alloc_at _ _ _ _ (by simp)]; rfl
  · rintro e w1 ⟨rfl, h1, h2⟩
    go_wp2
    go_ret
    exact ⟨rfl, h2⟩

mutual
def types_Sub.j0 : Nat → List (S38) → Int → Int → Bool → Option (Bool)
  | 0, _, _, _, _ => none
  | k + 1, x0, x1, x2, x18 => if x18 = true then (some false) else (if x1 = x2 then (types_Sub.j1 k x0 x1 x2 true) else (types_Sub.j1 k x0 x1 x2 (x2 == 0)))
def types_Sub.j1 : Nat → List (S38) → Int → Int → Bool → Option (Bool)
  | 0, _, _, _, _ => none
  | k + 1, x0, x1, x2, x19 => if x19 = true then (some true) else (if x1 = 3 then (types_Sub.j2 k x0 x1 x2 true) else (types_Sub.j2 k x0 x1 x2 (x2 == 5)))
def types_Sub.j2 : Nat → List (S38) → Int → Int → Bool → Option (Bool)
  | 0, _, _, _, _ => none
  | k + 1, x0, x1, x2, x27 => if x27 = true then ((types_IsRef.f x1).bind fun t160 => (if t160 = true then ((types_IsRef.f x2).bind fun t161 => (some t161)) else (some false))) else ((types_class.f x0 x1).bind fun t162 => ((types_class.f x0 x2).bind fun t163 => (if t162 ≥ 0 then (if t163 ≥ 0 then ((types_above.f x0 t162 t163).bind fun t164 => (some t164)) else (some false)) else (some false))))
end
def types_Sub.f (k : Nat) (l0 : List (S38)) (a1 : Int) (a2 : Int) : Option (Bool) := (types_Valid.f l0 a1).bind fun t158 => (if t158 = true then ((types_Valid.f l0 a2).bind fun t159 => (types_Sub.j0 k l0 a1 a2 (!t159))) else (types_Sub.j0 k l0 a1 a2 true))
set_option maxHeartbeats 8000000 in
set_option maxRecDepth 100000 in
theorem types_Sub.calls (k : Nat) (A0 : Option Addr) (c0 : Nat) (l0 : List (S38)) (a1 : Int) (a2 : Int) (r : Bool) (w : World) (hr0 : Kd.C k38 w A0 l0.length l0) (hc0 : l0.length ≤ c0) (h : types_Sub.f k l0 a1 a2 = some r) :
    Calls Try.prog 16 #[.slice A0 l0.length c0, .int .u8 a1, .int .u8 a2] w fun e w' => e = .returned (.bool r) ∧ Below w.heap.size w w' := by
  have HR0 := Aside0.mk hr0
  have HC0 := Aside0.mk hc0
  clear hr0 hc0
  have HB := Aside0.mk (Below.refl w.heap.size w)
  have H : ((types_Valid.f l0 a1).bind fun t158 => (if t158 = true then ((types_Valid.f l0 a2).bind fun t159 => (types_Sub.j0 k l0 a1 a2 (!t159))) else (types_Sub.j0 k l0 a1 a2 true))) = some r := h
  clear h
  have HC4 := Aside0.mk H
  clear H
  go_enter Try.func16, Try.ntmps16
  go_upto_region 1 with (fail)
  go_cut [18] (fun v18 wc => ∃ (kq : Nat) (x18_3 : Bool), v18 = .bool x18_3 ∧ Aside0 (types_Sub.j0 kq l0 a1 a2 x18_3 = some r) ∧ Aside0 (kq ≤ k) ∧ Aside0 (Below w.heap.size w wc))
  case first =>
    have H := HC4.out
    clear HC4
    replace H := Option.bind_eq_some_iff.mp H
    obtain ⟨t158, A50, H⟩ := H
    replace H : (if t158 = true then ((types_Valid.f l0 a2).bind fun t159 => (types_Sub.j0 k l0 a1 a2 (!t159))) else (types_Sub.j0 k l0 a1 a2 true)) = some r := H
    have A5 := Aside0.mk A50
    clear A50
    by_cases c6 : t158 = true
    · subst c6
      have H1 : ((types_Valid.f l0 a2).bind fun t159 => (types_Sub.j0 k l0 a1 a2 (!t159))) = some r := by rw [if_pos rfl] at H; exact H
      clear H
      have H := H1
      clear H1
      replace H := Option.bind_eq_some_iff.mp H
      obtain ⟨t159, A70, H⟩ := H
      replace H : (types_Sub.j0 k l0 a1 a2 (!t159)) = some r := H
      have A7 := Aside0.mk A70
      clear A70
      have H' := Aside0.mk H
      clear H
      go_wp2_with (first | ((with_reducible refine gate_callee (f := 30) rfl ?_); refine goesL_ (some 11) rfl rfl Try.func30 (by kernel_rfl) rfl #[.slice A0 l0.length c0, .int .u8 a1] rfl (by (try simp only [List.map_toArray, List.map_cons, List.map_nil]); first | done | rfl | (simp only [List.length_drop, List.length_take]; rfl)) ?_; (with_reducible refine (types_Valid.calls _ _ l0 a1 true _ ?side1 ?side2 A5.out).mono ?_); (case side1 => repeat (first | exact (Kd.C_below HR0.out HB.out) | (with_reducible refine Kd.C_alloc ?_ _) | (with_reducible refine Kd.C_drewN ?_ _) | (with_reducible refine Kd.C_drew ?_))); (case side2 => exact HC0.out); rintro e w' ⟨rfl, ⟨nd, rfl⟩⟩; refine ⟨_, rfl, ?_⟩) | (go_at_call 30; (with_reducible refine (types_Valid.calls _ _ l0 a2 t159 _ ?side1 ?side2 A7.out).mono ?_); (case side1 => repeat (first | exact (Kd.C_below HR0.out (by repeat (first | (with_reducible first | exact HB.out | apply below_alloc | apply pw_below_drewN | apply below_drew1) | exact HB.out))) | (with_reducible refine Kd.C_alloc ?_ _) | (with_reducible refine Kd.C_drewN ?_ _) | (with_reducible refine Kd.C_drew ?_))); (case side2 => exact HC0.out); rintro e w' ⟨rfl, ⟨nd, rfl⟩⟩))
      go_meet
      case rel => exact ⟨_, (!t159), (by first | rfl | (simp; done) | (simp [*]; done)), H', ⟨by first | omega | exact Nat.le_refl _⟩, ⟨by repeat (first | (with_reducible first | exact HB.out | apply below_alloc | apply pw_below_drewN | apply below_drew1) | exact HB.out)⟩⟩
    · replace c6 := Bool.eq_false_iff.mpr c6
      subst c6
      have H1 : (types_Sub.j0 k l0 a1 a2 true) = some r := by rw [if_neg (show ¬ (false = true) by decide)] at H; exact H
      clear H
      have H := H1
      clear H1
      have H' := Aside0.mk H
      clear H
      go_wp2_with (first | ((with_reducible refine gate_callee (f := 30) rfl ?_); refine goesL_ (some 11) rfl rfl Try.func30 (by kernel_rfl) rfl #[.slice A0 l0.length c0, .int .u8 a1] rfl (by (try simp only [List.map_toArray, List.map_cons, List.map_nil]); first | done | rfl | (simp only [List.length_drop, List.length_take]; rfl)) ?_; (with_reducible refine (types_Valid.calls _ _ l0 a1 false _ ?side1 ?side2 A5.out).mono ?_); (case side1 => repeat (first | exact (Kd.C_below HR0.out HB.out) | (with_reducible refine Kd.C_alloc ?_ _) | (with_reducible refine Kd.C_drewN ?_ _) | (with_reducible refine Kd.C_drew ?_))); (case side2 => exact HC0.out); rintro e w' ⟨rfl, ⟨nd, rfl⟩⟩; refine ⟨_, rfl, ?_⟩))
      go_meet
      case rel => exact ⟨_, (true), (by first | rfl | (simp; done) | (simp [*]; done)), H', ⟨by first | omega | exact Nat.le_refl _⟩, ⟨by repeat (first | (with_reducible first | exact HB.out | apply below_alloc | apply pw_below_drewN | apply below_drew1) | exact HB.out)⟩⟩
  case rest =>
    clear HC4
    try clear c1
    try clear p2
    try clear c3
    try clear c6
    obtain ⟨kq, x18_3, rfl, HA, HJ3, HB⟩ := hcut
    cases kq with
    | zero => exact absurd HA.out (by simp [types_Sub.j0])
    | succ kj3 =>
      have H := HA.out
      clear HA
      simp only [types_Sub.j0] at H
      by_cases c8 : x18_3 = true
      · subst c8
        have H1 : (some false) = some r := by rw [if_pos rfl] at H; exact H
        clear H
        have H := H1
        clear H1
        obtain rfl := Option.some.inj H
        go_wp2
        go_ret
        exact ⟨by first | rfl | (simp [errW_none, errW_some] <;> rfl) | (simp [*, errW_none, errW_some] <;> rfl), by repeat (first | (with_reducible first | exact HB.out | apply below_alloc | apply pw_below_drewN | apply below_drew1) | exact HB.out)⟩
      · replace c8 := Bool.eq_false_iff.mpr c8
        subst c8
        have H1 : (if a1 = a2 then (types_Sub.j1 kj3 l0 a1 a2 true) else (types_Sub.j1 kj3 l0 a1 a2 (a2 == 0))) = some r := by rw [if_neg (show ¬ (false = true) by decide)] at H; exact H
        clear H
        have H := H1
        clear H1
        have HC9 := Aside0.mk H
        clear H
        go_upto_region 3 with (fail)
        go_cut [19] (fun v19 wc => ∃ (kq : Nat) (x19_8 : Bool), v19 = .bool x19_8 ∧ Aside0 (types_Sub.j1 kq l0 a1 a2 x19_8 = some r) ∧ Aside0 (kq ≤ kj3) ∧ Aside0 (Below w.heap.size w wc))
        case first =>
          have H := HC9.out
          clear HC9
          by_cases c10 : a1 = a2
          · rw [if_pos c10] at H
            have c10b0 : (a1 == a2) = true := beq_iff_eq.mpr c10
            have c10b1 : (a1 != a2) = false := bne_eq_false_iff_eq.mpr c10
            clear c10
            (first | rw [c10b0] | (simp only [i64_w, i32_w]; rw [c10b0]) | skip)
            have H' := Aside0.mk H
            clear H
            go_wp2
            go_meet
            case rel => exact ⟨_, (true), (by first | rfl | (simp; done) | (simp [*]; done)), H', ⟨by have := HJ3.out; first | omega | exact Nat.le_refl _⟩, ⟨by repeat (first | (with_reducible first | exact HB.out | apply below_alloc | apply pw_below_drewN | apply below_drew1) | exact HB.out)⟩⟩
          · rw [if_neg c10] at H
            have c10b0 : (a1 == a2) = false := beq_eq_false_iff_ne.mpr c10
            have c10b1 : (a1 != a2) = true := bne_iff_ne.mpr c10
            (first | rw [c10b0] | (simp only [i64_w, i32_w]; rw [c10b0]) | skip)
            have H' := Aside0.mk H
            clear H
            go_wp2
            go_meet
            case rel => exact ⟨_, ((a2 == 0)), (by first | rfl | (simp; done) | (simp [*]; done)), H', ⟨by have := HJ3.out; first | omega | exact Nat.le_refl _⟩, ⟨by repeat (first | (with_reducible first | exact HB.out | apply below_alloc | apply pw_below_drewN | apply below_drew1) | exact HB.out)⟩⟩
        case rest =>
          clear HC9
          try clear c1
          try clear p2
          try clear c3
          try clear c6
          try clear c8
          try clear c10
          try clear c10b0
          try clear c10b1
          try clear p2
          obtain ⟨kq, x19_8, rfl, HA, HJ8, HB⟩ := hcut
          cases kq with
          | zero => exact absurd HA.out (by simp [types_Sub.j1])
          | succ kj8 =>
            have H := HA.out
            clear HA
            simp only [types_Sub.j1] at H
            by_cases c11 : x19_8 = true
            · subst c11
              have H1 : (some true) = some r := by rw [if_pos rfl] at H; exact H
              clear H
              have H := H1
              clear H1
              obtain rfl := Option.some.inj H
              go_wp2
              go_ret
              exact ⟨by first | rfl | (simp [errW_none, errW_some] <;> rfl) | (simp [*, errW_none, errW_some] <;> rfl), by repeat (first | (with_reducible first | exact HB.out | apply below_alloc | apply pw_below_drewN | apply below_drew1) | exact HB.out)⟩
            · replace c11 := Bool.eq_false_iff.mpr c11
              subst c11
              have H1 : (if a1 = 3 then (types_Sub.j2 kj8 l0 a1 a2 true) else (types_Sub.j2 kj8 l0 a1 a2 (a2 == 5))) = some r := by rw [if_neg (show ¬ (false = true) by decide)] at H; exact H
              clear H
              have H := H1
              clear H1
              have HC12 := Aside0.mk H
              clear H
              go_upto_region 5 with (fail)
              go_cut [27] (fun v27 wc => ∃ (kq : Nat) (x27_11 : Bool), v27 = .bool x27_11 ∧ Aside0 (types_Sub.j2 kq l0 a1 a2 x27_11 = some r) ∧ Aside0 (kq ≤ kj8) ∧ Aside0 (Below w.heap.size w wc))
              case first =>
                have H := HC12.out
                clear HC12
                by_cases c13 : a1 = 3
                · rw [if_pos c13] at H
                  have c13b0 : (a1 == 3) = true := beq_iff_eq.mpr c13
                  have c13b1 : (a1 != 3) = false := bne_eq_false_iff_eq.mpr c13
                  clear c13
                  (first | rw [c13b0] | (simp only [i64_w, i32_w]; rw [c13b0]) | skip)
                  have H' := Aside0.mk H
                  clear H
                  go_wp2
                  go_meet
                  case rel => exact ⟨_, (true), (by first | rfl | (simp; done) | (simp [*]; done)), H', ⟨by have := HJ3.out; have := HJ8.out; first | omega | exact Nat.le_refl _⟩, ⟨by repeat (first | (with_reducible first | exact HB.out | apply below_alloc | apply pw_below_drewN | apply below_drew1) | exact HB.out)⟩⟩
                · rw [if_neg c13] at H
                  have c13b0 : (a1 == 3) = false := beq_eq_false_iff_ne.mpr c13
                  have c13b1 : (a1 != 3) = true := bne_iff_ne.mpr c13
                  (first | rw [c13b0] | (simp only [i64_w, i32_w]; rw [c13b0]) | skip)
                  have H' := Aside0.mk H
                  clear H
                  go_wp2
                  go_meet
                  case rel => exact ⟨_, ((a2 == 5)), (by first | rfl | (simp; done) | (simp [*]; done)), H', ⟨by have := HJ3.out; have := HJ8.out; first | omega | exact Nat.le_refl _⟩, ⟨by repeat (first | (with_reducible first | exact HB.out | apply below_alloc | apply pw_below_drewN | apply below_drew1) | exact HB.out)⟩⟩
              case rest =>
                clear HC12
                try clear c1
                try clear p2
                try clear c3
                try clear c6
                try clear c8
                try clear c10
                try clear c10b0
                try clear c10b1
                try clear c11
                try clear c13
                try clear c13b0
                try clear c13b1
                try clear p2
                obtain ⟨kq, x27_11, rfl, HA, HJ11, HB⟩ := hcut
                cases kq with
                | zero => exact absurd HA.out (by simp [types_Sub.j2])
                | succ kj11 =>
                  have H := HA.out
                  clear HA
                  simp only [types_Sub.j2] at H
                  by_cases c14 : x27_11 = true
                  · subst c14
                    have H1 : ((types_IsRef.f a1).bind fun t160 => (if t160 = true then ((types_IsRef.f a2).bind fun t161 => (some t161)) else (some false))) = some r := by rw [if_pos rfl] at H; exact H
                    clear H
                    have H := H1
                    clear H1
                    replace H := Option.bind_eq_some_iff.mp H
                    obtain ⟨t160, A150, H⟩ := H
                    replace H : (if t160 = true then ((types_IsRef.f a2).bind fun t161 => (some t161)) else (some false)) = some r := H
                    have A15 := Aside0.mk A150
                    clear A150
                    by_cases c16 : t160 = true
                    · subst c16
                      have H1 : ((types_IsRef.f a2).bind fun t161 => (some t161)) = some r := by rw [if_pos rfl] at H; exact H
                      clear H
                      have H := H1
                      clear H1
                      replace H := Option.bind_eq_some_iff.mp H
                      obtain ⟨t161, A170, H⟩ := H
                      replace H : (some t161) = some r := H
                      have A17 := Aside0.mk A170
                      clear A170
                      obtain rfl := Option.some.inj H
                      go_wp2_with (first | ((with_reducible refine gate_callee (f := 28) rfl ?_); refine goesL_ (some 35) rfl rfl Try.func28 (by kernel_rfl) rfl #[.int .u8 a1] rfl (by (try simp only [List.map_toArray, List.map_cons, List.map_nil]); first | done | rfl | (simp only [List.length_drop, List.length_take]; rfl)) ?_; (with_reducible refine (types_IsRef.calls a1 true _ A15.out).mono ?_); rintro e w' ⟨rfl, ⟨nd, rfl⟩⟩; refine ⟨_, rfl, ?_⟩) | (go_at_call 28; (with_reducible refine (types_IsRef.calls a2 t161 _ A17.out).mono ?_); rintro e w' ⟨rfl, ⟨nd, rfl⟩⟩))
                      go_ret
                      exact ⟨by first | rfl | (simp [errW_none, errW_some] <;> rfl) | (simp [*, errW_none, errW_some] <;> rfl), by repeat (first | (with_reducible first | exact HB.out | apply below_alloc | apply pw_below_drewN | apply below_drew1) | exact HB.out)⟩
                    · replace c16 := Bool.eq_false_iff.mpr c16
                      subst c16
                      have H1 : (some false) = some r := by rw [if_neg (show ¬ (false = true) by decide)] at H; exact H
                      clear H
                      have H := H1
                      clear H1
                      obtain rfl := Option.some.inj H
                      go_wp2_with (first | ((with_reducible refine gate_callee (f := 28) rfl ?_); refine goesL_ (some 35) rfl rfl Try.func28 (by kernel_rfl) rfl #[.int .u8 a1] rfl (by (try simp only [List.map_toArray, List.map_cons, List.map_nil]); first | done | rfl | (simp only [List.length_drop, List.length_take]; rfl)) ?_; (with_reducible refine (types_IsRef.calls a1 false _ A15.out).mono ?_); rintro e w' ⟨rfl, ⟨nd, rfl⟩⟩; refine ⟨_, rfl, ?_⟩))
                      go_ret
                      exact ⟨by first | rfl | (simp [errW_none, errW_some] <;> rfl) | (simp [*, errW_none, errW_some] <;> rfl), by repeat (first | (with_reducible first | exact HB.out | apply below_alloc | apply pw_below_drewN | apply below_drew1) | exact HB.out)⟩
                  · replace c14 := Bool.eq_false_iff.mpr c14
                    subst c14
                    have H1 : ((types_class.f l0 a1).bind fun t162 => ((types_class.f l0 a2).bind fun t163 => (if t162 ≥ 0 then (if t163 ≥ 0 then ((types_above.f l0 t162 t163).bind fun t164 => (some t164)) else (some false)) else (some false)))) = some r := by rw [if_neg (show ¬ (false = true) by decide)] at H; exact H
                    clear H
                    have H := H1
                    clear H1
                    replace H := Option.bind_eq_some_iff.mp H
                    obtain ⟨t162, A180, H⟩ := H
                    replace H : ((types_class.f l0 a2).bind fun t163 => (if t162 ≥ 0 then (if t163 ≥ 0 then ((types_above.f l0 t162 t163).bind fun t164 => (some t164)) else (some false)) else (some false))) = some r := H
                    have A18 := Aside0.mk A180
                    clear A180
                    replace H := Option.bind_eq_some_iff.mp H
                    obtain ⟨t163, A190, H⟩ := H
                    replace H : (if t162 ≥ 0 then (if t163 ≥ 0 then ((types_above.f l0 t162 t163).bind fun t164 => (some t164)) else (some false)) else (some false)) = some r := H
                    have A19 := Aside0.mk A190
                    clear A190
                    by_cases c20 : t162 ≥ 0
                    · rw [if_pos c20] at H
                      have c20b0 : decide (0 ≤ t162) = true := decide_eq_true c20
                      clear c20
                      by_cases c21 : t163 ≥ 0
                      · rw [if_pos c21] at H
                        have c21b0 : decide (0 ≤ t163) = true := decide_eq_true c21
                        clear c21
                        replace H := Option.bind_eq_some_iff.mp H
                        obtain ⟨t164, A220, H⟩ := H
                        replace H : (some t164) = some r := H
                        have A22 := Aside0.mk A220
                        clear A220
                        obtain rfl := Option.some.inj H
                        go_wp2_with (first | ((with_reducible refine gate_callee (f := 39) rfl ?_); refine goesL_ (some 42) rfl rfl Try.func39 (by kernel_rfl) rfl #[.slice A0 l0.length c0, .int .u8 a1] rfl (by (try simp only [List.map_toArray, List.map_cons, List.map_nil]); first | done | rfl | (simp only [List.length_drop, List.length_take]; rfl)) ?_; (with_reducible refine (types_class.calls _ _ l0 a1 t162 _ ?side1 ?side2 A18.out).mono ?_); (case side1 => repeat (first | exact (Kd.C_below HR0.out HB.out) | (with_reducible refine Kd.C_alloc ?_ _) | (with_reducible refine Kd.C_drewN ?_ _) | (with_reducible refine Kd.C_drew ?_))); (case side2 => exact HC0.out); rintro e w' ⟨rfl, ⟨nd, rfl⟩⟩; refine ⟨_, rfl, ?_⟩) | ((with_reducible refine gate_callee (f := 39) rfl ?_); refine goesL_ (some 45) rfl rfl Try.func39 (by kernel_rfl) rfl #[.slice A0 l0.length c0, .int .u8 a2] rfl (by (try simp only [List.map_toArray, List.map_cons, List.map_nil]); first | done | rfl | (simp only [List.length_drop, List.length_take]; rfl)) ?_; (with_reducible refine (types_class.calls _ _ l0 a2 t163 _ ?side1 ?side2 A19.out).mono ?_); (case side1 => repeat (first | exact (Kd.C_below HR0.out (by repeat (first | (with_reducible first | exact HB.out | apply below_alloc | apply pw_below_drewN | apply below_drew1) | exact HB.out))) | (with_reducible refine Kd.C_alloc ?_ _) | (with_reducible refine Kd.C_drewN ?_ _) | (with_reducible refine Kd.C_drew ?_))); (case side2 => exact HC0.out); rintro e w' ⟨rfl, ⟨nd, rfl⟩⟩; refine ⟨_, rfl, ?_⟩) | (go_at_call 41; (with_reducible refine (types_above.calls _ _ l0 t162 t163 t164 _ ?side1 ?side2 A22.out).mono ?_); (case side1 => repeat (first | exact (Kd.C_below HR0.out (by repeat (first | (with_reducible first | exact HB.out | apply below_alloc | apply pw_below_drewN | apply below_drew1) | exact HB.out))) | (with_reducible refine Kd.C_alloc ?_ _) | (with_reducible refine Kd.C_drewN ?_ _) | (with_reducible refine Kd.C_drew ?_))); (case side2 => exact HC0.out); rintro e w23 ⟨rfl, hb⟩; have n0_ := Aside0.mk (below_step (by repeat (first | (with_reducible first | exact HB.out | apply below_alloc | apply pw_below_drewN | apply below_drew1) | exact HB.out)) hb); clear HB; have HB := n0_; clear n0_; (try clear hb); (try clear hb2); (try clear hk); (try clear hi)))
                        go_ret
                        exact ⟨by first | rfl | (simp [errW_none, errW_some] <;> rfl) | (simp [*, errW_none, errW_some] <;> rfl), by repeat (first | (with_reducible first | exact HB.out | apply below_alloc | apply pw_below_drewN | apply below_drew1) | exact HB.out)⟩
                      · rw [if_neg c21] at H
                        have c21b0 : decide (0 ≤ t163) = false := decide_eq_false c21
                        clear c21
                        obtain rfl := Option.some.inj H
                        go_wp2_with (first | ((with_reducible refine gate_callee (f := 39) rfl ?_); refine goesL_ (some 42) rfl rfl Try.func39 (by kernel_rfl) rfl #[.slice A0 l0.length c0, .int .u8 a1] rfl (by (try simp only [List.map_toArray, List.map_cons, List.map_nil]); first | done | rfl | (simp only [List.length_drop, List.length_take]; rfl)) ?_; (with_reducible refine (types_class.calls _ _ l0 a1 t162 _ ?side1 ?side2 A18.out).mono ?_); (case side1 => repeat (first | exact (Kd.C_below HR0.out HB.out) | (with_reducible refine Kd.C_alloc ?_ _) | (with_reducible refine Kd.C_drewN ?_ _) | (with_reducible refine Kd.C_drew ?_))); (case side2 => exact HC0.out); rintro e w' ⟨rfl, ⟨nd, rfl⟩⟩; refine ⟨_, rfl, ?_⟩) | ((with_reducible refine gate_callee (f := 39) rfl ?_); refine goesL_ (some 45) rfl rfl Try.func39 (by kernel_rfl) rfl #[.slice A0 l0.length c0, .int .u8 a2] rfl (by (try simp only [List.map_toArray, List.map_cons, List.map_nil]); first | done | rfl | (simp only [List.length_drop, List.length_take]; rfl)) ?_; (with_reducible refine (types_class.calls _ _ l0 a2 t163 _ ?side1 ?side2 A19.out).mono ?_); (case side1 => repeat (first | exact (Kd.C_below HR0.out (by repeat (first | (with_reducible first | exact HB.out | apply below_alloc | apply pw_below_drewN | apply below_drew1) | exact HB.out))) | (with_reducible refine Kd.C_alloc ?_ _) | (with_reducible refine Kd.C_drewN ?_ _) | (with_reducible refine Kd.C_drew ?_))); (case side2 => exact HC0.out); rintro e w' ⟨rfl, ⟨nd, rfl⟩⟩; refine ⟨_, rfl, ?_⟩))
                        go_ret
                        exact ⟨by first | rfl | (simp [errW_none, errW_some] <;> rfl) | (simp [*, errW_none, errW_some] <;> rfl), by repeat (first | (with_reducible first | exact HB.out | apply below_alloc | apply pw_below_drewN | apply below_drew1) | exact HB.out)⟩
                    · rw [if_neg c20] at H
                      have c20b0 : decide (0 ≤ t162) = false := decide_eq_false c20
                      clear c20
                      obtain rfl := Option.some.inj H
                      go_wp2_with (first | ((with_reducible refine gate_callee (f := 39) rfl ?_); refine goesL_ (some 42) rfl rfl Try.func39 (by kernel_rfl) rfl #[.slice A0 l0.length c0, .int .u8 a1] rfl (by (try simp only [List.map_toArray, List.map_cons, List.map_nil]); first | done | rfl | (simp only [List.length_drop, List.length_take]; rfl)) ?_; (with_reducible refine (types_class.calls _ _ l0 a1 t162 _ ?side1 ?side2 A18.out).mono ?_); (case side1 => repeat (first | exact (Kd.C_below HR0.out HB.out) | (with_reducible refine Kd.C_alloc ?_ _) | (with_reducible refine Kd.C_drewN ?_ _) | (with_reducible refine Kd.C_drew ?_))); (case side2 => exact HC0.out); rintro e w' ⟨rfl, ⟨nd, rfl⟩⟩; refine ⟨_, rfl, ?_⟩) | ((with_reducible refine gate_callee (f := 39) rfl ?_); refine goesL_ (some 45) rfl rfl Try.func39 (by kernel_rfl) rfl #[.slice A0 l0.length c0, .int .u8 a2] rfl (by (try simp only [List.map_toArray, List.map_cons, List.map_nil]); first | done | rfl | (simp only [List.length_drop, List.length_take]; rfl)) ?_; (with_reducible refine (types_class.calls _ _ l0 a2 t163 _ ?side1 ?side2 A19.out).mono ?_); (case side1 => repeat (first | exact (Kd.C_below HR0.out (by repeat (first | (with_reducible first | exact HB.out | apply below_alloc | apply pw_below_drewN | apply below_drew1) | exact HB.out))) | (with_reducible refine Kd.C_alloc ?_ _) | (with_reducible refine Kd.C_drewN ?_ _) | (with_reducible refine Kd.C_drew ?_))); (case side2 => exact HC0.out); rintro e w' ⟨rfl, ⟨nd, rfl⟩⟩; refine ⟨_, rfl, ?_⟩))
                      go_ret
                      exact ⟨by first | rfl | (simp [errW_none, errW_some] <;> rfl) | (simp [*, errW_none, errW_some] <;> rfl), by repeat (first | (with_reducible first | exact HB.out | apply below_alloc | apply pw_below_drewN | apply below_drew1) | exact HB.out)⟩

end Go.Proofs.Ytghgloepameloaa.P

end

section
namespace Go.Proofs.Ytghgloepameloaa.P
open Go.RowKit Go.Proofs.YtghgloepameloaaW.PrintWords Go.Proofs.YtghgloepameloaaW.PrintLast Go.Proofs.YtghgloepameloaaW.PrintMore
attribute [local go_sem] max2_int min2_int max_two min_two max_three min_three max_four min_four   -- for this text's walks alone
set_option linter.unusedVariables false
set_option linter.unusedSimpArgs false

def provisolaw02_above.l0 : Nat → List (S38) → Int → Int → Option (Bool)
  | 0, _, _, _ => none
  | k + 1, x0, x1, x2 => if x1 ≥ 0 then (if x1 = x2 then (some (x1 == x2)) else (if 0 ≤ x1 then (if x1 < (x0.length : Int) then (provisolaw02_above.l0 k x0 ((rd_T38 x0 x1).f1) x2) else (none)) else (none))) else (some (x1 == x2))
def provisolaw02_above.f (k : Nat) (l0 : List (S38)) (a1 : Int) (a2 : Int) : Option (Bool) := provisolaw02_above.l0 k l0 a1 a2
set_option maxHeartbeats 8000000 in
set_option maxRecDepth 100000 in
theorem provisolaw02_above.calls (k : Nat) (A0 : Option Addr) (c0 : Nat) (l0 : List (S38)) (a1 : Int) (a2 : Int) (r : Bool) (w : World) (hr0 : Kd.C k38 w A0 l0.length l0) (hc0 : l0.length ≤ c0) (h : provisolaw02_above.f k l0 a1 a2 = some r) :
    Calls Try.prog 17 #[.slice A0 l0.length c0, .int .i64 a1, .int .i64 a2] w fun e w' => e = .returned (.bool r) ∧ Drawn0 w w' := by
  have HR0 := Aside0.mk hr0
  have HC0 := Aside0.mk hc0
  clear hr0 hc0
  have H : (provisolaw02_above.l0 k l0 a1 a2) = some r := h
  clear h
  have H' := Aside0.mk H
  clear H
  go_enter Try.func17, Try.ntmps17
  go_wp2
  go_loopg [1] k (fun kq v1 w' => ∃ (x1_1 : Int), v1 = .int .i64 x1_1 ∧ Aside0 (provisolaw02_above.l0 kq l0 x1_1 a2 = some r) ∧ Aside0 (kq ≤ k) ∧ Drawn0 w w')
  case atStart => exact ⟨(a1), (by first | rfl | (simp; done) | (simp [*]; done)), H', ⟨Nat.le_refl _⟩, by repeat (first | exact Drawn0.refl _ | apply Drawn0.step)⟩
  case round =>
    clear H'
    try clear c1
    try clear p2
    obtain ⟨x1_1, rfl, HA, HK1, ⟨m1, rfl⟩⟩ := hrel
    cases gk with
    | zero => exact absurd HA.out (by simp [provisolaw02_above.l0])
    | succ k1 =>
      have H := HA.out
      clear HA
      simp only [provisolaw02_above.l0] at H
      by_cases c4 : x1_1 ≥ 0
      · rw [if_pos c4] at H
        have c4b0 : decide (0 ≤ x1_1) = true := decide_eq_true c4
        clear c4
        by_cases c5 : x1_1 = a2
        · rw [if_pos c5] at H
          have c5b0 : (x1_1 == a2) = true := beq_iff_eq.mpr c5
          have c5b1 : (x1_1 != a2) = false := bne_eq_false_iff_eq.mpr c5
          clear c5
          obtain rfl := Option.some.inj H
          go_wp2
          go_ret
          exact ⟨by first | rfl | (simp; done) | (simp [*]; done), by repeat (first | exact Drawn0.refl _ | apply Drawn0.step)⟩
        · rw [if_neg c5] at H
          have c5b0 : (x1_1 == a2) = false := beq_eq_false_iff_ne.mpr c5
          have c5b1 : (x1_1 != a2) = true := bne_iff_ne.mpr c5
          by_cases c6 : 0 ≤ x1_1
          · rw [if_pos c6] at H
            have c6b0 : decide (0 ≤ x1_1) = true := decide_eq_true c6
            clear c6
            by_cases c7 : x1_1 < (l0.length : Int)
            · rw [if_pos c7] at H
              have c7b0 : decide (x1_1 < (l0.length : Int)) = true := decide_eq_true c7
              clear c7
              have H' := Aside0.mk H
              clear H
              have p177 : 0 ≤ (x1_1 : Int) := of_decide_eq_true (by first | (with_reducible assumption) | assumption)
              have q177 : x1_1 < (l0.length : Int) := of_decide_eq_true (by first | (with_reducible assumption) | assumption)
              obtain ⟨ad177, A177_2, c177_2, e177, hx177_0, hx177_1, hx177_2, hl177_2, hi177_2⟩ := at_T38 HR0.out x1_1 p177 q177
              cases e177
              have HR177_2 := Aside0.mk hi177_2
              have HC177_2 := Aside0.mk hl177_2
              clear hi177_2 hl177_2
              replace p177 := eq_true p177
              replace q177 := eq_true q177
              go_wp2
              go_roundg k1
              case measure => have := HK1.out; omega
              case rel => exact ⟨((rd_T38 l0 x1_1).f1), (by first | rfl | (simp; done) | (simp [*]; done)), H', ⟨by have := HK1.out; omega⟩, by repeat (first | exact Drawn0.refl _ | apply Drawn0.step)⟩
            · rw [if_neg c7] at H
              exact absurd H (by simp)
          · rw [if_neg c6] at H
            exact absurd H (by simp)
      · rw [if_neg c4] at H
        have c4b0 : decide (0 ≤ x1_1) = false := decide_eq_false c4
        clear c4
        obtain rfl := Option.some.inj H
        go_wp2
        go_ret
        exact ⟨by first | rfl | (simp; done) | (simp [*]; done), by repeat (first | exact Drawn0.refl _ | apply Drawn0.step)⟩

def types_Fields.f (l0 : List S38) (a1 : Int) : Option (List S40) := if (climbL l0 a1).length < 17592186044416 ∧ ((climbL l0 a1).reverse.flatMap fun c => (rd_T38 l0 c).f2).length < 5864062014805 then some ((climbL l0 a1).reverse.flatMap fun c => (rd_T38 l0 c).f2) else none
set_option maxHeartbeats 800000 in
set_option maxRecDepth 100000 in
theorem types_Fields_step (B : Nat) (base : Nat) (x : Int) (ys : List Int) (v : Value) (W : World) (hI : W.heap[B]? = some (.cells #[v] 57 (0, 0))) (hbase : base ≤ W.heap.size) (hv : Kd.R (Kd.int .i64) 3 W base (fun _ => True) v ys) (hl : ys.length < 17592186044416) :
    Calls Try.prog 43 #[.int .i64 x, .pointer (some ⟨B, 0, none⟩)] W fun e W' => e = .returned (.bool true) ∧ (∃ v1 : Value, W'.heap[B]? = some (.cells #[v1] 57 (0, 0)) ∧ Kd.R (Kd.int .i64) 3 W' base (fun _ => True) v1 (ys ++ [x])) ∧ (∀ u, Below base u W → base ≤ B → Below base u W') := by
  obtain ⟨Ao, co, rfl⟩ := Kd.R_slice hv
  have hc := blk_cell hI 0
  have HI := Aside0.mk hI
  have HV := Aside0.mk hv
  have HL := Aside0.mk hl
  have HBA := Aside0.mk hbase
  clear hI hv hl hbase
  go_enter Try.func43, Try.ntmps43
  go_wp2_with (first | ((with_reducible refine gate_builtin (b := .append) (xs := #[.tmp 4, .tmp 6]) rfl ?_); at_builtin; refine Kd.R_append (Kd.int .i64) (w0 := W) base rfl (.tmp 4) (.tmp 6) 57 3 (.int .i64 0) 8 rfl Try.underlying57 info3 rfl (by decide) (by omega) (.slice Ao ys.length co) ys x [.int .i64 x] (fun _ => True) (fun _ => False) rfl rfl ?aP (fun _ hk => hk.elim) ?aF ?aO ?aB ?aS ?aL ?_; (case aP => exact rfl); (case aB => exact Below.refl _ _); (case aF => exact (fun _ _ => trivial)); (case aO => exact HV.out); (case aS => exact HBA.out); (case aL => have := HL.out; omega); intro v1 w1 ho hb hg hat; obtain ⟨A2, c2, e2⟩ := Kd.R_slice ho; subst e2; rw [List.length_append, List.length_singleton] at ho; have hI1 := blk_grown HI.out hg (Kd.R_ne HV.out HI.out (by decide)); have hc1 := blk_cell hI1 0; have hf1 := blk_frozen hI1 0; have HI1 := Aside0.mk hI1; have HO := Aside0.mk ho; have HB := Aside0.mk hb; clear hI1 ho hb hg hat))
  go_ret
  refine ⟨rfl, ⟨_, blk_set HI1.out 0 _, Kd.R_set HO.out HI1.out (by decide) _ _⟩, fun u hu hB => ?_⟩
  exact (hu.trans HB.out).setCell hB _
structure FieldsInv (W0 : World) (r : List Int) (xs : List Int) (W : World) : Prop where
  now : ∃ (v : Value) (ys : List Int), W.heap[W0.heap.size]? = some (.cells #[v] 57 (0, 0)) ∧ Kd.R (Kd.int .i64) 3 W W0.heap.size (fun _ => True) v ys ∧ ys ++ xs = r
  below : Below W0.heap.size W0 W
structure FieldsFin (W0 : World) (r : List Int) (W : World) : Prop where
  now : ∃ v : Value, W.heap[W0.heap.size]? = some (.cells #[v] 57 (0, 0)) ∧ Kd.R (Kd.int .i64) 3 W W0.heap.size (fun _ => True) v r
  below : Below W0.heap.size W0 W
def laidFields (l : List S38) (line : List Int) (d : Nat) : List S40 := (line.drop d).reverse.flatMap fun c => (rd_T38 l c).f2
theorem laid_next (l : List S38) (line : List Int) (d : Nat) (h : d < line.length) : laidFields l line d = laidFields l line (d + 1) ++ (rd_T38 l (rd line d)).f2 := by
  unfold laidFields
  rw [List.drop_eq_getElem_cons h, List.reverse_cons, List.flatMap_append]
  simp [rd, List.getD_eq_getElem?_getD, h]
theorem laid_le (l : List S38) (line : List Int) (d : Nat) : (laidFields l line d).length ≤ (laidFields l line 0).length := by
  unfold laidFields
  have : line.drop 0 = line.take d ++ line.drop d := by simp
  rw [this, List.reverse_append, List.flatMap_append, List.length_append]
  omega
set_option maxHeartbeats 1600000 in
set_option maxRecDepth 100000 in
theorem types_Fields.calls (A0 : Option Addr) (c0 : Nat) (l0 : List S38) (a1 : Int) (r : List S40) (w : World) (hr0 : Kd.C k38 w A0 l0.length l0) (hc0 : l0.length ≤ c0) (h : types_Fields.f l0 a1 = some r) :
    Calls Try.prog 18 #[.slice A0 l0.length c0, .int .i64 a1] w fun e w' => ∃ v0_ : Value, e = .returned v0_ ∧ Kd.R k40 40 w' w.heap.size (fun _ => True) v0_ r ∧ Below w.heap.size w w' := by
  have hmf : ∀ (fn : Fn) (first cap : Array Value) (w : World), (Instr.makeFunc fn first cap).run Try.prog w = .ok (.func fn first cap) w := fun _ _ _ _ => rfl
  have HR := Aside0.mk hr0
  have HC := Aside0.mk hc0
  obtain ⟨line, hline⟩ : ∃ l, l = climbL l0 a1 := ⟨_, rfl⟩
  obtain ⟨hlim0, hlim, hr⟩ : line.length < 17592186044416 ∧ (laidFields l0 line 0).length < 5864062014805 ∧ r = laidFields l0 line 0 := by
    unfold types_Fields.f at h
    split at h
    · rename_i h9
      unfold laidFields
      rw [hline, List.drop_zero]
      exact ⟨h9.1, h9.2, (Option.some.inj h).symm⟩
    · cases h
  have hlen : l0.length ≤ 9223372036854775807 := hr0.2.1
  have hcl := climbL_length l0 a1
  have hmem := climbL_mem l0 a1
  rw [← hline] at hcl hmem
  subst hr
  have HLIM := Aside0.mk hlim
  have HMEM := Aside0.mk hmem
  have HLINE := Aside0.mk hline
  have hl0 : line.length ≤ 9223372036854775807 := by omega
  have HLEN := Aside0.mk hlim0
  clear hr0 hc0 h hlim hline hlen hcl hmem hlim0
  go_enter Try.func18, Try.ntmps18
  go_wp2_with fail
  refine (climb_any 43 _ A0 c0 l0 w HR.out (FieldsInv w line) (FieldsFin w line) (fun _ _ h => h.below) ?_ ?_ (callFunc_run Try.func43 (by kernel_rfl) (by kernel_rfl)) a1 _ ?_).mono ?_
  · rintro W ⟨⟨v, ys, h1, h2, h3⟩, h4⟩
    rw [List.append_nil] at h3
    subst h3
    exact ⟨⟨v, h1, h2⟩, h4⟩
  · rintro x xs W ⟨⟨v, ys, h1, h2, h3⟩, h4⟩
    have hyl : ys.length < line.length := by rw [← h3]; simp
    have := HLEN.out
    refine (types_Fields_step _ w.heap.size x ys v W h1 h4.size h2 (by omega)).mono ?_
    rintro e W' ⟨rfl, ⟨v1, h5, h6⟩, h7⟩
    left
    exact ⟨rfl, ⟨v1, ys ++ [x], h5, h6, by simpa using h3⟩, h7 _ h4 (Nat.le_refl _)⟩
  · exact ⟨⟨.slice none 0 0, [], blk_new _ _, Kd.R_nil _ _ _ _ _, HLINE.out.symm⟩, (Below.refl _ _).alloc (Nat.le_refl _) _⟩
  · rintro e w1 ⟨rfl, ⟨v, h1, h2⟩, h3⟩
    obtain ⟨Ao, co, rfl⟩ := Kd.R_slice h2
    have hc := blk_cell h1 0
    have HI := Aside0.mk h1
    have HV := Aside0.mk h2
    have HB := Aside0.mk h3
    clear h1 h2 h3
    go_wp2
    go_loopw [6, 7] (fun v6 v7 wr => ∃ y : Int, v7 = .int .i64 y ∧ -1 ≤ y ∧ y < line.length ∧ Aside0 (Kd.R k40 40 wr w.heap.size (fun _ => True) v6 (laidFields l0 line (y + 1).toNat)) ∧ Aside0 (wr.heap[w.heap.size]? = some (.cells #[.slice Ao line.length co] 57 (0, 0))) ∧ Aside0 (Kd.R (Kd.int .i64) 3 wr w.heap.size (fun _ => True) (.slice Ao line.length co) line) ∧ Aside0 (Below w.heap.size w wr)) (fun _ v7 _ => (intOf v7 + 1).toNat)
    case atStart =>
      refine ⟨_, rfl, by omega, by omega, ⟨?_⟩, HI, HV, HB⟩
      have e : ((line.length : Int) - 1 + 1).toNat = line.length := by omega
      have e2 : laidFields l0 line line.length = [] := by unfold laidFields; simp
      rw [e, e2]
      exact Kd.R_nil _ _ _ _ _
    case round =>
      obtain ⟨y, rfl, hy0, hy1, HO, HI, HV, HB⟩ := hrel
      obtain ⟨A6, c6, rfl⟩ := Kd.R_slice HO.out
      by_cases c1 : 0 ≤ y
      · have c1b : decide (0 ≤ y) = true := decide_eq_true c1
        have hc := blk_cell HI.out 0
        obtain ⟨ad, e0, hx0⟩ := Kd.at_int (Kd.R_reads' HV.out).2.2 y c1 hy1
        cases e0
        have hrange := HMEM.out (rd line y) (by
          have : y.toNat < line.length := by omega
          simp [rd, List.getD_eq_getElem?_getD, this])
        obtain ⟨hr1, hr2⟩ := hrange
        obtain ⟨ad2, A2, c2, e1, _, _, hx2, hl2, hi2⟩ := at_T38 HR.out (rd line y) hr1 hr2
        cases e1
        replace hx2 := (HB.out.cell (World.block_lt_of_cell? w _ hx2)).trans hx2
        have HR2 := Aside0.mk hi2
        have HC2 := Aside0.mk hl2
        have hnext := laid_next l0 line y.toNat (by omega)
        have ey : (y + 1).toNat = y.toNat + 1 := by omega
        have eyy : ((y.toNat : Nat) : Int) = y := by omega
        rw [← ey, eyy] at hnext
        have HNEXT := Aside0.mk hnext
        have HLE := Aside0.mk (Nat.lt_of_le_of_lt (laid_le l0 line y.toNat) HLIM.out)
        clear hi2 hl2 hnext ey eyy
        have p3 := eq_true hr1
        have p4 := eq_true hr2
        clear hr1 hr2
        go_wp2_with (first | ((with_reducible refine gate_builtin (b := .append) (xs := #[.tmp 19, .tmp 27]) rfl ?_); at_builtin; refine Kd.R_append_rows k40 (w0 := w) w.heap.size rfl (.tmp 19) (.tmp 27) 35 40 (.agg #[(.string ⟨#[]⟩), (.int .u8 0)]) 24 rfl Try.underlying35 info40 rfl (by decide) (by omega) (.slice A6 (laidFields l0 line (y + 1).toNat).length c6) (laidFields l0 line (y + 1).toNat) ((rd_T38 l0 (rd line y)).f2) _ _ _ (fun _ => True) (fun _ => False) rfl rfl ?aO ?aR (fun _ _ h => h) (fun _ h => h.elim) ?aF ?aB ?aS ?aL ?_; (case aR => exact Kd.C_below HR2.out HB.out); (case aB => exact HB.out); (case aF => exact (fun _ _ => trivial)); (case aO => exact HO.out); (case aS => exact HB.out.size); (case aL => have h9 := HLE.out; have h8 := congrArg List.length HNEXT.out; rw [List.length_append] at h8; omega); intro v1 w2 ho hb hg hat; rw [← HNEXT.out] at ho; have n0 := Aside0.mk ho; have n1 := Aside0.mk hb; have n2 := Aside0.mk (blk_grown HI.out hg (Kd.R_ne HO.out HI.out (by decide))); have n3 := Aside0.mk (Kd.R_over' HV.out (Kd.R_typed HO.out) (by decide) hg); clear HO HB HI HV ho hb hg hat))
        go_roundw
        case rel => exact ⟨y - 1, rfl, by omega, by omega, by rw [show (y - 1 + 1).toNat = y.toNat by omega]; exact n0, n2, n3, n1⟩
        case measure => simp [intOf]; omega
      · have c1b : decide (0 ≤ y) = false := decide_eq_false c1
        have ey : (y + 1).toNat = 0 := by omega
        have HO3 : Aside0 (Kd.R k40 40 wr w.heap.size (fun _ => True) (.slice A6 (laidFields l0 line (y + 1).toNat).length c6) (laidFields l0 line 0)) := ⟨by have h9 := HO.out; rw [ey] at h9 ⊢; exact h9⟩
        clear ey
        go_wp2
        go_ret
        exact ⟨_, rfl, HO3.out, HB.out⟩

def types_Find.l0 : Nat → ByteArray → List (S40) → Int → Int → Option (Int × Int × Bool)
  | 0, _, _, _, _ => none
  | k + 1, x2, x13, x14, x15 => if x15 < x14 then (if 0 ≤ x15 then (if x15 < (x13.length : Int) then (if ((rd_T40 x13 x15).f0).toList = x2.toList then (some (x15, (rd_T40 x13 x15).f1, true)) else (types_Find.l0 k x2 x13 x14 (wrap64 (x15 + 1)))) else (none)) else (none)) else (some (0, 0, false))
def types_Find.f (k : Nat) (l0 : List (S38)) (a1 : Int) (a2 : ByteArray) : Option (Int × Int × Bool) := (types_Fields.f l0 a1).bind fun t178 => (types_Find.l0 k a2 t178 (t178.length : Int) 0)
set_option maxHeartbeats 8000000 in
set_option maxRecDepth 100000 in
theorem types_Find.calls (k : Nat) (A0 : Option Addr) (c0 : Nat) (l0 : List (S38)) (a1 : Int) (a2 : ByteArray) (r1 : Int) (r2 : Int) (r3 : Bool) (w : World) (hr0 : Kd.C k38 w A0 l0.length l0) (hc0 : l0.length ≤ c0) (h : types_Find.f k l0 a1 a2 = some (r1, r2, r3)) :
    Calls Try.prog 19 #[.slice A0 l0.length c0, .int .i64 a1, .string a2] w fun e w' => e = .returned (.tuple #[.int .i64 r1, .int .u8 r2, .bool r3]) ∧ Below w.heap.size w w' := by
  have hu40 := Try.underlying40
  have HR0 := Aside0.mk hr0
  have HC0 := Aside0.mk hc0
  clear hr0 hc0
  have HB := Aside0.mk (Below.refl w.heap.size w)
  have H : ((types_Fields.f l0 a1).bind fun t178 => (types_Find.l0 k a2 t178 (t178.length : Int) 0)) = some (r1, r2, r3) := h
  clear h
  replace H := Option.bind_eq_some_iff.mp H
  obtain ⟨t178, A40, H⟩ := H
  replace H : (types_Find.l0 k a2 t178 (t178.length : Int) 0) = some (r1, r2, r3) := H
  have A4 := Aside0.mk A40
  clear A40
  have H' := Aside0.mk H
  clear H
  go_enter Try.func19, Try.ntmps19
  go_wp2_with (first | (go_at_call 18; (with_reducible refine (types_Fields.calls _ _ l0 a1 t178 _ ?side1 ?side2 A4.out).mono ?_); (case side1 => repeat (first | exact HR0.out | (with_reducible refine Kd.C_alloc ?_ _) | (with_reducible refine Kd.C_drewN ?_ _) | (with_reducible refine Kd.C_drew ?_))); (case side2 => exact HC0.out); rintro e w5 ⟨v179, rfl, ho0, hb⟩; have n0_ := Aside0.mk (Kd.R_lower ho0 (below_size (by repeat (first | (with_reducible first | exact HB.out | apply below_alloc | apply pw_below_drewN | apply below_drew1) | exact HB.out)))); have n1_ := Aside0.mk (below_step (by repeat (first | (with_reducible first | exact HB.out | apply below_alloc | apply pw_below_drewN | apply below_drew1) | exact HB.out)) hb); clear HB; have HO180 := n0_; have HB := n1_; clear n0_ n1_; (try clear hb); (try clear hb2); (try clear hk); (try clear hi); (try clear ho0); obtain ⟨Ao6, co6, eo6⟩ := Kd.R_slice HO180.out; subst eo6))
  repeat (go_quiet (first | (go_at_call 18; (with_reducible refine (types_Fields.calls _ _ l0 a1 t178 _ ?side1 ?side2 A4.out).mono ?_); (case side1 => repeat (first | exact HR0.out | (with_reducible refine Kd.C_alloc ?_ _) | (with_reducible refine Kd.C_drewN ?_ _) | (with_reducible refine Kd.C_drew ?_))); (case side2 => exact HC0.out); rintro e w5 ⟨v179, rfl, ho0, hb⟩; have n0_ := Aside0.mk (Kd.R_lower ho0 (below_size (by repeat (first | (with_reducible first | exact HB.out | apply below_alloc | apply pw_below_drewN | apply below_drew1) | exact HB.out)))); have n1_ := Aside0.mk (below_step (by repeat (first | (with_reducible first | exact HB.out | apply below_alloc | apply pw_below_drewN | apply below_drew1) | exact HB.out)) hb); clear HB; have HO180 := n0_; have HB := n1_; clear n0_ n1_; (try clear hb); (try clear hb2); (try clear hk); (try clear hi); (try clear ho0); obtain ⟨Ao6, co6, eo6⟩ := Kd.R_slice HO180.out; subst eo6)); try go_wp2_with (first | (go_at_call 18; (with_reducible refine (types_Fields.calls _ _ l0 a1 t178 _ ?side1 ?side2 A4.out).mono ?_); (case side1 => repeat (first | exact HR0.out | (with_reducible refine Kd.C_alloc ?_ _) | (with_reducible refine Kd.C_drewN ?_ _) | (with_reducible refine Kd.C_drew ?_))); (case side2 => exact HC0.out); rintro e w5 ⟨v179, rfl, ho0, hb⟩; have n0_ := Aside0.mk (Kd.R_lower ho0 (below_size (by repeat (first | (with_reducible first | exact HB.out | apply below_alloc | apply pw_below_drewN | apply below_drew1) | exact HB.out)))); have n1_ := Aside0.mk (below_step (by repeat (first | (with_reducible first | exact HB.out | apply below_alloc | apply pw_below_drewN | apply below_drew1) | exact HB.out)) hb); clear HB; have HO180 := n0_; have HB := n1_; clear n0_ n1_; (try clear hb); (try clear hb2); (try clear hk); (try clear hi); (try clear ho0); obtain ⟨Ao6, co6, eo6⟩ := Kd.R_slice HO180.out; subst eo6)))
  go_loopg [15] k (fun kq v15 w' => ∃ (x15_1 : Int), v15 = .int .i64 x15_1 ∧ Aside0 (types_Find.l0 kq a2 t178 (t178.length : Int) x15_1 = some (r1, r2, r3)) ∧ Aside0 (kq ≤ k) ∧ Aside0 (Kd.R k40 40 w' w.heap.size (fun _ => True) (.slice Ao6 t178.length co6) t178) ∧ Aside0 (Below w.heap.size w w'))
  case atStart => exact ⟨(0), (by first | rfl | (simp; done) | (simp [*]; done)), H', ⟨Nat.le_refl _⟩, ⟨by (with_reducible repeat (first | apply Kd.R_alloc | apply Kd.R_drewN | apply Kd.R_drew)); exact HO180.out⟩, ⟨by repeat (first | (with_reducible first | exact HB.out | apply below_alloc | apply pw_below_drewN | apply below_drew1) | exact HB.out)⟩⟩
  case round =>
    clear H'
    try clear c1
    try clear p2
    obtain ⟨x15_1, rfl, HA, HK1, HO_13, HB⟩ := hrel
    cases gk with
    | zero => exact absurd HA.out (by simp [types_Find.l0])
    | succ k1 =>
      have H := HA.out
      clear HA
      simp only [types_Find.l0] at H
      by_cases c7 : x15_1 < (t178.length : Int)
      · rw [if_pos c7] at H
        have c7b0 : decide (x15_1 < (t178.length : Int)) = true := decide_eq_true c7
        clear c7
        by_cases c8 : 0 ≤ x15_1
        · rw [if_pos c8] at H
          have c8b0 : decide (0 ≤ x15_1) = true := decide_eq_true c8
          clear c8
          by_cases c9 : x15_1 < (t178.length : Int)
          · rw [if_pos c9] at H
            have c9b0 : decide (x15_1 < (t178.length : Int)) = true := decide_eq_true c9
            clear c9
            by_cases c10 : ((rd_T40 t178 x15_1).f0).toList = a2.toList
            · rw [if_pos c10] at H
              have c10b0 : (((rd_T40 t178 x15_1).f0).toList == a2.toList) = true := beq_iff_eq.mpr c10
              have c10b1 : (((rd_T40 t178 x15_1).f0).toList != a2.toList) = false := bne_eq_false_iff_eq.mpr c10
              clear c10
              simp only [Option.some.injEq, Prod.mk.injEq] at H
              obtain ⟨rfl, rfl, rfl⟩ := H
              have p181 : 0 ≤ (x15_1 : Int) := of_decide_eq_true (by first | (with_reducible assumption) | assumption)
              have q181 : x15_1 < (t178.length : Int) := of_decide_eq_true (by first | (with_reducible assumption) | assumption)
              obtain ⟨ad181, e181, hx181_0, hx181_1⟩ := at_T40 (Kd.R_reads' HO_13.out).2.2 x15_1 p181 q181
              cases e181
              replace p181 := eq_true p181
              replace q181 := eq_true q181
              go_wp2_with (first | ((with_reducible refine gate_dst (N := 10) rfl ?_); refine box_event ?hg (N := 10) ?hd (cs := #[.string (⟨#[]⟩ : ByteArray), .int .u8 0]) (t := 40) ?hr ?_; (case hd => rfl); (case hg => rfl); (case hr => first | (go_simp; done) | (go_simp; rfl)); intro gb182 hg w11 hbox hb; have n0_ := Aside0.mk (Kd.R_below (Kd.R_elderB (by (with_reducible repeat (first | apply Kd.R_alloc | apply Kd.R_drewN | apply Kd.R_drew)); exact HO_13.out) gb182 (Nat.le_of_eq hg.symm)) hb); have n1_ := Aside0.mk (below_step (by repeat (first | (with_reducible first | exact HB.out | apply below_alloc | apply pw_below_drewN | apply below_drew1) | exact HB.out)) hb); have n2_ := Aside0.mk (hbox); have n3_ := Aside0.mk ((by rw [hg]; exact (below_size (by repeat (first | (with_reducible first | exact HB.out | apply below_alloc | apply pw_below_drewN | apply below_drew1) | exact HB.out))) : w.heap.size ≤ gb182)); have n4_ := Aside0.mk ((by rw [hg]; exact (below_size (by repeat (first | (with_reducible first | exact HB.out | apply below_alloc | apply pw_below_drewN | apply below_drew1) | exact HB.out))) : w.heap.size ≤ gb182)); clear HO_13; clear HB; have HO_13 := n0_; have HB := n1_; have BK182 := n2_; have GW182 := n3_; have GE182 := n4_; clear n0_ n1_ n2_ n3_ n4_; clear hb hbox hg; have hcz12_0 : w11.cell? ⟨gb182, 0, none⟩ = some (.string (⟨#[]⟩ : ByteArray)) := (blk_cell BK182.out 0).trans rfl; have hcz12_1 : w11.cell? ⟨gb182, 1, none⟩ = some (.int .u8 0) := (blk_cell BK182.out 1).trans rfl; have hfz12_0 := blk_frozen BK182.out 0; have hfz12_1 := blk_frozen BK182.out 1))
              repeat (go_quiet (first | ((with_reducible refine gate_dst (N := 10) rfl ?_); refine box_event ?hg (N := 10) ?hd (cs := #[.string (⟨#[]⟩ : ByteArray), .int .u8 0]) (t := 40) ?hr ?_; (case hd => rfl); (case hg => rfl); (case hr => first | (go_simp; done) | (go_simp; rfl)); intro gb182 hg w11 hbox hb; have n0_ := Aside0.mk (Kd.R_below (Kd.R_elderB (by (with_reducible repeat (first | apply Kd.R_alloc | apply Kd.R_drewN | apply Kd.R_drew)); exact HO_13.out) gb182 (Nat.le_of_eq hg.symm)) hb); have n1_ := Aside0.mk (below_step (by repeat (first | (with_reducible first | exact HB.out | apply below_alloc | apply pw_below_drewN | apply below_drew1) | exact HB.out)) hb); have n2_ := Aside0.mk (hbox); have n3_ := Aside0.mk ((by rw [hg]; exact (below_size (by repeat (first | (with_reducible first | exact HB.out | apply below_alloc | apply pw_below_drewN | apply below_drew1) | exact HB.out))) : w.heap.size ≤ gb182)); have n4_ := Aside0.mk ((by rw [hg]; exact (below_size (by repeat (first | (with_reducible first | exact HB.out | apply below_alloc | apply pw_below_drewN | apply below_drew1) | exact HB.out))) : w.heap.size ≤ gb182)); clear HO_13; clear HB; have HO_13 := n0_; have HB := n1_; have BK182 := n2_; have GW182 := n3_; have GE182 := n4_; clear n0_ n1_ n2_ n3_ n4_; clear hb hbox hg; have hcz12_0 : w11.cell? ⟨gb182, 0, none⟩ = some (.string (⟨#[]⟩ : ByteArray)) := (blk_cell BK182.out 0).trans rfl; have hcz12_1 : w11.cell? ⟨gb182, 1, none⟩ = some (.int .u8 0) := (blk_cell BK182.out 1).trans rfl; have hfz12_0 := blk_frozen BK182.out 0; have hfz12_1 := blk_frozen BK182.out 1)); try go_wp2_with (first | ((with_reducible refine gate_dst (N := 10) rfl ?_); refine box_event ?hg (N := 10) ?hd (cs := #[.string (⟨#[]⟩ : ByteArray), .int .u8 0]) (t := 40) ?hr ?_; (case hd => rfl); (case hg => rfl); (case hr => first | (go_simp; done) | (go_simp; rfl)); intro gb182 hg w11 hbox hb; have n0_ := Aside0.mk (Kd.R_below (Kd.R_elderB (by (with_reducible repeat (first | apply Kd.R_alloc | apply Kd.R_drewN | apply Kd.R_drew)); exact HO_13.out) gb182 (Nat.le_of_eq hg.symm)) hb); have n1_ := Aside0.mk (below_step (by repeat (first | (with_reducible first | exact HB.out | apply below_alloc | apply pw_below_drewN | apply below_drew1) | exact HB.out)) hb); have n2_ := Aside0.mk (hbox); have n3_ := Aside0.mk ((by rw [hg]; exact (below_size (by repeat (first | (with_reducible first | exact HB.out | apply below_alloc | apply pw_below_drewN | apply below_drew1) | exact HB.out))) : w.heap.size ≤ gb182)); have n4_ := Aside0.mk ((by rw [hg]; exact (below_size (by repeat (first | (with_reducible first | exact HB.out | apply below_alloc | apply pw_below_drewN | apply below_drew1) | exact HB.out))) : w.heap.size ≤ gb182)); clear HO_13; clear HB; have HO_13 := n0_; have HB := n1_; have BK182 := n2_; have GW182 := n3_; have GE182 := n4_; clear n0_ n1_ n2_ n3_ n4_; clear hb hbox hg; have hcz12_0 : w11.cell? ⟨gb182, 0, none⟩ = some (.string (⟨#[]⟩ : ByteArray)) := (blk_cell BK182.out 0).trans rfl; have hcz12_1 : w11.cell? ⟨gb182, 1, none⟩ = some (.int .u8 0) := (blk_cell BK182.out 1).trans rfl; have hfz12_0 := blk_frozen BK182.out 0; have hfz12_1 := blk_frozen BK182.out 1)))
              go_ret3
              exact ⟨by first | rfl | (simp [errW_none, errW_some] <;> rfl) | (simp [*, errW_none, errW_some] <;> rfl), by repeat (first | (with_reducible first | exact HB.out | apply below_alloc | apply pw_below_drewN | apply below_drew1 | refine below_set ?_ GE182.out) | exact HB.out)⟩
            · rw [if_neg c10] at H
              have c10b0 : (((rd_T40 t178 x15_1).f0).toList == a2.toList) = false := beq_eq_false_iff_ne.mpr c10
              have c10b1 : (((rd_T40 t178 x15_1).f0).toList != a2.toList) = true := bne_iff_ne.mpr c10
              have H' := Aside0.mk H
              clear H
              have p181 : 0 ≤ (x15_1 : Int) := of_decide_eq_true (by first | (with_reducible assumption) | assumption)
              have q181 : x15_1 < (t178.length : Int) := of_decide_eq_true (by first | (with_reducible assumption) | assumption)
              obtain ⟨ad181, e181, hx181_0, hx181_1⟩ := at_T40 (Kd.R_reads' HO_13.out).2.2 x15_1 p181 q181
              cases e181
              replace p181 := eq_true p181
              replace q181 := eq_true q181
              go_wp2_with (first | ((with_reducible refine gate_dst (N := 10) rfl ?_); refine box_event ?hg (N := 10) ?hd (cs := #[.string (⟨#[]⟩ : ByteArray), .int .u8 0]) (t := 40) ?hr ?_; (case hd => rfl); (case hg => rfl); (case hr => first | (go_simp; done) | (go_simp; rfl)); intro gb182 hg w13 hbox hb; have n0_ := Aside0.mk (Kd.R_below (Kd.R_elderB (by (with_reducible repeat (first | apply Kd.R_alloc | apply Kd.R_drewN | apply Kd.R_drew)); exact HO_13.out) gb182 (Nat.le_of_eq hg.symm)) hb); have n1_ := Aside0.mk (below_step (by repeat (first | (with_reducible first | exact HB.out | apply below_alloc | apply pw_below_drewN | apply below_drew1) | exact HB.out)) hb); have n2_ := Aside0.mk (hbox); have n3_ := Aside0.mk ((by rw [hg]; exact (below_size (by repeat (first | (with_reducible first | exact HB.out | apply below_alloc | apply pw_below_drewN | apply below_drew1) | exact HB.out))) : w.heap.size ≤ gb182)); have n4_ := Aside0.mk ((by rw [hg]; exact (below_size (by repeat (first | (with_reducible first | exact HB.out | apply below_alloc | apply pw_below_drewN | apply below_drew1) | exact HB.out))) : w.heap.size ≤ gb182)); clear HO_13; clear HB; have HO_13 := n0_; have HB := n1_; have BK182 := n2_; have GW182 := n3_; have GE182 := n4_; clear n0_ n1_ n2_ n3_ n4_; clear hb hbox hg; have hcz14_0 : w13.cell? ⟨gb182, 0, none⟩ = some (.string (⟨#[]⟩ : ByteArray)) := (blk_cell BK182.out 0).trans rfl; have hcz14_1 : w13.cell? ⟨gb182, 1, none⟩ = some (.int .u8 0) := (blk_cell BK182.out 1).trans rfl; have hfz14_0 := blk_frozen BK182.out 0; have hfz14_1 := blk_frozen BK182.out 1))
              repeat (go_quiet (first | ((with_reducible refine gate_dst (N := 10) rfl ?_); refine box_event ?hg (N := 10) ?hd (cs := #[.string (⟨#[]⟩ : ByteArray), .int .u8 0]) (t := 40) ?hr ?_; (case hd => rfl); (case hg => rfl); (case hr => first | (go_simp; done) | (go_simp; rfl)); intro gb182 hg w13 hbox hb; have n0_ := Aside0.mk (Kd.R_below (Kd.R_elderB (by (with_reducible repeat (first | apply Kd.R_alloc | apply Kd.R_drewN | apply Kd.R_drew)); exact HO_13.out) gb182 (Nat.le_of_eq hg.symm)) hb); have n1_ := Aside0.mk (below_step (by repeat (first | (with_reducible first | exact HB.out | apply below_alloc | apply pw_below_drewN | apply below_drew1) | exact HB.out)) hb); have n2_ := Aside0.mk (hbox); have n3_ := Aside0.mk ((by rw [hg]; exact (below_size (by repeat (first | (with_reducible first | exact HB.out | apply below_alloc | apply pw_below_drewN | apply below_drew1) | exact HB.out))) : w.heap.size ≤ gb182)); have n4_ := Aside0.mk ((by rw [hg]; exact (below_size (by repeat (first | (with_reducible first | exact HB.out | apply below_alloc | apply pw_below_drewN | apply below_drew1) | exact HB.out))) : w.heap.size ≤ gb182)); clear HO_13; clear HB; have HO_13 := n0_; have HB := n1_; have BK182 := n2_; have GW182 := n3_; have GE182 := n4_; clear n0_ n1_ n2_ n3_ n4_; clear hb hbox hg; have hcz14_0 : w13.cell? ⟨gb182, 0, none⟩ = some (.string (⟨#[]⟩ : ByteArray)) := (blk_cell BK182.out 0).trans rfl; have hcz14_1 : w13.cell? ⟨gb182, 1, none⟩ = some (.int .u8 0) := (blk_cell BK182.out 1).trans rfl; have hfz14_0 := blk_frozen BK182.out 0; have hfz14_1 := blk_frozen BK182.out 1)); try go_wp2_with (first | ((with_reducible refine gate_dst (N := 10) rfl ?_); refine box_event ?hg (N := 10) ?hd (cs := #[.string (⟨#[]⟩ : ByteArray), .int .u8 0]) (t := 40) ?hr ?_; (case hd => rfl); (case hg => rfl); (case hr => first | (go_simp; done) | (go_simp; rfl)); intro gb182 hg w13 hbox hb; have n0_ := Aside0.mk (Kd.R_below (Kd.R_elderB (by (with_reducible repeat (first | apply Kd.R_alloc | apply Kd.R_drewN | apply Kd.R_drew)); exact HO_13.out) gb182 (Nat.le_of_eq hg.symm)) hb); have n1_ := Aside0.mk (below_step (by repeat (first | (with_reducible first | exact HB.out | apply below_alloc | apply pw_below_drewN | apply below_drew1) | exact HB.out)) hb); have n2_ := Aside0.mk (hbox); have n3_ := Aside0.mk ((by rw [hg]; exact (below_size (by repeat (first | (with_reducible first | exact HB.out | apply below_alloc | apply pw_below_drewN | apply below_drew1) | exact HB.out))) : w.heap.size ≤ gb182)); have n4_ := Aside0.mk ((by rw [hg]; exact (below_size (by repeat (first | (with_reducible first | exact HB.out | apply below_alloc | apply pw_below_drewN | apply below_drew1) | exact HB.out))) : w.heap.size ≤ gb182)); clear HO_13; clear HB; have HO_13 := n0_; have HB := n1_; have BK182 := n2_; have GW182 := n3_; have GE182 := n4_; clear n0_ n1_ n2_ n3_ n4_; clear hb hbox hg; have hcz14_0 : w13.cell? ⟨gb182, 0, none⟩ = some (.string (⟨#[]⟩ : ByteArray)) := (blk_cell BK182.out 0).trans rfl; have hcz14_1 : w13.cell? ⟨gb182, 1, none⟩ = some (.int .u8 0) := (blk_cell BK182.out 1).trans rfl; have hfz14_0 := blk_frozen BK182.out 0; have hfz14_1 := blk_frozen BK182.out 1)))
              go_roundg k1
              case measure => have := HK1.out; omega
              case rel => exact ⟨(wrap64 (x15_1 + 1)), (by first | rfl | (simp; done) | (simp [*]; done)), H', ⟨by have := HK1.out; omega⟩, ⟨by (with_reducible repeat (first | apply Kd.R_alloc | apply Kd.R_drewN | apply Kd.R_drew)); exact Kd.R_mono (Kd.R_far (p := ⟨gb182, 1, none⟩) (Kd.R_far (p := ⟨gb182, 0, none⟩) (Kd.R_mono HO_13.out (fun k_ hk => (⟨hk, hk.2⟩ : _ ∧ k_ ≠ gb182))) (fun _ hk => hk.2) (.string ((rd_T40 t178 x15_1).f0))) (fun _ hk => hk.2) (.int .u8 ((rd_T40 t178 x15_1).f1))) (fun _ hk => trivial)⟩, ⟨by repeat (first | (with_reducible first | exact HB.out | apply below_alloc | apply pw_below_drewN | apply below_drew1 | refine below_set ?_ GE182.out) | exact HB.out)⟩⟩
          · rw [if_neg c9] at H
            exact absurd H (by simp)
        · rw [if_neg c8] at H
          exact absurd H (by simp)
      · rw [if_neg c7] at H
        have c7b0 : decide (x15_1 < (t178.length : Int)) = false := decide_eq_false c7
        clear c7
        simp only [Option.some.injEq, Prod.mk.injEq] at H
        obtain ⟨rfl, rfl, rfl⟩ := H
        go_wp2
        repeat (go_quiet (fail); try go_wp2)
        go_ret3
        exact ⟨by first | rfl | (simp [errW_none, errW_some] <;> rfl) | (simp [*, errW_none, errW_some] <;> rfl), by repeat (first | (with_reducible first | exact HB.out | apply below_alloc | apply pw_below_drewN | apply below_drew1) | exact HB.out)⟩

end Go.Proofs.Ytghgloepameloaa.P

end

section
namespace Go.Proofs.Ytghgloepameloaa.P
open Go.RowKit Go.Proofs.YtghgloepameloaaW.PrintWords Go.Proofs.YtghgloepameloaaW.PrintLast Go.Proofs.YtghgloepameloaaW.PrintMore
attribute [local go_sem] max2_int min2_int max_two min_two max_three min_three max_four min_four   -- for this text's walks alone
set_option linter.unusedVariables false
set_option linter.unusedSimpArgs false

attribute [local go_sem high] eqA40
mutual
def provisolaw02_TypesStays.j0 : Nat → List (S38) → Int → Int → Bool → Option (Bool)
  | 0, _, _, _, _ => none
  | k + 1, x0, x1, x2, x23 => if x23 = true then (some true) else (if (IntKind.u64.wrap ((x0.length : Int))) = 0 then (none) else ((provisolaw02_above.f k x0 (wrap64 (Int.tmod x2 (IntKind.u64.wrap ((x0.length : Int))))) (wrap64 (Int.tmod x1 (IntKind.u64.wrap ((x0.length : Int)))))).bind fun t184 => (if t184 = true then ((types_Fields.f x0 (wrap64 (Int.tmod x1 (IntKind.u64.wrap ((x0.length : Int)))))).bind fun t186 => ((types_Fields.f x0 (wrap64 (Int.tmod x2 (IntKind.u64.wrap ((x0.length : Int)))))).bind fun t189 => ((types_Sub.f k x0 ((16 + (wrap64 (Int.tmod x2 (IntKind.u64.wrap ((x0.length : Int)))))) % 256) ((16 + (wrap64 (Int.tmod x1 (IntKind.u64.wrap ((x0.length : Int)))))) % 256)).bind fun t192 => (if t192 = true then (if (t186.length : Int) > (t189.length : Int) then (provisolaw02_TypesStays.j1 k x0 (wrap64 (Int.tmod x2 (IntKind.u64.wrap ((x0.length : Int))))) t186 t189 true) else (if 0 ≤ (wrap64 (Int.tmod x2 (IntKind.u64.wrap ((x0.length : Int))))) then (if (wrap64 (Int.tmod x2 (IntKind.u64.wrap ((x0.length : Int))))) < (x0.length : Int) then (provisolaw02_TypesStays.j1 k x0 (wrap64 (Int.tmod x2 (IntKind.u64.wrap ((x0.length : Int))))) t186 t189 (decide ((t189.length : Int) < (((rd_T38 x0 (wrap64 (Int.tmod x2 (IntKind.u64.wrap ((x0.length : Int)))))).f2).length : Int)))) else (none)) else (none))) else (provisolaw02_TypesStays.j1 k x0 (wrap64 (Int.tmod x2 (IntKind.u64.wrap ((x0.length : Int))))) t186 t189 true))))) else ((types_Sub.f k x0 ((16 + (wrap64 (Int.tmod x2 (IntKind.u64.wrap ((x0.length : Int)))))) % 256) ((16 + (wrap64 (Int.tmod x1 (IntKind.u64.wrap ((x0.length : Int)))))) % 256)).bind fun t185 => (some (!t185))))))
def provisolaw02_TypesStays.j1 : Nat → List (S38) → Int → List (S40) → List (S40) → Bool → Option (Bool)
  | 0, _, _, _, _, _ => none
  | k + 1, x0, x8, x9, x10, x82 => if x82 = true then (some false) else (provisolaw02_TypesStays.l0 k x0 x8 x10 x9 (x9.length : Int) 0)
def provisolaw02_TypesStays.l0 : Nat → List (S38) → Int → List (S40) → List (S40) → Int → Int → Option (Bool)
  | 0, _, _, _, _, _, _ => none
  | k + 1, x0, x8, x10, x83, x84, x85 => if x85 < x84 then (if 0 ≤ x85 then (if x85 < (x83.length : Int) then ((types_Find.f k x0 x8 ((rd_T40 x83 x85).f0)).bind fun bt196 => (if x85 < (x10.length : Int) then (if (!((((rd_T40 x10 x85).f0).toList) == (((rd_T40 x83 x85).f0).toList)) || (!(((rd_T40 x10 x85).f1) == ((rd_T40 x83 x85).f1)))) = true then (some false) else (if bt196.1 = x85 then (if bt196.2.1 = ((rd_T40 x83 x85).f1) then (if bt196.2.2 = true then (provisolaw02_TypesStays.l0 k x0 x8 x10 x83 x84 (wrap64 (x85 + 1))) else (some false)) else (some false)) else (some false))) else (none))) else (none)) else (none)) else (some true)
end
def provisolaw02_TypesStays.f (k : Nat) (l0 : List (S38)) (a1 : Int) (a2 : Int) : Option (Bool) := (provisoref02_Made.f k l0).bind fun t183 => (if t183 = true then (provisolaw02_TypesStays.j0 k l0 a1 a2 ((l0.length : Int) == 0)) else (provisolaw02_TypesStays.j0 k l0 a1 a2 true))
set_option maxHeartbeats 8000000 in
set_option maxRecDepth 100000 in
theorem provisolaw02_TypesStays.calls (k : Nat) (A0 : Option Addr) (c0 : Nat) (l0 : List (S38)) (a1 : Int) (a2 : Int) (r : Bool) (w : World) (hr0 : Kd.C k38 w A0 l0.length l0) (hc0 : l0.length ≤ c0) (h : provisolaw02_TypesStays.f k l0 a1 a2 = some r) :
    Calls Try.prog 5 #[.slice A0 l0.length c0, .int .u64 a1, .int .u64 a2] w fun e w' => e = .returned (.bool r) ∧ Below w.heap.size w w' := by
  have hu40 := Try.underlying40
  have HR0 := Aside0.mk hr0
  have HC0 := Aside0.mk hc0
  clear hr0 hc0
  have HB := Aside0.mk (Below.refl w.heap.size w)
  have H : ((provisoref02_Made.f k l0).bind fun t183 => (if t183 = true then (provisolaw02_TypesStays.j0 k l0 a1 a2 ((l0.length : Int) == 0)) else (provisolaw02_TypesStays.j0 k l0 a1 a2 true))) = some r := h
  clear h
  have HC4 := Aside0.mk H
  clear H
  go_enter Try.func5, Try.ntmps5
  go_upto_region 1 with (fail)
  repeat (go_quiet (fail); go_upto_region 1 with (fail))
  go_cut [23] (fun v23 wc => ∃ (kq : Nat) (x23_3 : Bool), v23 = .bool x23_3 ∧ Aside0 (provisolaw02_TypesStays.j0 kq l0 a1 a2 x23_3 = some r) ∧ Aside0 (kq ≤ k) ∧ Aside0 (Below w.heap.size w wc))
  case first =>
    have H := HC4.out
    clear HC4
    replace H := Option.bind_eq_some_iff.mp H
    obtain ⟨t183, A50, H⟩ := H
    replace H : (if t183 = true then (provisolaw02_TypesStays.j0 k l0 a1 a2 ((l0.length : Int) == 0)) else (provisolaw02_TypesStays.j0 k l0 a1 a2 true)) = some r := H
    have A5 := Aside0.mk A50
    clear A50
    by_cases c6 : t183 = true
    · subst c6
      have H1 : (provisolaw02_TypesStays.j0 k l0 a1 a2 ((l0.length : Int) == 0)) = some r := by rw [if_pos rfl] at H; exact H
      clear H
      have H := H1
      clear H1
      have H' := Aside0.mk H
      clear H
      go_wp2_with (first | (go_at_call 11; (with_reducible refine (provisoref02_Made.calls k _ _ l0 true _ ?side1 ?side2 A5.out).mono ?_); (case side1 => repeat (first | exact (Kd.C_below HR0.out HB.out) | (with_reducible refine Kd.C_alloc ?_ _) | (with_reducible refine Kd.C_drewN ?_ _) | (with_reducible refine Kd.C_drew ?_))); (case side2 => exact HC0.out); rintro e w7 ⟨rfl, hb⟩; have n0_ := Aside0.mk (below_step (by repeat (first | (with_reducible first | exact HB.out | apply below_alloc | apply pw_below_drewN | apply below_drew1) | exact HB.out)) hb); clear HB; have HB := n0_; clear n0_; (try clear hb); (try clear hb2); (try clear hk); (try clear hi)))
      repeat (go_quiet (first | (go_at_call 11; (with_reducible refine (provisoref02_Made.calls k _ _ l0 true _ ?side1 ?side2 A5.out).mono ?_); (case side1 => repeat (first | exact (Kd.C_below HR0.out HB.out) | (with_reducible refine Kd.C_alloc ?_ _) | (with_reducible refine Kd.C_drewN ?_ _) | (with_reducible refine Kd.C_drew ?_))); (case side2 => exact HC0.out); rintro e w7 ⟨rfl, hb⟩; have n0_ := Aside0.mk (below_step (by repeat (first | (with_reducible first | exact HB.out | apply below_alloc | apply pw_below_drewN | apply below_drew1) | exact HB.out)) hb); clear HB; have HB := n0_; clear n0_; (try clear hb); (try clear hb2); (try clear hk); (try clear hi))); try go_wp2_with (first | (go_at_call 11; (with_reducible refine (provisoref02_Made.calls k _ _ l0 true _ ?side1 ?side2 A5.out).mono ?_); (case side1 => repeat (first | exact (Kd.C_below HR0.out HB.out) | (with_reducible refine Kd.C_alloc ?_ _) | (with_reducible refine Kd.C_drewN ?_ _) | (with_reducible refine Kd.C_drew ?_))); (case side2 => exact HC0.out); rintro e w7 ⟨rfl, hb⟩; have n0_ := Aside0.mk (below_step (by repeat (first | (with_reducible first | exact HB.out | apply below_alloc | apply pw_below_drewN | apply below_drew1) | exact HB.out)) hb); clear HB; have HB := n0_; clear n0_; (try clear hb); (try clear hb2); (try clear hk); (try clear hi))))
      go_meet
      case rel => exact ⟨_, (((l0.length : Int) == 0)), (by first | rfl | (simp; done) | (simp [*]; done)), H', ⟨by first | omega | exact Nat.le_refl _⟩, ⟨by repeat (first | (with_reducible first | exact HB.out | apply below_alloc | apply pw_below_drewN | apply below_drew1) | exact HB.out)⟩⟩
    · replace c6 := Bool.eq_false_iff.mpr c6
      subst c6
      have H1 : (provisolaw02_TypesStays.j0 k l0 a1 a2 true) = some r := by rw [if_neg (show ¬ (false = true) by decide)] at H; exact H
      clear H
      have H := H1
      clear H1
      have H' := Aside0.mk H
      clear H
      go_wp2_with (first | (go_at_call 11; (with_reducible refine (provisoref02_Made.calls k _ _ l0 false _ ?side1 ?side2 A5.out).mono ?_); (case side1 => repeat (first | exact (Kd.C_below HR0.out HB.out) | (with_reducible refine Kd.C_alloc ?_ _) | (with_reducible refine Kd.C_drewN ?_ _) | (with_reducible refine Kd.C_drew ?_))); (case side2 => exact HC0.out); rintro e w8 ⟨rfl, hb⟩; have n0_ := Aside0.mk (below_step (by repeat (first | (with_reducible first | exact HB.out | apply below_alloc | apply pw_below_drewN | apply below_drew1) | exact HB.out)) hb); clear HB; have HB := n0_; clear n0_; (try clear hb); (try clear hb2); (try clear hk); (try clear hi)))
      repeat (go_quiet (first | (go_at_call 11; (with_reducible refine (provisoref02_Made.calls k _ _ l0 false _ ?side1 ?side2 A5.out).mono ?_); (case side1 => repeat (first | exact (Kd.C_below HR0.out HB.out) | (with_reducible refine Kd.C_alloc ?_ _) | (with_reducible refine Kd.C_drewN ?_ _) | (with_reducible refine Kd.C_drew ?_))); (case side2 => exact HC0.out); rintro e w8 ⟨rfl, hb⟩; have n0_ := Aside0.mk (below_step (by repeat (first | (with_reducible first | exact HB.out | apply below_alloc | apply pw_below_drewN | apply below_drew1) | exact HB.out)) hb); clear HB; have HB := n0_; clear n0_; (try clear hb); (try clear hb2); (try clear hk); (try clear hi))); try go_wp2_with (first | (go_at_call 11; (with_reducible refine (provisoref02_Made.calls k _ _ l0 false _ ?side1 ?side2 A5.out).mono ?_); (case side1 => repeat (first | exact (Kd.C_below HR0.out HB.out) | (with_reducible refine Kd.C_alloc ?_ _) | (with_reducible refine Kd.C_drewN ?_ _) | (with_reducible refine Kd.C_drew ?_))); (case side2 => exact HC0.out); rintro e w8 ⟨rfl, hb⟩; have n0_ := Aside0.mk (below_step (by repeat (first | (with_reducible first | exact HB.out | apply below_alloc | apply pw_below_drewN | apply below_drew1) | exact HB.out)) hb); clear HB; have HB := n0_; clear n0_; (try clear hb); (try clear hb2); (try clear hk); (try clear hi))))
      go_meet
      case rel => exact ⟨_, (true), (by first | rfl | (simp; done) | (simp [*]; done)), H', ⟨by first | omega | exact Nat.le_refl _⟩, ⟨by repeat (first | (with_reducible first | exact HB.out | apply below_alloc | apply pw_below_drewN | apply below_drew1) | exact HB.out)⟩⟩
  case rest =>
    clear HC4
    try clear p2
    try clear c5
    try clear c6
    obtain ⟨kq, x23_3, rfl, HA, HJ3, HB⟩ := hcut
    cases kq with
    | zero => exact absurd HA.out (by simp [provisolaw02_TypesStays.j0])
    | succ kj3 =>
      have H := HA.out
      clear HA
      simp only [provisolaw02_TypesStays.j0] at H
      by_cases c9 : x23_3 = true
      · subst c9
        have H1 : (some true) = some r := by rw [if_pos rfl] at H; exact H
        clear H
        have H := H1
        clear H1
        obtain rfl := Option.some.inj H
        go_wp2
        repeat (go_quiet (fail); try go_wp2)
        go_ret
        exact ⟨by first | rfl | (simp [errW_none, errW_some] <;> rfl) | (simp [*, errW_none, errW_some] <;> rfl), by repeat (first | (with_reducible first | exact HB.out | apply below_alloc | apply pw_below_drewN | apply below_drew1) | exact HB.out)⟩
      · replace c9 := Bool.eq_false_iff.mpr c9
        subst c9
        have H1 : (if (IntKind.u64.wrap ((l0.length : Int))) = 0 then (none) else ((provisolaw02_above.f kj3 l0 (wrap64 (Int.tmod a2 (IntKind.u64.wrap ((l0.length : Int))))) (wrap64 (Int.tmod a1 (IntKind.u64.wrap ((l0.length : Int)))))).bind fun t184 => (if t184 = true then ((types_Fields.f l0 (wrap64 (Int.tmod a1 (IntKind.u64.wrap ((l0.length : Int)))))).bind fun t186 => ((types_Fields.f l0 (wrap64 (Int.tmod a2 (IntKind.u64.wrap ((l0.length : Int)))))).bind fun t189 => ((types_Sub.f kj3 l0 ((16 + (wrap64 (Int.tmod a2 (IntKind.u64.wrap ((l0.length : Int)))))) % 256) ((16 + (wrap64 (Int.tmod a1 (IntKind.u64.wrap ((l0.length : Int)))))) % 256)).bind fun t192 => (if t192 = true then (if (t186.length : Int) > (t189.length : Int) then (provisolaw02_TypesStays.j1 kj3 l0 (wrap64 (Int.tmod a2 (IntKind.u64.wrap ((l0.length : Int))))) t186 t189 true) else (if 0 ≤ (wrap64 (Int.tmod a2 (IntKind.u64.wrap ((l0.length : Int))))) then (if (wrap64 (Int.tmod a2 (IntKind.u64.wrap ((l0.length : Int))))) < (l0.length : Int) then (provisolaw02_TypesStays.j1 kj3 l0 (wrap64 (Int.tmod a2 (IntKind.u64.wrap ((l0.length : Int))))) t186 t189 (decide ((t189.length : Int) < (((rd_T38 l0 (wrap64 (Int.tmod a2 (IntKind.u64.wrap ((l0.length : Int)))))).f2).length : Int)))) else (none)) else (none))) else (provisolaw02_TypesStays.j1 kj3 l0 (wrap64 (Int.tmod a2 (IntKind.u64.wrap ((l0.length : Int))))) t186 t189 true))))) else ((types_Sub.f kj3 l0 ((16 + (wrap64 (Int.tmod a2 (IntKind.u64.wrap ((l0.length : Int)))))) % 256) ((16 + (wrap64 (Int.tmod a1 (IntKind.u64.wrap ((l0.length : Int)))))) % 256)).bind fun t185 => (some (!t185)))))) = some r := by rw [if_neg (show ¬ (false = true) by decide)] at H; exact H
        clear H
        have H := H1
        clear H1
        by_cases c10 : (IntKind.u64.wrap ((l0.length : Int))) = 0
        · rw [if_pos c10] at H
          exact absurd H (by simp)
        · rw [if_neg c10] at H
          have c10b0 : ((IntKind.u64.wrap ((l0.length : Int))) == 0) = false := beq_eq_false_iff_ne.mpr c10
          have c10b1 : ((IntKind.u64.wrap ((l0.length : Int))) != 0) = true := bne_iff_ne.mpr c10
          replace H := Option.bind_eq_some_iff.mp H
          obtain ⟨t184, A110, H⟩ := H
          replace H : (if t184 = true then ((types_Fields.f l0 (wrap64 (Int.tmod a1 (IntKind.u64.wrap ((l0.length : Int)))))).bind fun t186 => ((types_Fields.f l0 (wrap64 (Int.tmod a2 (IntKind.u64.wrap ((l0.length : Int)))))).bind fun t189 => ((types_Sub.f kj3 l0 ((16 + (wrap64 (Int.tmod a2 (IntKind.u64.wrap ((l0.length : Int)))))) % 256) ((16 + (wrap64 (Int.tmod a1 (IntKind.u64.wrap ((l0.length : Int)))))) % 256)).bind fun t192 => (if t192 = true then (if (t186.length : Int) > (t189.length : Int) then (provisolaw02_TypesStays.j1 kj3 l0 (wrap64 (Int.tmod a2 (IntKind.u64.wrap ((l0.length : Int))))) t186 t189 true) else (if 0 ≤ (wrap64 (Int.tmod a2 (IntKind.u64.wrap ((l0.length : Int))))) then (if (wrap64 (Int.tmod a2 (IntKind.u64.wrap ((l0.length : Int))))) < (l0.length : Int) then (provisolaw02_TypesStays.j1 kj3 l0 (wrap64 (Int.tmod a2 (IntKind.u64.wrap ((l0.length : Int))))) t186 t189 (decide ((t189.length : Int) < (((rd_T38 l0 (wrap64 (Int.tmod a2 (IntKind.u64.wrap ((l0.length : Int)))))).f2).length : Int)))) else (none)) else (none))) else (provisolaw02_TypesStays.j1 kj3 l0 (wrap64 (Int.tmod a2 (IntKind.u64.wrap ((l0.length : Int))))) t186 t189 true))))) else ((types_Sub.f kj3 l0 ((16 + (wrap64 (Int.tmod a2 (IntKind.u64.wrap ((l0.length : Int)))))) % 256) ((16 + (wrap64 (Int.tmod a1 (IntKind.u64.wrap ((l0.length : Int)))))) % 256)).bind fun t185 => (some (!t185)))) = some r := H
          have A11 := Aside0.mk A110
          clear A110
          by_cases c12 : t184 = true
          · subst c12
            have H1 : ((types_Fields.f l0 (wrap64 (Int.tmod a1 (IntKind.u64.wrap ((l0.length : Int)))))).bind fun t186 => ((types_Fields.f l0 (wrap64 (Int.tmod a2 (IntKind.u64.wrap ((l0.length : Int)))))).bind fun t189 => ((types_Sub.f kj3 l0 ((16 + (wrap64 (Int.tmod a2 (IntKind.u64.wrap ((l0.length : Int)))))) % 256) ((16 + (wrap64 (Int.tmod a1 (IntKind.u64.wrap ((l0.length : Int)))))) % 256)).bind fun t192 => (if t192 = true then (if (t186.length : Int) > (t189.length : Int) then (provisolaw02_TypesStays.j1 kj3 l0 (wrap64 (Int.tmod a2 (IntKind.u64.wrap ((l0.length : Int))))) t186 t189 true) else (if 0 ≤ (wrap64 (Int.tmod a2 (IntKind.u64.wrap ((l0.length : Int))))) then (if (wrap64 (Int.tmod a2 (IntKind.u64.wrap ((l0.length : Int))))) < (l0.length : Int) then (provisolaw02_TypesStays.j1 kj3 l0 (wrap64 (Int.tmod a2 (IntKind.u64.wrap ((l0.length : Int))))) t186 t189 (decide ((t189.length : Int) < (((rd_T38 l0 (wrap64 (Int.tmod a2 (IntKind.u64.wrap ((l0.length : Int)))))).f2).length : Int)))) else (none)) else (none))) else (provisolaw02_TypesStays.j1 kj3 l0 (wrap64 (Int.tmod a2 (IntKind.u64.wrap ((l0.length : Int))))) t186 t189 true))))) = some r := by rw [if_pos rfl] at H; exact H
            clear H
            have H := H1
            clear H1
            replace H := Option.bind_eq_some_iff.mp H
            obtain ⟨t186, A130, H⟩ := H
            replace H : ((types_Fields.f l0 (wrap64 (Int.tmod a2 (IntKind.u64.wrap ((l0.length : Int)))))).bind fun t189 => ((types_Sub.f kj3 l0 ((16 + (wrap64 (Int.tmod a2 (IntKind.u64.wrap ((l0.length : Int)))))) % 256) ((16 + (wrap64 (Int.tmod a1 (IntKind.u64.wrap ((l0.length : Int)))))) % 256)).bind fun t192 => (if t192 = true then (if (t186.length : Int) > (t189.length : Int) then (provisolaw02_TypesStays.j1 kj3 l0 (wrap64 (Int.tmod a2 (IntKind.u64.wrap ((l0.length : Int))))) t186 t189 true) else (if 0 ≤ (wrap64 (Int.tmod a2 (IntKind.u64.wrap ((l0.length : Int))))) then (if (wrap64 (Int.tmod a2 (IntKind.u64.wrap ((l0.length : Int))))) < (l0.length : Int) then (provisolaw02_TypesStays.j1 kj3 l0 (wrap64 (Int.tmod a2 (IntKind.u64.wrap ((l0.length : Int))))) t186 t189 (decide ((t189.length : Int) < (((rd_T38 l0 (wrap64 (Int.tmod a2 (IntKind.u64.wrap ((l0.length : Int)))))).f2).length : Int)))) else (none)) else (none))) else (provisolaw02_TypesStays.j1 kj3 l0 (wrap64 (Int.tmod a2 (IntKind.u64.wrap ((l0.length : Int))))) t186 t189 true)))) = some r := H
            have A13 := Aside0.mk A130
            clear A130
            replace H := Option.bind_eq_some_iff.mp H
            obtain ⟨t189, A140, H⟩ := H
            replace H : ((types_Sub.f kj3 l0 ((16 + (wrap64 (Int.tmod a2 (IntKind.u64.wrap ((l0.length : Int)))))) % 256) ((16 + (wrap64 (Int.tmod a1 (IntKind.u64.wrap ((l0.length : Int)))))) % 256)).bind fun t192 => (if t192 = true then (if (t186.length : Int) > (t189.length : Int) then (provisolaw02_TypesStays.j1 kj3 l0 (wrap64 (Int.tmod a2 (IntKind.u64.wrap ((l0.length : Int))))) t186 t189 true) else (if 0 ≤ (wrap64 (Int.tmod a2 (IntKind.u64.wrap ((l0.length : Int))))) then (if (wrap64 (Int.tmod a2 (IntKind.u64.wrap ((l0.length : Int))))) < (l0.length : Int) then (provisolaw02_TypesStays.j1 kj3 l0 (wrap64 (Int.tmod a2 (IntKind.u64.wrap ((l0.length : Int))))) t186 t189 (decide ((t189.length : Int) < (((rd_T38 l0 (wrap64 (Int.tmod a2 (IntKind.u64.wrap ((l0.length : Int)))))).f2).length : Int)))) else (none)) else (none))) else (provisolaw02_TypesStays.j1 kj3 l0 (wrap64 (Int.tmod a2 (IntKind.u64.wrap ((l0.length : Int))))) t186 t189 true))) = some r := H
            have A14 := Aside0.mk A140
            clear A140
            have HC15 := Aside0.mk H
            clear H
            go_upto_region 7 with (first | (go_at_call 17; (with_reducible refine (provisolaw02_above.calls kj3 _ _ l0 (wrap64 (Int.tmod a2 (IntKind.u64.wrap ((l0.length : Int))))) (wrap64 (Int.tmod a1 (IntKind.u64.wrap ((l0.length : Int))))) true _ ?side1 ?side2 A11.out).mono ?_); (case side1 => repeat (first | exact (Kd.C_below HR0.out HB.out) | (with_reducible refine Kd.C_alloc ?_ _) | (with_reducible refine Kd.C_drewN ?_ _) | (with_reducible refine Kd.C_drew ?_))); (case side2 => exact HC0.out); rintro e w' ⟨rfl, ⟨nd, rfl⟩⟩; (try first | exact ⟨rfl, _, World.drewN_drewN _ _ _⟩ | exact ⟨rfl, _, Eq.trans (World.drewN_drewN _ _ _) (congrArg (World.drewN _) (Nat.add_assoc _ _ _))⟩)) | (go_at_call 18; (with_reducible refine (types_Fields.calls _ _ l0 (wrap64 (Int.tmod a1 (IntKind.u64.wrap ((l0.length : Int))))) t186 _ ?side1 ?side2 A13.out).mono ?_); (case side1 => repeat (first | exact (Kd.C_below HR0.out (by repeat (first | (with_reducible first | exact HB.out | apply below_alloc | apply pw_below_drewN | apply below_drew1) | exact HB.out))) | (with_reducible refine Kd.C_alloc ?_ _) | (with_reducible refine Kd.C_drewN ?_ _) | (with_reducible refine Kd.C_drew ?_))); (case side2 => exact HC0.out); rintro e w16 ⟨v187, rfl, ho0, hb⟩; have n0_ := Aside0.mk (Kd.R_lower ho0 (below_size (by repeat (first | (with_reducible first | exact HB.out | apply below_alloc | apply pw_below_drewN | apply below_drew1) | exact HB.out)))); have n1_ := Aside0.mk (below_step (by repeat (first | (with_reducible first | exact HB.out | apply below_alloc | apply pw_below_drewN | apply below_drew1) | exact HB.out)) hb); clear HB; have HO188 := n0_; have HB := n1_; clear n0_ n1_; (try clear hb); (try clear hb2); (try clear hk); (try clear hi); (try clear ho0)) | (go_at_call 18; (with_reducible refine (types_Fields.calls _ _ l0 (wrap64 (Int.tmod a2 (IntKind.u64.wrap ((l0.length : Int))))) t189 _ ?side1 ?side2 A14.out).mono ?_); (case side1 => repeat (first | exact (Kd.C_below HR0.out HB.out) | (with_reducible refine Kd.C_alloc ?_ _) | (with_reducible refine Kd.C_drewN ?_ _) | (with_reducible refine Kd.C_drew ?_))); (case side2 => exact HC0.out); rintro e w17 ⟨v190, rfl, ho0, hb⟩; have n0_ := Aside0.mk (Kd.R_elder' (by (with_reducible repeat (first | apply Kd.R_alloc | apply Kd.R_drewN | apply Kd.R_drew)); exact HO188.out) (Kd.R_base ho0) hb); have n1_ := Aside0.mk (Kd.R_lower (Kd.R_new' ho0 (Kd.R_lt (by (with_reducible repeat (first | apply Kd.R_alloc | apply Kd.R_drewN | apply Kd.R_drew)); exact HO188.out))) (below_size (by repeat (first | (with_reducible first | exact HB.out | apply below_alloc | apply pw_below_drewN | apply below_drew1) | exact HB.out)))); have n2_ := Aside0.mk (below_step (by repeat (first | (with_reducible first | exact HB.out | apply below_alloc | apply pw_below_drewN | apply below_drew1) | exact HB.out)) hb); clear HO188; clear HB; have HO188 := n0_; have HO191 := n1_; have HB := n2_; clear n0_ n1_ n2_; (try clear hb); (try clear hb2); (try clear hk); (try clear hi); (try clear ho0)))
            repeat (go_quiet (first | (go_at_call 17; (with_reducible refine (provisolaw02_above.calls kj3 _ _ l0 (wrap64 (Int.tmod a2 (IntKind.u64.wrap ((l0.length : Int))))) (wrap64 (Int.tmod a1 (IntKind.u64.wrap ((l0.length : Int))))) true _ ?side1 ?side2 A11.out).mono ?_); (case side1 => repeat (first | exact (Kd.C_below HR0.out HB.out) | (with_reducible refine Kd.C_alloc ?_ _) | (with_reducible refine Kd.C_drewN ?_ _) | (with_reducible refine Kd.C_drew ?_))); (case side2 => exact HC0.out); rintro e w' ⟨rfl, ⟨nd, rfl⟩⟩; (try first | exact ⟨rfl, _, World.drewN_drewN _ _ _⟩ | exact ⟨rfl, _, Eq.trans (World.drewN_drewN _ _ _) (congrArg (World.drewN _) (Nat.add_assoc _ _ _))⟩)) | (go_at_call 18; (with_reducible refine (types_Fields.calls _ _ l0 (wrap64 (Int.tmod a1 (IntKind.u64.wrap ((l0.length : Int))))) t186 _ ?side1 ?side2 A13.out).mono ?_); (case side1 => repeat (first | exact (Kd.C_below HR0.out (by repeat (first | (with_reducible first | exact HB.out | apply below_alloc | apply pw_below_drewN | apply below_drew1) | exact HB.out))) | (with_reducible refine Kd.C_alloc ?_ _) | (with_reducible refine Kd.C_drewN ?_ _) | (with_reducible refine Kd.C_drew ?_))); (case side2 => exact HC0.out); rintro e w16 ⟨v187, rfl, ho0, hb⟩; have n0_ := Aside0.mk (Kd.R_lower ho0 (below_size (by repeat (first | (with_reducible first | exact HB.out | apply below_alloc | apply pw_below_drewN | apply below_drew1) | exact HB.out)))); have n1_ := Aside0.mk (below_step (by repeat (first | (with_reducible first | exact HB.out | apply below_alloc | apply pw_below_drewN | apply below_drew1) | exact HB.out)) hb); clear HB; have HO188 := n0_; have HB := n1_; clear n0_ n1_; (try clear hb); (try clear hb2); (try clear hk); (try clear hi); (try clear ho0)) | (go_at_call 18; (with_reducible refine (types_Fields.calls _ _ l0 (wrap64 (Int.tmod a2 (IntKind.u64.wrap ((l0.length : Int))))) t189 _ ?side1 ?side2 A14.out).mono ?_); (case side1 => repeat (first | exact (Kd.C_below HR0.out HB.out) | (with_reducible refine Kd.C_alloc ?_ _) | (with_reducible refine Kd.C_drewN ?_ _) | (with_reducible refine Kd.C_drew ?_))); (case side2 => exact HC0.out); rintro e w17 ⟨v190, rfl, ho0, hb⟩; have n0_ := Aside0.mk (Kd.R_elder' (by (with_reducible repeat (first | apply Kd.R_alloc | apply Kd.R_drewN | apply Kd.R_drew)); exact HO188.out) (Kd.R_base ho0) hb); have n1_ := Aside0.mk (Kd.R_lower (Kd.R_new' ho0 (Kd.R_lt (by (with_reducible repeat (first | apply Kd.R_alloc | apply Kd.R_drewN | apply Kd.R_drew)); exact HO188.out))) (below_size (by repeat (first | (with_reducible first | exact HB.out | apply below_alloc | apply pw_below_drewN | apply below_drew1) | exact HB.out)))); have n2_ := Aside0.mk (below_step (by repeat (first | (with_reducible first | exact HB.out | apply below_alloc | apply pw_below_drewN | apply below_drew1) | exact HB.out)) hb); clear HO188; clear HB; have HO188 := n0_; have HO191 := n1_; have HB := n2_; clear n0_ n1_ n2_; (try clear hb); (try clear hb2); (try clear hk); (try clear hi); (try clear ho0))); go_upto_region 7 with (first | (go_at_call 17; (with_reducible refine (provisolaw02_above.calls kj3 _ _ l0 (wrap64 (Int.tmod a2 (IntKind.u64.wrap ((l0.length : Int))))) (wrap64 (Int.tmod a1 (IntKind.u64.wrap ((l0.length : Int))))) true _ ?side1 ?side2 A11.out).mono ?_); (case side1 => repeat (first | exact (Kd.C_below HR0.out HB.out) | (with_reducible refine Kd.C_alloc ?_ _) | (with_reducible refine Kd.C_drewN ?_ _) | (with_reducible refine Kd.C_drew ?_))); (case side2 => exact HC0.out); rintro e w' ⟨rfl, ⟨nd, rfl⟩⟩; (try first | exact ⟨rfl, _, World.drewN_drewN _ _ _⟩ | exact ⟨rfl, _, Eq.trans (World.drewN_drewN _ _ _) (congrArg (World.drewN _) (Nat.add_assoc _ _ _))⟩)) | (go_at_call 18; (with_reducible refine (types_Fields.calls _ _ l0 (wrap64 (Int.tmod a1 (IntKind.u64.wrap ((l0.length : Int))))) t186 _ ?side1 ?side2 A13.out).mono ?_); (case side1 => repeat (first | exact (Kd.C_below HR0.out (by repeat (first | (with_reducible first | exact HB.out | apply below_alloc | apply pw_below_drewN | apply below_drew1) | exact HB.out))) | (with_reducible refine Kd.C_alloc ?_ _) | (with_reducible refine Kd.C_drewN ?_ _) | (with_reducible refine Kd.C_drew ?_))); (case side2 => exact HC0.out); rintro e w16 ⟨v187, rfl, ho0, hb⟩; have n0_ := Aside0.mk (Kd.R_lower ho0 (below_size (by repeat (first | (with_reducible first | exact HB.out | apply below_alloc | apply pw_below_drewN | apply below_drew1) | exact HB.out)))); have n1_ := Aside0.mk (below_step (by repeat (first | (with_reducible first | exact HB.out | apply below_alloc | apply pw_below_drewN | apply below_drew1) | exact HB.out)) hb); clear HB; have HO188 := n0_; have HB := n1_; clear n0_ n1_; (try clear hb); (try clear hb2); (try clear hk); (try clear hi); (try clear ho0)) | (go_at_call 18; (with_reducible refine (types_Fields.calls _ _ l0 (wrap64 (Int.tmod a2 (IntKind.u64.wrap ((l0.length : Int))))) t189 _ ?side1 ?side2 A14.out).mono ?_); (case side1 => repeat (first | exact (Kd.C_below HR0.out HB.out) | (with_reducible refine Kd.C_alloc ?_ _) | (with_reducible refine Kd.C_drewN ?_ _) | (with_reducible refine Kd.C_drew ?_))); (case side2 => exact HC0.out); rintro e w17 ⟨v190, rfl, ho0, hb⟩; have n0_ := Aside0.mk (Kd.R_elder' (by (with_reducible repeat (first | apply Kd.R_alloc | apply Kd.R_drewN | apply Kd.R_drew)); exact HO188.out) (Kd.R_base ho0) hb); have n1_ := Aside0.mk (Kd.R_lower (Kd.R_new' ho0 (Kd.R_lt (by (with_reducible repeat (first | apply Kd.R_alloc | apply Kd.R_drewN | apply Kd.R_drew)); exact HO188.out))) (below_size (by repeat (first | (with_reducible first | exact HB.out | apply below_alloc | apply pw_below_drewN | apply below_drew1) | exact HB.out)))); have n2_ := Aside0.mk (below_step (by repeat (first | (with_reducible first | exact HB.out | apply below_alloc | apply pw_below_drewN | apply below_drew1) | exact HB.out)) hb); clear HO188; clear HB; have HO188 := n0_; have HO191 := n1_; have HB := n2_; clear n0_ n1_ n2_; (try clear hb); (try clear hb2); (try clear hk); (try clear hi); (try clear ho0))))
            (try simp only [Act.put, List.setIfInBounds_toArray, List.set_cons_zero, List.set_cons_succ])
            go_cut [82] (fun v82 wc => ∃ (kq : Nat) (x82_14 : Bool), v82 = .bool x82_14 ∧ Aside0 (provisolaw02_TypesStays.j1 kq l0 (wrap64 (Int.tmod a2 (IntKind.u64.wrap ((l0.length : Int))))) t186 t189 x82_14 = some r) ∧ Aside0 (kq ≤ kj3) ∧ Aside0 (Kd.R k40 40 wc w.heap.size (fun k_ => some k_ ≠ (v190 : Value).ownBlock) v187 t186) ∧ Aside0 (Kd.R k40 40 wc w.heap.size (fun k_ => some k_ ≠ (v187 : Value).ownBlock) v190 t189) ∧ Aside0 (Below w.heap.size w wc))
            case first =>
              have H := HC15.out
              clear HC15
              replace H := Option.bind_eq_some_iff.mp H
              obtain ⟨t192, A180, H⟩ := H
              replace H : (if t192 = true then (if (t186.length : Int) > (t189.length : Int) then (provisolaw02_TypesStays.j1 kj3 l0 (wrap64 (Int.tmod a2 (IntKind.u64.wrap ((l0.length : Int))))) t186 t189 true) else (if 0 ≤ (wrap64 (Int.tmod a2 (IntKind.u64.wrap ((l0.length : Int))))) then (if (wrap64 (Int.tmod a2 (IntKind.u64.wrap ((l0.length : Int))))) < (l0.length : Int) then (provisolaw02_TypesStays.j1 kj3 l0 (wrap64 (Int.tmod a2 (IntKind.u64.wrap ((l0.length : Int))))) t186 t189 (decide ((t189.length : Int) < (((rd_T38 l0 (wrap64 (Int.tmod a2 (IntKind.u64.wrap ((l0.length : Int)))))).f2).length : Int)))) else (none)) else (none))) else (provisolaw02_TypesStays.j1 kj3 l0 (wrap64 (Int.tmod a2 (IntKind.u64.wrap ((l0.length : Int))))) t186 t189 true)) = some r := H
              have A18 := Aside0.mk A180
              clear A180
              by_cases c19 : t192 = true
              · subst c19
                have H1 : (if (t186.length : Int) > (t189.length : Int) then (provisolaw02_TypesStays.j1 kj3 l0 (wrap64 (Int.tmod a2 (IntKind.u64.wrap ((l0.length : Int))))) t186 t189 true) else (if 0 ≤ (wrap64 (Int.tmod a2 (IntKind.u64.wrap ((l0.length : Int))))) then (if (wrap64 (Int.tmod a2 (IntKind.u64.wrap ((l0.length : Int))))) < (l0.length : Int) then (provisolaw02_TypesStays.j1 kj3 l0 (wrap64 (Int.tmod a2 (IntKind.u64.wrap ((l0.length : Int))))) t186 t189 (decide ((t189.length : Int) < (((rd_T38 l0 (wrap64 (Int.tmod a2 (IntKind.u64.wrap ((l0.length : Int)))))).f2).length : Int)))) else (none)) else (none))) = some r := by rw [if_pos rfl] at H; exact H
                clear H
                have H := H1
                clear H1
                by_cases c20 : (t186.length : Int) > (t189.length : Int)
                · rw [if_pos c20] at H
                  have c20b0 : decide ((t189.length : Int) < (t186.length : Int)) = true := decide_eq_true c20
                  have c20b1 : decide (t189.length < t186.length) = true := decide_eq_true (Int.ofNat_lt.mp c20)
                  clear c20
                  (first | rw [c20b0] | (simp only [i64_w, i32_w]; rw [c20b0]) | skip)
                  have H' := Aside0.mk H
                  clear H
                  go_wp2_with (first | (go_at_call 16; (with_reducible refine (types_Sub.calls kj3 _ _ l0 ((16 + (wrap64 (Int.tmod a2 (IntKind.u64.wrap ((l0.length : Int)))))) % 256) ((16 + (wrap64 (Int.tmod a1 (IntKind.u64.wrap ((l0.length : Int)))))) % 256) true _ ?side1 ?side2 A18.out).mono ?_); (case side1 => repeat (first | exact (Kd.C_below HR0.out HB.out) | (with_reducible refine Kd.C_alloc ?_ _) | (with_reducible refine Kd.C_drewN ?_ _) | (with_reducible refine Kd.C_drew ?_))); (case side2 => exact HC0.out); rintro e w21 ⟨rfl, hb⟩; have n0_ := Aside0.mk (Kd.R_below (by (with_reducible repeat (first | apply Kd.R_alloc | apply Kd.R_drewN | apply Kd.R_drew)); exact HO188.out) hb); have n1_ := Aside0.mk (Kd.R_below (by (with_reducible repeat (first | apply Kd.R_alloc | apply Kd.R_drewN | apply Kd.R_drew)); exact HO191.out) hb); have n2_ := Aside0.mk (below_step (by repeat (first | (with_reducible first | exact HB.out | apply below_alloc | apply pw_below_drewN | apply below_drew1) | exact HB.out)) hb); clear HO188; clear HO191; clear HB; have HO188 := n0_; have HO191 := n1_; have HB := n2_; clear n0_ n1_ n2_; (try clear hb); (try clear hb2); (try clear hk); (try clear hi); obtain ⟨Ao22, co22, eo22⟩ := Kd.R_slice HO188.out; subst eo22; obtain ⟨Ao23, co23, eo23⟩ := Kd.R_slice HO191.out; subst eo23))
                  repeat (go_quiet (first | (go_at_call 16; (with_reducible refine (types_Sub.calls kj3 _ _ l0 ((16 + (wrap64 (Int.tmod a2 (IntKind.u64.wrap ((l0.length : Int)))))) % 256) ((16 + (wrap64 (Int.tmod a1 (IntKind.u64.wrap ((l0.length : Int)))))) % 256) true _ ?side1 ?side2 A18.out).mono ?_); (case side1 => repeat (first | exact (Kd.C_below HR0.out HB.out) | (with_reducible refine Kd.C_alloc ?_ _) | (with_reducible refine Kd.C_drewN ?_ _) | (with_reducible refine Kd.C_drew ?_))); (case side2 => exact HC0.out); rintro e w21 ⟨rfl, hb⟩; have n0_ := Aside0.mk (Kd.R_below (by (with_reducible repeat (first | apply Kd.R_alloc | apply Kd.R_drewN | apply Kd.R_drew)); exact HO188.out) hb); have n1_ := Aside0.mk (Kd.R_below (by (with_reducible repeat (first | apply Kd.R_alloc | apply Kd.R_drewN | apply Kd.R_drew)); exact HO191.out) hb); have n2_ := Aside0.mk (below_step (by repeat (first | (with_reducible first | exact HB.out | apply below_alloc | apply pw_below_drewN | apply below_drew1) | exact HB.out)) hb); clear HO188; clear HO191; clear HB; have HO188 := n0_; have HO191 := n1_; have HB := n2_; clear n0_ n1_ n2_; (try clear hb); (try clear hb2); (try clear hk); (try clear hi); obtain ⟨Ao22, co22, eo22⟩ := Kd.R_slice HO188.out; subst eo22; obtain ⟨Ao23, co23, eo23⟩ := Kd.R_slice HO191.out; subst eo23)); try go_wp2_with (first | (go_at_call 16; (with_reducible refine (types_Sub.calls kj3 _ _ l0 ((16 + (wrap64 (Int.tmod a2 (IntKind.u64.wrap ((l0.length : Int)))))) % 256) ((16 + (wrap64 (Int.tmod a1 (IntKind.u64.wrap ((l0.length : Int)))))) % 256) true _ ?side1 ?side2 A18.out).mono ?_); (case side1 => repeat (first | exact (Kd.C_below HR0.out HB.out) | (with_reducible refine Kd.C_alloc ?_ _) | (with_reducible refine Kd.C_drewN ?_ _) | (with_reducible refine Kd.C_drew ?_))); (case side2 => exact HC0.out); rintro e w21 ⟨rfl, hb⟩; have n0_ := Aside0.mk (Kd.R_below (by (with_reducible repeat (first | apply Kd.R_alloc | apply Kd.R_drewN | apply Kd.R_drew)); exact HO188.out) hb); have n1_ := Aside0.mk (Kd.R_below (by (with_reducible repeat (first | apply Kd.R_alloc | apply Kd.R_drewN | apply Kd.R_drew)); exact HO191.out) hb); have n2_ := Aside0.mk (below_step (by repeat (first | (with_reducible first | exact HB.out | apply below_alloc | apply pw_below_drewN | apply below_drew1) | exact HB.out)) hb); clear HO188; clear HO191; clear HB; have HO188 := n0_; have HO191 := n1_; have HB := n2_; clear n0_ n1_ n2_; (try clear hb); (try clear hb2); (try clear hk); (try clear hi); obtain ⟨Ao22, co22, eo22⟩ := Kd.R_slice HO188.out; subst eo22; obtain ⟨Ao23, co23, eo23⟩ := Kd.R_slice HO191.out; subst eo23)))
                  go_meet
                  case rel => exact ⟨_, (true), (by first | rfl | (simp; done) | (simp [*]; done)), H', ⟨by have := HJ3.out; first | omega | exact Nat.le_refl _⟩, ⟨by (with_reducible repeat (first | apply Kd.R_alloc | apply Kd.R_drewN | apply Kd.R_drew)); exact Kd.R_mono HO188.out (fun _ hk => hk.2)⟩, ⟨by (with_reducible repeat (first | apply Kd.R_alloc | apply Kd.R_drewN | apply Kd.R_drew)); exact Kd.R_mono HO191.out (fun _ hk => hk.2)⟩, ⟨by repeat (first | (with_reducible first | exact HB.out | apply below_alloc | apply pw_below_drewN | apply below_drew1) | exact HB.out)⟩⟩
                · rw [if_neg c20] at H
                  have c20b0 : decide ((t189.length : Int) < (t186.length : Int)) = false := decide_eq_false c20
                  have c20b1 : decide (t189.length < t186.length) = false := decide_eq_false (fun h => c20 (Int.ofNat_lt.mpr h))
                  clear c20
                  (first | rw [c20b0] | (simp only [i64_w, i32_w]; rw [c20b0]) | skip)
                  obtain ⟨ji24, hji24⟩ : ∃ j_ : Int, (wrap64 (Int.tmod a2 (IntKind.u64.wrap ((l0.length : Int))))) = j_ := ⟨_, rfl⟩
                  replace H : (if 0 ≤ (ji24) then (if (ji24) < (l0.length : Int) then (provisolaw02_TypesStays.j1 kj3 l0 ji24 t186 t189 (decide ((t189.length : Int) < (((rd_T38 l0 (ji24)).f2).length : Int)))) else (none)) else (none)) = some r := by first | (rw [hji24] at H; exact H) | (simp only [hji24] at H ⊢; exact H)
                  (try rw [hji24] at A18)
                  have hji24w : (IntKind.i64.wrap (Int.tmod a2 (IntKind.u64.wrap ((l0.length : Int))))) = ji24 := (i64_w _).trans hji24
                  by_cases c25 : 0 ≤ (ji24)
                  · rw [if_pos c25] at H
                    have c25b0 : decide (0 ≤ (ji24)) = true := decide_eq_true c25
                    clear c25
                    by_cases c26 : (ji24) < (l0.length : Int)
                    · rw [if_pos c26] at H
                      have c26b0 : decide ((ji24) < (l0.length : Int)) = true := decide_eq_true c26
                      clear c26
                      have H' := Aside0.mk H
                      clear H
                      go_wp2_with (first | (go_at_call 16; (with_reducible refine (types_Sub.calls kj3 _ _ l0 ((16 + (ji24)) % 256) ((16 + (wrap64 (Int.tmod a1 (IntKind.u64.wrap ((l0.length : Int)))))) % 256) true _ ?side1 ?side2 A18.out).mono ?_); (case side1 => repeat (first | exact (Kd.C_below HR0.out HB.out) | (with_reducible refine Kd.C_alloc ?_ _) | (with_reducible refine Kd.C_drewN ?_ _) | (with_reducible refine Kd.C_drew ?_))); (case side2 => exact HC0.out); rintro e w27 ⟨rfl, hb⟩; have n0_ := Aside0.mk (Kd.R_below (by (with_reducible repeat (first | apply Kd.R_alloc | apply Kd.R_drewN | apply Kd.R_drew)); exact HO188.out) hb); have n1_ := Aside0.mk (Kd.R_below (by (with_reducible repeat (first | apply Kd.R_alloc | apply Kd.R_drewN | apply Kd.R_drew)); exact HO191.out) hb); have n2_ := Aside0.mk (below_step (by repeat (first | (with_reducible first | exact HB.out | apply below_alloc | apply pw_below_drewN | apply below_drew1) | exact HB.out)) hb); clear HO188; clear HO191; clear HB; have HO188 := n0_; have HO191 := n1_; have HB := n2_; clear n0_ n1_ n2_; (try clear hb); (try clear hb2); (try clear hk); (try clear hi); obtain ⟨Ao28, co28, eo28⟩ := Kd.R_slice HO188.out; subst eo28; obtain ⟨Ao29, co29, eo29⟩ := Kd.R_slice HO191.out; subst eo29; have p193 : 0 ≤ ((ji24) : Int) := of_decide_eq_true (by first | (with_reducible assumption) | assumption); have q193 : (ji24) < (l0.length : Int) := of_decide_eq_true (by first | (with_reducible assumption) | assumption); obtain ⟨ad193, A193_2, c193_2, e193, hx193_0, hx193_1, hx193_2, hl193_2, hi193_2⟩ := at_T38 HR0.out (ji24) p193 q193; cases e193; replace hx193_0 := (HB.out.cell (World.block_lt_of_cell? w _ hx193_0)).trans hx193_0; replace hx193_1 := (HB.out.cell (World.block_lt_of_cell? w _ hx193_1)).trans hx193_1; replace hx193_2 := (HB.out.cell (World.block_lt_of_cell? w _ hx193_2)).trans hx193_2; have HR193_2 := Aside0.mk hi193_2; have HC193_2 := Aside0.mk hl193_2; clear hi193_2 hl193_2; replace p193 := eq_true p193; replace q193 := eq_true q193))
                      repeat (go_quiet (first | (go_at_call 16; (with_reducible refine (types_Sub.calls kj3 _ _ l0 ((16 + (ji24)) % 256) ((16 + (wrap64 (Int.tmod a1 (IntKind.u64.wrap ((l0.length : Int)))))) % 256) true _ ?side1 ?side2 A18.out).mono ?_); (case side1 => repeat (first | exact (Kd.C_below HR0.out HB.out) | (with_reducible refine Kd.C_alloc ?_ _) | (with_reducible refine Kd.C_drewN ?_ _) | (with_reducible refine Kd.C_drew ?_))); (case side2 => exact HC0.out); rintro e w27 ⟨rfl, hb⟩; have n0_ := Aside0.mk (Kd.R_below (by (with_reducible repeat (first | apply Kd.R_alloc | apply Kd.R_drewN | apply Kd.R_drew)); exact HO188.out) hb); have n1_ := Aside0.mk (Kd.R_below (by (with_reducible repeat (first | apply Kd.R_alloc | apply Kd.R_drewN | apply Kd.R_drew)); exact HO191.out) hb); have n2_ := Aside0.mk (below_step (by repeat (first | (with_reducible first | exact HB.out | apply below_alloc | apply pw_below_drewN | apply below_drew1) | exact HB.out)) hb); clear HO188; clear HO191; clear HB; have HO188 := n0_; have HO191 := n1_; have HB := n2_; clear n0_ n1_ n2_; (try clear hb); (try clear hb2); (try clear hk); (try clear hi); obtain ⟨Ao28, co28, eo28⟩ := Kd.R_slice HO188.out; subst eo28; obtain ⟨Ao29, co29, eo29⟩ := Kd.R_slice HO191.out; subst eo29; have p193 : 0 ≤ ((ji24) : Int) := of_decide_eq_true (by first | (with_reducible assumption) | assumption); have q193 : (ji24) < (l0.length : Int) := of_decide_eq_true (by first | (with_reducible assumption) | assumption); obtain ⟨ad193, A193_2, c193_2, e193, hx193_0, hx193_1, hx193_2, hl193_2, hi193_2⟩ := at_T38 HR0.out (ji24) p193 q193; cases e193; replace hx193_0 := (HB.out.cell (World.block_lt_of_cell? w _ hx193_0)).trans hx193_0; replace hx193_1 := (HB.out.cell (World.block_lt_of_cell? w _ hx193_1)).trans hx193_1; replace hx193_2 := (HB.out.cell (World.block_lt_of_cell? w _ hx193_2)).trans hx193_2; have HR193_2 := Aside0.mk hi193_2; have HC193_2 := Aside0.mk hl193_2; clear hi193_2 hl193_2; replace p193 := eq_true p193; replace q193 := eq_true q193)); try go_wp2_with (first | (go_at_call 16; (with_reducible refine (types_Sub.calls kj3 _ _ l0 ((16 + (ji24)) % 256) ((16 + (wrap64 (Int.tmod a1 (IntKind.u64.wrap ((l0.length : Int)))))) % 256) true _ ?side1 ?side2 A18.out).mono ?_); (case side1 => repeat (first | exact (Kd.C_below HR0.out HB.out) | (with_reducible refine Kd.C_alloc ?_ _) | (with_reducible refine Kd.C_drewN ?_ _) | (with_reducible refine Kd.C_drew ?_))); (case side2 => exact HC0.out); rintro e w27 ⟨rfl, hb⟩; have n0_ := Aside0.mk (Kd.R_below (by (with_reducible repeat (first | apply Kd.R_alloc | apply Kd.R_drewN | apply Kd.R_drew)); exact HO188.out) hb); have n1_ := Aside0.mk (Kd.R_below (by (with_reducible repeat (first | apply Kd.R_alloc | apply Kd.R_drewN | apply Kd.R_drew)); exact HO191.out) hb); have n2_ := Aside0.mk (below_step (by repeat (first | (with_reducible first | exact HB.out | apply below_alloc | apply pw_below_drewN | apply below_drew1) | exact HB.out)) hb); clear HO188; clear HO191; clear HB; have HO188 := n0_; have HO191 := n1_; have HB := n2_; clear n0_ n1_ n2_; (try clear hb); (try clear hb2); (try clear hk); (try clear hi); obtain ⟨Ao28, co28, eo28⟩ := Kd.R_slice HO188.out; subst eo28; obtain ⟨Ao29, co29, eo29⟩ := Kd.R_slice HO191.out; subst eo29; have p193 : 0 ≤ ((ji24) : Int) := of_decide_eq_true (by first | (with_reducible assumption) | assumption); have q193 : (ji24) < (l0.length : Int) := of_decide_eq_true (by first | (with_reducible assumption) | assumption); obtain ⟨ad193, A193_2, c193_2, e193, hx193_0, hx193_1, hx193_2, hl193_2, hi193_2⟩ := at_T38 HR0.out (ji24) p193 q193; cases e193; replace hx193_0 := (HB.out.cell (World.block_lt_of_cell? w _ hx193_0)).trans hx193_0; replace hx193_1 := (HB.out.cell (World.block_lt_of_cell? w _ hx193_1)).trans hx193_1; replace hx193_2 := (HB.out.cell (World.block_lt_of_cell? w _ hx193_2)).trans hx193_2; have HR193_2 := Aside0.mk hi193_2; have HC193_2 := Aside0.mk hl193_2; clear hi193_2 hl193_2; replace p193 := eq_true p193; replace q193 := eq_true q193)))
                      (try rw [← hji24])
                      go_meet
                      case rel => exact ⟨_, (decide ((t189.length : Int) < (((rd_T38 l0 (ji24)).f2).length : Int))), (by first | rfl | (simp; done) | (simp only [← hji24] <;> (first | rfl | simp)) | (simp [*]; done)), (by first | exact H' | (simp only [hji24]; exact H')), ⟨by have := HJ3.out; first | omega | exact Nat.le_refl _⟩, ⟨by (with_reducible repeat (first | apply Kd.R_alloc | apply Kd.R_drewN | apply Kd.R_drew)); exact Kd.R_mono HO188.out (fun _ hk => hk.2)⟩, ⟨by (with_reducible repeat (first | apply Kd.R_alloc | apply Kd.R_drewN | apply Kd.R_drew)); exact Kd.R_mono HO191.out (fun _ hk => hk.2)⟩, ⟨by repeat (first | (with_reducible first | exact HB.out | apply below_alloc | apply pw_below_drewN | apply below_drew1) | exact HB.out)⟩⟩
                    · rw [if_neg c26] at H
                      exact absurd H (by simp)
                  · rw [if_neg c25] at H
                    exact absurd H (by simp)
              · replace c19 := Bool.eq_false_iff.mpr c19
                subst c19
                have H1 : (provisolaw02_TypesStays.j1 kj3 l0 (wrap64 (Int.tmod a2 (IntKind.u64.wrap ((l0.length : Int))))) t186 t189 true) = some r := by rw [if_neg (show ¬ (false = true) by decide)] at H; exact H
                clear H
                have H := H1
                clear H1
                have H' := Aside0.mk H
                clear H
                go_wp2_with (first | (go_at_call 16; (with_reducible refine (types_Sub.calls kj3 _ _ l0 ((16 + (wrap64 (Int.tmod a2 (IntKind.u64.wrap ((l0.length : Int)))))) % 256) ((16 + (wrap64 (Int.tmod a1 (IntKind.u64.wrap ((l0.length : Int)))))) % 256) false _ ?side1 ?side2 A18.out).mono ?_); (case side1 => repeat (first | exact (Kd.C_below HR0.out HB.out) | (with_reducible refine Kd.C_alloc ?_ _) | (with_reducible refine Kd.C_drewN ?_ _) | (with_reducible refine Kd.C_drew ?_))); (case side2 => exact HC0.out); rintro e w30 ⟨rfl, hb⟩; have n0_ := Aside0.mk (Kd.R_below (by (with_reducible repeat (first | apply Kd.R_alloc | apply Kd.R_drewN | apply Kd.R_drew)); exact HO188.out) hb); have n1_ := Aside0.mk (Kd.R_below (by (with_reducible repeat (first | apply Kd.R_alloc | apply Kd.R_drewN | apply Kd.R_drew)); exact HO191.out) hb); have n2_ := Aside0.mk (below_step (by repeat (first | (with_reducible first | exact HB.out | apply below_alloc | apply pw_below_drewN | apply below_drew1) | exact HB.out)) hb); clear HO188; clear HO191; clear HB; have HO188 := n0_; have HO191 := n1_; have HB := n2_; clear n0_ n1_ n2_; (try clear hb); (try clear hb2); (try clear hk); (try clear hi)))
                repeat (go_quiet (first | (go_at_call 16; (with_reducible refine (types_Sub.calls kj3 _ _ l0 ((16 + (wrap64 (Int.tmod a2 (IntKind.u64.wrap ((l0.length : Int)))))) % 256) ((16 + (wrap64 (Int.tmod a1 (IntKind.u64.wrap ((l0.length : Int)))))) % 256) false _ ?side1 ?side2 A18.out).mono ?_); (case side1 => repeat (first | exact (Kd.C_below HR0.out HB.out) | (with_reducible refine Kd.C_alloc ?_ _) | (with_reducible refine Kd.C_drewN ?_ _) | (with_reducible refine Kd.C_drew ?_))); (case side2 => exact HC0.out); rintro e w30 ⟨rfl, hb⟩; have n0_ := Aside0.mk (Kd.R_below (by (with_reducible repeat (first | apply Kd.R_alloc | apply Kd.R_drewN | apply Kd.R_drew)); exact HO188.out) hb); have n1_ := Aside0.mk (Kd.R_below (by (with_reducible repeat (first | apply Kd.R_alloc | apply Kd.R_drewN | apply Kd.R_drew)); exact HO191.out) hb); have n2_ := Aside0.mk (below_step (by repeat (first | (with_reducible first | exact HB.out | apply below_alloc | apply pw_below_drewN | apply below_drew1) | exact HB.out)) hb); clear HO188; clear HO191; clear HB; have HO188 := n0_; have HO191 := n1_; have HB := n2_; clear n0_ n1_ n2_; (try clear hb); (try clear hb2); (try clear hk); (try clear hi))); try go_wp2_with (first | (go_at_call 16; (with_reducible refine (types_Sub.calls kj3 _ _ l0 ((16 + (wrap64 (Int.tmod a2 (IntKind.u64.wrap ((l0.length : Int)))))) % 256) ((16 + (wrap64 (Int.tmod a1 (IntKind.u64.wrap ((l0.length : Int)))))) % 256) false _ ?side1 ?side2 A18.out).mono ?_); (case side1 => repeat (first | exact (Kd.C_below HR0.out HB.out) | (with_reducible refine Kd.C_alloc ?_ _) | (with_reducible refine Kd.C_drewN ?_ _) | (with_reducible refine Kd.C_drew ?_))); (case side2 => exact HC0.out); rintro e w30 ⟨rfl, hb⟩; have n0_ := Aside0.mk (Kd.R_below (by (with_reducible repeat (first | apply Kd.R_alloc | apply Kd.R_drewN | apply Kd.R_drew)); exact HO188.out) hb); have n1_ := Aside0.mk (Kd.R_below (by (with_reducible repeat (first | apply Kd.R_alloc | apply Kd.R_drewN | apply Kd.R_drew)); exact HO191.out) hb); have n2_ := Aside0.mk (below_step (by repeat (first | (with_reducible first | exact HB.out | apply below_alloc | apply pw_below_drewN | apply below_drew1) | exact HB.out)) hb); clear HO188; clear HO191; clear HB; have HO188 := n0_; have HO191 := n1_; have HB := n2_; clear n0_ n1_ n2_; (try clear hb); (try clear hb2); (try clear hk); (try clear hi))))
                go_meet
                case rel => exact ⟨_, (true), (by first | rfl | (simp; done) | (simp [*]; done)), H', ⟨by have := HJ3.out; first | omega | exact Nat.le_refl _⟩, ⟨by (with_reducible repeat (first | apply Kd.R_alloc | apply Kd.R_drewN | apply Kd.R_drew)); exact Kd.R_mono HO188.out (fun _ hk => hk.2)⟩, ⟨by (with_reducible repeat (first | apply Kd.R_alloc | apply Kd.R_drewN | apply Kd.R_drew)); exact Kd.R_mono HO191.out (fun _ hk => hk.2)⟩, ⟨by repeat (first | (with_reducible first | exact HB.out | apply below_alloc | apply pw_below_drewN | apply below_drew1) | exact HB.out)⟩⟩
            case rest =>
              clear HC15
              try clear c1
              try clear p1
              try clear q1
              try clear hx1
              try clear c2
              try clear p2
              try clear c5
              try clear c6
              try clear p6
              try clear c9
              try clear c10
              try clear c10b0
              try clear c10b1
              try clear c12
              try clear c19
              try clear p19
              try clear q19
              try clear hx19
              try clear c20
              try clear c20b0
              try clear c20b1
              try clear c25
              try clear c25b0
              try clear c26
              try clear c26b0
              try clear hx193_0
              try clear hx193_1
              try clear hx193_2
              try clear p193
              try clear p2
              try clear q193
              obtain ⟨kq, x82_14, rfl, HA, HJ14, HO_9, HO_10, HB⟩ := hcut
              cases kq with
              | zero => exact absurd HA.out (by simp [provisolaw02_TypesStays.j1])
              | succ kj14 =>
                have H := HA.out
                clear HA
                simp only [provisolaw02_TypesStays.j1] at H
                by_cases c31 : x82_14 = true
                · subst c31
                  have H1 : (some false) = some r := by rw [if_pos rfl] at H; exact H
                  clear H
                  have H := H1
                  clear H1
                  obtain rfl := Option.some.inj H
                  go_wp2
                  repeat (go_quiet (fail); try go_wp2)
                  go_ret
                  exact ⟨by first | rfl | (simp [errW_none, errW_some] <;> rfl) | (simp [*, errW_none, errW_some] <;> rfl), by repeat (first | (with_reducible first | exact HB.out | apply below_alloc | apply pw_below_drewN | apply below_drew1) | exact HB.out)⟩
                · replace c31 := Bool.eq_false_iff.mpr c31
                  subst c31
                  have H1 : (provisolaw02_TypesStays.l0 kj14 l0 (wrap64 (Int.tmod a2 (IntKind.u64.wrap ((l0.length : Int))))) t189 t186 (t186.length : Int) 0) = some r := by rw [if_neg (show ¬ (false = true) by decide)] at H; exact H
                  clear H
                  have H := H1
                  clear H1
                  have H' := Aside0.mk H
                  clear H
                  obtain ⟨Ao32, co32, eo32⟩ := Kd.R_slice HO_9.out
                  subst eo32
                  go_wp2
                  repeat (go_quiet (fail); try go_wp2)
                  go_loopg [85] kj14 (fun kq v85 w' => ∃ (x85_3 : Int), v85 = .int .i64 x85_3 ∧ Aside0 (provisolaw02_TypesStays.l0 kq l0 (wrap64 (Int.tmod a2 (IntKind.u64.wrap ((l0.length : Int))))) t189 t186 (t186.length : Int) x85_3 = some r) ∧ Aside0 (kq ≤ kj14) ∧ Aside0 (Kd.R k40 40 w' w.heap.size (fun k_ => some k_ ≠ ((.slice Ao32 t186.length co32) : Value).ownBlock) v190 t189) ∧ Aside0 (Kd.R k40 40 w' w.heap.size (fun k_ => some k_ ≠ (v190 : Value).ownBlock) (.slice Ao32 t186.length co32) t186) ∧ Aside0 (Below w.heap.size w w'))
                  case atStart => exact ⟨(0), (by first | rfl | (simp; done) | (simp [*]; done)), H', ⟨Nat.le_refl _⟩, ⟨by (with_reducible repeat (first | apply Kd.R_alloc | apply Kd.R_drewN | apply Kd.R_drew)); exact HO_10.out⟩, ⟨by (with_reducible repeat (first | apply Kd.R_alloc | apply Kd.R_drewN | apply Kd.R_drew)); exact HO_9.out⟩, ⟨by repeat (first | (with_reducible first | exact HB.out | apply below_alloc | apply pw_below_drewN | apply below_drew1) | exact HB.out)⟩⟩
                  case round =>
                    clear H'
                    try clear c1
                    try clear p1
                    try clear q1
                    try clear hx1
                    try clear c2
                    try clear p2
                    try clear c3
                    try clear c5
                    try clear c6
                    try clear p6
                    try clear c9
                    try clear c10
                    try clear c10b0
                    try clear c10b1
                    try clear c12
                    try clear c19
                    try clear p19
                    try clear q19
                    try clear hx19
                    try clear c20
                    try clear c20b0
                    try clear c20b1
                    try clear c25
                    try clear c25b0
                    try clear c26
                    try clear c26b0
                    try clear c31
                    try clear hx193_0
                    try clear hx193_1
                    try clear hx193_2
                    try clear p1
                    try clear p19
                    try clear p193
                    try clear p2
                    try clear p6
                    try clear q1
                    try clear q19
                    try clear q193
                    obtain ⟨x85_3, rfl, HA, HK3, HO_10, HO_83, HB⟩ := hrel
                    cases gk with
                    | zero => exact absurd HA.out (by simp [provisolaw02_TypesStays.l0])
                    | succ k3 =>
                      have H := HA.out
                      clear HA
                      simp only [provisolaw02_TypesStays.l0] at H
                      by_cases c33 : x85_3 < (t186.length : Int)
                      · rw [if_pos c33] at H
                        have c33b0 : decide (x85_3 < (t186.length : Int)) = true := decide_eq_true c33
                        clear c33
                        by_cases c34 : 0 ≤ x85_3
                        · rw [if_pos c34] at H
                          have c34b0 : decide (0 ≤ x85_3) = true := decide_eq_true c34
                          clear c34
                          by_cases c35 : x85_3 < (t186.length : Int)
                          · rw [if_pos c35] at H
                            have c35b0 : decide (x85_3 < (t186.length : Int)) = true := decide_eq_true c35
                            clear c35
                            replace H := Option.bind_eq_some_iff.mp H
                            obtain ⟨⟨t196, t197, t198⟩, A360, H⟩ := H
                            replace H : (if x85_3 < (t189.length : Int) then (if (!((((rd_T40 t189 x85_3).f0).toList) == (((rd_T40 t186 x85_3).f0).toList)) || (!(((rd_T40 t189 x85_3).f1) == ((rd_T40 t186 x85_3).f1)))) = true then (some false) else (if t196 = x85_3 then (if t197 = ((rd_T40 t186 x85_3).f1) then (if t198 = true then (provisolaw02_TypesStays.l0 k3 l0 (wrap64 (Int.tmod a2 (IntKind.u64.wrap ((l0.length : Int))))) t189 t186 (t186.length : Int) (wrap64 (x85_3 + 1))) else (some false)) else (some false)) else (some false))) else (none)) = some r := H
                            have A36 := Aside0.mk A360
                            clear A360
                            by_cases c37 : x85_3 < (t189.length : Int)
                            · rw [if_pos c37] at H
                              have c37b0 : decide (x85_3 < (t189.length : Int)) = true := decide_eq_true c37
                              clear c37
                              by_cases c38 : (!((((rd_T40 t189 x85_3).f0).toList) == (((rd_T40 t186 x85_3).f0).toList)) || (!(((rd_T40 t189 x85_3).f1) == ((rd_T40 t186 x85_3).f1)))) = true
                              · rw [if_pos c38] at H
                                have c38b0 : (!((((rd_T40 t189 x85_3).f0).toList) == (((rd_T40 t186 x85_3).f0).toList)) || (!(((rd_T40 t189 x85_3).f1) == ((rd_T40 t186 x85_3).f1)))) = true := c38
                                clear c38
                                obtain rfl := Option.some.inj H
                                have p194 : 0 ≤ (x85_3 : Int) := of_decide_eq_true (by first | (with_reducible assumption) | assumption)
                                have q194 : x85_3 < (t186.length : Int) := of_decide_eq_true (by first | (with_reducible assumption) | assumption)
                                obtain ⟨ad194, e194, hx194_0, hx194_1⟩ := at_T40 (Kd.R_reads' HO_83.out).2.2 x85_3 p194 q194
                                cases e194
                                replace p194 := eq_true p194
                                replace q194 := eq_true q194
                                go_wp2_with (first | ((with_reducible refine gate_dst (N := 12) rfl ?_); (try (refine gate_guard (by rfl) ?_; dsimp only)); refine box_event ?hg (N := 12) ?hd (cs := #[.string (⟨#[]⟩ : ByteArray), .int .u8 0]) (t := 40) ?hr ?_; (case hd => rfl); (case hg => rfl); (case hr => first | (go_simp; done) | (go_simp; rfl)); intro gb195 hg w39 hbox hb; have n0_ := Aside0.mk (Kd.R_below (Kd.R_elderB (by (with_reducible repeat (first | apply Kd.R_alloc | apply Kd.R_drewN | apply Kd.R_drew)); exact HO_10.out) gb195 (Nat.le_of_eq hg.symm)) hb); have n1_ := Aside0.mk (Kd.R_below (Kd.R_elderB (by (with_reducible repeat (first | apply Kd.R_alloc | apply Kd.R_drewN | apply Kd.R_drew)); exact HO_83.out) gb195 (Nat.le_of_eq hg.symm)) hb); have n2_ := Aside0.mk (below_step (by repeat (first | (with_reducible first | exact HB.out | apply below_alloc | apply pw_below_drewN | apply below_drew1) | exact HB.out)) hb); have n3_ := Aside0.mk (hbox); have n4_ := Aside0.mk ((by rw [hg]; exact (below_size (by repeat (first | (with_reducible first | exact HB.out | apply below_alloc | apply pw_below_drewN | apply below_drew1) | exact HB.out))) : w.heap.size ≤ gb195)); have n5_ := Aside0.mk ((by rw [hg]; exact (below_size (by repeat (first | (with_reducible first | exact HB.out | apply below_alloc | apply pw_below_drewN | apply below_drew1) | exact HB.out))) : w.heap.size ≤ gb195)); clear HO_10; clear HO_83; clear HB; have HO_10 := n0_; have HO_83 := n1_; have HB := n2_; have BK195 := n3_; have GW195 := n4_; have GE195 := n5_; clear n0_ n1_ n2_ n3_ n4_ n5_; clear hb hbox hg; have hcz40_0 : w39.cell? ⟨gb195, 0, none⟩ = some (.string (⟨#[]⟩ : ByteArray)) := (blk_cell BK195.out 0).trans rfl; have hcz40_1 : w39.cell? ⟨gb195, 1, none⟩ = some (.int .u8 0) := (blk_cell BK195.out 1).trans rfl; have hfz40_0 := blk_frozen BK195.out 0; have hfz40_1 := blk_frozen BK195.out 1) | (go_at_call 19; (with_reducible refine (types_Find.calls k3 _ _ l0 (wrap64 (Int.tmod a2 (IntKind.u64.wrap ((l0.length : Int))))) ((rd_T40 t186 x85_3).f0) t196 t197 t198 _ ?side1 ?side2 A36.out).mono ?_); (case side1 => exact Kd.C_below HR0.out (by repeat (first | (with_reducible first | exact HB.out | apply below_alloc | apply pw_below_drewN | apply below_drew1 | refine below_set ?_ GE195.out) | exact HB.out))); (case side2 => exact HC0.out); rintro e w41 ⟨rfl, hb⟩; have n0_ := Aside0.mk (Kd.R_below (by (with_reducible repeat (first | apply Kd.R_alloc | apply Kd.R_drewN | apply Kd.R_drew)); exact (Kd.R_mono (Kd.R_far (p := ⟨gb195, 1, none⟩) (Kd.R_far (p := ⟨gb195, 0, none⟩) (Kd.R_mono HO_10.out (fun k_ hk => (⟨hk, hk.2⟩ : _ ∧ k_ ≠ gb195))) (fun _ hk => hk.2) (.string ((rd_T40 t186 x85_3).f0))) (fun _ hk => hk.2) (.int .u8 ((rd_T40 t186 x85_3).f1))) (fun _ h_ => h_.1))) hb); have n1_ := Aside0.mk (Kd.R_below (by (with_reducible repeat (first | apply Kd.R_alloc | apply Kd.R_drewN | apply Kd.R_drew)); exact (Kd.R_mono (Kd.R_far (p := ⟨gb195, 1, none⟩) (Kd.R_far (p := ⟨gb195, 0, none⟩) (Kd.R_mono HO_83.out (fun k_ hk => (⟨hk, hk.2⟩ : _ ∧ k_ ≠ gb195))) (fun _ hk => hk.2) (.string ((rd_T40 t186 x85_3).f0))) (fun _ hk => hk.2) (.int .u8 ((rd_T40 t186 x85_3).f1))) (fun _ h_ => h_.1))) hb); have n2_ := Aside0.mk (blk_below (g := gb195) (o := .cells #[.string ((rd_T40 t186 x85_3).f0), .int .u8 ((rd_T40 t186 x85_3).f1)] 40 (0, 0)) (by (with_reducible repeat (first | refine blk_drewN ?_ _ | refine blk_drew ?_ | refine blk_alloc ?_ _)); refine blk_put (cs := #[.string ((rd_T40 t186 x85_3).f0), .int .u8 0]) ?_ 1 _ rfl; (with_reducible repeat (first | refine blk_drewN ?_ _ | refine blk_drew ?_ | refine blk_alloc ?_ _)); refine blk_put (cs := #[.string (⟨#[]⟩ : ByteArray), .int .u8 0]) ?_ 0 _ rfl; (with_reducible repeat (first | refine blk_drewN ?_ _ | refine blk_drew ?_ | refine blk_alloc ?_ _)); exact BK195.out) hb); have n3_ := Aside0.mk (below_step (by repeat (first | (with_reducible first | exact HB.out | apply below_alloc | apply pw_below_drewN | apply below_drew1 | refine below_set ?_ GE195.out) | exact HB.out)) hb); clear HO_10; clear HO_83; clear BK195; clear HB; have HO_10 := n0_; have HO_83 := n1_; have BK195 := n2_; have HB := n3_; clear n0_ n1_ n2_ n3_; (try clear hb); (try clear hb2); (try clear hk); (try clear hi); obtain ⟨Ao42, co42, eo42⟩ := Kd.R_slice HO_10.out; subst eo42; have p199 : 0 ≤ (x85_3 : Int) := of_decide_eq_true (by first | (with_reducible assumption) | assumption); have q199 : x85_3 < (t189.length : Int) := of_decide_eq_true (by first | (with_reducible assumption) | assumption); obtain ⟨ad199, e199, hx199_0, hx199_1⟩ := at_T40 (Kd.R_reads' HO_10.out).2.2 x85_3 p199 q199; cases e199; replace p199 := eq_true p199; replace q199 := eq_true q199; have hcz43_0 : w41.cell? ⟨gb195, 0, none⟩ = some (.string ((rd_T40 t186 x85_3).f0)) := (blk_cell BK195.out 0).trans rfl; have hcz43_1 : w41.cell? ⟨gb195, 1, none⟩ = some (.int .u8 ((rd_T40 t186 x85_3).f1)) := (blk_cell BK195.out 1).trans rfl; have hfz43_0 := blk_frozen BK195.out 0; have hfz43_1 := blk_frozen BK195.out 1))
                                repeat (go_quiet (first | ((with_reducible refine gate_dst (N := 12) rfl ?_); (try (refine gate_guard (by rfl) ?_; dsimp only)); refine box_event ?hg (N := 12) ?hd (cs := #[.string (⟨#[]⟩ : ByteArray), .int .u8 0]) (t := 40) ?hr ?_; (case hd => rfl); (case hg => rfl); (case hr => first | (go_simp; done) | (go_simp; rfl)); intro gb195 hg w39 hbox hb; have n0_ := Aside0.mk (Kd.R_below (Kd.R_elderB (by (with_reducible repeat (first | apply Kd.R_alloc | apply Kd.R_drewN | apply Kd.R_drew)); exact HO_10.out) gb195 (Nat.le_of_eq hg.symm)) hb); have n1_ := Aside0.mk (Kd.R_below (Kd.R_elderB (by (with_reducible repeat (first | apply Kd.R_alloc | apply Kd.R_drewN | apply Kd.R_drew)); exact HO_83.out) gb195 (Nat.le_of_eq hg.symm)) hb); have n2_ := Aside0.mk (below_step (by repeat (first | (with_reducible first | exact HB.out | apply below_alloc | apply pw_below_drewN | apply below_drew1) | exact HB.out)) hb); have n3_ := Aside0.mk (hbox); have n4_ := Aside0.mk ((by rw [hg]; exact (below_size (by repeat (first | (with_reducible first | exact HB.out | apply below_alloc | apply pw_below_drewN | apply below_drew1) | exact HB.out))) : w.heap.size ≤ gb195)); have n5_ := Aside0.mk ((by rw [hg]; exact (below_size (by repeat (first | (with_reducible first | exact HB.out | apply below_alloc | apply pw_below_drewN | apply below_drew1) | exact HB.out))) : w.heap.size ≤ gb195)); clear HO_10; clear HO_83; clear HB; have HO_10 := n0_; have HO_83 := n1_; have HB := n2_; have BK195 := n3_; have GW195 := n4_; have GE195 := n5_; clear n0_ n1_ n2_ n3_ n4_ n5_; clear hb hbox hg; have hcz40_0 : w39.cell? ⟨gb195, 0, none⟩ = some (.string (⟨#[]⟩ : ByteArray)) := (blk_cell BK195.out 0).trans rfl; have hcz40_1 : w39.cell? ⟨gb195, 1, none⟩ = some (.int .u8 0) := (blk_cell BK195.out 1).trans rfl; have hfz40_0 := blk_frozen BK195.out 0; have hfz40_1 := blk_frozen BK195.out 1) | (go_at_call 19; (with_reducible refine (types_Find.calls k3 _ _ l0 (wrap64 (Int.tmod a2 (IntKind.u64.wrap ((l0.length : Int))))) ((rd_T40 t186 x85_3).f0) t196 t197 t198 _ ?side1 ?side2 A36.out).mono ?_); (case side1 => exact Kd.C_below HR0.out (by repeat (first | (with_reducible first | exact HB.out | apply below_alloc | apply pw_below_drewN | apply below_drew1 | refine below_set ?_ GE195.out) | exact HB.out))); (case side2 => exact HC0.out); rintro e w41 ⟨rfl, hb⟩; have n0_ := Aside0.mk (Kd.R_below (by (with_reducible repeat (first | apply Kd.R_alloc | apply Kd.R_drewN | apply Kd.R_drew)); exact (Kd.R_mono (Kd.R_far (p := ⟨gb195, 1, none⟩) (Kd.R_far (p := ⟨gb195, 0, none⟩) (Kd.R_mono HO_10.out (fun k_ hk => (⟨hk, hk.2⟩ : _ ∧ k_ ≠ gb195))) (fun _ hk => hk.2) (.string ((rd_T40 t186 x85_3).f0))) (fun _ hk => hk.2) (.int .u8 ((rd_T40 t186 x85_3).f1))) (fun _ h_ => h_.1))) hb); have n1_ := Aside0.mk (Kd.R_below (by (with_reducible repeat (first | apply Kd.R_alloc | apply Kd.R_drewN | apply Kd.R_drew)); exact (Kd.R_mono (Kd.R_far (p := ⟨gb195, 1, none⟩) (Kd.R_far (p := ⟨gb195, 0, none⟩) (Kd.R_mono HO_83.out (fun k_ hk => (⟨hk, hk.2⟩ : _ ∧ k_ ≠ gb195))) (fun _ hk => hk.2) (.string ((rd_T40 t186 x85_3).f0))) (fun _ hk => hk.2) (.int .u8 ((rd_T40 t186 x85_3).f1))) (fun _ h_ => h_.1))) hb); have n2_ := Aside0.mk (blk_below (g := gb195) (o := .cells #[.string ((rd_T40 t186 x85_3).f0), .int .u8 ((rd_T40 t186 x85_3).f1)] 40 (0, 0)) (by (with_reducible repeat (first | refine blk_drewN ?_ _ | refine blk_drew ?_ | refine blk_alloc ?_ _)); refine blk_put (cs := #[.string ((rd_T40 t186 x85_3).f0), .int .u8 0]) ?_ 1 _ rfl; (with_reducible repeat (first | refine blk_drewN ?_ _ | refine blk_drew ?_ | refine blk_alloc ?_ _)); refine blk_put (cs := #[.string (⟨#[]⟩ : ByteArray), .int .u8 0]) ?_ 0 _ rfl; (with_reducible repeat (first | refine blk_drewN ?_ _ | refine blk_drew ?_ | refine blk_alloc ?_ _)); exact BK195.out) hb); have n3_ := Aside0.mk (below_step (by repeat (first | (with_reducible first | exact HB.out | apply below_alloc | apply pw_below_drewN | apply below_drew1 | refine below_set ?_ GE195.out) | exact HB.out)) hb); clear HO_10; clear HO_83; clear BK195; clear HB; have HO_10 := n0_; have HO_83 := n1_; have BK195 := n2_; have HB := n3_; clear n0_ n1_ n2_ n3_; (try clear hb); (try clear hb2); (try clear hk); (try clear hi); obtain ⟨Ao42, co42, eo42⟩ := Kd.R_slice HO_10.out; subst eo42; have p199 : 0 ≤ (x85_3 : Int) := of_decide_eq_true (by first | (with_reducible assumption) | assumption); have q199 : x85_3 < (t189.length : Int) := of_decide_eq_true (by first | (with_reducible assumption) | assumption); obtain ⟨ad199, e199, hx199_0, hx199_1⟩ := at_T40 (Kd.R_reads' HO_10.out).2.2 x85_3 p199 q199; cases e199; replace p199 := eq_true p199; replace q199 := eq_true q199; have hcz43_0 : w41.cell? ⟨gb195, 0, none⟩ = some (.string ((rd_T40 t186 x85_3).f0)) := (blk_cell BK195.out 0).trans rfl; have hcz43_1 : w41.cell? ⟨gb195, 1, none⟩ = some (.int .u8 ((rd_T40 t186 x85_3).f1)) := (blk_cell BK195.out 1).trans rfl; have hfz43_0 := blk_frozen BK195.out 0; have hfz43_1 := blk_frozen BK195.out 1)); try go_wp2_with (first | ((with_reducible refine gate_dst (N := 12) rfl ?_); (try (refine gate_guard (by rfl) ?_; dsimp only)); refine box_event ?hg (N := 12) ?hd (cs := #[.string (⟨#[]⟩ : ByteArray), .int .u8 0]) (t := 40) ?hr ?_; (case hd => rfl); (case hg => rfl); (case hr => first | (go_simp; done) | (go_simp; rfl)); intro gb195 hg w39 hbox hb; have n0_ := Aside0.mk (Kd.R_below (Kd.R_elderB (by (with_reducible repeat (first | apply Kd.R_alloc | apply Kd.R_drewN | apply Kd.R_drew)); exact HO_10.out) gb195 (Nat.le_of_eq hg.symm)) hb); have n1_ := Aside0.mk (Kd.R_below (Kd.R_elderB (by (with_reducible repeat (first | apply Kd.R_alloc | apply Kd.R_drewN | apply Kd.R_drew)); exact HO_83.out) gb195 (Nat.le_of_eq hg.symm)) hb); have n2_ := Aside0.mk (below_step (by repeat (first | (with_reducible first | exact HB.out | apply below_alloc | apply pw_below_drewN | apply below_drew1) | exact HB.out)) hb); have n3_ := Aside0.mk (hbox); have n4_ := Aside0.mk ((by rw [hg]; exact (below_size (by repeat (first | (with_reducible first | exact HB.out | apply below_alloc | apply pw_below_drewN | apply below_drew1) | exact HB.out))) : w.heap.size ≤ gb195)); have n5_ := Aside0.mk ((by rw [hg]; exact (below_size (by repeat (first | (with_reducible first | exact HB.out | apply below_alloc | apply pw_below_drewN | apply below_drew1) | exact HB.out))) : w.heap.size ≤ gb195)); clear HO_10; clear HO_83; clear HB; have HO_10 := n0_; have HO_83 := n1_; have HB := n2_; have BK195 := n3_; have GW195 := n4_; have GE195 := n5_; clear n0_ n1_ n2_ n3_ n4_ n5_; clear hb hbox hg; have hcz40_0 : w39.cell? ⟨gb195, 0, none⟩ = some (.string (⟨#[]⟩ : ByteArray)) := (blk_cell BK195.out 0).trans rfl; have hcz40_1 : w39.cell? ⟨gb195, 1, none⟩ = some (.int .u8 0) := (blk_cell BK195.out 1).trans rfl; have hfz40_0 := blk_frozen BK195.out 0; have hfz40_1 := blk_frozen BK195.out 1) | (go_at_call 19; (with_reducible refine (types_Find.calls k3 _ _ l0 (wrap64 (Int.tmod a2 (IntKind.u64.wrap ((l0.length : Int))))) ((rd_T40 t186 x85_3).f0) t196 t197 t198 _ ?side1 ?side2 A36.out).mono ?_); (case side1 => exact Kd.C_below HR0.out (by repeat (first | (with_reducible first | exact HB.out | apply below_alloc | apply pw_below_drewN | apply below_drew1 | refine below_set ?_ GE195.out) | exact HB.out))); (case side2 => exact HC0.out); rintro e w41 ⟨rfl, hb⟩; have n0_ := Aside0.mk (Kd.R_below (by (with_reducible repeat (first | apply Kd.R_alloc | apply Kd.R_drewN | apply Kd.R_drew)); exact (Kd.R_mono (Kd.R_far (p := ⟨gb195, 1, none⟩) (Kd.R_far (p := ⟨gb195, 0, none⟩) (Kd.R_mono HO_10.out (fun k_ hk => (⟨hk, hk.2⟩ : _ ∧ k_ ≠ gb195))) (fun _ hk => hk.2) (.string ((rd_T40 t186 x85_3).f0))) (fun _ hk => hk.2) (.int .u8 ((rd_T40 t186 x85_3).f1))) (fun _ h_ => h_.1))) hb); have n1_ := Aside0.mk (Kd.R_below (by (with_reducible repeat (first | apply Kd.R_alloc | apply Kd.R_drewN | apply Kd.R_drew)); exact (Kd.R_mono (Kd.R_far (p := ⟨gb195, 1, none⟩) (Kd.R_far (p := ⟨gb195, 0, none⟩) (Kd.R_mono HO_83.out (fun k_ hk => (⟨hk, hk.2⟩ : _ ∧ k_ ≠ gb195))) (fun _ hk => hk.2) (.string ((rd_T40 t186 x85_3).f0))) (fun _ hk => hk.2) (.int .u8 ((rd_T40 t186 x85_3).f1))) (fun _ h_ => h_.1))) hb); have n2_ := Aside0.mk (blk_below (g := gb195) (o := .cells #[.string ((rd_T40 t186 x85_3).f0), .int .u8 ((rd_T40 t186 x85_3).f1)] 40 (0, 0)) (by (with_reducible repeat (first | refine blk_drewN ?_ _ | refine blk_drew ?_ | refine blk_alloc ?_ _)); refine blk_put (cs := #[.string ((rd_T40 t186 x85_3).f0), .int .u8 0]) ?_ 1 _ rfl; (with_reducible repeat (first | refine blk_drewN ?_ _ | refine blk_drew ?_ | refine blk_alloc ?_ _)); refine blk_put (cs := #[.string (⟨#[]⟩ : ByteArray), .int .u8 0]) ?_ 0 _ rfl; (with_reducible repeat (first | refine blk_drewN ?_ _ | refine blk_drew ?_ | refine blk_alloc ?_ _)); exact BK195.out) hb); have n3_ := Aside0.mk (below_step (by repeat (first | (with_reducible first | exact HB.out | apply below_alloc | apply pw_below_drewN | apply below_drew1 | refine below_set ?_ GE195.out) | exact HB.out)) hb); clear HO_10; clear HO_83; clear BK195; clear HB; have HO_10 := n0_; have HO_83 := n1_; have BK195 := n2_; have HB := n3_; clear n0_ n1_ n2_ n3_; (try clear hb); (try clear hb2); (try clear hk); (try clear hi); obtain ⟨Ao42, co42, eo42⟩ := Kd.R_slice HO_10.out; subst eo42; have p199 : 0 ≤ (x85_3 : Int) := of_decide_eq_true (by first | (with_reducible assumption) | assumption); have q199 : x85_3 < (t189.length : Int) := of_decide_eq_true (by first | (with_reducible assumption) | assumption); obtain ⟨ad199, e199, hx199_0, hx199_1⟩ := at_T40 (Kd.R_reads' HO_10.out).2.2 x85_3 p199 q199; cases e199; replace p199 := eq_true p199; replace q199 := eq_true q199; have hcz43_0 : w41.cell? ⟨gb195, 0, none⟩ = some (.string ((rd_T40 t186 x85_3).f0)) := (blk_cell BK195.out 0).trans rfl; have hcz43_1 : w41.cell? ⟨gb195, 1, none⟩ = some (.int .u8 ((rd_T40 t186 x85_3).f1)) := (blk_cell BK195.out 1).trans rfl; have hfz43_0 := blk_frozen BK195.out 0; have hfz43_1 := blk_frozen BK195.out 1)))
                                go_ret
                                exact ⟨by first | rfl | (simp [errW_none, errW_some] <;> rfl) | (simp [*, errW_none, errW_some] <;> rfl), by repeat (first | (with_reducible first | exact HB.out | apply below_alloc | apply pw_below_drewN | apply below_drew1 | refine below_set ?_ GE195.out) | exact HB.out)⟩
                              · rw [if_neg c38] at H
                                have c38b0 : (!((((rd_T40 t189 x85_3).f0).toList) == (((rd_T40 t186 x85_3).f0).toList)) || (!(((rd_T40 t189 x85_3).f1) == ((rd_T40 t186 x85_3).f1)))) = false := by simpa using c38
                                clear c38
                                by_cases c44 : t196 = x85_3
                                · rw [if_pos c44] at H
                                  have c44b0 : (t196 == x85_3) = true := beq_iff_eq.mpr c44
                                  have c44b1 : (t196 != x85_3) = false := bne_eq_false_iff_eq.mpr c44
                                  clear c44
                                  by_cases c45 : t197 = ((rd_T40 t186 x85_3).f1)
                                  · rw [if_pos c45] at H
                                    have c45b0 : (t197 == ((rd_T40 t186 x85_3).f1)) = true := beq_iff_eq.mpr c45
                                    have c45b1 : (t197 != ((rd_T40 t186 x85_3).f1)) = false := bne_eq_false_iff_eq.mpr c45
                                    clear c45
                                    by_cases c46 : t198 = true
                                    · subst c46
                                      have H1 : (provisolaw02_TypesStays.l0 k3 l0 (wrap64 (Int.tmod a2 (IntKind.u64.wrap ((l0.length : Int))))) t189 t186 (t186.length : Int) (wrap64 (x85_3 + 1))) = some r := by rw [if_pos rfl] at H; exact H
                                      clear H
                                      have H := H1
                                      clear H1
                                      have H' := Aside0.mk H
                                      clear H
                                      have p194 : 0 ≤ (x85_3 : Int) := of_decide_eq_true (by first | (with_reducible assumption) | assumption)
                                      have q194 : x85_3 < (t186.length : Int) := of_decide_eq_true (by first | (with_reducible assumption) | assumption)
                                      obtain ⟨ad194, e194, hx194_0, hx194_1⟩ := at_T40 (Kd.R_reads' HO_83.out).2.2 x85_3 p194 q194
                                      cases e194
                                      replace p194 := eq_true p194
                                      replace q194 := eq_true q194
                                      go_wp2_with (first | ((with_reducible refine gate_dst (N := 12) rfl ?_); (try (refine gate_guard (by rfl) ?_; dsimp only)); refine box_event ?hg (N := 12) ?hd (cs := #[.string (⟨#[]⟩ : ByteArray), .int .u8 0]) (t := 40) ?hr ?_; (case hd => rfl); (case hg => rfl); (case hr => first | (go_simp; done) | (go_simp; rfl)); intro gb195 hg w47 hbox hb; have n0_ := Aside0.mk (Kd.R_below (Kd.R_elderB (by (with_reducible repeat (first | apply Kd.R_alloc | apply Kd.R_drewN | apply Kd.R_drew)); exact HO_10.out) gb195 (Nat.le_of_eq hg.symm)) hb); have n1_ := Aside0.mk (Kd.R_below (Kd.R_elderB (by (with_reducible repeat (first | apply Kd.R_alloc | apply Kd.R_drewN | apply Kd.R_drew)); exact HO_83.out) gb195 (Nat.le_of_eq hg.symm)) hb); have n2_ := Aside0.mk (below_step (by repeat (first | (with_reducible first | exact HB.out | apply below_alloc | apply pw_below_drewN | apply below_drew1) | exact HB.out)) hb); have n3_ := Aside0.mk (hbox); have n4_ := Aside0.mk ((by rw [hg]; exact (below_size (by repeat (first | (with_reducible first | exact HB.out | apply below_alloc | apply pw_below_drewN | apply below_drew1) | exact HB.out))) : w.heap.size ≤ gb195)); have n5_ := Aside0.mk ((by rw [hg]; exact (below_size (by repeat (first | (with_reducible first | exact HB.out | apply below_alloc | apply pw_below_drewN | apply below_drew1) | exact HB.out))) : w.heap.size ≤ gb195)); clear HO_10; clear HO_83; clear HB; have HO_10 := n0_; have HO_83 := n1_; have HB := n2_; have BK195 := n3_; have GW195 := n4_; have GE195 := n5_; clear n0_ n1_ n2_ n3_ n4_ n5_; clear hb hbox hg; have hcz48_0 : w47.cell? ⟨gb195, 0, none⟩ = some (.string (⟨#[]⟩ : ByteArray)) := (blk_cell BK195.out 0).trans rfl; have hcz48_1 : w47.cell? ⟨gb195, 1, none⟩ = some (.int .u8 0) := (blk_cell BK195.out 1).trans rfl; have hfz48_0 := blk_frozen BK195.out 0; have hfz48_1 := blk_frozen BK195.out 1) | (go_at_call 19; (with_reducible refine (types_Find.calls k3 _ _ l0 (wrap64 (Int.tmod a2 (IntKind.u64.wrap ((l0.length : Int))))) ((rd_T40 t186 x85_3).f0) t196 t197 true _ ?side1 ?side2 A36.out).mono ?_); (case side1 => exact Kd.C_below HR0.out (by repeat (first | (with_reducible first | exact HB.out | apply below_alloc | apply pw_below_drewN | apply below_drew1 | refine below_set ?_ GE195.out) | exact HB.out))); (case side2 => exact HC0.out); rintro e w49 ⟨rfl, hb⟩; have n0_ := Aside0.mk (Kd.R_below (by (with_reducible repeat (first | apply Kd.R_alloc | apply Kd.R_drewN | apply Kd.R_drew)); exact (Kd.R_mono (Kd.R_far (p := ⟨gb195, 1, none⟩) (Kd.R_far (p := ⟨gb195, 0, none⟩) (Kd.R_mono HO_10.out (fun k_ hk => (⟨hk, hk.2⟩ : _ ∧ k_ ≠ gb195))) (fun _ hk => hk.2) (.string ((rd_T40 t186 x85_3).f0))) (fun _ hk => hk.2) (.int .u8 ((rd_T40 t186 x85_3).f1))) (fun _ h_ => h_.1))) hb); have n1_ := Aside0.mk (Kd.R_below (by (with_reducible repeat (first | apply Kd.R_alloc | apply Kd.R_drewN | apply Kd.R_drew)); exact (Kd.R_mono (Kd.R_far (p := ⟨gb195, 1, none⟩) (Kd.R_far (p := ⟨gb195, 0, none⟩) (Kd.R_mono HO_83.out (fun k_ hk => (⟨hk, hk.2⟩ : _ ∧ k_ ≠ gb195))) (fun _ hk => hk.2) (.string ((rd_T40 t186 x85_3).f0))) (fun _ hk => hk.2) (.int .u8 ((rd_T40 t186 x85_3).f1))) (fun _ h_ => h_.1))) hb); have n2_ := Aside0.mk (blk_below (g := gb195) (o := .cells #[.string ((rd_T40 t186 x85_3).f0), .int .u8 ((rd_T40 t186 x85_3).f1)] 40 (0, 0)) (by (with_reducible repeat (first | refine blk_drewN ?_ _ | refine blk_drew ?_ | refine blk_alloc ?_ _)); refine blk_put (cs := #[.string ((rd_T40 t186 x85_3).f0), .int .u8 0]) ?_ 1 _ rfl; (with_reducible repeat (first | refine blk_drewN ?_ _ | refine blk_drew ?_ | refine blk_alloc ?_ _)); refine blk_put (cs := #[.string (⟨#[]⟩ : ByteArray), .int .u8 0]) ?_ 0 _ rfl; (with_reducible repeat (first | refine blk_drewN ?_ _ | refine blk_drew ?_ | refine blk_alloc ?_ _)); exact BK195.out) hb); have n3_ := Aside0.mk (below_step (by repeat (first | (with_reducible first | exact HB.out | apply below_alloc | apply pw_below_drewN | apply below_drew1 | refine below_set ?_ GE195.out) | exact HB.out)) hb); clear HO_10; clear HO_83; clear BK195; clear HB; have HO_10 := n0_; have HO_83 := n1_; have BK195 := n2_; have HB := n3_; clear n0_ n1_ n2_ n3_; (try clear hb); (try clear hb2); (try clear hk); (try clear hi); obtain ⟨Ao50, co50, eo50⟩ := Kd.R_slice HO_10.out; subst eo50; have p199 : 0 ≤ (x85_3 : Int) := of_decide_eq_true (by first | (with_reducible assumption) | assumption); have q199 : x85_3 < (t189.length : Int) := of_decide_eq_true (by first | (with_reducible assumption) | assumption); obtain ⟨ad199, e199, hx199_0, hx199_1⟩ := at_T40 (Kd.R_reads' HO_10.out).2.2 x85_3 p199 q199; cases e199; replace p199 := eq_true p199; replace q199 := eq_true q199; have hcz51_0 : w49.cell? ⟨gb195, 0, none⟩ = some (.string ((rd_T40 t186 x85_3).f0)) := (blk_cell BK195.out 0).trans rfl; have hcz51_1 : w49.cell? ⟨gb195, 1, none⟩ = some (.int .u8 ((rd_T40 t186 x85_3).f1)) := (blk_cell BK195.out 1).trans rfl; have hfz51_0 := blk_frozen BK195.out 0; have hfz51_1 := blk_frozen BK195.out 1))
                                      repeat (go_quiet (first | ((with_reducible refine gate_dst (N := 12) rfl ?_); (try (refine gate_guard (by rfl) ?_; dsimp only)); refine box_event ?hg (N := 12) ?hd (cs := #[.string (⟨#[]⟩ : ByteArray), .int .u8 0]) (t := 40) ?hr ?_; (case hd => rfl); (case hg => rfl); (case hr => first | (go_simp; done) | (go_simp; rfl)); intro gb195 hg w47 hbox hb; have n0_ := Aside0.mk (Kd.R_below (Kd.R_elderB (by (with_reducible repeat (first | apply Kd.R_alloc | apply Kd.R_drewN | apply Kd.R_drew)); exact HO_10.out) gb195 (Nat.le_of_eq hg.symm)) hb); have n1_ := Aside0.mk (Kd.R_below (Kd.R_elderB (by (with_reducible repeat (first | apply Kd.R_alloc | apply Kd.R_drewN | apply Kd.R_drew)); exact HO_83.out) gb195 (Nat.le_of_eq hg.symm)) hb); have n2_ := Aside0.mk (below_step (by repeat (first | (with_reducible first | exact HB.out | apply below_alloc | apply pw_below_drewN | apply below_drew1) | exact HB.out)) hb); have n3_ := Aside0.mk (hbox); have n4_ := Aside0.mk ((by rw [hg]; exact (below_size (by repeat (first | (with_reducible first | exact HB.out | apply below_alloc | apply pw_below_drewN | apply below_drew1) | exact HB.out))) : w.heap.size ≤ gb195)); have n5_ := Aside0.mk ((by rw [hg]; exact (below_size (by repeat (first | (with_reducible first | exact HB.out | apply below_alloc | apply pw_below_drewN | apply below_drew1) | exact HB.out))) : w.heap.size ≤ gb195)); clear HO_10; clear HO_83; clear HB; have HO_10 := n0_; have HO_83 := n1_; have HB := n2_; have BK195 := n3_; have GW195 := n4_; have GE195 := n5_; clear n0_ n1_ n2_ n3_ n4_ n5_; clear hb hbox hg; have hcz48_0 : w47.cell? ⟨gb195, 0, none⟩ = some (.string (⟨#[]⟩ : ByteArray)) := (blk_cell BK195.out 0).trans rfl; have hcz48_1 : w47.cell? ⟨gb195, 1, none⟩ = some (.int .u8 0) := (blk_cell BK195.out 1).trans rfl; have hfz48_0 := blk_frozen BK195.out 0; have hfz48_1 := blk_frozen BK195.out 1) | (go_at_call 19; (with_reducible refine (types_Find.calls k3 _ _ l0 (wrap64 (Int.tmod a2 (IntKind.u64.wrap ((l0.length : Int))))) ((rd_T40 t186 x85_3).f0) t196 t197 true _ ?side1 ?side2 A36.out).mono ?_); (case side1 => exact Kd.C_below HR0.out (by repeat (first | (with_reducible first | exact HB.out | apply below_alloc | apply pw_below_drewN | apply below_drew1 | refine below_set ?_ GE195.out) | exact HB.out))); (case side2 => exact HC0.out); rintro e w49 ⟨rfl, hb⟩; have n0_ := Aside0.mk (Kd.R_below (by (with_reducible repeat (first | apply Kd.R_alloc | apply Kd.R_drewN | apply Kd.R_drew)); exact (Kd.R_mono (Kd.R_far (p := ⟨gb195, 1, none⟩) (Kd.R_far (p := ⟨gb195, 0, none⟩) (Kd.R_mono HO_10.out (fun k_ hk => (⟨hk, hk.2⟩ : _ ∧ k_ ≠ gb195))) (fun _ hk => hk.2) (.string ((rd_T40 t186 x85_3).f0))) (fun _ hk => hk.2) (.int .u8 ((rd_T40 t186 x85_3).f1))) (fun _ h_ => h_.1))) hb); have n1_ := Aside0.mk (Kd.R_below (by (with_reducible repeat (first | apply Kd.R_alloc | apply Kd.R_drewN | apply Kd.R_drew)); exact (Kd.R_mono (Kd.R_far (p := ⟨gb195, 1, none⟩) (Kd.R_far (p := ⟨gb195, 0, none⟩) (Kd.R_mono HO_83.out (fun k_ hk => (⟨hk, hk.2⟩ : _ ∧ k_ ≠ gb195))) (fun _ hk => hk.2) (.string ((rd_T40 t186 x85_3).f0))) (fun _ hk => hk.2) (.int .u8 ((rd_T40 t186 x85_3).f1))) (fun _ h_ => h_.1))) hb); have n2_ := Aside0.mk (blk_below (g := gb195) (o := .cells #[.string ((rd_T40 t186 x85_3).f0), .int .u8 ((rd_T40 t186 x85_3).f1)] 40 (0, 0)) (by (with_reducible repeat (first | refine blk_drewN ?_ _ | refine blk_drew ?_ | refine blk_alloc ?_ _)); refine blk_put (cs := #[.string ((rd_T40 t186 x85_3).f0), .int .u8 0]) ?_ 1 _ rfl; (with_reducible repeat (first | refine blk_drewN ?_ _ | refine blk_drew ?_ | refine blk_alloc ?_ _)); refine blk_put (cs := #[.string (⟨#[]⟩ : ByteArray), .int .u8 0]) ?_ 0 _ rfl; (with_reducible repeat (first | refine blk_drewN ?_ _ | refine blk_drew ?_ | refine blk_alloc ?_ _)); exact BK195.out) hb); have n3_ := Aside0.mk (below_step (by repeat (first | (with_reducible first | exact HB.out | apply below_alloc | apply pw_below_drewN | apply below_drew1 | refine below_set ?_ GE195.out) | exact HB.out)) hb); clear HO_10; clear HO_83; clear BK195; clear HB; have HO_10 := n0_; have HO_83 := n1_; have BK195 := n2_; have HB := n3_; clear n0_ n1_ n2_ n3_; (try clear hb); (try clear hb2); (try clear hk); (try clear hi); obtain ⟨Ao50, co50, eo50⟩ := Kd.R_slice HO_10.out; subst eo50; have p199 : 0 ≤ (x85_3 : Int) := of_decide_eq_true (by first | (with_reducible assumption) | assumption); have q199 : x85_3 < (t189.length : Int) := of_decide_eq_true (by first | (with_reducible assumption) | assumption); obtain ⟨ad199, e199, hx199_0, hx199_1⟩ := at_T40 (Kd.R_reads' HO_10.out).2.2 x85_3 p199 q199; cases e199; replace p199 := eq_true p199; replace q199 := eq_true q199; have hcz51_0 : w49.cell? ⟨gb195, 0, none⟩ = some (.string ((rd_T40 t186 x85_3).f0)) := (blk_cell BK195.out 0).trans rfl; have hcz51_1 : w49.cell? ⟨gb195, 1, none⟩ = some (.int .u8 ((rd_T40 t186 x85_3).f1)) := (blk_cell BK195.out 1).trans rfl; have hfz51_0 := blk_frozen BK195.out 0; have hfz51_1 := blk_frozen BK195.out 1)); try go_wp2_with (first | ((with_reducible refine gate_dst (N := 12) rfl ?_); (try (refine gate_guard (by rfl) ?_; dsimp only)); refine box_event ?hg (N := 12) ?hd (cs := #[.string (⟨#[]⟩ : ByteArray), .int .u8 0]) (t := 40) ?hr ?_; (case hd => rfl); (case hg => rfl); (case hr => first | (go_simp; done) | (go_simp; rfl)); intro gb195 hg w47 hbox hb; have n0_ := Aside0.mk (Kd.R_below (Kd.R_elderB (by (with_reducible repeat (first | apply Kd.R_alloc | apply Kd.R_drewN | apply Kd.R_drew)); exact HO_10.out) gb195 (Nat.le_of_eq hg.symm)) hb); have n1_ := Aside0.mk (Kd.R_below (Kd.R_elderB (by (with_reducible repeat (first | apply Kd.R_alloc | apply Kd.R_drewN | apply Kd.R_drew)); exact HO_83.out) gb195 (Nat.le_of_eq hg.symm)) hb); have n2_ := Aside0.mk (below_step (by repeat (first | (with_reducible first | exact HB.out | apply below_alloc | apply pw_below_drewN | apply below_drew1) | exact HB.out)) hb); have n3_ := Aside0.mk (hbox); have n4_ := Aside0.mk ((by rw [hg]; exact (below_size (by repeat (first | (with_reducible first | exact HB.out | apply below_alloc | apply pw_below_drewN | apply below_drew1) | exact HB.out))) : w.heap.size ≤ gb195)); have n5_ := Aside0.mk ((by rw [hg]; exact (below_size (by repeat (first | (with_reducible first | exact HB.out | apply below_alloc | apply pw_below_drewN | apply below_drew1) | exact HB.out))) : w.heap.size ≤ gb195)); clear HO_10; clear HO_83; clear HB; have HO_10 := n0_; have HO_83 := n1_; have HB := n2_; have BK195 := n3_; have GW195 := n4_; have GE195 := n5_; clear n0_ n1_ n2_ n3_ n4_ n5_; clear hb hbox hg; have hcz48_0 : w47.cell? ⟨gb195, 0, none⟩ = some (.string (⟨#[]⟩ : ByteArray)) := (blk_cell BK195.out 0).trans rfl; have hcz48_1 : w47.cell? ⟨gb195, 1, none⟩ = some (.int .u8 0) := (blk_cell BK195.out 1).trans rfl; have hfz48_0 := blk_frozen BK195.out 0; have hfz48_1 := blk_frozen BK195.out 1) | (go_at_call 19; (with_reducible refine (types_Find.calls k3 _ _ l0 (wrap64 (Int.tmod a2 (IntKind.u64.wrap ((l0.length : Int))))) ((rd_T40 t186 x85_3).f0) t196 t197 true _ ?side1 ?side2 A36.out).mono ?_); (case side1 => exact Kd.C_below HR0.out (by repeat (first | (with_reducible first | exact HB.out | apply below_alloc | apply pw_below_drewN | apply below_drew1 | refine below_set ?_ GE195.out) | exact HB.out))); (case side2 => exact HC0.out); rintro e w49 ⟨rfl, hb⟩; have n0_ := Aside0.mk (Kd.R_below (by (with_reducible repeat (first | apply Kd.R_alloc | apply Kd.R_drewN | apply Kd.R_drew)); exact (Kd.R_mono (Kd.R_far (p := ⟨gb195, 1, none⟩) (Kd.R_far (p := ⟨gb195, 0, none⟩) (Kd.R_mono HO_10.out (fun k_ hk => (⟨hk, hk.2⟩ : _ ∧ k_ ≠ gb195))) (fun _ hk => hk.2) (.string ((rd_T40 t186 x85_3).f0))) (fun _ hk => hk.2) (.int .u8 ((rd_T40 t186 x85_3).f1))) (fun _ h_ => h_.1))) hb); have n1_ := Aside0.mk (Kd.R_below (by (with_reducible repeat (first | apply Kd.R_alloc | apply Kd.R_drewN | apply Kd.R_drew)); exact (Kd.R_mono (Kd.R_far (p := ⟨gb195, 1, none⟩) (Kd.R_far (p := ⟨gb195, 0, none⟩) (Kd.R_mono HO_83.out (fun k_ hk => (⟨hk, hk.2⟩ : _ ∧ k_ ≠ gb195))) (fun _ hk => hk.2) (.string ((rd_T40 t186 x85_3).f0))) (fun _ hk => hk.2) (.int .u8 ((rd_T40 t186 x85_3).f1))) (fun _ h_ => h_.1))) hb); have n2_ := Aside0.mk (blk_below (g := gb195) (o := .cells #[.string ((rd_T40 t186 x85_3).f0), .int .u8 ((rd_T40 t186 x85_3).f1)] 40 (0, 0)) (by (with_reducible repeat (first | refine blk_drewN ?_ _ | refine blk_drew ?_ | refine blk_alloc ?_ _)); refine blk_put (cs := #[.string ((rd_T40 t186 x85_3).f0), .int .u8 0]) ?_ 1 _ rfl; (with_reducible repeat (first | refine blk_drewN ?_ _ | refine blk_drew ?_ | refine blk_alloc ?_ _)); refine blk_put (cs := #[.string (⟨#[]⟩ : ByteArray), .int .u8 0]) ?_ 0 _ rfl; (with_reducible repeat (first | refine blk_drewN ?_ _ | refine blk_drew ?_ | refine blk_alloc ?_ _)); exact BK195.out) hb); have n3_ := Aside0.mk (below_step (by repeat (first | (with_reducible first | exact HB.out | apply below_alloc | apply pw_below_drewN | apply below_drew1 | refine below_set ?_ GE195.out) | exact HB.out)) hb); clear HO_10; clear HO_83; clear BK195; clear HB; have HO_10 := n0_; have HO_83 := n1_; have BK195 := n2_; have HB := n3_; clear n0_ n1_ n2_ n3_; (try clear hb); (try clear hb2); (try clear hk); (try clear hi); obtain ⟨Ao50, co50, eo50⟩ := Kd.R_slice HO_10.out; subst eo50; have p199 : 0 ≤ (x85_3 : Int) := of_decide_eq_true (by first | (with_reducible assumption) | assumption); have q199 : x85_3 < (t189.length : Int) := of_decide_eq_true (by first | (with_reducible assumption) | assumption); obtain ⟨ad199, e199, hx199_0, hx199_1⟩ := at_T40 (Kd.R_reads' HO_10.out).2.2 x85_3 p199 q199; cases e199; replace p199 := eq_true p199; replace q199 := eq_true q199; have hcz51_0 : w49.cell? ⟨gb195, 0, none⟩ = some (.string ((rd_T40 t186 x85_3).f0)) := (blk_cell BK195.out 0).trans rfl; have hcz51_1 : w49.cell? ⟨gb195, 1, none⟩ = some (.int .u8 ((rd_T40 t186 x85_3).f1)) := (blk_cell BK195.out 1).trans rfl; have hfz51_0 := blk_frozen BK195.out 0; have hfz51_1 := blk_frozen BK195.out 1)))
                                      go_roundg k3
                                      case measure => have := HJ3.out; have := HJ14.out; have := HK3.out; omega
                                      case rel => exact ⟨(wrap64 (x85_3 + 1)), (by first | rfl | (simp; done) | (simp [*]; done)), H', ⟨by have := HJ3.out; have := HJ14.out; have := HK3.out; omega⟩, ⟨by (with_reducible repeat (first | apply Kd.R_alloc | apply Kd.R_drewN | apply Kd.R_drew)); exact Kd.R_mono HO_10.out (fun _ hk => hk.1)⟩, ⟨by (with_reducible repeat (first | apply Kd.R_alloc | apply Kd.R_drewN | apply Kd.R_drew)); exact Kd.R_mono HO_83.out (fun _ hk => hk.1)⟩, ⟨by repeat (first | (with_reducible first | exact HB.out | apply below_alloc | apply pw_below_drewN | apply below_drew1 | refine below_set ?_ GE195.out) | exact HB.out)⟩⟩
                                    · replace c46 := Bool.eq_false_iff.mpr c46
                                      subst c46
                                      have H1 : (some false) = some r := by rw [if_neg (show ¬ (false = true) by decide)] at H; exact H
                                      clear H
                                      have H := H1
                                      clear H1
                                      obtain rfl := Option.some.inj H
                                      have p194 : 0 ≤ (x85_3 : Int) := of_decide_eq_true (by first | (with_reducible assumption) | assumption)
                                      have q194 : x85_3 < (t186.length : Int) := of_decide_eq_true (by first | (with_reducible assumption) | assumption)
                                      obtain ⟨ad194, e194, hx194_0, hx194_1⟩ := at_T40 (Kd.R_reads' HO_83.out).2.2 x85_3 p194 q194
                                      cases e194
                                      replace p194 := eq_true p194
                                      replace q194 := eq_true q194
                                      go_wp2_with (first | ((with_reducible refine gate_dst (N := 12) rfl ?_); (try (refine gate_guard (by rfl) ?_; dsimp only)); refine box_event ?hg (N := 12) ?hd (cs := #[.string (⟨#[]⟩ : ByteArray), .int .u8 0]) (t := 40) ?hr ?_; (case hd => rfl); (case hg => rfl); (case hr => first | (go_simp; done) | (go_simp; rfl)); intro gb195 hg w52 hbox hb; have n0_ := Aside0.mk (Kd.R_below (Kd.R_elderB (by (with_reducible repeat (first | apply Kd.R_alloc | apply Kd.R_drewN | apply Kd.R_drew)); exact HO_10.out) gb195 (Nat.le_of_eq hg.symm)) hb); have n1_ := Aside0.mk (Kd.R_below (Kd.R_elderB (by (with_reducible repeat (first | apply Kd.R_alloc | apply Kd.R_drewN | apply Kd.R_drew)); exact HO_83.out) gb195 (Nat.le_of_eq hg.symm)) hb); have n2_ := Aside0.mk (below_step (by repeat (first | (with_reducible first | exact HB.out | apply below_alloc | apply pw_below_drewN | apply below_drew1) | exact HB.out)) hb); have n3_ := Aside0.mk (hbox); have n4_ := Aside0.mk ((by rw [hg]; exact (below_size (by repeat (first | (with_reducible first | exact HB.out | apply below_alloc | apply pw_below_drewN | apply below_drew1) | exact HB.out))) : w.heap.size ≤ gb195)); have n5_ := Aside0.mk ((by rw [hg]; exact (below_size (by repeat (first | (with_reducible first | exact HB.out | apply below_alloc | apply pw_below_drewN | apply below_drew1) | exact HB.out))) : w.heap.size ≤ gb195)); clear HO_10; clear HO_83; clear HB; have HO_10 := n0_; have HO_83 := n1_; have HB := n2_; have BK195 := n3_; have GW195 := n4_; have GE195 := n5_; clear n0_ n1_ n2_ n3_ n4_ n5_; clear hb hbox hg; have hcz53_0 : w52.cell? ⟨gb195, 0, none⟩ = some (.string (⟨#[]⟩ : ByteArray)) := (blk_cell BK195.out 0).trans rfl; have hcz53_1 : w52.cell? ⟨gb195, 1, none⟩ = some (.int .u8 0) := (blk_cell BK195.out 1).trans rfl; have hfz53_0 := blk_frozen BK195.out 0; have hfz53_1 := blk_frozen BK195.out 1) | (go_at_call 19; (with_reducible refine (types_Find.calls k3 _ _ l0 (wrap64 (Int.tmod a2 (IntKind.u64.wrap ((l0.length : Int))))) ((rd_T40 t186 x85_3).f0) t196 t197 false _ ?side1 ?side2 A36.out).mono ?_); (case side1 => exact Kd.C_below HR0.out (by repeat (first | (with_reducible first | exact HB.out | apply below_alloc | apply pw_below_drewN | apply below_drew1 | refine below_set ?_ GE195.out) | exact HB.out))); (case side2 => exact HC0.out); rintro e w54 ⟨rfl, hb⟩; have n0_ := Aside0.mk (Kd.R_below (by (with_reducible repeat (first | apply Kd.R_alloc | apply Kd.R_drewN | apply Kd.R_drew)); exact (Kd.R_mono (Kd.R_far (p := ⟨gb195, 1, none⟩) (Kd.R_far (p := ⟨gb195, 0, none⟩) (Kd.R_mono HO_10.out (fun k_ hk => (⟨hk, hk.2⟩ : _ ∧ k_ ≠ gb195))) (fun _ hk => hk.2) (.string ((rd_T40 t186 x85_3).f0))) (fun _ hk => hk.2) (.int .u8 ((rd_T40 t186 x85_3).f1))) (fun _ h_ => h_.1))) hb); have n1_ := Aside0.mk (Kd.R_below (by (with_reducible repeat (first | apply Kd.R_alloc | apply Kd.R_drewN | apply Kd.R_drew)); exact (Kd.R_mono (Kd.R_far (p := ⟨gb195, 1, none⟩) (Kd.R_far (p := ⟨gb195, 0, none⟩) (Kd.R_mono HO_83.out (fun k_ hk => (⟨hk, hk.2⟩ : _ ∧ k_ ≠ gb195))) (fun _ hk => hk.2) (.string ((rd_T40 t186 x85_3).f0))) (fun _ hk => hk.2) (.int .u8 ((rd_T40 t186 x85_3).f1))) (fun _ h_ => h_.1))) hb); have n2_ := Aside0.mk (blk_below (g := gb195) (o := .cells #[.string ((rd_T40 t186 x85_3).f0), .int .u8 ((rd_T40 t186 x85_3).f1)] 40 (0, 0)) (by (with_reducible repeat (first | refine blk_drewN ?_ _ | refine blk_drew ?_ | refine blk_alloc ?_ _)); refine blk_put (cs := #[.string ((rd_T40 t186 x85_3).f0), .int .u8 0]) ?_ 1 _ rfl; (with_reducible repeat (first | refine blk_drewN ?_ _ | refine blk_drew ?_ | refine blk_alloc ?_ _)); refine blk_put (cs := #[.string (⟨#[]⟩ : ByteArray), .int .u8 0]) ?_ 0 _ rfl; (with_reducible repeat (first | refine blk_drewN ?_ _ | refine blk_drew ?_ | refine blk_alloc ?_ _)); exact BK195.out) hb); have n3_ := Aside0.mk (below_step (by repeat (first | (with_reducible first | exact HB.out | apply below_alloc | apply pw_below_drewN | apply below_drew1 | refine below_set ?_ GE195.out) | exact HB.out)) hb); clear HO_10; clear HO_83; clear BK195; clear HB; have HO_10 := n0_; have HO_83 := n1_; have BK195 := n2_; have HB := n3_; clear n0_ n1_ n2_ n3_; (try clear hb); (try clear hb2); (try clear hk); (try clear hi); obtain ⟨Ao55, co55, eo55⟩ := Kd.R_slice HO_10.out; subst eo55; have p199 : 0 ≤ (x85_3 : Int) := of_decide_eq_true (by first | (with_reducible assumption) | assumption); have q199 : x85_3 < (t189.length : Int) := of_decide_eq_true (by first | (with_reducible assumption) | assumption); obtain ⟨ad199, e199, hx199_0, hx199_1⟩ := at_T40 (Kd.R_reads' HO_10.out).2.2 x85_3 p199 q199; cases e199; replace p199 := eq_true p199; replace q199 := eq_true q199; have hcz56_0 : w54.cell? ⟨gb195, 0, none⟩ = some (.string ((rd_T40 t186 x85_3).f0)) := (blk_cell BK195.out 0).trans rfl; have hcz56_1 : w54.cell? ⟨gb195, 1, none⟩ = some (.int .u8 ((rd_T40 t186 x85_3).f1)) := (blk_cell BK195.out 1).trans rfl; have hfz56_0 := blk_frozen BK195.out 0; have hfz56_1 := blk_frozen BK195.out 1))
                                      repeat (go_quiet (first | ((with_reducible refine gate_dst (N := 12) rfl ?_); (try (refine gate_guard (by rfl) ?_; dsimp only)); refine box_event ?hg (N := 12) ?hd (cs := #[.string (⟨#[]⟩ : ByteArray), .int .u8 0]) (t := 40) ?hr ?_; (case hd => rfl); (case hg => rfl); (case hr => first | (go_simp; done) | (go_simp; rfl)); intro gb195 hg w52 hbox hb; have n0_ := Aside0.mk (Kd.R_below (Kd.R_elderB (by (with_reducible repeat (first | apply Kd.R_alloc | apply Kd.R_drewN | apply Kd.R_drew)); exact HO_10.out) gb195 (Nat.le_of_eq hg.symm)) hb); have n1_ := Aside0.mk (Kd.R_below (Kd.R_elderB (by (with_reducible repeat (first | apply Kd.R_alloc | apply Kd.R_drewN | apply Kd.R_drew)); exact HO_83.out) gb195 (Nat.le_of_eq hg.symm)) hb); have n2_ := Aside0.mk (below_step (by repeat (first | (with_reducible first | exact HB.out | apply below_alloc | apply pw_below_drewN | apply below_drew1) | exact HB.out)) hb); have n3_ := Aside0.mk (hbox); have n4_ := Aside0.mk ((by rw [hg]; exact (below_size (by repeat (first | (with_reducible first | exact HB.out | apply below_alloc | apply pw_below_drewN | apply below_drew1) | exact HB.out))) : w.heap.size ≤ gb195)); have n5_ := Aside0.mk ((by rw [hg]; exact (below_size (by repeat (first | (with_reducible first | exact HB.out | apply below_alloc | apply pw_below_drewN | apply below_drew1) | exact HB.out))) : w.heap.size ≤ gb195)); clear HO_10; clear HO_83; clear HB; have HO_10 := n0_; have HO_83 := n1_; have HB := n2_; have BK195 := n3_; have GW195 := n4_; have GE195 := n5_; clear n0_ n1_ n2_ n3_ n4_ n5_; clear hb hbox hg; have hcz53_0 : w52.cell? ⟨gb195, 0, none⟩ = some (.string (⟨#[]⟩ : ByteArray)) := (blk_cell BK195.out 0).trans rfl; have hcz53_1 : w52.cell? ⟨gb195, 1, none⟩ = some (.int .u8 0) := (blk_cell BK195.out 1).trans rfl; have hfz53_0 := blk_frozen BK195.out 0; have hfz53_1 := blk_frozen BK195.out 1) | (go_at_call 19; (with_reducible refine (types_Find.calls k3 _ _ l0 (wrap64 (Int.tmod a2 (IntKind.u64.wrap ((l0.length : Int))))) ((rd_T40 t186 x85_3).f0) t196 t197 false _ ?side1 ?side2 A36.out).mono ?_); (case side1 => exact Kd.C_below HR0.out (by repeat (first | (with_reducible first | exact HB.out | apply below_alloc | apply pw_below_drewN | apply below_drew1 | refine below_set ?_ GE195.out) | exact HB.out))); (case side2 => exact HC0.out); rintro e w54 ⟨rfl, hb⟩; have n0_ := Aside0.mk (Kd.R_below (by (with_reducible repeat (first | apply Kd.R_alloc | apply Kd.R_drewN | apply Kd.R_drew)); exact (Kd.R_mono (Kd.R_far (p := ⟨gb195, 1, none⟩) (Kd.R_far (p := ⟨gb195, 0, none⟩) (Kd.R_mono HO_10.out (fun k_ hk => (⟨hk, hk.2⟩ : _ ∧ k_ ≠ gb195))) (fun _ hk => hk.2) (.string ((rd_T40 t186 x85_3).f0))) (fun _ hk => hk.2) (.int .u8 ((rd_T40 t186 x85_3).f1))) (fun _ h_ => h_.1))) hb); have n1_ := Aside0.mk (Kd.R_below (by (with_reducible repeat (first | apply Kd.R_alloc | apply Kd.R_drewN | apply Kd.R_drew)); exact (Kd.R_mono (Kd.R_far (p := ⟨gb195, 1, none⟩) (Kd.R_far (p := ⟨gb195, 0, none⟩) (Kd.R_mono HO_83.out (fun k_ hk => (⟨hk, hk.2⟩ : _ ∧ k_ ≠ gb195))) (fun _ hk => hk.2) (.string ((rd_T40 t186 x85_3).f0))) (fun _ hk => hk.2) (.int .u8 ((rd_T40 t186 x85_3).f1))) (fun _ h_ => h_.1))) hb); have n2_ := Aside0.mk (blk_below (g := gb195) (o := .cells #[.string ((rd_T40 t186 x85_3).f0), .int .u8 ((rd_T40 t186 x85_3).f1)] 40 (0, 0)) (by (with_reducible repeat (first | refine blk_drewN ?_ _ | refine blk_drew ?_ | refine blk_alloc ?_ _)); refine blk_put (cs := #[.string ((rd_T40 t186 x85_3).f0), .int .u8 0]) ?_ 1 _ rfl; (with_reducible repeat (first | refine blk_drewN ?_ _ | refine blk_drew ?_ | refine blk_alloc ?_ _)); refine blk_put (cs := #[.string (⟨#[]⟩ : ByteArray), .int .u8 0]) ?_ 0 _ rfl; (with_reducible repeat (first | refine blk_drewN ?_ _ | refine blk_drew ?_ | refine blk_alloc ?_ _)); exact BK195.out) hb); have n3_ := Aside0.mk (below_step (by repeat (first | (with_reducible first | exact HB.out | apply below_alloc | apply pw_below_drewN | apply below_drew1 | refine below_set ?_ GE195.out) | exact HB.out)) hb); clear HO_10; clear HO_83; clear BK195; clear HB; have HO_10 := n0_; have HO_83 := n1_; have BK195 := n2_; have HB := n3_; clear n0_ n1_ n2_ n3_; (try clear hb); (try clear hb2); (try clear hk); (try clear hi); obtain ⟨Ao55, co55, eo55⟩ := Kd.R_slice HO_10.out; subst eo55; have p199 : 0 ≤ (x85_3 : Int) := of_decide_eq_true (by first | (with_reducible assumption) | assumption); have q199 : x85_3 < (t189.length : Int) := of_decide_eq_true (by first | (with_reducible assumption) | assumption); obtain ⟨ad199, e199, hx199_0, hx199_1⟩ := at_T40 (Kd.R_reads' HO_10.out).2.2 x85_3 p199 q199; cases e199; replace p199 := eq_true p199; replace q199 := eq_true q199; have hcz56_0 : w54.cell? ⟨gb195, 0, none⟩ = some (.string ((rd_T40 t186 x85_3).f0)) := (blk_cell BK195.out 0).trans rfl; have hcz56_1 : w54.cell? ⟨gb195, 1, none⟩ = some (.int .u8 ((rd_T40 t186 x85_3).f1)) := (blk_cell BK195.out 1).trans rfl; have hfz56_0 := blk_frozen BK195.out 0; have hfz56_1 := blk_frozen BK195.out 1)); try go_wp2_with (first | ((with_reducible refine gate_dst (N := 12) rfl ?_); (try (refine gate_guard (by rfl) ?_; dsimp only)); refine box_event ?hg (N := 12) ?hd (cs := #[.string (⟨#[]⟩ : ByteArray), .int .u8 0]) (t := 40) ?hr ?_; (case hd => rfl); (case hg => rfl); (case hr => first | (go_simp; done) | (go_simp; rfl)); intro gb195 hg w52 hbox hb; have n0_ := Aside0.mk (Kd.R_below (Kd.R_elderB (by (with_reducible repeat (first | apply Kd.R_alloc | apply Kd.R_drewN | apply Kd.R_drew)); exact HO_10.out) gb195 (Nat.le_of_eq hg.symm)) hb); have n1_ := Aside0.mk (Kd.R_below (Kd.R_elderB (by (with_reducible repeat (first | apply Kd.R_alloc | apply Kd.R_drewN | apply Kd.R_drew)); exact HO_83.out) gb195 (Nat.le_of_eq hg.symm)) hb); have n2_ := Aside0.mk (below_step (by repeat (first | (with_reducible first | exact HB.out | apply below_alloc | apply pw_below_drewN | apply below_drew1) | exact HB.out)) hb); have n3_ := Aside0.mk (hbox); have n4_ := Aside0.mk ((by rw [hg]; exact (below_size (by repeat (first | (with_reducible first | exact HB.out | apply below_alloc | apply pw_below_drewN | apply below_drew1) | exact HB.out))) : w.heap.size ≤ gb195)); have n5_ := Aside0.mk ((by rw [hg]; exact (below_size (by repeat (first | (with_reducible first | exact HB.out | apply below_alloc | apply pw_below_drewN | apply below_drew1) | exact HB.out))) : w.heap.size ≤ gb195)); clear HO_10; clear HO_83; clear HB; have HO_10 := n0_; have HO_83 := n1_; have HB := n2_; have BK195 := n3_; have GW195 := n4_; have GE195 := n5_; clear n0_ n1_ n2_ n3_ n4_ n5_; clear hb hbox hg; have hcz53_0 : w52.cell? ⟨gb195, 0, none⟩ = some (.string (⟨#[]⟩ : ByteArray)) := (blk_cell BK195.out 0).trans rfl; have hcz53_1 : w52.cell? ⟨gb195, 1, none⟩ = some (.int .u8 0) := (blk_cell BK195.out 1).trans rfl; have hfz53_0 := blk_frozen BK195.out 0; have hfz53_1 := blk_frozen BK195.out 1) | (go_at_call 19; (with_reducible refine (types_Find.calls k3 _ _ l0 (wrap64 (Int.tmod a2 (IntKind.u64.wrap ((l0.length : Int))))) ((rd_T40 t186 x85_3).f0) t196 t197 false _ ?side1 ?side2 A36.out).mono ?_); (case side1 => exact Kd.C_below HR0.out (by repeat (first | (with_reducible first | exact HB.out | apply below_alloc | apply pw_below_drewN | apply below_drew1 | refine below_set ?_ GE195.out) | exact HB.out))); (case side2 => exact HC0.out); rintro e w54 ⟨rfl, hb⟩; have n0_ := Aside0.mk (Kd.R_below (by (with_reducible repeat (first | apply Kd.R_alloc | apply Kd.R_drewN | apply Kd.R_drew)); exact (Kd.R_mono (Kd.R_far (p := ⟨gb195, 1, none⟩) (Kd.R_far (p := ⟨gb195, 0, none⟩) (Kd.R_mono HO_10.out (fun k_ hk => (⟨hk, hk.2⟩ : _ ∧ k_ ≠ gb195))) (fun _ hk => hk.2) (.string ((rd_T40 t186 x85_3).f0))) (fun _ hk => hk.2) (.int .u8 ((rd_T40 t186 x85_3).f1))) (fun _ h_ => h_.1))) hb); have n1_ := Aside0.mk (Kd.R_below (by (with_reducible repeat (first | apply Kd.R_alloc | apply Kd.R_drewN | apply Kd.R_drew)); exact (Kd.R_mono (Kd.R_far (p := ⟨gb195, 1, none⟩) (Kd.R_far (p := ⟨gb195, 0, none⟩) (Kd.R_mono HO_83.out (fun k_ hk => (⟨hk, hk.2⟩ : _ ∧ k_ ≠ gb195))) (fun _ hk => hk.2) (.string ((rd_T40 t186 x85_3).f0))) (fun _ hk => hk.2) (.int .u8 ((rd_T40 t186 x85_3).f1))) (fun _ h_ => h_.1))) hb); have n2_ := Aside0.mk (blk_below (g := gb195) (o := .cells #[.string ((rd_T40 t186 x85_3).f0), .int .u8 ((rd_T40 t186 x85_3).f1)] 40 (0, 0)) (by (with_reducible repeat (first | refine blk_drewN ?_ _ | refine blk_drew ?_ | refine blk_alloc ?_ _)); refine blk_put (cs := #[.string ((rd_T40 t186 x85_3).f0), .int .u8 0]) ?_ 1 _ rfl; (with_reducible repeat (first | refine blk_drewN ?_ _ | refine blk_drew ?_ | refine blk_alloc ?_ _)); refine blk_put (cs := #[.string (⟨#[]⟩ : ByteArray), .int .u8 0]) ?_ 0 _ rfl; (with_reducible repeat (first | refine blk_drewN ?_ _ | refine blk_drew ?_ | refine blk_alloc ?_ _)); exact BK195.out) hb); have n3_ := Aside0.mk (below_step (by repeat (first | (with_reducible first | exact HB.out | apply below_alloc | apply pw_below_drewN | apply below_drew1 | refine below_set ?_ GE195.out) | exact HB.out)) hb); clear HO_10; clear HO_83; clear BK195; clear HB; have HO_10 := n0_; have HO_83 := n1_; have BK195 := n2_; have HB := n3_; clear n0_ n1_ n2_ n3_; (try clear hb); (try clear hb2); (try clear hk); (try clear hi); obtain ⟨Ao55, co55, eo55⟩ := Kd.R_slice HO_10.out; subst eo55; have p199 : 0 ≤ (x85_3 : Int) := of_decide_eq_true (by first | (with_reducible assumption) | assumption); have q199 : x85_3 < (t189.length : Int) := of_decide_eq_true (by first | (with_reducible assumption) | assumption); obtain ⟨ad199, e199, hx199_0, hx199_1⟩ := at_T40 (Kd.R_reads' HO_10.out).2.2 x85_3 p199 q199; cases e199; replace p199 := eq_true p199; replace q199 := eq_true q199; have hcz56_0 : w54.cell? ⟨gb195, 0, none⟩ = some (.string ((rd_T40 t186 x85_3).f0)) := (blk_cell BK195.out 0).trans rfl; have hcz56_1 : w54.cell? ⟨gb195, 1, none⟩ = some (.int .u8 ((rd_T40 t186 x85_3).f1)) := (blk_cell BK195.out 1).trans rfl; have hfz56_0 := blk_frozen BK195.out 0; have hfz56_1 := blk_frozen BK195.out 1)))
                                      go_ret
                                      exact ⟨by first | rfl | (simp [errW_none, errW_some] <;> rfl) | (simp [*, errW_none, errW_some] <;> rfl), by repeat (first | (with_reducible first | exact HB.out | apply below_alloc | apply pw_below_drewN | apply below_drew1 | refine below_set ?_ GE195.out) | exact HB.out)⟩
                                  · rw [if_neg c45] at H
                                    have c45b0 : (t197 == ((rd_T40 t186 x85_3).f1)) = false := beq_eq_false_iff_ne.mpr c45
                                    have c45b1 : (t197 != ((rd_T40 t186 x85_3).f1)) = true := bne_iff_ne.mpr c45
                                    obtain rfl := Option.some.inj H
                                    have p194 : 0 ≤ (x85_3 : Int) := of_decide_eq_true (by first | (with_reducible assumption) | assumption)
                                    have q194 : x85_3 < (t186.length : Int) := of_decide_eq_true (by first | (with_reducible assumption) | assumption)
                                    obtain ⟨ad194, e194, hx194_0, hx194_1⟩ := at_T40 (Kd.R_reads' HO_83.out).2.2 x85_3 p194 q194
                                    cases e194
                                    replace p194 := eq_true p194
                                    replace q194 := eq_true q194
                                    go_wp2_with (first | ((with_reducible refine gate_dst (N := 12) rfl ?_); (try (refine gate_guard (by rfl) ?_; dsimp only)); refine box_event ?hg (N := 12) ?hd (cs := #[.string (⟨#[]⟩ : ByteArray), .int .u8 0]) (t := 40) ?hr ?_; (case hd => rfl); (case hg => rfl); (case hr => first | (go_simp; done) | (go_simp; rfl)); intro gb195 hg w57 hbox hb; have n0_ := Aside0.mk (Kd.R_below (Kd.R_elderB (by (with_reducible repeat (first | apply Kd.R_alloc | apply Kd.R_drewN | apply Kd.R_drew)); exact HO_10.out) gb195 (Nat.le_of_eq hg.symm)) hb); have n1_ := Aside0.mk (Kd.R_below (Kd.R_elderB (by (with_reducible repeat (first | apply Kd.R_alloc | apply Kd.R_drewN | apply Kd.R_drew)); exact HO_83.out) gb195 (Nat.le_of_eq hg.symm)) hb); have n2_ := Aside0.mk (below_step (by repeat (first | (with_reducible first | exact HB.out | apply below_alloc | apply pw_below_drewN | apply below_drew1) | exact HB.out)) hb); have n3_ := Aside0.mk (hbox); have n4_ := Aside0.mk ((by rw [hg]; exact (below_size (by repeat (first | (with_reducible first | exact HB.out | apply below_alloc | apply pw_below_drewN | apply below_drew1) | exact HB.out))) : w.heap.size ≤ gb195)); have n5_ := Aside0.mk ((by rw [hg]; exact (below_size (by repeat (first | (with_reducible first | exact HB.out | apply below_alloc | apply pw_below_drewN | apply below_drew1) | exact HB.out))) : w.heap.size ≤ gb195)); clear HO_10; clear HO_83; clear HB; have HO_10 := n0_; have HO_83 := n1_; have HB := n2_; have BK195 := n3_; have GW195 := n4_; have GE195 := n5_; clear n0_ n1_ n2_ n3_ n4_ n5_; clear hb hbox hg; have hcz58_0 : w57.cell? ⟨gb195, 0, none⟩ = some (.string (⟨#[]⟩ : ByteArray)) := (blk_cell BK195.out 0).trans rfl; have hcz58_1 : w57.cell? ⟨gb195, 1, none⟩ = some (.int .u8 0) := (blk_cell BK195.out 1).trans rfl; have hfz58_0 := blk_frozen BK195.out 0; have hfz58_1 := blk_frozen BK195.out 1) | (go_at_call 19; (with_reducible refine (types_Find.calls k3 _ _ l0 (wrap64 (Int.tmod a2 (IntKind.u64.wrap ((l0.length : Int))))) ((rd_T40 t186 x85_3).f0) t196 t197 t198 _ ?side1 ?side2 A36.out).mono ?_); (case side1 => exact Kd.C_below HR0.out (by repeat (first | (with_reducible first | exact HB.out | apply below_alloc | apply pw_below_drewN | apply below_drew1 | refine below_set ?_ GE195.out) | exact HB.out))); (case side2 => exact HC0.out); rintro e w59 ⟨rfl, hb⟩; have n0_ := Aside0.mk (Kd.R_below (by (with_reducible repeat (first | apply Kd.R_alloc | apply Kd.R_drewN | apply Kd.R_drew)); exact (Kd.R_mono (Kd.R_far (p := ⟨gb195, 1, none⟩) (Kd.R_far (p := ⟨gb195, 0, none⟩) (Kd.R_mono HO_10.out (fun k_ hk => (⟨hk, hk.2⟩ : _ ∧ k_ ≠ gb195))) (fun _ hk => hk.2) (.string ((rd_T40 t186 x85_3).f0))) (fun _ hk => hk.2) (.int .u8 ((rd_T40 t186 x85_3).f1))) (fun _ h_ => h_.1))) hb); have n1_ := Aside0.mk (Kd.R_below (by (with_reducible repeat (first | apply Kd.R_alloc | apply Kd.R_drewN | apply Kd.R_drew)); exact (Kd.R_mono (Kd.R_far (p := ⟨gb195, 1, none⟩) (Kd.R_far (p := ⟨gb195, 0, none⟩) (Kd.R_mono HO_83.out (fun k_ hk => (⟨hk, hk.2⟩ : _ ∧ k_ ≠ gb195))) (fun _ hk => hk.2) (.string ((rd_T40 t186 x85_3).f0))) (fun _ hk => hk.2) (.int .u8 ((rd_T40 t186 x85_3).f1))) (fun _ h_ => h_.1))) hb); have n2_ := Aside0.mk (blk_below (g := gb195) (o := .cells #[.string ((rd_T40 t186 x85_3).f0), .int .u8 ((rd_T40 t186 x85_3).f1)] 40 (0, 0)) (by (with_reducible repeat (first | refine blk_drewN ?_ _ | refine blk_drew ?_ | refine blk_alloc ?_ _)); refine blk_put (cs := #[.string ((rd_T40 t186 x85_3).f0), .int .u8 0]) ?_ 1 _ rfl; (with_reducible repeat (first | refine blk_drewN ?_ _ | refine blk_drew ?_ | refine blk_alloc ?_ _)); refine blk_put (cs := #[.string (⟨#[]⟩ : ByteArray), .int .u8 0]) ?_ 0 _ rfl; (with_reducible repeat (first | refine blk_drewN ?_ _ | refine blk_drew ?_ | refine blk_alloc ?_ _)); exact BK195.out) hb); have n3_ := Aside0.mk (below_step (by repeat (first | (with_reducible first | exact HB.out | apply below_alloc | apply pw_below_drewN | apply below_drew1 | refine below_set ?_ GE195.out) | exact HB.out)) hb); clear HO_10; clear HO_83; clear BK195; clear HB; have HO_10 := n0_; have HO_83 := n1_; have BK195 := n2_; have HB := n3_; clear n0_ n1_ n2_ n3_; (try clear hb); (try clear hb2); (try clear hk); (try clear hi); obtain ⟨Ao60, co60, eo60⟩ := Kd.R_slice HO_10.out; subst eo60; have p199 : 0 ≤ (x85_3 : Int) := of_decide_eq_true (by first | (with_reducible assumption) | assumption); have q199 : x85_3 < (t189.length : Int) := of_decide_eq_true (by first | (with_reducible assumption) | assumption); obtain ⟨ad199, e199, hx199_0, hx199_1⟩ := at_T40 (Kd.R_reads' HO_10.out).2.2 x85_3 p199 q199; cases e199; replace p199 := eq_true p199; replace q199 := eq_true q199; have hcz61_0 : w59.cell? ⟨gb195, 0, none⟩ = some (.string ((rd_T40 t186 x85_3).f0)) := (blk_cell BK195.out 0).trans rfl; have hcz61_1 : w59.cell? ⟨gb195, 1, none⟩ = some (.int .u8 ((rd_T40 t186 x85_3).f1)) := (blk_cell BK195.out 1).trans rfl; have hfz61_0 := blk_frozen BK195.out 0; have hfz61_1 := blk_frozen BK195.out 1))
                                    repeat (go_quiet (first | ((with_reducible refine gate_dst (N := 12) rfl ?_); (try (refine gate_guard (by rfl) ?_; dsimp only)); refine box_event ?hg (N := 12) ?hd (cs := #[.string (⟨#[]⟩ : ByteArray), .int .u8 0]) (t := 40) ?hr ?_; (case hd => rfl); (case hg => rfl); (case hr => first | (go_simp; done) | (go_simp; rfl)); intro gb195 hg w57 hbox hb; have n0_ := Aside0.mk (Kd.R_below (Kd.R_elderB (by (with_reducible repeat (first | apply Kd.R_alloc | apply Kd.R_drewN | apply Kd.R_drew)); exact HO_10.out) gb195 (Nat.le_of_eq hg.symm)) hb); have n1_ := Aside0.mk (Kd.R_below (Kd.R_elderB (by (with_reducible repeat (first | apply Kd.R_alloc | apply Kd.R_drewN | apply Kd.R_drew)); exact HO_83.out) gb195 (Nat.le_of_eq hg.symm)) hb); have n2_ := Aside0.mk (below_step (by repeat (first | (with_reducible first | exact HB.out | apply below_alloc | apply pw_below_drewN | apply below_drew1) | exact HB.out)) hb); have n3_ := Aside0.mk (hbox); have n4_ := Aside0.mk ((by rw [hg]; exact (below_size (by repeat (first | (with_reducible first | exact HB.out | apply below_alloc | apply pw_below_drewN | apply below_drew1) | exact HB.out))) : w.heap.size ≤ gb195)); have n5_ := Aside0.mk ((by rw [hg]; exact (below_size (by repeat (first | (with_reducible first | exact HB.out | apply below_alloc | apply pw_below_drewN | apply below_drew1) | exact HB.out))) : w.heap.size ≤ gb195)); clear HO_10; clear HO_83; clear HB; have HO_10 := n0_; have HO_83 := n1_; have HB := n2_; have BK195 := n3_; have GW195 := n4_; have GE195 := n5_; clear n0_ n1_ n2_ n3_ n4_ n5_; clear hb hbox hg; have hcz58_0 : w57.cell? ⟨gb195, 0, none⟩ = some (.string (⟨#[]⟩ : ByteArray)) := (blk_cell BK195.out 0).trans rfl; have hcz58_1 : w57.cell? ⟨gb195, 1, none⟩ = some (.int .u8 0) := (blk_cell BK195.out 1).trans rfl; have hfz58_0 := blk_frozen BK195.out 0; have hfz58_1 := blk_frozen BK195.out 1) | (go_at_call 19; (with_reducible refine (types_Find.calls k3 _ _ l0 (wrap64 (Int.tmod a2 (IntKind.u64.wrap ((l0.length : Int))))) ((rd_T40 t186 x85_3).f0) t196 t197 t198 _ ?side1 ?side2 A36.out).mono ?_); (case side1 => exact Kd.C_below HR0.out (by repeat (first | (with_reducible first | exact HB.out | apply below_alloc | apply pw_below_drewN | apply below_drew1 | refine below_set ?_ GE195.out) | exact HB.out))); (case side2 => exact HC0.out); rintro e w59 ⟨rfl, hb⟩; have n0_ := Aside0.mk (Kd.R_below (by (with_reducible repeat (first | apply Kd.R_alloc | apply Kd.R_drewN | apply Kd.R_drew)); exact (Kd.R_mono (Kd.R_far (p := ⟨gb195, 1, none⟩) (Kd.R_far (p := ⟨gb195, 0, none⟩) (Kd.R_mono HO_10.out (fun k_ hk => (⟨hk, hk.2⟩ : _ ∧ k_ ≠ gb195))) (fun _ hk => hk.2) (.string ((rd_T40 t186 x85_3).f0))) (fun _ hk => hk.2) (.int .u8 ((rd_T40 t186 x85_3).f1))) (fun _ h_ => h_.1))) hb); have n1_ := Aside0.mk (Kd.R_below (by (with_reducible repeat (first | apply Kd.R_alloc | apply Kd.R_drewN | apply Kd.R_drew)); exact (Kd.R_mono (Kd.R_far (p := ⟨gb195, 1, none⟩) (Kd.R_far (p := ⟨gb195, 0, none⟩) (Kd.R_mono HO_83.out (fun k_ hk => (⟨hk, hk.2⟩ : _ ∧ k_ ≠ gb195))) (fun _ hk => hk.2) (.string ((rd_T40 t186 x85_3).f0))) (fun _ hk => hk.2) (.int .u8 ((rd_T40 t186 x85_3).f1))) (fun _ h_ => h_.1))) hb); have n2_ := Aside0.mk (blk_below (g := gb195) (o := .cells #[.string ((rd_T40 t186 x85_3).f0), .int .u8 ((rd_T40 t186 x85_3).f1)] 40 (0, 0)) (by (with_reducible repeat (first | refine blk_drewN ?_ _ | refine blk_drew ?_ | refine blk_alloc ?_ _)); refine blk_put (cs := #[.string ((rd_T40 t186 x85_3).f0), .int .u8 0]) ?_ 1 _ rfl; (with_reducible repeat (first | refine blk_drewN ?_ _ | refine blk_drew ?_ | refine blk_alloc ?_ _)); refine blk_put (cs := #[.string (⟨#[]⟩ : ByteArray), .int .u8 0]) ?_ 0 _ rfl; (with_reducible repeat (first | refine blk_drewN ?_ _ | refine blk_drew ?_ | refine blk_alloc ?_ _)); exact BK195.out) hb); have n3_ := Aside0.mk (below_step (by repeat (first | (with_reducible first | exact HB.out | apply below_alloc | apply pw_below_drewN | apply below_drew1 | refine below_set ?_ GE195.out) | exact HB.out)) hb); clear HO_10; clear HO_83; clear BK195; clear HB; have HO_10 := n0_; have HO_83 := n1_; have BK195 := n2_; have HB := n3_; clear n0_ n1_ n2_ n3_; (try clear hb); (try clear hb2); (try clear hk); (try clear hi); obtain ⟨Ao60, co60, eo60⟩ := Kd.R_slice HO_10.out; subst eo60; have p199 : 0 ≤ (x85_3 : Int) := of_decide_eq_true (by first | (with_reducible assumption) | assumption); have q199 : x85_3 < (t189.length : Int) := of_decide_eq_true (by first | (with_reducible assumption) | assumption); obtain ⟨ad199, e199, hx199_0, hx199_1⟩ := at_T40 (Kd.R_reads' HO_10.out).2.2 x85_3 p199 q199; cases e199; replace p199 := eq_true p199; replace q199 := eq_true q199; have hcz61_0 : w59.cell? ⟨gb195, 0, none⟩ = some (.string ((rd_T40 t186 x85_3).f0)) := (blk_cell BK195.out 0).trans rfl; have hcz61_1 : w59.cell? ⟨gb195, 1, none⟩ = some (.int .u8 ((rd_T40 t186 x85_3).f1)) := (blk_cell BK195.out 1).trans rfl; have hfz61_0 := blk_frozen BK195.out 0; have hfz61_1 := blk_frozen BK195.out 1)); try go_wp2_with (first | ((with_reducible refine gate_dst (N := 12) rfl ?_); (try (refine gate_guard (by rfl) ?_; dsimp only)); refine box_event ?hg (N := 12) ?hd (cs := #[.string (⟨#[]⟩ : ByteArray), .int .u8 0]) (t := 40) ?hr ?_; (case hd => rfl); (case hg => rfl); (case hr => first | (go_simp; done) | (go_simp; rfl)); intro gb195 hg w57 hbox hb; have n0_ := Aside0.mk (Kd.R_below (Kd.R_elderB (by (with_reducible repeat (first | apply Kd.R_alloc | apply Kd.R_drewN | apply Kd.R_drew)); exact HO_10.out) gb195 (Nat.le_of_eq hg.symm)) hb); have n1_ := Aside0.mk (Kd.R_below (Kd.R_elderB (by (with_reducible repeat (first | apply Kd.R_alloc | apply Kd.R_drewN | apply Kd.R_drew)); exact HO_83.out) gb195 (Nat.le_of_eq hg.symm)) hb); have n2_ := Aside0.mk (below_step (by repeat (first | (with_reducible first | exact HB.out | apply below_alloc | apply pw_below_drewN | apply below_drew1) | exact HB.out)) hb); have n3_ := Aside0.mk (hbox); have n4_ := Aside0.mk ((by rw [hg]; exact (below_size (by repeat (first | (with_reducible first | exact HB.out | apply below_alloc | apply pw_below_drewN | apply below_drew1) | exact HB.out))) : w.heap.size ≤ gb195)); have n5_ := Aside0.mk ((by rw [hg]; exact (below_size (by repeat (first | (with_reducible first | exact HB.out | apply below_alloc | apply pw_below_drewN | apply below_drew1) | exact HB.out))) : w.heap.size ≤ gb195)); clear HO_10; clear HO_83; clear HB; have HO_10 := n0_; have HO_83 := n1_; have HB := n2_; have BK195 := n3_; have GW195 := n4_; have GE195 := n5_; clear n0_ n1_ n2_ n3_ n4_ n5_; clear hb hbox hg; have hcz58_0 : w57.cell? ⟨gb195, 0, none⟩ = some (.string (⟨#[]⟩ : ByteArray)) := (blk_cell BK195.out 0).trans rfl; have hcz58_1 : w57.cell? ⟨gb195, 1, none⟩ = some (.int .u8 0) := (blk_cell BK195.out 1).trans rfl; have hfz58_0 := blk_frozen BK195.out 0; have hfz58_1 := blk_frozen BK195.out 1) | (go_at_call 19; (with_reducible refine (types_Find.calls k3 _ _ l0 (wrap64 (Int.tmod a2 (IntKind.u64.wrap ((l0.length : Int))))) ((rd_T40 t186 x85_3).f0) t196 t197 t198 _ ?side1 ?side2 A36.out).mono ?_); (case side1 => exact Kd.C_below HR0.out (by repeat (first | (with_reducible first | exact HB.out | apply below_alloc | apply pw_below_drewN | apply below_drew1 | refine below_set ?_ GE195.out) | exact HB.out))); (case side2 => exact HC0.out); rintro e w59 ⟨rfl, hb⟩; have n0_ := Aside0.mk (Kd.R_below (by (with_reducible repeat (first | apply Kd.R_alloc | apply Kd.R_drewN | apply Kd.R_drew)); exact (Kd.R_mono (Kd.R_far (p := ⟨gb195, 1, none⟩) (Kd.R_far (p := ⟨gb195, 0, none⟩) (Kd.R_mono HO_10.out (fun k_ hk => (⟨hk, hk.2⟩ : _ ∧ k_ ≠ gb195))) (fun _ hk => hk.2) (.string ((rd_T40 t186 x85_3).f0))) (fun _ hk => hk.2) (.int .u8 ((rd_T40 t186 x85_3).f1))) (fun _ h_ => h_.1))) hb); have n1_ := Aside0.mk (Kd.R_below (by (with_reducible repeat (first | apply Kd.R_alloc | apply Kd.R_drewN | apply Kd.R_drew)); exact (Kd.R_mono (Kd.R_far (p := ⟨gb195, 1, none⟩) (Kd.R_far (p := ⟨gb195, 0, none⟩) (Kd.R_mono HO_83.out (fun k_ hk => (⟨hk, hk.2⟩ : _ ∧ k_ ≠ gb195))) (fun _ hk => hk.2) (.string ((rd_T40 t186 x85_3).f0))) (fun _ hk => hk.2) (.int .u8 ((rd_T40 t186 x85_3).f1))) (fun _ h_ => h_.1))) hb); have n2_ := Aside0.mk (blk_below (g := gb195) (o := .cells #[.string ((rd_T40 t186 x85_3).f0), .int .u8 ((rd_T40 t186 x85_3).f1)] 40 (0, 0)) (by (with_reducible repeat (first | refine blk_drewN ?_ _ | refine blk_drew ?_ | refine blk_alloc ?_ _)); refine blk_put (cs := #[.string ((rd_T40 t186 x85_3).f0), .int .u8 0]) ?_ 1 _ rfl; (with_reducible repeat (first | refine blk_drewN ?_ _ | refine blk_drew ?_ | refine blk_alloc ?_ _)); refine blk_put (cs := #[.string (⟨#[]⟩ : ByteArray), .int .u8 0]) ?_ 0 _ rfl; (with_reducible repeat (first | refine blk_drewN ?_ _ | refine blk_drew ?_ | refine blk_alloc ?_ _)); exact BK195.out) hb); have n3_ := Aside0.mk (below_step (by repeat (first | (with_reducible first | exact HB.out | apply below_alloc | apply pw_below_drewN | apply below_drew1 | refine below_set ?_ GE195.out) | exact HB.out)) hb); clear HO_10; clear HO_83; clear BK195; clear HB; have HO_10 := n0_; have HO_83 := n1_; have BK195 := n2_; have HB := n3_; clear n0_ n1_ n2_ n3_; (try clear hb); (try clear hb2); (try clear hk); (try clear hi); obtain ⟨Ao60, co60, eo60⟩ := Kd.R_slice HO_10.out; subst eo60; have p199 : 0 ≤ (x85_3 : Int) := of_decide_eq_true (by first | (with_reducible assumption) | assumption); have q199 : x85_3 < (t189.length : Int) := of_decide_eq_true (by first | (with_reducible assumption) | assumption); obtain ⟨ad199, e199, hx199_0, hx199_1⟩ := at_T40 (Kd.R_reads' HO_10.out).2.2 x85_3 p199 q199; cases e199; replace p199 := eq_true p199; replace q199 := eq_true q199; have hcz61_0 : w59.cell? ⟨gb195, 0, none⟩ = some (.string ((rd_T40 t186 x85_3).f0)) := (blk_cell BK195.out 0).trans rfl; have hcz61_1 : w59.cell? ⟨gb195, 1, none⟩ = some (.int .u8 ((rd_T40 t186 x85_3).f1)) := (blk_cell BK195.out 1).trans rfl; have hfz61_0 := blk_frozen BK195.out 0; have hfz61_1 := blk_frozen BK195.out 1)))
                                    go_ret
                                    exact ⟨by first | rfl | (simp [errW_none, errW_some] <;> rfl) | (simp [*, errW_none, errW_some] <;> rfl), by repeat (first | (with_reducible first | exact HB.out | apply below_alloc | apply pw_below_drewN | apply below_drew1 | refine below_set ?_ GE195.out) | exact HB.out)⟩
                                · rw [if_neg c44] at H
                                  have c44b0 : (t196 == x85_3) = false := beq_eq_false_iff_ne.mpr c44
                                  have c44b1 : (t196 != x85_3) = true := bne_iff_ne.mpr c44
                                  obtain rfl := Option.some.inj H
                                  have p194 : 0 ≤ (x85_3 : Int) := of_decide_eq_true (by first | (with_reducible assumption) | assumption)
                                  have q194 : x85_3 < (t186.length : Int) := of_decide_eq_true (by first | (with_reducible assumption) | assumption)
                                  obtain ⟨ad194, e194, hx194_0, hx194_1⟩ := at_T40 (Kd.R_reads' HO_83.out).2.2 x85_3 p194 q194
                                  cases e194
                                  replace p194 := eq_true p194
                                  replace q194 := eq_true q194
                                  go_wp2_with (first | ((with_reducible refine gate_dst (N := 12) rfl ?_); (try (refine gate_guard (by rfl) ?_; dsimp only)); refine box_event ?hg (N := 12) ?hd (cs := #[.string (⟨#[]⟩ : ByteArray), .int .u8 0]) (t := 40) ?hr ?_; (case hd => rfl); (case hg => rfl); (case hr => first | (go_simp; done) | (go_simp; rfl)); intro gb195 hg w62 hbox hb; have n0_ := Aside0.mk (Kd.R_below (Kd.R_elderB (by (with_reducible repeat (first | apply Kd.R_alloc | apply Kd.R_drewN | apply Kd.R_drew)); exact HO_10.out) gb195 (Nat.le_of_eq hg.symm)) hb); have n1_ := Aside0.mk (Kd.R_below (Kd.R_elderB (by (with_reducible repeat (first | apply Kd.R_alloc | apply Kd.R_drewN | apply Kd.R_drew)); exact HO_83.out) gb195 (Nat.le_of_eq hg.symm)) hb); have n2_ := Aside0.mk (below_step (by repeat (first | (with_reducible first | exact HB.out | apply below_alloc | apply pw_below_drewN | apply below_drew1) | exact HB.out)) hb); have n3_ := Aside0.mk (hbox); have n4_ := Aside0.mk ((by rw [hg]; exact (below_size (by repeat (first | (with_reducible first | exact HB.out | apply below_alloc | apply pw_below_drewN | apply below_drew1) | exact HB.out))) : w.heap.size ≤ gb195)); have n5_ := Aside0.mk ((by rw [hg]; exact (below_size (by repeat (first | (with_reducible first | exact HB.out | apply below_alloc | apply pw_below_drewN | apply below_drew1) | exact HB.out))) : w.heap.size ≤ gb195)); clear HO_10; clear HO_83; clear HB; have HO_10 := n0_; have HO_83 := n1_; have HB := n2_; have BK195 := n3_; have GW195 := n4_; have GE195 := n5_; clear n0_ n1_ n2_ n3_ n4_ n5_; clear hb hbox hg; have hcz63_0 : w62.cell? ⟨gb195, 0, none⟩ = some (.string (⟨#[]⟩ : ByteArray)) := (blk_cell BK195.out 0).trans rfl; have hcz63_1 : w62.cell? ⟨gb195, 1, none⟩ = some (.int .u8 0) := (blk_cell BK195.out 1).trans rfl; have hfz63_0 := blk_frozen BK195.out 0; have hfz63_1 := blk_frozen BK195.out 1) | (go_at_call 19; (with_reducible refine (types_Find.calls k3 _ _ l0 (wrap64 (Int.tmod a2 (IntKind.u64.wrap ((l0.length : Int))))) ((rd_T40 t186 x85_3).f0) t196 t197 t198 _ ?side1 ?side2 A36.out).mono ?_); (case side1 => exact Kd.C_below HR0.out (by repeat (first | (with_reducible first | exact HB.out | apply below_alloc | apply pw_below_drewN | apply below_drew1 | refine below_set ?_ GE195.out) | exact HB.out))); (case side2 => exact HC0.out); rintro e w64 ⟨rfl, hb⟩; have n0_ := Aside0.mk (Kd.R_below (by (with_reducible repeat (first | apply Kd.R_alloc | apply Kd.R_drewN | apply Kd.R_drew)); exact (Kd.R_mono (Kd.R_far (p := ⟨gb195, 1, none⟩) (Kd.R_far (p := ⟨gb195, 0, none⟩) (Kd.R_mono HO_10.out (fun k_ hk => (⟨hk, hk.2⟩ : _ ∧ k_ ≠ gb195))) (fun _ hk => hk.2) (.string ((rd_T40 t186 x85_3).f0))) (fun _ hk => hk.2) (.int .u8 ((rd_T40 t186 x85_3).f1))) (fun _ h_ => h_.1))) hb); have n1_ := Aside0.mk (Kd.R_below (by (with_reducible repeat (first | apply Kd.R_alloc | apply Kd.R_drewN | apply Kd.R_drew)); exact (Kd.R_mono (Kd.R_far (p := ⟨gb195, 1, none⟩) (Kd.R_far (p := ⟨gb195, 0, none⟩) (Kd.R_mono HO_83.out (fun k_ hk => (⟨hk, hk.2⟩ : _ ∧ k_ ≠ gb195))) (fun _ hk => hk.2) (.string ((rd_T40 t186 x85_3).f0))) (fun _ hk => hk.2) (.int .u8 ((rd_T40 t186 x85_3).f1))) (fun _ h_ => h_.1))) hb); have n2_ := Aside0.mk (blk_below (g := gb195) (o := .cells #[.string ((rd_T40 t186 x85_3).f0), .int .u8 ((rd_T40 t186 x85_3).f1)] 40 (0, 0)) (by (with_reducible repeat (first | refine blk_drewN ?_ _ | refine blk_drew ?_ | refine blk_alloc ?_ _)); refine blk_put (cs := #[.string ((rd_T40 t186 x85_3).f0), .int .u8 0]) ?_ 1 _ rfl; (with_reducible repeat (first | refine blk_drewN ?_ _ | refine blk_drew ?_ | refine blk_alloc ?_ _)); refine blk_put (cs := #[.string (⟨#[]⟩ : ByteArray), .int .u8 0]) ?_ 0 _ rfl; (with_reducible repeat (first | refine blk_drewN ?_ _ | refine blk_drew ?_ | refine blk_alloc ?_ _)); exact BK195.out) hb); have n3_ := Aside0.mk (below_step (by repeat (first | (with_reducible first | exact HB.out | apply below_alloc | apply pw_below_drewN | apply below_drew1 | refine below_set ?_ GE195.out) | exact HB.out)) hb); clear HO_10; clear HO_83; clear BK195; clear HB; have HO_10 := n0_; have HO_83 := n1_; have BK195 := n2_; have HB := n3_; clear n0_ n1_ n2_ n3_; (try clear hb); (try clear hb2); (try clear hk); (try clear hi); obtain ⟨Ao65, co65, eo65⟩ := Kd.R_slice HO_10.out; subst eo65; have p199 : 0 ≤ (x85_3 : Int) := of_decide_eq_true (by first | (with_reducible assumption) | assumption); have q199 : x85_3 < (t189.length : Int) := of_decide_eq_true (by first | (with_reducible assumption) | assumption); obtain ⟨ad199, e199, hx199_0, hx199_1⟩ := at_T40 (Kd.R_reads' HO_10.out).2.2 x85_3 p199 q199; cases e199; replace p199 := eq_true p199; replace q199 := eq_true q199; have hcz66_0 : w64.cell? ⟨gb195, 0, none⟩ = some (.string ((rd_T40 t186 x85_3).f0)) := (blk_cell BK195.out 0).trans rfl; have hcz66_1 : w64.cell? ⟨gb195, 1, none⟩ = some (.int .u8 ((rd_T40 t186 x85_3).f1)) := (blk_cell BK195.out 1).trans rfl; have hfz66_0 := blk_frozen BK195.out 0; have hfz66_1 := blk_frozen BK195.out 1))
                                  repeat (go_quiet (first | ((with_reducible refine gate_dst (N := 12) rfl ?_); (try (refine gate_guard (by rfl) ?_; dsimp only)); refine box_event ?hg (N := 12) ?hd (cs := #[.string (⟨#[]⟩ : ByteArray), .int .u8 0]) (t := 40) ?hr ?_; (case hd => rfl); (case hg => rfl); (case hr => first | (go_simp; done) | (go_simp; rfl)); intro gb195 hg w62 hbox hb; have n0_ := Aside0.mk (Kd.R_below (Kd.R_elderB (by (with_reducible repeat (first | apply Kd.R_alloc | apply Kd.R_drewN | apply Kd.R_drew)); exact HO_10.out) gb195 (Nat.le_of_eq hg.symm)) hb); have n1_ := Aside0.mk (Kd.R_below (Kd.R_elderB (by (with_reducible repeat (first | apply Kd.R_alloc | apply Kd.R_drewN | apply Kd.R_drew)); exact HO_83.out) gb195 (Nat.le_of_eq hg.symm)) hb); have n2_ := Aside0.mk (below_step (by repeat (first | (with_reducible first | exact HB.out | apply below_alloc | apply pw_below_drewN | apply below_drew1) | exact HB.out)) hb); have n3_ := Aside0.mk (hbox); have n4_ := Aside0.mk ((by rw [hg]; exact (below_size (by repeat (first | (with_reducible first | exact HB.out | apply below_alloc | apply pw_below_drewN | apply below_drew1) | exact HB.out))) : w.heap.size ≤ gb195)); have n5_ := Aside0.mk ((by rw [hg]; exact (below_size (by repeat (first | (with_reducible first | exact HB.out | apply below_alloc | apply pw_below_drewN | apply below_drew1) | exact HB.out))) : w.heap.size ≤ gb195)); clear HO_10; clear HO_83; clear HB; have HO_10 := n0_; have HO_83 := n1_; have HB := n2_; have BK195 := n3_; have GW195 := n4_; have GE195 := n5_; clear n0_ n1_ n2_ n3_ n4_ n5_; clear hb hbox hg; have hcz63_0 : w62.cell? ⟨gb195, 0, none⟩ = some (.string (⟨#[]⟩ : ByteArray)) := (blk_cell BK195.out 0).trans rfl; have hcz63_1 : w62.cell? ⟨gb195, 1, none⟩ = some (.int .u8 0) := (blk_cell BK195.out 1).trans rfl; have hfz63_0 := blk_frozen BK195.out 0; have hfz63_1 := blk_frozen BK195.out 1) | (go_at_call 19; (with_reducible refine (types_Find.calls k3 _ _ l0 (wrap64 (Int.tmod a2 (IntKind.u64.wrap ((l0.length : Int))))) ((rd_T40 t186 x85_3).f0) t196 t197 t198 _ ?side1 ?side2 A36.out).mono ?_); (case side1 => exact Kd.C_below HR0.out (by repeat (first | (with_reducible first | exact HB.out | apply below_alloc | apply pw_below_drewN | apply below_drew1 | refine below_set ?_ GE195.out) | exact HB.out))); (case side2 => exact HC0.out); rintro e w64 ⟨rfl, hb⟩; have n0_ := Aside0.mk (Kd.R_below (by (with_reducible repeat (first | apply Kd.R_alloc | apply Kd.R_drewN | apply Kd.R_drew)); exact (Kd.R_mono (Kd.R_far (p := ⟨gb195, 1, none⟩) (Kd.R_far (p := ⟨gb195, 0, none⟩) (Kd.R_mono HO_10.out (fun k_ hk => (⟨hk, hk.2⟩ : _ ∧ k_ ≠ gb195))) (fun _ hk => hk.2) (.string ((rd_T40 t186 x85_3).f0))) (fun _ hk => hk.2) (.int .u8 ((rd_T40 t186 x85_3).f1))) (fun _ h_ => h_.1))) hb); have n1_ := Aside0.mk (Kd.R_below (by (with_reducible repeat (first | apply Kd.R_alloc | apply Kd.R_drewN | apply Kd.R_drew)); exact (Kd.R_mono (Kd.R_far (p := ⟨gb195, 1, none⟩) (Kd.R_far (p := ⟨gb195, 0, none⟩) (Kd.R_mono HO_83.out (fun k_ hk => (⟨hk, hk.2⟩ : _ ∧ k_ ≠ gb195))) (fun _ hk => hk.2) (.string ((rd_T40 t186 x85_3).f0))) (fun _ hk => hk.2) (.int .u8 ((rd_T40 t186 x85_3).f1))) (fun _ h_ => h_.1))) hb); have n2_ := Aside0.mk (blk_below (g := gb195) (o := .cells #[.string ((rd_T40 t186 x85_3).f0), .int .u8 ((rd_T40 t186 x85_3).f1)] 40 (0, 0)) (by (with_reducible repeat (first | refine blk_drewN ?_ _ | refine blk_drew ?_ | refine blk_alloc ?_ _)); refine blk_put (cs := #[.string ((rd_T40 t186 x85_3).f0), .int .u8 0]) ?_ 1 _ rfl; (with_reducible repeat (first | refine blk_drewN ?_ _ | refine blk_drew ?_ | refine blk_alloc ?_ _)); refine blk_put (cs := #[.string (⟨#[]⟩ : ByteArray), .int .u8 0]) ?_ 0 _ rfl; (with_reducible repeat (first | refine blk_drewN ?_ _ | refine blk_drew ?_ | refine blk_alloc ?_ _)); exact BK195.out) hb); have n3_ := Aside0.mk (below_step (by repeat (first | (with_reducible first | exact HB.out | apply below_alloc | apply pw_below_drewN | apply below_drew1 | refine below_set ?_ GE195.out) | exact HB.out)) hb); clear HO_10; clear HO_83; clear BK195; clear HB; have HO_10 := n0_; have HO_83 := n1_; have BK195 := n2_; have HB := n3_; clear n0_ n1_ n2_ n3_; (try clear hb); (try clear hb2); (try clear hk); (try clear hi); obtain ⟨Ao65, co65, eo65⟩ := Kd.R_slice HO_10.out; subst eo65; have p199 : 0 ≤ (x85_3 : Int) := of_decide_eq_true (by first | (with_reducible assumption) | assumption); have q199 : x85_3 < (t189.length : Int) := of_decide_eq_true (by first | (with_reducible assumption) | assumption); obtain ⟨ad199, e199, hx199_0, hx199_1⟩ := at_T40 (Kd.R_reads' HO_10.out).2.2 x85_3 p199 q199; cases e199; replace p199 := eq_true p199; replace q199 := eq_true q199; have hcz66_0 : w64.cell? ⟨gb195, 0, none⟩ = some (.string ((rd_T40 t186 x85_3).f0)) := (blk_cell BK195.out 0).trans rfl; have hcz66_1 : w64.cell? ⟨gb195, 1, none⟩ = some (.int .u8 ((rd_T40 t186 x85_3).f1)) := (blk_cell BK195.out 1).trans rfl; have hfz66_0 := blk_frozen BK195.out 0; have hfz66_1 := blk_frozen BK195.out 1)); try go_wp2_with (first | ((with_reducible refine gate_dst (N := 12) rfl ?_); (try (refine gate_guard (by rfl) ?_; dsimp only)); refine box_event ?hg (N := 12) ?hd (cs := #[.string (⟨#[]⟩ : ByteArray), .int .u8 0]) (t := 40) ?hr ?_; (case hd => rfl); (case hg => rfl); (case hr => first | (go_simp; done) | (go_simp; rfl)); intro gb195 hg w62 hbox hb; have n0_ := Aside0.mk (Kd.R_below (Kd.R_elderB (by (with_reducible repeat (first | apply Kd.R_alloc | apply Kd.R_drewN | apply Kd.R_drew)); exact HO_10.out) gb195 (Nat.le_of_eq hg.symm)) hb); have n1_ := Aside0.mk (Kd.R_below (Kd.R_elderB (by (with_reducible repeat (first | apply Kd.R_alloc | apply Kd.R_drewN | apply Kd.R_drew)); exact HO_83.out) gb195 (Nat.le_of_eq hg.symm)) hb); have n2_ := Aside0.mk (below_step (by repeat (first | (with_reducible first | exact HB.out | apply below_alloc | apply pw_below_drewN | apply below_drew1) | exact HB.out)) hb); have n3_ := Aside0.mk (hbox); have n4_ := Aside0.mk ((by rw [hg]; exact (below_size (by repeat (first | (with_reducible first | exact HB.out | apply below_alloc | apply pw_below_drewN | apply below_drew1) | exact HB.out))) : w.heap.size ≤ gb195)); have n5_ := Aside0.mk ((by rw [hg]; exact (below_size (by repeat (first | (with_reducible first | exact HB.out | apply below_alloc | apply pw_below_drewN | apply below_drew1) | exact HB.out))) : w.heap.size ≤ gb195)); clear HO_10; clear HO_83; clear HB; have HO_10 := n0_; have HO_83 := n1_; have HB := n2_; have BK195 := n3_; have GW195 := n4_; have GE195 := n5_; clear n0_ n1_ n2_ n3_ n4_ n5_; clear hb hbox hg; have hcz63_0 : w62.cell? ⟨gb195, 0, none⟩ = some (.string (⟨#[]⟩ : ByteArray)) := (blk_cell BK195.out 0).trans rfl; have hcz63_1 : w62.cell? ⟨gb195, 1, none⟩ = some (.int .u8 0) := (blk_cell BK195.out 1).trans rfl; have hfz63_0 := blk_frozen BK195.out 0; have hfz63_1 := blk_frozen BK195.out 1) | (go_at_call 19; (with_reducible refine (types_Find.calls k3 _ _ l0 (wrap64 (Int.tmod a2 (IntKind.u64.wrap ((l0.length : Int))))) ((rd_T40 t186 x85_3).f0) t196 t197 t198 _ ?side1 ?side2 A36.out).mono ?_); (case side1 => exact Kd.C_below HR0.out (by repeat (first | (with_reducible first | exact HB.out | apply below_alloc | apply pw_below_drewN | apply below_drew1 | refine below_set ?_ GE195.out) | exact HB.out))); (case side2 => exact HC0.out); rintro e w64 ⟨rfl, hb⟩; have n0_ := Aside0.mk (Kd.R_below (by (with_reducible repeat (first | apply Kd.R_alloc | apply Kd.R_drewN | apply Kd.R_drew)); exact (Kd.R_mono (Kd.R_far (p := ⟨gb195, 1, none⟩) (Kd.R_far (p := ⟨gb195, 0, none⟩) (Kd.R_mono HO_10.out (fun k_ hk => (⟨hk, hk.2⟩ : _ ∧ k_ ≠ gb195))) (fun _ hk => hk.2) (.string ((rd_T40 t186 x85_3).f0))) (fun _ hk => hk.2) (.int .u8 ((rd_T40 t186 x85_3).f1))) (fun _ h_ => h_.1))) hb); have n1_ := Aside0.mk (Kd.R_below (by (with_reducible repeat (first | apply Kd.R_alloc | apply Kd.R_drewN | apply Kd.R_drew)); exact (Kd.R_mono (Kd.R_far (p := ⟨gb195, 1, none⟩) (Kd.R_far (p := ⟨gb195, 0, none⟩) (Kd.R_mono HO_83.out (fun k_ hk => (⟨hk, hk.2⟩ : _ ∧ k_ ≠ gb195))) (fun _ hk => hk.2) (.string ((rd_T40 t186 x85_3).f0))) (fun _ hk => hk.2) (.int .u8 ((rd_T40 t186 x85_3).f1))) (fun _ h_ => h_.1))) hb); have n2_ := Aside0.mk (blk_below (g := gb195) (o := .cells #[.string ((rd_T40 t186 x85_3).f0), .int .u8 ((rd_T40 t186 x85_3).f1)] 40 (0, 0)) (by (with_reducible repeat (first | refine blk_drewN ?_ _ | refine blk_drew ?_ | refine blk_alloc ?_ _)); refine blk_put (cs := #[.string ((rd_T40 t186 x85_3).f0), .int .u8 0]) ?_ 1 _ rfl; (with_reducible repeat (first | refine blk_drewN ?_ _ | refine blk_drew ?_ | refine blk_alloc ?_ _)); refine blk_put (cs := #[.string (⟨#[]⟩ : ByteArray), .int .u8 0]) ?_ 0 _ rfl; (with_reducible repeat (first | refine blk_drewN ?_ _ | refine blk_drew ?_ | refine blk_alloc ?_ _)); exact BK195.out) hb); have n3_ := Aside0.mk (below_step (by repeat (first | (with_reducible first | exact HB.out | apply below_alloc | apply pw_below_drewN | apply below_drew1 | refine below_set ?_ GE195.out) | exact HB.out)) hb); clear HO_10; clear HO_83; clear BK195; clear HB; have HO_10 := n0_; have HO_83 := n1_; have BK195 := n2_; have HB := n3_; clear n0_ n1_ n2_ n3_; (try clear hb); (try clear hb2); (try clear hk); (try clear hi); obtain ⟨Ao65, co65, eo65⟩ := Kd.R_slice HO_10.out; subst eo65; have p199 : 0 ≤ (x85_3 : Int) := of_decide_eq_true (by first | (with_reducible assumption) | assumption); have q199 : x85_3 < (t189.length : Int) := of_decide_eq_true (by first | (with_reducible assumption) | assumption); obtain ⟨ad199, e199, hx199_0, hx199_1⟩ := at_T40 (Kd.R_reads' HO_10.out).2.2 x85_3 p199 q199; cases e199; replace p199 := eq_true p199; replace q199 := eq_true q199; have hcz66_0 : w64.cell? ⟨gb195, 0, none⟩ = some (.string ((rd_T40 t186 x85_3).f0)) := (blk_cell BK195.out 0).trans rfl; have hcz66_1 : w64.cell? ⟨gb195, 1, none⟩ = some (.int .u8 ((rd_T40 t186 x85_3).f1)) := (blk_cell BK195.out 1).trans rfl; have hfz66_0 := blk_frozen BK195.out 0; have hfz66_1 := blk_frozen BK195.out 1)))
                                  go_ret
                                  exact ⟨by first | rfl | (simp [errW_none, errW_some] <;> rfl) | (simp [*, errW_none, errW_some] <;> rfl), by repeat (first | (with_reducible first | exact HB.out | apply below_alloc | apply pw_below_drewN | apply below_drew1 | refine below_set ?_ GE195.out) | exact HB.out)⟩
                            · rw [if_neg c37] at H
                              exact absurd H (by simp)
                          · rw [if_neg c35] at H
                            exact absurd H (by simp)
                        · rw [if_neg c34] at H
                          exact absurd H (by simp)
                      · rw [if_neg c33] at H
                        have c33b0 : decide (x85_3 < (t186.length : Int)) = false := decide_eq_false c33
                        clear c33
                        obtain rfl := Option.some.inj H
                        go_wp2
                        repeat (go_quiet (fail); try go_wp2)
                        go_ret
                        exact ⟨by first | rfl | (simp [errW_none, errW_some] <;> rfl) | (simp [*, errW_none, errW_some] <;> rfl), by repeat (first | (with_reducible first | exact HB.out | apply below_alloc | apply pw_below_drewN | apply below_drew1) | exact HB.out)⟩
          · replace c12 := Bool.eq_false_iff.mpr c12
            subst c12
            have H1 : ((types_Sub.f kj3 l0 ((16 + (wrap64 (Int.tmod a2 (IntKind.u64.wrap ((l0.length : Int)))))) % 256) ((16 + (wrap64 (Int.tmod a1 (IntKind.u64.wrap ((l0.length : Int)))))) % 256)).bind fun t185 => (some (!t185))) = some r := by rw [if_neg (show ¬ (false = true) by decide)] at H; exact H
            clear H
            have H := H1
            clear H1
            replace H := Option.bind_eq_some_iff.mp H
            obtain ⟨t185, A670, H⟩ := H
            replace H : (some (!t185)) = some r := H
            have A67 := Aside0.mk A670
            clear A670
            obtain rfl := Option.some.inj H
            go_wp2_with (first | (go_at_call 17; (with_reducible refine (provisolaw02_above.calls kj3 _ _ l0 (wrap64 (Int.tmod a2 (IntKind.u64.wrap ((l0.length : Int))))) (wrap64 (Int.tmod a1 (IntKind.u64.wrap ((l0.length : Int))))) false _ ?side1 ?side2 A11.out).mono ?_); (case side1 => repeat (first | exact (Kd.C_below HR0.out HB.out) | (with_reducible refine Kd.C_alloc ?_ _) | (with_reducible refine Kd.C_drewN ?_ _) | (with_reducible refine Kd.C_drew ?_))); (case side2 => exact HC0.out); rintro e w' ⟨rfl, ⟨nd, rfl⟩⟩; (try first | exact ⟨rfl, _, World.drewN_drewN _ _ _⟩ | exact ⟨rfl, _, Eq.trans (World.drewN_drewN _ _ _) (congrArg (World.drewN _) (Nat.add_assoc _ _ _))⟩)) | (go_at_call 16; (with_reducible refine (types_Sub.calls kj3 _ _ l0 ((16 + (wrap64 (Int.tmod a2 (IntKind.u64.wrap ((l0.length : Int)))))) % 256) ((16 + (wrap64 (Int.tmod a1 (IntKind.u64.wrap ((l0.length : Int)))))) % 256) t185 _ ?side1 ?side2 A67.out).mono ?_); (case side1 => repeat (first | exact (Kd.C_below HR0.out (by repeat (first | (with_reducible first | exact HB.out | apply below_alloc | apply pw_below_drewN | apply below_drew1) | exact HB.out))) | (with_reducible refine Kd.C_alloc ?_ _) | (with_reducible refine Kd.C_drewN ?_ _) | (with_reducible refine Kd.C_drew ?_))); (case side2 => exact HC0.out); rintro e w68 ⟨rfl, hb⟩; have n0_ := Aside0.mk (below_step (by repeat (first | (with_reducible first | exact HB.out | apply below_alloc | apply pw_below_drewN | apply below_drew1) | exact HB.out)) hb); clear HB; have HB := n0_; clear n0_; (try clear hb); (try clear hb2); (try clear hk); (try clear hi)))
            repeat (go_quiet (first | (go_at_call 17; (with_reducible refine (provisolaw02_above.calls kj3 _ _ l0 (wrap64 (Int.tmod a2 (IntKind.u64.wrap ((l0.length : Int))))) (wrap64 (Int.tmod a1 (IntKind.u64.wrap ((l0.length : Int))))) false _ ?side1 ?side2 A11.out).mono ?_); (case side1 => repeat (first | exact (Kd.C_below HR0.out HB.out) | (with_reducible refine Kd.C_alloc ?_ _) | (with_reducible refine Kd.C_drewN ?_ _) | (with_reducible refine Kd.C_drew ?_))); (case side2 => exact HC0.out); rintro e w' ⟨rfl, ⟨nd, rfl⟩⟩; (try first | exact ⟨rfl, _, World.drewN_drewN _ _ _⟩ | exact ⟨rfl, _, Eq.trans (World.drewN_drewN _ _ _) (congrArg (World.drewN _) (Nat.add_assoc _ _ _))⟩)) | (go_at_call 16; (with_reducible refine (types_Sub.calls kj3 _ _ l0 ((16 + (wrap64 (Int.tmod a2 (IntKind.u64.wrap ((l0.length : Int)))))) % 256) ((16 + (wrap64 (Int.tmod a1 (IntKind.u64.wrap ((l0.length : Int)))))) % 256) t185 _ ?side1 ?side2 A67.out).mono ?_); (case side1 => repeat (first | exact (Kd.C_below HR0.out (by repeat (first | (with_reducible first | exact HB.out | apply below_alloc | apply pw_below_drewN | apply below_drew1) | exact HB.out))) | (with_reducible refine Kd.C_alloc ?_ _) | (with_reducible refine Kd.C_drewN ?_ _) | (with_reducible refine Kd.C_drew ?_))); (case side2 => exact HC0.out); rintro e w68 ⟨rfl, hb⟩; have n0_ := Aside0.mk (below_step (by repeat (first | (with_reducible first | exact HB.out | apply below_alloc | apply pw_below_drewN | apply below_drew1) | exact HB.out)) hb); clear HB; have HB := n0_; clear n0_; (try clear hb); (try clear hb2); (try clear hk); (try clear hi))); try go_wp2_with (first | (go_at_call 17; (with_reducible refine (provisolaw02_above.calls kj3 _ _ l0 (wrap64 (Int.tmod a2 (IntKind.u64.wrap ((l0.length : Int))))) (wrap64 (Int.tmod a1 (IntKind.u64.wrap ((l0.length : Int))))) false _ ?side1 ?side2 A11.out).mono ?_); (case side1 => repeat (first | exact (Kd.C_below HR0.out HB.out) | (with_reducible refine Kd.C_alloc ?_ _) | (with_reducible refine Kd.C_drewN ?_ _) | (with_reducible refine Kd.C_drew ?_))); (case side2 => exact HC0.out); rintro e w' ⟨rfl, ⟨nd, rfl⟩⟩; (try first | exact ⟨rfl, _, World.drewN_drewN _ _ _⟩ | exact ⟨rfl, _, Eq.trans (World.drewN_drewN _ _ _) (congrArg (World.drewN _) (Nat.add_assoc _ _ _))⟩)) | (go_at_call 16; (with_reducible refine (types_Sub.calls kj3 _ _ l0 ((16 + (wrap64 (Int.tmod a2 (IntKind.u64.wrap ((l0.length : Int)))))) % 256) ((16 + (wrap64 (Int.tmod a1 (IntKind.u64.wrap ((l0.length : Int)))))) % 256) t185 _ ?side1 ?side2 A67.out).mono ?_); (case side1 => repeat (first | exact (Kd.C_below HR0.out (by repeat (first | (with_reducible first | exact HB.out | apply below_alloc | apply pw_below_drewN | apply below_drew1) | exact HB.out))) | (with_reducible refine Kd.C_alloc ?_ _) | (with_reducible refine Kd.C_drewN ?_ _) | (with_reducible refine Kd.C_drew ?_))); (case side2 => exact HC0.out); rintro e w68 ⟨rfl, hb⟩; have n0_ := Aside0.mk (below_step (by repeat (first | (with_reducible first | exact HB.out | apply below_alloc | apply pw_below_drewN | apply below_drew1) | exact HB.out)) hb); clear HB; have HB := n0_; clear n0_; (try clear hb); (try clear hb2); (try clear hk); (try clear hi))))
            go_ret
            exact ⟨by first | rfl | (simp [errW_none, errW_some] <;> rfl) | (simp [*, errW_none, errW_some] <;> rfl), by repeat (first | (with_reducible first | exact HB.out | apply below_alloc | apply pw_below_drewN | apply below_drew1) | exact HB.out)⟩

def classOf (l : List S38) (a : Int) : Int := if a < 16 then -1 else if (a - 16) % 256 ≥ (l.length : Int) then -1 else (a - 16) % 256
theorem class_is (l : List S38) (a : Int) : types_class.f l a = some (classOf l a) := by
  unfold types_class.f classOf
  split
  · rfl
  · split <;> rfl
def isRefB (a : Int) : Bool := decide (a = 3) || decide (a = 4) || decide (a = 5) || decide (a ≥ 16)
theorem isRef_is (a : Int) : types_IsRef.f a = some (isRefB a) := by
  unfold types_IsRef.f isRefB
  by_cases h3 : a = 3 <;> by_cases h4 : a = 4 <;> by_cases h5 : a = 5 <;> simp [h3, h4, h5]
structure MergeHeld (W0 : World) (Bo : Nat) (A0 : Option Addr) (c0 : Nat) (l : List S38) (W : World) : Prop where
  reads : Kd.C k38 W A0 l.length l
  below : Below W0.heap.size W0 W
  lies : W.heap[W0.heap.size]? = some (.cells #[.slice A0 l.length c0] 22 (0, 0))
  out : W.heap[Bo]? = some (.cells #[.int .u8 5] 23 (0, 0))
theorem MergeHeld.drew {W0 : World} {Bo : Nat} {A0 : Option Addr} {c0 : Nat} {l : List S38} {W : World} (h : MergeHeld W0 Bo A0 c0 l W) : MergeHeld W0 Bo A0 c0 l W.drew := ⟨Kd.C_drew h.reads, below_drew1 h.below, blk_drew h.lies, blk_drew h.out⟩
theorem MergeHeld.drewN {W0 : World} {Bo : Nat} {A0 : Option Addr} {c0 : Nat} {l : List S38} {W : World} (h : MergeHeld W0 Bo A0 c0 l W) (m : Nat) : MergeHeld W0 Bo A0 c0 l (W.drewN m) := ⟨Kd.C_drewN h.reads m, pw_below_drewN h.below m, blk_drewN h.lies m, blk_drewN h.out m⟩
theorem MergeHeld.alloc {W0 : World} {Bo : Nat} {A0 : Option Addr} {c0 : Nat} {l : List S38} {W : World} (h : MergeHeld W0 Bo A0 c0 l W) (o : Obj) : MergeHeld W0 Bo A0 c0 l (W.alloc o) := ⟨Kd.C_alloc h.reads o, below_alloc h.below o, blk_alloc h.lies o, blk_alloc h.out o⟩
end Go.Proofs.Ytghgloepameloaa.P

end

section
namespace Go.Proofs.Ytghgloepameloaa.P
open Go.RowKit Go.Proofs.YtghgloepameloaaW.PrintWords
def provisolaw02_TypesStays.Pure : Prop := ∀ (l0 : List (S38)) (a1 : Int) (a2 : Int), (fun l : List (S38) => l.length ≤ 9223372036854775807 ∧ l.length * 48 ≤ 140737488351232 ∧ ∀ x ∈ l, Ok38 x) l0 → (fun n : Int => (Lit.int .u64 n).wf = true) a1 → (fun n : Int => (Lit.int .u64 n).wf = true) a2 → ∃ k, provisolaw02_TypesStays.f k l0 a1 a2 = some true
end Go.Proofs.Ytghgloepameloaa.P

end

section
namespace Go.Proofs.Ytghgloepameloaa.P
open Go.RowKit Go.Proofs.YtghgloepameloaaW.PrintWords Go.Proofs.YtghgloepameloaaW.PrintLast Go.Proofs.YtghgloepameloaaW.PrintMore
set_option linter.unusedVariables false
set_option linter.unusedSimpArgs false

theorem w_next {i : Int} {n : Nat} (h0 : 0 ≤ i) (h : i < (n : Int)) (hn : n ≤ 9223372036854775807) : wrap64 (i + 1) = i + 1 := by
  unfold wrap64
  omega

def sign (i c : Int) : Bool :=
  (decide (97 ≤ c) && decide (c ≤ 122)) || (decide (65 ≤ c) && decide (c ≤ 90)) || (decide (0 < i) && ((decide (48 ≤ c) && decide (c ≤ 57)) || decide (c = 95)))
def tailOk (s : ByteArray) : Nat → Bool
  | 0 => true
  | d + 1 => sign ((s.size : Int) - (d + 1)) (bt s ((s.size : Int) - (d + 1))) && tailOk s d
def nameOk (s : ByteArray) : Bool := decide (1 ≤ s.size) && decide (s.size ≤ 24) && tailOk s s.size
theorem ref_name_tail (s : ByteArray) (hn : s.size ≤ 140737488351232) (d : Nat) : ∀ (i : Int), 0 ≤ i → i ≤ s.size → (s.size : Int) - i = d → Ev (fun k => provisoref02_IsName.l0 k s i) (tailOk s d) := by
  induction d with
  | zero =>
    intro i h0 h1 hd
    exact Ev.step (f := fun _ => some true) (fun k => by simp only [provisoref02_IsName.l0]; rw [if_neg (by omega)]) (Ev.now _)
  | succ d ih =>
    intro i h0 h1 hd
    have hlt : i < (s.size : Int) := by omega
    have hi : (s.size : Int) - (d + 1) = i := by omega
    have h := ih (i + 1) (by omega) (by omega) (by omega)
    cases hs : sign i (bt s i) with
    | true =>
      refine Ev.step (fun k => ?_) (show Ev _ (tailOk s (d + 1)) from by simp only [tailOk, hi, hs, Bool.true_and]; exact h)
      simp only [provisoref02_IsName.l0]
      rw [if_pos hlt, if_pos h0, w_next h0 hlt (by omega)]
      revert hs
      generalize bt s i = c
      intro hs
      by_cases a1 : 97 ≤ c <;> by_cases a2 : c ≤ 122 <;> by_cases a3 : 65 ≤ c <;> by_cases a4 : c ≤ 90 <;> by_cases a5 : i = 0 <;> by_cases a6 : c < 48 <;> by_cases a7 : 57 < c <;> by_cases a8 : c = 95 <;> (try omega) <;> (have a9 : 0 < i ∨ i = 0 := by omega) <;> simp [sign, a1, a2, a3, a4, a5, a6, a7, a8] at hs ⊢ <;> omega
    | false =>
      refine Ev.step (f := fun _ => some false) (fun k => ?_) (show Ev _ (tailOk s (d + 1)) from by simp only [tailOk, hi, hs, Bool.false_and]; exact Ev.now _)
      simp only [provisoref02_IsName.l0]
      rw [if_pos hlt, if_pos h0, w_next h0 hlt (by omega)]
      revert hs
      generalize bt s i = c
      intro hs
      by_cases a1 : 97 ≤ c <;> by_cases a2 : c ≤ 122 <;> by_cases a3 : 65 ≤ c <;> by_cases a4 : c ≤ 90 <;> by_cases a5 : i = 0 <;> by_cases a6 : c < 48 <;> by_cases a7 : 57 < c <;> by_cases a8 : c = 95 <;> (try omega) <;> (have a9 : 0 < i ∨ i = 0 := by omega) <;> simp [sign, a1, a2, a3, a4, a5, a6, a7, a8] at hs ⊢ <;> omega
theorem ref_name (s : ByteArray) (hn : s.size ≤ 140737488351232) : Ev (fun k => provisoref02_IsName.f k s) (nameOk s) := by
  have h := ref_name_tail s hn s.size 0 (by omega) (by omega) (by omega)
  by_cases a1 : (s.size : Int) < 1
  · have e : nameOk s = false := by unfold nameOk; rw [decide_eq_false (by omega)]; simp
    rw [e]
    refine Ev.congr (f := fun k => provisoref02_IsName.j0 k s true) (fun k => by unfold provisoref02_IsName.f; rw [if_pos a1]) ?_
    exact Ev.step (f := fun _ => some false) (fun k => by simp only [provisoref02_IsName.j0]; rfl) (Ev.now _)
  · refine Ev.congr (f := fun k => provisoref02_IsName.j0 k s (decide ((s.size : Int) > 24))) (fun k => by unfold provisoref02_IsName.f; rw [if_neg a1]) ?_
    by_cases a2 : (s.size : Int) > 24
    · have e : nameOk s = false := by unfold nameOk; rw [decide_eq_false (p := s.size ≤ 24) (by omega)]; simp
      rw [e]
      exact Ev.step (f := fun _ => some false) (fun k => by simp only [provisoref02_IsName.j0]; simp [a2]) (Ev.now _)
    · have e : nameOk s = tailOk s s.size := by unfold nameOk; rw [decide_eq_true (p := s.size ≤ 24) (by omega), decide_eq_true (p := 1 ≤ s.size) (by omega)]; simp
      rw [e]
      exact Ev.step (fun k => by simp only [provisoref02_IsName.j0]; simp [a2]) h

theorem str_eq (a b : ByteArray) : a.toList = b.toList ↔ a = b :=
  ⟨fun h => by rw [ByteArray.toList_eq, ByteArray.toList_eq] at h; exact Go.WideShapes.bytes_inj h, fun h => by rw [h]⟩
def words6 : List ByteArray := [⟨#[116, 111, 112]⟩, ⟨#[105, 110, 116]⟩, ⟨#[98, 111, 111, 108]⟩, ⟨#[110, 117, 108, 108]⟩, ⟨#[105, 110, 116, 115]⟩, ⟨#[97, 110, 121]⟩]
def isWordB (s : ByteArray) : Bool := words6.any fun t => decide (t = s)
theorem ref_word (s : ByteArray) : Ev (fun k => provisoref02_isWord.f k s) (isWordB s) := by
  have step : ∀ (x : Int) (t : ByteArray) (r : Bool), 0 ≤ x → x ≤ 5 → provisoref02_word.f x = some t → Ev (fun k => provisoref02_isWord.l0 k s (x + 1)) r → Ev (fun k => provisoref02_isWord.l0 k s x) (decide (t = s) || r) := by
    intro x t r h0 h5 ht h
    by_cases e : t = s
    · rw [decide_eq_true e, Bool.true_or]
      exact Ev.step (f := fun _ => some true) (fun k => by simp only [provisoref02_isWord.l0]; rw [if_pos (by omega), ht]; simp [e]) (Ev.now _)
    · rw [decide_eq_false e, Bool.false_or]
      refine Ev.step (fun k => ?_) h
      simp only [provisoref02_isWord.l0]
      rw [if_pos (by omega), ht]
      simp only [Option.bind_some, str_eq]
      rw [if_neg e, show (x + 1) % 256 = x + 1 from by omega]
  have h6 : Ev (fun k => provisoref02_isWord.l0 k s 6) false := Ev.step (f := fun _ => some false) (fun k => by simp only [provisoref02_isWord.l0]; rw [if_neg (by omega)]) (Ev.now _)
  have h := step 0 _ _ (by omega) (by omega) rfl (step 1 _ _ (by omega) (by omega) rfl (step 2 _ _ (by omega) (by omega) rfl (step 3 _ _ (by omega) (by omega) rfl (step 4 _ _ (by omega) (by omega) rfl (step 5 _ _ (by omega) (by omega) rfl h6)))))
  exact h

abbrev Tbl := List S38
def par (l : Tbl) (c : Int) : Int := (rd_T38 l c).f1
def nam (l : Tbl) (c : Int) : ByteArray := (rd_T38 l c).f0
def own (l : Tbl) (c : Int) : List S40 := (rd_T38 l c).f2
def Dec (l : Tbl) (n : Int) : Prop := ∀ i : Int, 0 ≤ i → i < n → par l i < i
def fieldsOf (l : Tbl) (c : Int) : List S40 := (climbL l c).reverse.flatMap fun i => own l i
theorem line_tells (l : Tbl) (n : Int) (hn : n ≤ l.length) (hl : l.length * 48 ≤ 140737488351232) (hd : Dec l n) : ∀ (d : Nat) (c : Int) (acc : List Int), c < n → (c + 1).toNat ≤ d → (acc.length : Int) + c < l.length → acc.length ≤ l.length →
    Ev (fun k => provisoref02_Line.l0 k l c acc) (acc ++ climbL l c)
  | 0, c, acc, _, h, _, _ => by
    rw [climbL_out l c (by omega), List.append_nil]
    exact Ev.step (f := fun _ => some acc) (fun k => by simp only [provisoref02_Line.l0]; rw [if_neg (by omega)]) (Ev.now _)
  | d + 1, c, acc, hc, hcd, ha, ha2 => by
    by_cases h0 : 0 ≤ c
    · have hp := hd c h0 hc
      have hcl : c < (l.length : Int) := by omega
      rw [climbL_in l c h0 hcl hp]
      have hx := line_tells l n hn hl hd d (par l c) (acc ++ [c]) (by omega) (by omega) (by simp; omega) (by simp; omega)
      rw [List.append_assoc] at hx
      refine Ev.step (fun k => ?_) hx
      simp only [provisoref02_Line.l0]
      rw [if_pos h0, if_pos hcl, if_pos (by omega), if_pos (by omega), if_pos h0]
      rfl
    · rw [climbL_out l c (by omega), List.append_nil]
      exact Ev.step (f := fun _ => some acc) (fun k => by simp only [provisoref02_Line.l0]; rw [if_neg (by omega)]) (Ev.now _)
theorem ref_line (l : Tbl) (n : Int) (hn : n ≤ l.length) (hl : l.length * 48 ≤ 140737488351232) (hd : Dec l n) (c : Int) (hc : c < n) : Ev (fun k => provisoref02_Line.f k l c) (climbL l c) := by
  by_cases h0 : l.length = 0
  · rw [climbL_out l c (by omega)]
    refine Ev.congr (f := fun k => provisoref02_Line.l0 k l c []) (fun k => rfl) ?_
    exact Ev.step (f := fun _ => some []) (fun k => by simp only [provisoref02_Line.l0]; rw [if_neg (by omega)]) (Ev.now _)
  · have := line_tells l n hn hl hd (c + 1).toNat c [] hc (Nat.le_refl _) (by simp; omega) (by simp)
    rw [List.nil_append] at this
    exact this
theorem fields_tells (l : Tbl) (line : List Int) (hm : ∀ x ∈ line, 0 ≤ x ∧ x < (l.length : Int)) (hl : l.length * 48 ≤ 140737488351232) (hll : line.length ≤ l.length) (hlim : (line.reverse.flatMap fun i => own l i).length < 5864062014805) : ∀ (d : Nat), d ≤ line.length →
    Ev (fun k => provisoref02_Fields.l0 k l line ((line.drop d).reverse.flatMap fun i => own l i) ((d : Int) - 1)) (line.reverse.flatMap fun i => own l i)
  | 0, _ => by
    rw [List.drop_zero]
    exact Ev.step (f := fun _ => some _) (fun k => by simp only [provisoref02_Fields.l0]; rw [if_neg (by omega)]) (Ev.now _)
  | d + 1, hd => by
    have ih := fields_tells l line hm hl hll hlim d (by omega)
    have hrd : rd line ((d : Nat) : Int) = line[d]'(by omega) := by simp [rd, List.getD_eq_getElem?_getD, show d < line.length by omega]
    have hmd := hm (line[d]'(by omega)) (List.getElem_mem _)
    have e1 : ((line.drop d).reverse.flatMap fun i => own l i) = ((line.drop (d + 1)).reverse.flatMap fun i => own l i) ++ own l (line[d]'(by omega)) := by
      rw [List.drop_eq_getElem_cons (by omega), List.reverse_cons, List.flatMap_append]
      simp
    have hle : ((line.drop d).reverse.flatMap fun i => own l i).length ≤ (line.reverse.flatMap fun i => own l i).length := by
      have : line = line.take d ++ line.drop d := by simp
      conv => rhs; rw [this, List.reverse_append, List.flatMap_append, List.length_append]
      omega
    rw [e1] at ih hle
    rw [List.length_append] at hle
    refine Ev.step (fun k => ?_) ih
    simp only [provisoref02_Fields.l0]
    rw [show ((d + 1 : Nat) : Int) - 1 = (d : Int) by omega, hrd, if_pos (by omega), if_pos (by omega), if_pos (by omega), if_pos hmd.1, if_pos hmd.2]
    rw [if_pos (by unfold own at hle hlim ⊢; omega), show wrap64 ((d : Int) - 1) = (d : Int) - 1 by unfold wrap64; omega]
    rfl
theorem ref_fields (l : Tbl) (n : Int) (hn : n ≤ l.length) (hl : l.length * 48 ≤ 140737488351232) (hd : Dec l n) (c : Int) (hc : c < n) (hlim : (fieldsOf l c).length < 5864062014805) : Ev (fun k => provisoref02_Fields.f k l c) (fieldsOf l c) := by
  have hll := climbL_length l c
  have h := fields_tells l (climbL l c) (climbL_mem l c) hl hll hlim (climbL l c).length (Nat.le_refl _)
  rw [List.drop_length, List.reverse_nil, List.flatMap_nil] at h
  refine Ev.congr (fun k => rfl) (Ev.bind (ref_line l n hn hl hd c hc) (f := fun k t => provisoref02_Fields.l0 k l t [] (wrap64 ((t.length : Int) - 1))) ?_)
  rw [show wrap64 (((climbL l c).length : Int) - 1) = ((climbL l c).length : Int) - 1 by unfold wrap64; omega]
  exact h

def hasB (fs : List S40) (s : ByteArray) : Bool := fs.any fun f => decide (f.f0 = s)
theorem has_tells (fs : List S40) (s : ByteArray) (hl : fs.length ≤ 9223372036854775807) : ∀ (d i : Nat), fs.length - i = d → i ≤ fs.length → Ev (fun k => provisoref02_has.l0 k fs s (i : Int)) (hasB (fs.drop i) s)
  | 0, i, hd, hi => by
    rw [List.drop_of_length_le (by omega)]
    exact Ev.step (f := fun _ => some false) (fun k => by simp only [provisoref02_has.l0]; rw [if_neg (by omega)]) (Ev.now _)
  | d + 1, i, hd, hi => by
    have ih := has_tells fs s hl d (i + 1) (by omega) (by omega)
    have hlt : i < fs.length := by omega
    have hrd : rd_T40 fs ((i : Nat) : Int) = fs[i] := by simp [rd_T40, List.getD_eq_getElem?_getD, hlt]
    rw [List.drop_eq_getElem_cons hlt]
    by_cases e : fs[i].f0 = s
    · have e2 : hasB (fs[i] :: fs.drop (i + 1)) s = true := by unfold hasB; rw [List.any_cons, decide_eq_true e, Bool.true_or]
      rw [e2]
      exact Ev.step (f := fun _ => some true) (fun k => by simp only [provisoref02_has.l0]; rw [if_pos (by omega), if_pos (by omega), hrd]; simp [e]) (Ev.now _)
    · have e2 : hasB (fs[i] :: fs.drop (i + 1)) s = hasB (fs.drop (i + 1)) s := by unfold hasB; rw [List.any_cons, decide_eq_false e, Bool.false_or]
      rw [e2]
      refine Ev.step (fun k => ?_) ih
      simp only [provisoref02_has.l0]
      rw [if_pos (by omega), if_pos (by omega), hrd, if_neg (by rw [str_eq]; exact e), w_next (n := fs.length) (by omega) (by omega) hl]
      rfl
theorem ref_has (fs : List S40) (s : ByteArray) (hl : fs.length ≤ 9223372036854775807) : Ev (fun k => provisoref02_has.f k fs s) (hasB fs s) := by
  have := has_tells fs s hl fs.length 0 (by omega) (by omega)
  rw [List.drop_zero] at this
  exact this
def validB (l : Tbl) (a : Int) : Bool := decide (a ≤ 5) || (decide (16 ≤ a) && decide (a - 16 < (l.length : Int)))
theorem ref_valid (l : Tbl) (a : Int) (ha : 0 ≤ a ∧ a ≤ 255) : provisoref02_Valid.f l a = some (validB l a) := by
  unfold provisoref02_Valid.f validB
  by_cases h1 : a ≤ 5
  · simp [h1]
  · by_cases h2 : a ≥ 16
    · rw [if_neg h1, if_pos h2, show (a - 16) % 256 = a - 16 by omega]
      simp [h1, h2]
    · rw [if_neg h1, if_neg h2]
      simp [h1, h2]
def storedB (l : Tbl) (a : Int) : Bool := validB l a && decide (a ≠ 0) && decide (a ≠ 3)
theorem ref_stored (l : Tbl) (a : Int) (ha : 0 ≤ a ∧ a ≤ 255) : provisoref02_Stored.f l a = some (storedB l a) := by
  unfold provisoref02_Stored.f storedB
  rw [ref_valid l a ha]
  simp only [Option.bind_some]
  cases validB l a <;> by_cases h0 : a = 0 <;> by_cases h3 : a = 3 <;> simp [h0, h3]
end Go.Proofs.Ytghgloepameloaa.P

end

section
namespace Go.Proofs.Ytghgloepameloaa.P
open Go.RowKit Go.Proofs.YtghgloepameloaaW.PrintWords Go.Proofs.YtghgloepameloaaW.PrintLast Go.Proofs.YtghgloepameloaaW.PrintMore
set_option linter.unusedVariables false
set_option linter.unusedSimpArgs false

def Sane (l : Tbl) : Prop := l.length ≤ 9223372036854775807 ∧ l.length * 48 ≤ 140737488351232 ∧ ∀ x ∈ l, Ok38 x
theorem rd_mem (l : Tbl) (c : Int) (h0 : 0 ≤ c) (h1 : c < (l.length : Int)) : rd_T38 l c ∈ l := by
  have h : c.toNat < l.length := by omega
  simp [rd_T38, List.getD_eq_getElem?_getD, h]
theorem Sane.size {l : Tbl} (h : Sane l) : l.length ≤ 2932031007320 := by have := h.2.1; omega
theorem Sane.nam {l : Tbl} (h : Sane l) {c : Int} (h0 : 0 ≤ c) (h1 : c < (l.length : Int)) : (nam l c).size ≤ 140737488351232 := (h.2.2 _ (rd_mem l c h0 h1)).1
theorem Sane.par {l : Tbl} (h : Sane l) {c : Int} (h0 : 0 ≤ c) (h1 : c < (l.length : Int)) : -9223372036854775808 ≤ par l c ∧ par l c ≤ 9223372036854775807 := by
  have := (h.2.2 _ (rd_mem l c h0 h1)).2.1
  simp [Lit.wf, IntKind.min, IntKind.max, IntKind.signed, IntKind.bits] at this
  exact this
theorem Sane.own {l : Tbl} (h : Sane l) {c : Int} (h0 : 0 ≤ c) (h1 : c < (l.length : Int)) : (own l c).length * 24 ≤ 140737488351232 ∧ ∀ x ∈ own l c, x.f0.size ≤ 140737488351232 ∧ (0 ≤ x.f1 ∧ x.f1 ≤ 255) := by
  obtain ⟨_, h2, h3⟩ := (h.2.2 _ (rd_mem l c h0 h1)).2.2
  refine ⟨h2, fun x hx => ⟨(h3 x hx).1, ?_⟩⟩
  have := (h3 x hx).2
  simp [Lit.wf, IntKind.min, IntKind.max, IntKind.signed, IntKind.bits] at this
  exact this

theorem nam_eq (l : Tbl) (i : Int) (s : ByteArray) : (rd_T38 l i).f0.toList = s.toList ↔ nam l i = s := str_eq _ _

def fieldFaultFrom (l : Tbl) (all fs : List S40) : Nat → Nat → Int
  | 0, _ => if (fs.length : Int) > 32 - (all.length : Int) then 4 else 0
  | d + 1, i => if nameOk (rd_T40 fs i).f0 = true then (if hasB all (rd_T40 fs i).f0 = true then 20 else if hasB (fs.take i) (rd_T40 fs i).f0 = true then 20 else if storedB l (rd_T40 fs i).f1 = true then fieldFaultFrom l all fs d (i + 1) else 22) else 6
def fieldFault (l : Tbl) (all fs : List S40) : Int := fieldFaultFrom l all fs fs.length 0
def aheadFrom (l : Tbl) (c : Int) : Nat → Bool
  | 0 => false
  | d + 1 => decide (nam l (c - (d + 1)) = nam l c) || aheadFrom l c d
def aheadB (l : Tbl) (c : Int) : Bool := aheadFrom l c c.toNat
def parFault (l : Tbl) (c : Int) : Int := if par l c < -1 then 21 else if par l c ≥ c then 21 else fieldFault l (fieldsOf l (par l c)) (own l c)
def faultB (l : Tbl) (c : Int) : Int :=
  if c ≥ 32 then 4 else if nameOk (nam l c) = true then (if isWordB (nam l c) = true then 6 else if aheadB l c = true then 20 else parFault l c) else 6

theorem fields_fault (l : Tbl) (all fs : List S40) (h1 : all.length ≤ 5864062014805) (h2 : fs.length * 24 ≤ 140737488351232) (h3 : ∀ x ∈ fs, x.f0.size ≤ 140737488351232 ∧ (0 ≤ x.f1 ∧ x.f1 ≤ 255)) (nm : ByteArray) (pr : Int) : ∀ (d i : Nat), fs.length - i = d → i ≤ fs.length →
    Ev (fun k => provisoref02_fault.l1 k l all (i : Int) nm pr fs) (fieldFaultFrom l all fs d i)
  | 0, i, hd, hi => by
    unfold fieldFaultFrom
    refine Ev.step (f := fun _ => some _) (fun k => ?_) (Ev.now _)
    simp only [provisoref02_fault.l1]
    rw [if_neg (by omega), show wrap64 (32 - (all.length : Int)) = 32 - (all.length : Int) by unfold wrap64; omega]
    split <;> rfl
  | d + 1, i, hd, hi => by
    have hlt : i < fs.length := by omega
    have hrd : rd_T40 fs ((i : Nat) : Int) = fs[i] := by simp [rd_T40, List.getD_eq_getElem?_getD, hlt]
    obtain ⟨hs, ht⟩ := h3 fs[i] (List.getElem_mem _)
    have ih := fields_fault l all fs h1 h2 h3 nm pr d (i + 1) (by omega) (by omega)
    unfold fieldFaultFrom
    rw [hrd]
    refine Ev.step (fun k => by simp only [provisoref02_fault.l1]; rw [if_pos (by omega), if_pos (by omega), hrd]) ?_
    refine Ev.bind (f := fun k t => if t = true then _ else _) (ref_name _ hs) ?_
    cases nameOk fs[i].f0 with
    | false => exact Ev.now _
    | true =>
      refine Ev.bind (f := fun k t => if t = true then _ else _) (ref_has all _ (by omega)) ?_
      cases hasB all fs[i].f0 with
      | true => exact Ev.now _
      | false =>
        refine Ev.congr (f := fun k => (provisoref02_has.f k (fs.take i) fs[i].f0).bind _) (fun k => by
          show (if (i : Int) ≤ (fs.length : Int) then _ else _) = _
          rw [if_pos (by omega), Int.toNat_natCast]) ?_
        refine Ev.bind (f := fun k t => if t = true then _ else _) (ref_has (fs.take i) _ (by simp; omega)) ?_
        cases hasB (fs.take i) fs[i].f0 with
        | true => exact Ev.now _
        | false =>
          refine Ev.congr (f := fun k => if storedB l fs[i].f1 = true then _ else _) (fun k => by
            show (provisoref02_Stored.f l fs[i].f1).bind _ = _
            rw [ref_stored l _ ht]
            rfl) ?_
          cases storedB l fs[i].f1 with
          | false => exact Ev.now _
          | true =>
            refine Ev.congr (fun k => ?_) ih
            show provisoref02_fault.l1 k l all (wrap64 ((i : Int) + 1)) nm pr fs = _
            rw [w_next (n := fs.length) (by omega) (by omega) (by omega)]
            rfl
theorem par_fault (l : Tbl) (hs : Sane l) (c : Int) (h0 : 0 ≤ c) (h1 : c < (l.length : Int)) (hd : Dec l c) (hlim : ∀ p : Int, -1 ≤ p → p < c → (fieldsOf l p).length ≤ 32) :
    Ev (fun k => provisoref02_fault.l0 k l c c (nam l c) (par l c) (own l c)) (parFault l c) := by
  unfold parFault
  have hj : Ev (fun k => provisoref02_fault.j2 k l true (nam l c) (par l c) (own l c)) 21 := Ev.step (f := fun _ => some 21) (fun k => by simp only [provisoref02_fault.j2]; rfl) (Ev.now _)
  by_cases p1 : par l c < -1
  · rw [if_pos p1]
    exact Ev.step (fun k => by simp only [provisoref02_fault.l0]; rw [if_neg (by omega), if_pos p1]) hj
  · rw [if_neg p1]
    by_cases p2 : par l c ≥ c
    · rw [if_pos p2]
      exact Ev.step (fun k => by simp only [provisoref02_fault.l0]; rw [if_neg (by omega), if_neg p1, decide_eq_true p2]) hj
    · rw [if_neg p2]
      refine Ev.step (f := fun k => provisoref02_fault.j2 k l false (nam l c) (par l c) (own l c)) (fun k => by simp only [provisoref02_fault.l0]; rw [if_neg (by omega), if_neg p1, decide_eq_false p2]) ?_
      have hlp := hlim (par l c) (by omega) (by omega)
      refine Ev.step (f := fun k => (provisoref02_Fields.f k l (par l c)).bind fun t => provisoref02_fault.l1 k l t 0 (nam l c) (par l c) (own l c)) (fun k => by simp only [provisoref02_fault.j2]; rfl) ?_
      refine Ev.bind (f := fun k t => provisoref02_fault.l1 k l t 0 (nam l c) (par l c) (own l c)) (ref_fields l c (by omega) hs.2.1 hd (par l c) (by omega) (by omega)) ?_
      exact fields_fault l _ (own l c) (by omega) (hs.own h0 h1).1 (hs.own h0 h1).2 _ _ _ 0 (by omega) (by omega)
theorem ahead_fault (l : Tbl) (hs : Sane l) (c : Int) (h0 : 0 ≤ c) (h1 : c < (l.length : Int)) (hd : Dec l c) (hlim : ∀ p : Int, -1 ≤ p → p < c → (fieldsOf l p).length ≤ 32) : ∀ (d : Nat), (d : Int) ≤ c →
    Ev (fun k => provisoref02_fault.l0 k l c (c - d) (nam l c) (par l c) (own l c)) (if aheadFrom l c d = true then 20 else parFault l c)
  | 0, _ => by
    have := par_fault l hs c h0 h1 hd hlim
    simpa [aheadFrom] using this
  | d + 1, hdc => by
    have ih := ahead_fault l hs c h0 h1 hd hlim d (by omega)
    have hsz := hs.size
    have e1 : c - ((d : Int) + 1) + 1 = c - d := by omega
    by_cases e : nam l (c - ((d : Int) + 1)) = nam l c
    · have e2 : aheadFrom l c (d + 1) = true := by unfold aheadFrom; rw [decide_eq_true e, Bool.true_or]
      rw [e2, if_pos rfl]
      refine Ev.step (f := fun _ => some 20) (fun k => ?_) (Ev.now _)
      show provisoref02_fault.l0 (k + 1) l c (c - ((d : Int) + 1)) (nam l c) (par l c) (own l c) = _
      simp only [provisoref02_fault.l0]
      rw [if_pos (by omega), if_pos (by omega), if_pos (by omega), if_pos ((nam_eq l _ _).mpr e)]
    · have e2 : aheadFrom l c (d + 1) = aheadFrom l c d := by conv => lhs; unfold aheadFrom
                                                              rw [decide_eq_false e, Bool.false_or]
      rw [e2]
      refine Ev.step (fun k => ?_) ih
      show provisoref02_fault.l0 (k + 1) l c (c - ((d : Int) + 1)) (nam l c) (par l c) (own l c) = _
      simp only [provisoref02_fault.l0]
      rw [if_pos (by omega), if_pos (by omega), if_pos (by omega), if_neg (fun h9 => e ((nam_eq l _ _).mp h9)), show wrap64 (c - ((d : Int) + 1) + 1) = c - d by rw [e1]; unfold wrap64; omega]
theorem ref_fault (l : Tbl) (hs : Sane l) (c : Int) (h0 : 0 ≤ c) (h1 : c < (l.length : Int)) (hd : Dec l c) (hlim : ∀ p : Int, -1 ≤ p → p < c → (fieldsOf l p).length ≤ 32) : Ev (fun k => provisoref02_fault.f k l c) (faultB l c) := by
  unfold faultB
  have ha := ahead_fault l hs c h0 h1 hd hlim c.toNat (by omega)
  rw [show c - (c.toNat : Int) = 0 by omega] at ha
  have hj : ∀ b : Bool, Ev (fun k => provisoref02_fault.j0 k l c b (nam l c) (par l c) (own l c)) (if b = true then 6 else if aheadB l c = true then 20 else parFault l c) := by
    intro b
    cases b with
    | true => exact Ev.step (f := fun _ => some 6) (fun k => by simp only [provisoref02_fault.j0]; rfl) (Ev.now _)
    | false => exact Ev.step (fun k => by simp only [provisoref02_fault.j0]; rfl) ha
  by_cases h32 : c ≥ 32
  · rw [if_pos h32]
    exact Ev.congr (f := fun _ => some 4) (fun k => by unfold provisoref02_fault.f; rw [if_pos h0, if_pos h1, if_pos h32]) (Ev.now _)
  · rw [if_neg h32]
    refine Ev.congr (fun k => by unfold provisoref02_fault.f; rw [if_pos h0, if_pos h1, if_neg h32]; rfl) (Ev.bind (f := fun k t => if t = true then ((provisoref02_isWord.f k (nam l c)).bind fun t119 => provisoref02_fault.j0 k l c t119 (nam l c) (par l c) (own l c)) else provisoref02_fault.j0 k l c true (nam l c) (par l c) (own l c)) (ref_name _ (hs.nam h0 h1)) ?_)
    have hjt := hj true
    cases nameOk (nam l c) with
    | false => exact hjt
    | true => exact Ev.bind (f := fun k t => provisoref02_fault.j0 k l c t (nam l c) (par l c) (own l c)) (ref_word _) (hj _)

def GoodTo (l : Tbl) (n : Int) : Prop := ∀ c : Int, 0 ≤ c → c < n → faultB l c = 0
theorem field_fault_long (l : Tbl) (all fs : List S40) : ∀ (d i : Nat), fieldFaultFrom l all fs d i = 0 → (fs.length : Int) ≤ 32 - all.length
  | 0, i, h => by
    unfold fieldFaultFrom at h
    split at h <;> omega
  | d + 1, i, h => by
    unfold fieldFaultFrom at h
    split at h
    · split at h
      · omega
      · split at h
        · omega
        · split at h
          · exact field_fault_long l all fs d (i + 1) h
          · omega
    · omega
theorem fault_zero {l : Tbl} {c : Int} (h : faultB l c = 0) : c < 32 ∧ nameOk (nam l c) = true ∧ isWordB (nam l c) = false ∧ aheadB l c = false ∧ -1 ≤ par l c ∧ par l c < c ∧ fieldFault l (fieldsOf l (par l c)) (own l c) = 0 := by
  unfold faultB parFault at h
  split at h
  · omega
  · split at h
    · split at h
      · omega
      · split at h
        · omega
        · split at h
          · omega
          · split at h
            · omega
            · rename_i h1 h2 h3 h4 h5 h6
              exact ⟨by omega, h2, by simpa using h3, by simpa using h4, by omega, by omega, h⟩
    · omega
theorem GoodTo.dec {l : Tbl} {n : Int} (h : GoodTo l n) : Dec l n := fun i h0 h1 => (fault_zero (h i h0 h1)).2.2.2.2.2.1
theorem fieldsOf_in (l : Tbl) (c : Int) (h0 : 0 ≤ c) (h1 : c < (l.length : Int)) (h2 : par l c < c) : fieldsOf l c = fieldsOf l (par l c) ++ own l c := by
  unfold fieldsOf
  rw [climbL_in l c h0 h1 h2, List.reverse_cons, List.flatMap_append]
  simp [par]
theorem fieldsOf_out (l : Tbl) (c : Int) (h : ¬ (0 ≤ c ∧ c < (l.length : Int))) : fieldsOf l c = [] := by
  unfold fieldsOf
  rw [climbL_out l c h]
  rfl
theorem GoodTo.fields {l : Tbl} {n : Int} (hn : n ≤ l.length) (h : GoodTo l n) (c : Int) (hc : c < n) : (fieldsOf l c).length ≤ 32 := by
  by_cases h0 : 0 ≤ c
  · obtain ⟨_, _, _, _, h5, h6, h7⟩ := fault_zero (h c h0 hc)
    have := field_fault_long l _ _ _ _ h7
    rw [fieldsOf_in l c h0 (by omega) h6, List.length_append]
    omega
  · rw [fieldsOf_out l c (by omega)]
    simp
def checkFrom (l : Tbl) : Nat → Int → Int × Int
  | 0, _ => (0, 0)
  | d + 1, c => if faultB l c = 0 then checkFrom l d (c + 1) else (c, faultB l c)
def checkB (l : Tbl) : Int × Int := checkFrom l l.length 0
theorem check_tells (l : Tbl) (hs : Sane l) : ∀ (d : Nat) (c : Int), 0 ≤ c → (l.length : Int) - c = d → GoodTo l c → Ev (fun k => provisoref02_Check.l0 k l c) (checkFrom l d c)
  | 0, c, h0, hd, hg => by
    unfold checkFrom
    exact Ev.step (f := fun _ => some _) (fun k => by simp only [provisoref02_Check.l0]; rw [if_neg (by omega)]) (Ev.now _)
  | d + 1, c, h0, hd, hg => by
    have hf := ref_fault l hs c h0 (by omega) hg.dec (fun p hp1 hp2 => hg.fields (by omega) p hp2)
    unfold checkFrom
    refine Ev.step (fun k => by simp only [provisoref02_Check.l0]; rw [if_pos (by omega)]) (Ev.bind (f := fun k t => if t = 0 then _ else _) hf ?_)
    by_cases e : faultB l c = 0
    · rw [if_pos e]
      have hsz := hs.size
      refine Ev.congr (fun k => ?_) (check_tells l hs d (c + 1) (by omega) (by omega) (fun i hi0 hi1 => if hi : i < c then hg i hi0 hi else by rw [show i = c by omega]; exact e))
      rw [if_pos e, show wrap64 (c + 1) = c + 1 by unfold wrap64; omega]
    · rw [if_neg e]
      exact Ev.congr (f := fun _ => some _) (fun k => by rw [if_neg e]) (Ev.now _)
theorem ref_check (l : Tbl) (hs : Sane l) : Ev (fun k => provisoref02_Check.f k l) (checkB l) :=
  check_tells l hs l.length 0 (by omega) (by omega) (fun i h0 h1 => by omega)
theorem checkFrom_zero (l : Tbl) : ∀ (d : Nat) (c : Int), (checkFrom l d c).2 = 0 ↔ ∀ i : Int, c ≤ i → i < c + d → faultB l i = 0
  | 0, c => by
    constructor
    · intro _ i h1 h2; omega
    · intro _; rfl
  | d + 1, c => by
    unfold checkFrom
    split
    · rename_i e
      rw [checkFrom_zero l d (c + 1)]
      constructor
      · intro h i h1 h2
        by_cases hi : i = c
        · rw [hi]; exact e
        · exact h i (by omega) (by omega)
      · intro h i h1 h2
        exact h i (by omega) (by omega)
    · rename_i e
      constructor
      · intro h; exact absurd h e
      · intro h; exact h c (by omega) (by omega)
def Good (l : Tbl) : Prop := GoodTo l l.length
theorem good_iff (l : Tbl) : (checkB l).2 = 0 ↔ Good l := by
  unfold checkB
  rw [checkFrom_zero l l.length 0]
  unfold Good GoodTo
  simp
def madeB (l : Tbl) : Bool := (checkB l).2 == 0
theorem madeB_iff (l : Tbl) : madeB l = true ↔ Good l := by unfold madeB; rw [beq_iff_eq]; exact good_iff l
theorem ref_made (l : Tbl) (hs : Sane l) : Ev (fun k => provisoref02_Made.f k l) (madeB l) :=
  Ev.congr (fun k => rfl) (Ev.bind (f := fun k (b : Int × Int) => some (b.2 == 0)) (ref_check l hs) (Ev.now _))
theorem Good.short {l : Tbl} (h : Good l) : l.length ≤ 32 := by
  rcases Nat.lt_or_ge 32 l.length with h1 | h1
  · have := (fault_zero (h 32 (by omega) (by omega))).1
    omega
  · exact h1
theorem Good.dec {l : Tbl} (h : Good l) : Dec l l.length := GoodTo.dec h
end Go.Proofs.Ytghgloepameloaa.P

end

section
namespace Go.Proofs.Ytghgloepameloaa.P
open Go.RowKit Go.Proofs.YtghgloepameloaaW.PrintWords Go.Proofs.YtghgloepameloaaW.PrintLast Go.Proofs.YtghgloepameloaaW.PrintMore
set_option linter.unusedVariables false
set_option linter.unusedSimpArgs false

theorem Good.nameOk {l : Tbl} (h : Good l) {c : Int} (h0 : 0 ≤ c) (h1 : c < (l.length : Int)) : nameOk (nam l c) = true ∧ isWordB (nam l c) = false :=
  ⟨(fault_zero (h c h0 h1)).2.1, (fault_zero (h c h0 h1)).2.2.1⟩
end Go.Proofs.Ytghgloepameloaa.P

end

section
namespace Go.Proofs.Ytghgloepameloaa.P
open Go.RowKit Go.Proofs.YtghgloepameloaaW.PrintWords Go.Proofs.YtghgloepameloaaW.PrintLast Go.Proofs.YtghgloepameloaaW.PrintMore
set_option linter.unusedVariables false
set_option linter.unusedSimpArgs false

theorem climb_self (l : Tbl) (x : Int) (h0 : 0 ≤ x) (h1 : x < (l.length : Int)) : x ∈ climbL l x := by
  unfold climbL
  rw [climbF, if_pos ⟨h0, h1⟩]
  exact List.mem_cons_self
theorem climb_suffix {l : Tbl} (hd : Dec l l.length) : ∀ (d : Nat) (x y : Int), (x + 1).toNat ≤ d → y ∈ climbL l x → ∃ pre, climbL l x = pre ++ climbL l y
  | 0, x, y, h, hm => by
    rw [climbL_out l x (by omega)] at hm
    cases hm
  | d + 1, x, y, h, hm => by
    by_cases hx : 0 ≤ x ∧ x < (l.length : Int)
    · have hp := hd x hx.1 hx.2
      rw [climbL_in l x hx.1 hx.2 hp] at hm ⊢
      rcases List.mem_cons.1 hm with rfl | hm
      · exact ⟨[], by rw [climbL_in l y hx.1 hx.2 hp]; rfl⟩
      · obtain ⟨pre, e⟩ := climb_suffix hd d _ y (by unfold par at hp; omega) hm
        exact ⟨x :: pre, by rw [e]; rfl⟩
    · rw [climbL_out l x hx] at hm
      cases hm
theorem class_valid (l : Tbl) (a : Int) (ha : 0 ≤ a ∧ a ≤ 255) : classOf l a = if 16 ≤ a ∧ a - 16 < (l.length : Int) then a - 16 else -1 := by
  unfold classOf
  by_cases h1 : a < 16
  · rw [if_pos h1, if_neg (by omega)]
  · rw [if_neg h1, show (a - 16) % 256 = a - 16 by omega]
    by_cases h2 : a - 16 ≥ (l.length : Int)
    · rw [if_pos h2, if_neg (by omega)]
    · rw [if_neg h2, if_pos (by omega)]
theorem impl_valid (l : Tbl) (a : Int) (ha : 0 ≤ a ∧ a ≤ 255) : types_Valid.f l a = some (validB l a) := by
  unfold types_Valid.f validB
  by_cases h1 : a ≤ 5
  · simp [h1]
  · rw [if_neg h1, class_is, class_valid l a ha]
    by_cases h2 : 16 ≤ a ∧ a - 16 < (l.length : Int)
    · rw [if_pos h2]
      simp [h1, h2.1, h2.2]
    · rw [if_neg h2]
      simp [h1]
      omega
def subB (l : Tbl) (a b : Int) : Bool :=
  if validB l a = true ∧ validB l b = true then (if a = b then true else if b = 0 then true else if a = 3 ∨ b = 5 then isRefB a && isRefB b else if 0 ≤ classOf l a ∧ 0 ≤ classOf l b then decide (classOf l b ∈ climbL l (classOf l a)) else false) else false
theorem impl_sub (l : Tbl) (a b : Int) (ha : 0 ≤ a ∧ a ≤ 255) (hb : 0 ≤ b ∧ b ≤ 255) (k : Nat) : types_Sub.f (k + 3) l a b = some (subB l a b) := by
  unfold types_Sub.f subB
  rw [impl_valid l a ha, impl_valid l b hb]
  simp only [Option.bind_some, types_Sub.j0, types_Sub.j1, types_Sub.j2, isRef_is, class_is, types_above.f]
  cases validB l a with
  | false => simp
  | true =>
    cases validB l b with
    | false => simp
    | true =>
      by_cases e1 : a = b
      · simp [e1]
      · by_cases e2 : b = 0
        · simp [e1, e2]
        · by_cases e3 : a = 3
          · cases hra : isRefB a <;> cases hrb : isRefB b <;> simp [e1, e2, e3, hra, hrb] <;> simp_all
          · by_cases e5 : b = 5
            · cases hra : isRefB a <;> cases hrb : isRefB b <;> simp [e1, e2, e3, e5, hra, hrb] <;> simp_all
            · by_cases g1 : 0 ≤ classOf l a <;> by_cases g2 : 0 ≤ classOf l b <;> simp [e1, e2, e3, e5, g1, g2] <;> omega

theorem sub_iff (l : Tbl) (a b : Int) : subB l a b = true ↔ validB l a = true ∧ validB l b = true ∧ (a = b ∨ b = 0 ∨ ((a = 3 ∨ b = 5) ∧ isRefB a = true ∧ isRefB b = true) ∨ (¬ (a = 3 ∨ b = 5) ∧ 0 ≤ classOf l a ∧ 0 ≤ classOf l b ∧ classOf l b ∈ climbL l (classOf l a))) := by
  unfold subB
  by_cases h : validB l a = true ∧ validB l b = true
  · rw [if_pos h]
    by_cases e1 : a = b
    · simp [e1, h.2]
    · rw [if_neg e1]
      by_cases e2 : b = 0
      · simp [e2, h.1]
        rw [← e2]; exact h.2
      · rw [if_neg e2]
        by_cases e3 : a = 3 ∨ b = 5
        · rw [if_pos e3]
          simp [h.1, h.2, e1, e2, e3]
        · rw [if_neg e3]
          by_cases g : 0 ≤ classOf l a ∧ 0 ≤ classOf l b
          · rw [if_pos g]
            simp [h.1, h.2, e1, e2, e3, g.1, g.2]
          · rw [if_neg g]
            simp [h.1, h.2, e1, e2, e3]
            intro g1 g2
            exact absurd ⟨g1, g2⟩ g
  · rw [if_neg h]
    simp
    intro h1 h2
    exact absurd ⟨h1, h2⟩ h
end Go.Proofs.Ytghgloepameloaa.P

end

section
namespace Go.Proofs.Ytghgloepameloaa.P
open Go.RowKit Go.Proofs.YtghgloepameloaaW.PrintWords Go.Proofs.YtghgloepameloaaW.PrintLast Go.Proofs.YtghgloepameloaaW.PrintMore
set_option linter.unusedVariables false
set_option linter.unusedSimpArgs false

theorem class_type {l : Tbl} (hg : Good l) {c : Int} (h0 : 0 ≤ c) (h1 : c < (l.length : Int)) : (16 + c) % 256 = 16 + c ∧ validB l (16 + c) = true ∧ classOf l (16 + c) = c ∧ 0 ≤ 16 + c ∧ 16 + c ≤ 255 := by
  have := hg.short
  refine ⟨by omega, by simp [validB]; omega, ?_, by omega, by omega⟩
  rw [class_valid l (16 + c) (by omega), if_pos (by omega)]
  omega
end Go.Proofs.Ytghgloepameloaa.P

end

section
namespace Go.Proofs.Ytghgloepameloaa.P
open Go.RowKit Go.Proofs.YtghgloepameloaaW.PrintWords Go.Proofs.YtghgloepameloaaW.PrintLast Go.Proofs.YtghgloepameloaaW.PrintMore
set_option linter.unusedVariables false
set_option linter.unusedSimpArgs false

def deepOf (l : Tbl) (c : Int) : Int := 1 + ((climbL l c).length : Int)
theorem deepOf_le (l : Tbl) (c : Int) : 1 ≤ deepOf l c ∧ deepOf l c ≤ 1 + l.length := by
  have := climbL_length l c
  unfold deepOf
  omega
end Go.Proofs.Ytghgloepameloaa.P

end

section
namespace Go.Proofs.Ytghgloepameloaa.P
open Go.RowKit Go.Proofs.YtghgloepameloaaW.PrintWords Go.Proofs.YtghgloepameloaaW.PrintLast Go.Proofs.YtghgloepameloaaW.PrintMore
set_option linter.unusedVariables false
set_option linter.unusedSimpArgs false

theorem u64_of {a : Int} (h : (Lit.int .u64 a).wf = true) : 0 ≤ a ∧ a ≤ 18446744073709551615 := by
  simp [Lit.wf, IntKind.min, IntKind.max, IntKind.signed, IntKind.bits] at h
  exact h
theorem rd_field (fs : List S40) (i : Nat) (h : i < fs.length) : rd_T40 fs (i : Int) = fs[i] := by simp [rd_T40, List.getD_eq_getElem?_getD, h]
theorem hasB_false {fs : List S40} {s : ByteArray} (h : ¬ hasB fs s = true) : ∀ x ∈ fs, x.f0 ≠ s := by
  intro x hx e
  apply h
  unfold hasB
  rw [List.any_eq_true]
  exact ⟨x, hx, decide_eq_true e⟩
theorem fault_twice (l : Tbl) (all fs : List S40) : ∀ (d i : Nat), i + d = fs.length → fieldFaultFrom l all fs d i = 0 → ∀ (j : Nat) (hj : j < fs.length), i ≤ j → (∀ x ∈ all, x.f0 ≠ (fs[j]'hj).f0) ∧ (∀ x ∈ fs.take j, x.f0 ≠ (fs[j]'hj).f0)
  | 0, i, hd, h, j, hj, hij => by omega
  | d + 1, i, hd, h, j, hj, hij => by
    unfold fieldFaultFrom at h
    split at h
    · split at h
      · omega
      · split at h
        · omega
        · split at h
          · by_cases e : i = j
            · subst e
              rename_i h1 h2 h3 h4
              rw [rd_field fs i hj] at h2 h3
              exact ⟨hasB_false h2, hasB_false h3⟩
            · exact fault_twice l all fs d (i + 1) (by omega) h j hj (by omega)
          · omega
    · omega
theorem fields_apart {l : Tbl} (hg : Good l) : ∀ (d : Nat) (c : Int), (c + 1).toNat ≤ d → c < (l.length : Int) → (fieldsOf l c).Pairwise (fun x y => x.f0 ≠ y.f0)
  | 0, c, h, h1 => by
    rw [fieldsOf_out l c (by omega)]
    exact List.Pairwise.nil
  | d + 1, c, h, h1 => by
    by_cases h0 : 0 ≤ c
    · obtain ⟨_, _, _, _, h5, h6, h7⟩ := fault_zero (hg c h0 h1)
      rw [fieldsOf_in l c h0 h1 h6]
      have hf := fault_twice l (fieldsOf l (par l c)) (own l c) (own l c).length 0 (by omega) h7
      refine List.pairwise_append.2 ⟨fields_apart hg d _ (by omega) (by omega), ?_, ?_⟩
      · rw [List.pairwise_iff_getElem]
        intro i j hi hj hij
        exact (hf j hj (by omega)).2 _ (by rw [List.mem_take_iff_getElem]; exact ⟨i, by omega, rfl⟩)
      · intro x hx y hy
        obtain ⟨j, hj, rfl⟩ := List.getElem_of_mem hy
        exact (hf j hj (by omega)).1 x hx
    · rw [fieldsOf_out l c (by omega)]
      exact List.Pairwise.nil
theorem fields_begin {l : Tbl} (hg : Good l) {p c : Int} (h : p ∈ climbL l c) : ∃ suf, fieldsOf l c = fieldsOf l p ++ suf := by
  obtain ⟨pre, e⟩ := climb_suffix hg.dec _ c p (Nat.le_refl _) h
  refine ⟨pre.reverse.flatMap fun i => own l i, ?_⟩
  unfold fieldsOf
  rw [e, List.reverse_append, List.flatMap_append]
theorem own_le {l : Tbl} (hg : Good l) {c : Int} (h0 : 0 ≤ c) (h1 : c < (l.length : Int)) : (own l c).length ≤ (fieldsOf l c).length := by
  rw [fieldsOf_in l c h0 h1 (hg.dec c h0 h1), List.length_append]
  omega
theorem climb_short {l : Tbl} : ∀ c : Int, (climbL l c).length ≤ l.length := fun c => by
  have := (deepOf_le l c).2
  unfold deepOf at this
  omega
theorem impl_fields {l : Tbl} (hg : Good l) {c : Int} (h1 : c < (l.length : Int)) : types_Fields.f l c = some (fieldsOf l c) := by
  have := hg.short
  have h2 := climb_short (l := l) c
  have h3 := GoodTo.fields (Int.le_refl _) hg c h1
  unfold types_Fields.f
  rw [if_pos ⟨by omega, by unfold fieldsOf own at h3; omega⟩]
  rfl
theorem law_above_tells {l : Tbl} (hg : Good l) (b : Int) (hb : 0 ≤ b) : ∀ (d : Nat) (a : Int), (a + 1).toNat ≤ d → -1 ≤ a → a < (l.length : Int) → Ev (fun k => provisolaw02_above.l0 k l a b) (decide (b ∈ climbL l a))
  | 0, a, h, h0, h1 => by
    rw [climbL_out l a (by omega)]
    exact Ev.step (f := fun _ => some _) (fun k => by simp only [provisolaw02_above.l0]; rw [if_neg (by omega)]; simp; omega) (Ev.now _)
  | d + 1, a, h, h0, h1 => by
    by_cases ha : 0 ≤ a
    · by_cases e : a = b
      · subst e
        exact Ev.step (f := fun _ => some _) (fun k => by simp only [provisolaw02_above.l0]; rw [if_pos ha, if_pos trivial]; simp [climb_self l a ha h1]) (Ev.now _)
      · obtain ⟨_, _, _, _, h5, h6, h7⟩ := fault_zero (hg a ha h1)
        rw [climbL_in l a ha h1 h6]
        have ih := law_above_tells hg b hb d (par l a) (by omega) h5 (by omega)
        have e2 : decide (b ∈ a :: climbL l (rd_T38 l a).f1) = decide (b ∈ climbL l (par l a)) := decide_eq_decide.mpr (by
          rw [List.mem_cons]
          exact ⟨fun h => h.resolve_left (fun h => e h.symm), .inr⟩)
        rw [e2]
        refine Ev.step (fun k => ?_) ih
        simp only [provisolaw02_above.l0]
        rw [if_pos ha, if_neg e, if_pos ha, if_pos h1]
        rfl
    · rw [climbL_out l a (by omega)]
      exact Ev.step (f := fun _ => some _) (fun k => by simp only [provisolaw02_above.l0]; rw [if_neg (by omega)]; simp; omega) (Ev.now _)
theorem law_above {l : Tbl} (hg : Good l) {a b : Int} (hb : 0 ≤ b) (h0 : 0 ≤ a) (h1 : a < (l.length : Int)) : Ev (fun k => provisolaw02_above.f k l a b) (decide (b ∈ climbL l a)) := law_above_tells hg b hb _ a (Nat.le_refl _) (by omega) h1
theorem sub_classes {l : Tbl} (hg : Good l) {c p : Int} (c0 : 0 ≤ c) (c1 : c < (l.length : Int)) (p0 : 0 ≤ p) (p1 : p < (l.length : Int)) : subB l (16 + c) (16 + p) = decide (p ∈ climbL l c) := by
  obtain ⟨_, vc, kc, _, _⟩ := class_type hg c0 c1
  obtain ⟨_, vp, kp, _, _⟩ := class_type hg p0 p1
  rw [Bool.eq_iff_iff, sub_iff, decide_eq_true_iff, kc, kp]
  constructor
  · rintro ⟨_, _, h⟩
    rcases h with h | h | h | h
    · have : c = p := by omega
      subst this
      exact climb_self l c c0 c1
    · omega
    · omega
    · exact h.2.2.2
  · intro h
    exact ⟨vc, vp, .inr (.inr (.inr ⟨by omega, c0, p0, h⟩))⟩

def findFrom (fs : List S40) (s : ByteArray) : Nat → Nat → Int × Int × Bool
  | 0, _ => (0, 0, false)
  | d + 1, i => if (rd_T40 fs i).f0 = s then (i, (rd_T40 fs i).f1, true) else findFrom fs s d (i + 1)
theorem find_tells (fs : List S40) (hl : fs.length ≤ 9223372036854775807) (s : ByteArray) : ∀ (d i : Nat), i + d = fs.length → Ev (fun k => types_Find.l0 k s fs (fs.length : Int) (i : Int)) (findFrom fs s d i)
  | 0, i, hd => Ev.step (f := fun _ => some _) (fun k => by simp only [types_Find.l0]; rw [if_neg (by omega)]; rfl) (Ev.now _)
  | d + 1, i, hd => by
    have ih := find_tells fs hl s d (i + 1) (by omega)
    have hw : wrap64 ((i : Int) + 1) = ((i + 1 : Nat) : Int) := by unfold wrap64; omega
    unfold findFrom
    by_cases e : (rd_T40 fs i).f0 = s
    · rw [if_pos e]
      exact Ev.step (f := fun _ => some _) (fun k => by simp only [types_Find.l0]; rw [if_pos (by omega), if_pos (by omega), if_pos (by omega), if_pos ((str_eq _ _).mpr e)]) (Ev.now _)
    · rw [if_neg e]
      refine Ev.step (fun k => ?_) ih
      simp only [types_Find.l0]
      rw [if_pos (by omega), if_pos (by omega), if_pos (by omega), if_neg (fun h => e ((str_eq _ _).mp h)), hw]
def findB (l : Tbl) (c : Int) (s : ByteArray) : Int × Int × Bool := findFrom (fieldsOf l c) s (fieldsOf l c).length 0
theorem impl_find {l : Tbl} (hg : Good l) {c : Int} (h1 : c < (l.length : Int)) (s : ByteArray) : Ev (fun k => types_Find.f k l c s) (findB l c s) := by
  have h3 := GoodTo.fields (Int.le_refl _) hg c h1
  refine Ev.congr (fun k => ?_) (find_tells (fieldsOf l c) (by omega) s (fieldsOf l c).length 0 (by omega))
  unfold types_Find.f
  rw [impl_fields hg h1]
  rfl
theorem find_at (fs : List S40) (hp : fs.Pairwise (fun x y => x.f0 ≠ y.f0)) (j : Nat) (hj : j < fs.length) : ∀ (d i : Nat), i + d = fs.length → i ≤ j → findFrom fs (fs[j]'hj).f0 d i = ((j : Int), (fs[j]'hj).f1, true)
  | 0, i, hd, hi => by omega
  | d + 1, i, hd, hi => by
    unfold findFrom
    rw [rd_field fs i (by omega)]
    by_cases e : i = j
    · subst e
      rw [if_pos rfl]
    · rw [if_neg (List.pairwise_iff_getElem.1 hp i j (by omega) hj (by omega))]
      exact find_at fs hp j hj d (i + 1) (by omega) (by omega)
end Go.Proofs.Ytghgloepameloaa.P

end

section
namespace Go.Proofs.Ytghgloepameloaa.Pure
open Go.RowKit Go.Proofs.Ytghgloepameloaa.P Go.Proofs.YtghgloepameloaaW.PrintWords
set_option linter.unusedSimpArgs false
theorem stays_tells {l : Tbl} (hg : Go.Proofs.Ytghgloepameloaa.P.Good l) {c : Int} (c1 : c < (l.length : Int)) (f suf : List S40) (he : fieldsOf l c = f ++ suf) : ∀ (d i : Nat), i + d = f.length →
    Ev (fun k => provisolaw02_TypesStays.l0 k l c (fieldsOf l c) f (f.length : Int) (i : Int)) true
  | 0, i, hd => Ev.step (f := fun _ => some _) (fun k => by simp only [provisolaw02_TypesStays.l0]; rw [if_neg (by omega)]) (Ev.now _)
  | d + 1, i, hd => by
    have h3 := GoodTo.fields (Int.le_refl _) hg c c1
    have hl : f.length ≤ (fieldsOf l c).length := by rw [he, List.length_append]; omega
    have ih := stays_tells hg c1 f suf he d (i + 1) (by omega)
    have hw : wrap64 ((i : Int) + 1) = ((i + 1 : Nat) : Int) := by unfold wrap64; omega
    have hi : i < f.length := by omega
    have hj : i < (fieldsOf l c).length := by omega
    have e1 : rd_T40 f (i : Int) = f[i] := rd_field f i hi
    have e2 : rd_T40 (fieldsOf l c) (i : Int) = f[i] := by
      rw [rd_field _ i hj]
      simp only [he]
      rw [List.getElem_append_left hi]
    have e3 : (fieldsOf l c)[i]'hj = f[i] := by rw [← rd_field _ i hj, e2]
    have hfd : findB l c (f[i]).f0 = ((i : Int), (f[i]).f1, true) := by
      have := find_at (fieldsOf l c) (fields_apart hg _ c (Nat.le_refl _) c1) i hj (fieldsOf l c).length 0 (by omega) (by omega)
      rw [e3] at this
      exact this
    have hF := impl_find hg c1 (f[i]).f0
    rw [hfd] at hF
    refine Ev.step (f := fun k => (types_Find.f k l c (f[i]).f0).bind fun bt => if bt.1 = (i : Int) then (if bt.2.1 = (f[i]).f1 then (if bt.2.2 = true then provisolaw02_TypesStays.l0 k l c (fieldsOf l c) f (f.length : Int) ((i + 1 : Nat) : Int) else some false) else some false) else some false) (fun k => ?_) ?_
    · simp only [provisolaw02_TypesStays.l0]
      rw [if_pos (by omega), if_pos (by omega), if_pos (by omega), e1, e2, hw]
      refine congrArg _ (funext fun bt => ?_)
      rw [if_pos (by omega), if_neg (by simp)]
    · refine Ev.bind hF ?_
      refine Ev.congr (fun k => ?_) ih
      simp
theorem TypesStays : provisolaw02_TypesStays.Pure := by
  intro l a b hl ha hb
  have hs : Sane l := hl
  have ha : 0 ≤ a := (u64_of ha).1
  have hb : 0 ≤ b := (u64_of hb).1
  apply Ev.rounds
  unfold provisolaw02_TypesStays.f
  refine Ev.bind (ref_made l hs) ?_
  cases hmd : madeB l with
  | false => exact Ev.congr (fun k => by rw [if_neg (by simp)]) (Ev.step (f := fun _ => some _) (fun k => by simp only [provisolaw02_TypesStays.j0]; rw [if_pos trivial]) (Ev.now _))
  | true =>
    have hg := (madeB_iff l).mp hmd
    have hsh := hg.short
    refine Ev.congr (fun k => by rw [if_pos rfl]) ?_
    by_cases e0 : l.length = 0
    · exact Ev.step (f := fun _ => some _) (fun k => by simp only [provisolaw02_TypesStays.j0]; rw [if_pos (by simp [e0])]) (Ev.now _)
    · have hw : IntKind.u64.wrap ((l.length : Int)) = (l.length : Int) := IntWalk.u64_in _ (by omega)
      have hz : ¬ ((l.length : Int) == 0) = true := fun h => e0 (by have h2 := beq_iff_eq.mp h; omega)
      obtain ⟨p, hp⟩ : ∃ p, Int.tmod a (l.length : Int) = p := ⟨_, rfl⟩
      obtain ⟨c, hc⟩ : ∃ c, Int.tmod b (l.length : Int) = c := ⟨_, rfl⟩
      have p0 : 0 ≤ p := hp ▸ Int.tmod_nonneg _ ha
      have c0 : 0 ≤ c := hc ▸ Int.tmod_nonneg _ hb
      have p1 : p < (l.length : Int) := hp ▸ Int.tmod_lt_of_pos _ (by omega)
      have c1 : c < (l.length : Int) := hc ▸ Int.tmod_lt_of_pos _ (by omega)
      have wp : wrap64 p = p := by unfold wrap64; omega
      have wc : wrap64 c = c := by unfold wrap64; omega
      obtain ⟨hmp, _, _, bp0, bp1⟩ := class_type hg p0 p1
      obtain ⟨hmc, _, _, bc0, bc1⟩ := class_type hg c0 c1
      have hsub : Ev (fun k => types_Sub.f k l ((16 + c) % 256) ((16 + p) % 256)) (decide (p ∈ climbL l c)) := by
        rw [hmp, hmc, ← sub_classes hg c0 c1 p0 p1]
        exact ⟨3, fun k hk => by have := impl_sub l (16 + c) (16 + p) ⟨bc0, bc1⟩ ⟨bp0, bp1⟩ (k - 3); rwa [show k - 3 + 3 = k by omega] at this⟩
      refine Ev.step (f := fun k => (provisolaw02_above.f k l c p).bind fun t => if t = true then (types_Sub.f k l ((16 + c) % 256) ((16 + p) % 256)).bind fun u => (if u = true then (if ((fieldsOf l p).length : Int) > ((fieldsOf l c).length : Int) then provisolaw02_TypesStays.j1 k l c (fieldsOf l p) (fieldsOf l c) true else provisolaw02_TypesStays.j1 k l c (fieldsOf l p) (fieldsOf l c) (decide (((fieldsOf l c).length : Int) < ((own l c).length : Int)))) else provisolaw02_TypesStays.j1 k l c (fieldsOf l p) (fieldsOf l c) true) else (types_Sub.f k l ((16 + c) % 256) ((16 + p) % 256)).bind fun u => some (!u)) (fun k => ?_) ?_
      · simp only [provisolaw02_TypesStays.j0]
        rw [hw, hp, hc, wp, wc, if_neg hz, if_neg (by omega), impl_fields hg p1, impl_fields hg c1]
        simp only [Option.bind_some]
        rw [if_pos c0, if_pos c1]
        rfl
      · refine Ev.bind (law_above hg p0 c0 c1) ?_
        by_cases hm : p ∈ climbL l c
        · rw [decide_eq_true hm] at hsub ⊢
          refine Ev.congr (fun k => by rw [if_pos rfl]) (Ev.bind hsub ?_)
          obtain ⟨suf, he⟩ := fields_begin hg hm
          have hlen : (fieldsOf l p).length ≤ (fieldsOf l c).length := by rw [he, List.length_append]; omega
          have hown := own_le hg c0 c1
          refine Ev.congr (fun k => by rw [if_pos rfl, if_neg (by omega), decide_eq_false (by omega)]) ?_
          refine Ev.step (fun k => ?_) (stays_tells hg c1 (fieldsOf l p) suf he (fieldsOf l p).length 0 (by omega))
          simp only [provisolaw02_TypesStays.j1]
          rw [if_neg (by simp)]
          rfl
        · rw [decide_eq_false hm] at hsub ⊢
          exact Ev.congr (fun k => by rw [if_neg (by simp)]) (Ev.bind hsub (Ev.now _))
end Go.Proofs.Ytghgloepameloaa.Pure

end

section
namespace Go.Proofs.Ytghgloepameloaa.typesStays
open Go.ChangeShapes Go.WideShapes Go.ChangeAt Go.RowKit Go.Proofs.YtghgloepameloaaW.PrintWords Go.Proofs.Ytghgloepameloaa.Sees Go.Proofs.Ytghgloepameloaa.P
open Go.ChangeMaps (open_string shut_string)
set_option linter.unusedVariables false
set_option linter.unusedSimpArgs false
theorem own : ownKnob Try.prog.godebug = none := by kernel_rfl
theorem laidOut : laidOutB Try.prog = true := by kernel_rfl
set_option maxRecDepth 100000 in
theorem lifted (os : Os) (started : os.Started) (H : Type) (enc : TypeId × Value → H) :
    ReturnsInHanded {} Try.checked os 5 .any (Rows.typesStaysSpec.pre6 enc Try.prog Try.f5 Rows.typesStaysRow.domain false) (Rows.typesStaysSpec.post enc Try.prog Try.f5 false true false false) := by
  refine returnsInHanded_of_change_sized (C := Try.checked) own started (by kernel_rfl) Try.func5
    (ChangeSpec.witness6 (enc := enc) (C := Try.checked) false ⟨#[], #[.slice none 0 0, .int .u64 0, .int .u64 0], []⟩ 8 (by kernel_rfl) (by kernel_rfl) (by kernel_rfl) (by kernel_rfl)) ?_
  intro W base args ds gs before hval0 hW hcnd hsz0 _
  have hsz : (DataW.weightsEach Try.prog (Try.f5.params.toList ++ Rows.typesStaysSpec.plain.varTypes Try.prog) (ds ++ gs)).all (· ≤ reachBytes) = true := hsz0
  have hval : ∀ (j : Nat) t v, Try.f5.params[j]? = some t → args[j]? = some v → Value.okWide Try.prog W .any base t v := hval0
  have hW' := hW
  obtain ⟨p, q, hA0, hV, rfl, hfz, hnd⟩ := hW
  have hA : DataW.TrodAll enc Try.prog W 0 (fun _ => true) true Try.f5.params.toList args.toList ds p := hA0
  rw [Try.params5] at hA hval hsz
  obtain ⟨v0, vs0, d0, ds0, p0, q0, hargs, rfl, rfl, h0, r0⟩ := trodAll_cons hA
  obtain ⟨v1, vs1, d1, ds1, p1, q1, rfl, rfl, rfl, h1, r1⟩ := trodAll_cons r0
  obtain ⟨v2, vs2, d2, ds2, p2, q2, rfl, rfl, rfl, h2, r2⟩ := trodAll_cons r1
  obtain ⟨rfl, rfl, rfl⟩ := trodAll_nil r2
  obtain rfl : args = #[v0, v1, v2] := by cases args; simp_all
  obtain ⟨rfl, rfl⟩ := trodVars_none hV
  have k0 := h0
  have lt0 : ∀ x ∈ p0, x.block < W.heap.size := by obtain ⟨m, hm⟩ := k0; exact DataW.trod_lt m _ _ _ hm
  obtain ⟨y0, hy0, oy0⟩ := see_arg (j := 0) (t := 22) (sees_slice (B := 48) Try.underlying22 (by kernel_rfl) (by kernel_rfl) sees38) hsz rfl rfl h0
  obtain ⟨a0, len0, cap0, rfl⟩ := okWide_slice Try.underlying22 (hval 0 22 v0 rfl rfl)
  obtain ⟨rfl, hc0, hr0⟩ := see_slice rfl hy0
  have k1 := h1
  have lt1 : ∀ x ∈ p1, x.block < W.heap.size := by obtain ⟨m, hm⟩ := k1; exact DataW.trod_lt m _ _ _ hm
  obtain ⟨y1, hy1, oy1⟩ := see_arg (j := 1) (t := 33) (sees_int Try.underlying33) hsz rfl rfl h1
  obtain ⟨z1, rfl, rfl, rfl, _⟩ := open_int Try.underlying33 (hval 1 33 v1 rfl rfl) h1
  obtain rfl : z1 = y1 := by have e_ := hy1; simp [Kd.int, Kd.bool, Kd.string, Kd.scalar, Value.cells] at e_; exact e_
  have k2 := h2
  have lt2 : ∀ x ∈ p2, x.block < W.heap.size := by obtain ⟨m, hm⟩ := k2; exact DataW.trod_lt m _ _ _ hm
  obtain ⟨y2, hy2, oy2⟩ := see_arg (j := 2) (t := 33) (sees_int Try.underlying33) hsz rfl rfl h2
  obtain ⟨z2, rfl, rfl, rfl, _⟩ := open_int Try.underlying33 (hval 2 33 v2 rfl rfl) h2
  obtain rfl : z2 = y2 := by have e_ := hy2; simp [Kd.int, Kd.bool, Kd.string, Kd.scalar, Value.cells] at e_; exact e_
  clear hA0 hval0 hsz0 hsz
  obtain ⟨k, hk⟩ := Pure.TypesStays y0 z1 z2 oy0 oy1 oy2
  refine (provisolaw02_TypesStays.calls k _ _ y0 z1 z2 true W hr0 hc0 hk).mono ?_
  rintro e W' ⟨rfl, bel0⟩
  have bel : Below W.heap.size W W' := bel0
  exact ⟨_, rfl, _, _, _, [], _, [], hW', trodAll_mk1 (shut_bool Try.underlying4 _), (trodAll_cons_mk (Below.trod laidOut (by kernel_rfl) (of_decide_eq_true (by kernel_rfl)) k0 bel lt0) (trodAll_cons_mk (Below.trod laidOut (by kernel_rfl) (of_decide_eq_true (by kernel_rfl)) k1 bel lt1) (trodAll_cons_mk (Below.trod laidOut (by kernel_rfl) (of_decide_eq_true (by kernel_rfl)) k2 bel lt2) trodAll_mk0))), rfl, bel.frame _, fun h => by cases h⟩
theorem over : Rows.typesStaysRow.holds Try.pinned (OpenSpec.ofChange Rows.typesStaysSpec) :=
  OpenClaim.holds_of_wide 5 Try.f5 rfl rfl rfl rfl rfl rfl rfl ⟨rfl, rfl, rfl, rfl, rfl⟩ rfl rfl rfl rfl rfl (by kernel_rfl) Try.func5 (by kernel_rfl)
    (of_decide_eq_true (by kernel_rfl)) (by unfold Func.isWrapper; first | (rw [if_pos (by decide +kernel)]; kernel_rfl) | (rw [if_neg (by decide +kernel)]; exact ⟨rfl, rfl⟩))
    (fun os started H enc _ => lifted os started H enc)
theorem proved : Rows.TypesStaysSaid := over
end Go.Proofs.Ytghgloepameloaa.typesStays
namespace Go.Proofs.Ytghgloepameloaa
theorem typesStays_holds : Rows.TypesStaysSaid := typesStays.proved
end Go.Proofs.Ytghgloepameloaa

end

