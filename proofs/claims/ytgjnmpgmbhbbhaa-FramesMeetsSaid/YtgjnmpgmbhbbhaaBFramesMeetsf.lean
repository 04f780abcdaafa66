/- Proved: the law FramesMeets holds for every input that the row lets in. No condition of ours. -/
import Derived.Test.YtgjnmpgmbhbbhaaBFramesMeetse
import Derived.Test.YtgjnmpgmbhbbhaaRows
import Derived.ShutString
import Derived.ChangeOld
import Derived.Lib.SmallJoins
section
namespace Go.Proofs.Ytgjnmpgmbhbbhaa.P
open Go.RowKit Go.Proofs.YtgjnmpgmbhbbhaaW.PrintWords Go.Proofs.YtgjnmpgmbhbbhaaW.PrintLast Go.Proofs.YtgjnmpgmbhbbhaaW.PrintMore
attribute [local go_sem] max2_int min2_int max_two min_two max_three min_three max_four min_four   -- for this text's walks alone
set_option linter.unusedVariables false
set_option linter.unusedSimpArgs false

set_option maxHeartbeats 800000 in
set_option maxRecDepth 100000 in
theorem types_Merge_step (A0 : Option Addr) (c0 : Nat) (l : List S59) (y x : Int) (W : World) (hr : Kd.C k59 W A0 l.length l) (hc : l.length ≤ c0) (B By Bo : Nat) (h1 : W.heap[B]? = some (.cells #[.slice A0 l.length c0] 22 (0, 0))) (h2 : W.heap[By]? = some (.cells #[.int .i64 y] 3 (0, 0))) (h3 : W.heap[Bo]? = some (.cells #[.int .u8 5] 24 (0, 0))) :
    Calls Try.prog 65 #[.int .i64 x, .pointer (some ⟨B, 0, none⟩), .pointer (some ⟨By, 0, none⟩), .pointer (some ⟨Bo, 0, none⟩)] W fun e W' =>
      (e = .returned (.bool true) ∧ ¬ x ∈ climbL l y ∧ Below W.heap.size W W') ∨
      (e = .returned (.bool false) ∧ x ∈ climbL l y ∧ ∃ W1, Below W.heap.size W W1 ∧ W' = W1.setCell ⟨Bo, 0, none⟩ (.int .u8 ((16 + x) % 256))) := by
  have hc1 := blk_cell h1 0
  have hc2 := blk_cell h2 0
  have H3 : Aside0 (W.heap[Bo]? = some (.cells #[.int .u8 5] 24 (0, 0))) := ⟨h3⟩
  have HR := Aside0.mk hr
  have HC := Aside0.mk hc
  clear h1 h2 h3 hr hc
  by_cases hm : x ∈ climbL l y
  · have hA : types_above.f l y x = some true := by unfold types_above.f; simp [hm]
    have HA := Aside0.mk hA
    have HM := Aside0.mk hm
    clear hA hm
    go_enter Try.func65, Try.ntmps65
    go_wp2_with fail
    refine (types_above.calls A0 c0 l y x true _ HR.out HC.out HA.out).mono ?_
    rintro e W1 ⟨rfl, hb⟩
    have h3 := blk_below H3.out hb
    have hc3 := blk_cell h3 0
    have hf3 := blk_frozen h3 0
    have HB := Aside0.mk hb
    clear h3 hb
    go_wp2
    go_ret
    exact .inr ⟨rfl, HM.out, _, HB.out, rfl⟩
  · have hA : types_above.f l y x = some false := by unfold types_above.f; simp [hm]
    have HA := Aside0.mk hA
    have HM := Aside0.mk hm
    clear hA hm
    go_enter Try.func65, Try.ntmps65
    go_wp2_with fail
    refine (types_above.calls A0 c0 l y x false _ HR.out HC.out HA.out).mono ?_
    rintro e W1 ⟨rfl, hb⟩
    have HB := Aside0.mk hb
    clear hb
    go_wp2
    go_ret
    exact .inl ⟨rfl, HM.out, HB.out⟩
set_option maxHeartbeats 3200000 in
set_option maxRecDepth 100000 in
theorem types_Merge.calls (k : Nat) (A0 : Option Addr) (c0 : Nat) (l0 : List S59) (a1 a2 : Int) (r : Int) (w : World) (hr0 : Kd.C k59 w A0 l0.length l0) (hc0 : l0.length ≤ c0) (h : types_Merge.f k l0 a1 a2 = some r) :
    Calls Try.prog 52 #[.slice A0 l0.length c0, .int .u8 a1, .int .u8 a2] w fun e w' => e = .returned (.int .u8 r) ∧ Below w.heap.size w w' := by
  have hmf : ∀ (fn : Fn) (first cap : Array Value) (w : World), (Instr.makeFunc fn first cap).run Try.prog w = .ok (.func fn first cap) w := fun _ _ _ _ => rfl
  have hlen : l0.length ≤ 9223372036854775807 := hr0.2.1
  have HR := Aside0.mk hr0
  have HC := Aside0.mk hc0
  have H := h
  unfold types_Merge.f at H
  obtain ⟨v1, V1, H⟩ := Option.bind_eq_some_iff.mp H
  have HV1 := Aside0.mk V1
  have hb0 : Below w.heap.size w (w.alloc (.cells #[.slice A0 l0.length c0] 22)) := (Below.refl _ _).alloc (Nat.le_refl _) _
  have HB0 := Aside0.mk hb0
  have HR1 := Aside0.mk (Kd.C_below hr0 hb0)
  have HI0 : Aside0 ((w.alloc (.cells #[.slice A0 l0.length c0] 22)).heap[w.heap.size]? = some (.cells #[.slice A0 l0.length c0] 22 (0, 0))) := ⟨blk_new _ _⟩
  clear hr0 hc0 h V1 hb0
  by_cases e1 : v1 = true
  · subst e1
    rw [if_pos rfl] at H
    obtain ⟨v2, V2, H⟩ := Option.bind_eq_some_iff.mp H
    have HV2 := Aside0.mk V2
    clear V2
    by_cases e2 : v2 = true
    · subst e2
      rw [if_pos rfl] at H
      obtain ⟨s1, S1, H⟩ := Option.bind_eq_some_iff.mp H
      have HS1 := Aside0.mk S1
      have HH := Aside0.mk H
      clear S1 H
      go_enter Try.func52, Try.ntmps52
      go_wp2_with fail
      refine (types_Valid.calls A0 c0 l0 a1 true _ HR1.out HC.out HV1.out).mono ?_
      rintro e w1 ⟨rfl, ⟨m1, rfl⟩⟩
      go_wp2_with fail
      refine (types_Valid.calls A0 c0 l0 a2 true _ (Kd.C_drewN HR1.out m1) HC.out HV2.out).mono ?_
      rintro e w1 ⟨rfl, ⟨m2, rfl⟩⟩
      go_wp2_with fail
      refine (types_Sub.calls k A0 c0 l0 a1 a2 s1 _ (Kd.C_drewN HR1.out (m1 + m2)) HC.out HS1.out).mono ?_
      rintro e w2 ⟨rfl, hb⟩
      have n1 := Aside0.mk (below_then (pw_below_drewN HB0.out (m1 + m2)) (by simp) hb)
      have n2 := Aside0.mk (blk_below (blk_drewN HI0.out (m1 + m2)) hb)
      clear hb HB0 HI0 HR1
      have hcI := blk_cell n2.out 0
      by_cases e3 : s1 = true
      · subst e3
        have H2 := HH.out
        rw [if_pos rfl] at H2
        obtain rfl := Option.some.inj H2
        clear H2 HH
        go_wp2
        go_ret
        exact ⟨rfl, n1.out⟩
      · replace e3 := Bool.eq_false_iff.mpr e3
        subst e3
        have H2 := HH.out
        rw [if_neg (by decide)] at H2
        obtain ⟨s2, S2, H2⟩ := Option.bind_eq_some_iff.mp H2
        have HS2 := Aside0.mk S2
        have HH2 := Aside0.mk H2
        clear S2 H2 HH
        go_wp2_with fail
        refine (types_Sub.calls k A0 c0 l0 a2 a1 s2 _ (Kd.C_below HR.out n1.out) HC.out HS2.out).mono ?_
        rintro e w3 ⟨rfl, hb⟩
        have n3 := Aside0.mk (below_step n1.out hb)
        have n4 := Aside0.mk (blk_below n2.out hb)
        clear hb n1 n2 hcI
        have hcI := blk_cell n4.out 0
        by_cases e4 : s2 = true
        · subst e4
          have H2 := HH2.out
          rw [if_pos rfl] at H2
          obtain rfl := Option.some.inj H2
          clear H2 HH2
          go_wp2
          go_ret
          exact ⟨rfl, n3.out⟩
        · replace e4 := Bool.eq_false_iff.mpr e4
          subst e4
          have H2 := HH2.out
          rw [if_neg (by decide)] at H2
          obtain rfl := Option.some.inj H2
          clear H2 HH2
          have HX1 := Aside0.mk (isRef_is a1)
          have HX2 := Aside0.mk (isRef_is a2)
          by_cases e5 : isRefB a1 = true
          · have E5 := Aside0.mk e5
            rw [e5] at HX1
            by_cases e6 : isRefB a2 = true
            · have E6 := Aside0.mk e6
              rw [e6] at HX2
              clear e5 e6
              go_wp2_with fail
              refine (types_IsRef.calls a1 true _ HX1.out).mono ?_
              rintro e w4 ⟨rfl, ⟨m1, rfl⟩⟩
              go_wp2_with fail
              refine (types_IsRef.calls a2 true _ HX2.out).mono ?_
              rintro e w4 ⟨rfl, hd⟩
              have n5 : Aside0 (Below w.heap.size w w4) := ⟨by obtain ⟨m2, rfl⟩ := hd; exact pw_below_drewN (pw_below_drewN n3.out m1) m2⟩
              have n6 : Aside0 (w4.heap[w.heap.size]? = some (.cells #[.slice A0 l0.length c0] 22 (0, 0))) := ⟨by obtain ⟨m2, rfl⟩ := hd; exact n4.out⟩
              have hcI := blk_cell n6.out 0
              clear hd n3 n4
              have HK1 := Aside0.mk (class_is l0 a1)
              have HK2 := Aside0.mk (class_is l0 a2)
              go_wp2_with fail
              have n7 := Aside0.mk (below_alloc n5.out (.cells #[.int .u8 5] 24))
              have n8 := Aside0.mk (blk_alloc n6.out (.cells #[.int .u8 5] 24))
              have n9 : Aside0 ((w4.alloc (.cells #[.int .u8 5] 24)).heap[w4.heap.size]? = some (.cells #[.int .u8 5] 24 (0, 0))) := ⟨blk_new _ _⟩
              have n0 := Aside0.mk n5.out.size
              generalize w4.heap.size = Bo at n9 n0 ⊢
              generalize w4.alloc (.cells #[.int .u8 5] 24) = w5 at n7 n8 n9 ⊢
              clear n5 n6 hcI
              have hS1 := blk_cell n8.out 0
              have hS2 : MergeHeld w Bo A0 c0 l0 w5 := ⟨Kd.C_below HR.out n7.out, n7.out, n8.out, n9.out⟩
              clear n7 n8 n9
              have hq1 : w.heap.size < w5.heap.size := blk_lt hS2.lies
              have hq2 : Bo ≠ w5.heap.size := Nat.ne_of_lt (blk_lt hS2.out)
              have ha1 : ∀ (m : Nat) (v : Value), ((w5.drewN m).alloc (.cells #[v] 3)).cell? ⟨w5.heap.size, 0, none⟩ = some v := fun m v => by rw [World.cell?_alloc_at _ _ _ _ (by rfl)]; rfl
              have ha2 : ∀ (m : Nat) (v : Value), ((w5.drewN m).alloc (.cells #[v] 3)).frozen? ⟨w5.heap.size, 0, none⟩ = false := fun m v => World.frozen?_alloc_at _ _ _ _ (by rfl)
              have ha3 : ∀ (v : Value), (w5.drew.alloc (.cells #[v] 3)).cell? ⟨w5.heap.size, 0, none⟩ = some v := fun v => ha1 1 v
              have ha4 : ∀ (v : Value), (w5.drew.alloc (.cells #[v] 3)).frozen? ⟨w5.heap.size, 0, none⟩ = false := fun v => ha2 1 v
              go_region_held3 (fun w' => w'.cell? ⟨w.heap.size, 0, none⟩ = some (.slice A0 l0.length c0) ∧ MergeHeld w Bo A0 c0 l0 w')
                (first | (refine MergeHeld.both ?_; (repeat (first | exact hS2 | refine MergeHeld.drew ?_ | refine MergeHeld.drewN ?_ _ | refine MergeHeld.alloc ?_ _ | refine MergeHeld.far ?_ HR.out _ hq1 hq2))))
                (first | (go_at_call 61; (with_reducible refine (types_class.calls A0 c0 l0 a1 _ _ ?hr1 HC.out HK1.out).mono ?_); (case hr1 => (refine (MergeHeld.reads (W0 := w) (Bo := Bo) (c0 := c0) ?_); (repeat (first | exact hS2 | refine MergeHeld.drew ?_ | refine MergeHeld.drewN ?_ _ | refine MergeHeld.alloc ?_ _ | refine MergeHeld.far ?_ HR.out _ hq1 hq2)))); rintro e w9 ⟨rfl, ⟨m, rfl⟩⟩) | (go_at_call 61; (with_reducible refine (types_class.calls A0 c0 l0 a2 _ _ ?hr2 HC.out HK2.out).mono ?_); (case hr2 => (refine (MergeHeld.reads (W0 := w) (Bo := Bo) (c0 := c0) ?_); (repeat (first | exact hS2 | refine MergeHeld.drew ?_ | refine MergeHeld.drewN ?_ _ | refine MergeHeld.alloc ?_ _ | refine MergeHeld.far ?_ HR.out _ hq1 hq2)))); rintro e w9 ⟨rfl, ⟨m, rfl⟩⟩))
              all_goals
                refine exit_gen (fun W => MergeHeld w Bo A0 c0 l0 W ∧ W.heap[w5.heap.size]? = some (.cells #[.int .i64 (classOf l0 a2)] 3 (0, 0))) ⟨?_, ?_⟩ (fun w6 hw6 => ?_)
              any_goals (repeat (first | exact hS2 | refine MergeHeld.drew ?_ | refine MergeHeld.drewN ?_ _ | refine MergeHeld.alloc ?_ _ | refine MergeHeld.far ?_ HR.out _ hq1 hq2))
              any_goals (first | exact blk_set (blk_new _ _) 0 _ | exact blk_set (blk_drewN (blk_new _ _) _) 0 _)
              all_goals
                obtain ⟨hm, hy⟩ := hw6
                have n1 := Aside0.mk hm
                have n2 := Aside0.mk hy
                have hc1 := blk_cell hm.lies 0
                have hc2 := blk_cell hm.out 0
                have hc3 := blk_cell hy 0
                clear hm hy ha1 ha2 ha3 ha4 hS1 hS2
                by_cases d1 : 0 ≤ classOf l0 a1
                · have d1b : decide (0 ≤ classOf l0 a1) = true := decide_eq_true d1
                  have D1 := Aside0.mk d1
                  by_cases d2 : 0 ≤ classOf l0 a2
                  · have d2b : decide (0 ≤ classOf l0 a2) = true := decide_eq_true d2
                    have D2 := Aside0.mk d2
                    clear d1 d2
                    go_wp2_with fail
                    refine (climb_any 65 _ A0 c0 l0 w HR.out (MergeInv w w.heap.size w5.heap.size Bo A0 c0 l0 (classOf l0 a2) (upOf l0 (classOf l0 a1) (classOf l0 a2))) (MergeFin w Bo (upOf l0 (classOf l0 a1) (classOf l0 a2))) (fun _ _ h => h.below) ?_ ?_ (callFunc_run Try.func65 (by kernel_rfl) (by kernel_rfl)) (classOf l0 a1) _ ?_).mono ?_
                    · rintro W ⟨g1, g2, g3, g4, g5⟩
                      exact ⟨by rw [← g5]; exact g3, g4⟩
                    · rintro x xs W ⟨g1, g2, g3, g4, g5⟩
                      refine (types_Merge_step A0 c0 l0 (classOf l0 a2) x W (Kd.C_below HR.out g4) HC.out _ _ _ g1 g2 g3).mono ?_
                      rintro e W' (⟨rfl, g6, g7⟩ | ⟨rfl, g6, W1, g7, rfl⟩)
                      · exact .inl ⟨rfl, blk_below g1 g7, blk_below g2 g7, blk_below g3 g7, below_step g4 g7, by rw [← g5]; simp [List.find?_cons, g6]⟩
                      · refine .inr ⟨rfl, ?_, (below_step g4 g7).setCell n0.out _⟩
                        rw [← g5]
                        simpa [List.find?_cons, g6] using blk_set (blk_below g3 g7) 0 (.int .u8 ((16 + x) % 256))
                    · exact ⟨n1.out.lies, n2.out, n1.out.out, n1.out.below, rfl⟩
                    · rintro e w7 ⟨rfl, g1, g2⟩
                      have hc4 := blk_cell g1 0
                      clear g1
                      go_wp2
                      go_ret
                      exact ⟨by simp [mergeUp, E5.out, E6.out, D1.out, D2.out], g2⟩
                  · have d2b : decide (0 ≤ classOf l0 a2) = false := decide_eq_false d2
                    have D2 := Aside0.mk d2
                    clear d1 d2
                    go_wp2
                    go_ret
                    exact ⟨by have q := D2.out; simp [mergeUp, E5.out, E6.out, D1.out]; intros; omega, n1.out.below⟩
                · have d1b : decide (0 ≤ classOf l0 a1) = false := decide_eq_false d1
                  have D1 := Aside0.mk d1
                  clear d1
                  go_wp2
                  go_ret
                  exact ⟨by have q := D1.out; simp [mergeUp, E5.out, E6.out]; intros; omega, n1.out.below⟩
            · replace e6 := Bool.eq_false_iff.mpr e6
              have E6 := Aside0.mk e6
              rw [e6] at HX2
              clear e5 e6
              go_wp2_with fail
              refine (types_IsRef.calls a1 true _ HX1.out).mono ?_
              rintro e w4 ⟨rfl, ⟨m1, rfl⟩⟩
              go_wp2_with fail
              refine (types_IsRef.calls a2 false _ HX2.out).mono ?_
              rintro e w4 ⟨rfl, ⟨m2, rfl⟩⟩
              go_wp2
              go_ret
              exact ⟨by simp [mergeUp, E5.out, E6.out], pw_below_drewN n3.out (m1 + m2)⟩
          · replace e5 := Bool.eq_false_iff.mpr e5
            have E5 := Aside0.mk e5
            rw [e5] at HX1
            clear e5
            go_wp2_with fail
            refine (types_IsRef.calls a1 false _ HX1.out).mono ?_
            rintro e w4 ⟨rfl, ⟨m1, rfl⟩⟩
            go_wp2
            go_ret
            exact ⟨by simp [mergeUp, E5.out], pw_below_drewN n3.out m1⟩
    · replace e2 := Bool.eq_false_iff.mpr e2
      subst e2
      rw [if_neg (by decide)] at H
      obtain rfl := Option.some.inj H
      go_enter Try.func52, Try.ntmps52
      go_wp2_with fail
      refine (types_Valid.calls A0 c0 l0 a1 true _ HR1.out HC.out HV1.out).mono ?_
      rintro e w1 ⟨rfl, ⟨m1, rfl⟩⟩
      go_wp2_with fail
      refine (types_Valid.calls A0 c0 l0 a2 false _ (Kd.C_drewN HR1.out m1) HC.out HV2.out).mono ?_
      rintro e w1 ⟨rfl, ⟨m2, rfl⟩⟩
      go_wp2
      go_ret
      exact ⟨rfl, pw_below_drewN HB0.out (m1 + m2)⟩
  · replace e1 := Bool.eq_false_iff.mpr e1
    subst e1
    rw [if_neg (by decide)] at H
    obtain rfl := Option.some.inj H
    go_enter Try.func52, Try.ntmps52
    go_wp2_with fail
    refine (types_Valid.calls A0 c0 l0 a1 false _ HR1.out HC.out HV1.out).mono ?_
    rintro e w1 ⟨rfl, ⟨m1, rfl⟩⟩
    go_wp2
    go_ret
    exact ⟨rfl, pw_below_drewN HB0.out m1⟩

end Go.Proofs.Ytgjnmpgmbhbbhaa.P

end

section
namespace Go.Proofs.Ytgjnmpgmbhbbhaa.P
open Go.RowKit Go.Proofs.YtgjnmpgmbhbbhaaW.PrintWords Go.Proofs.YtgjnmpgmbhbbhaaW.PrintLast Go.Proofs.YtgjnmpgmbhbbhaaW.PrintMore
attribute [local go_sem] max2_int min2_int max_two min_two max_three min_three max_four min_four   -- for this text's walks alone
set_option linter.unusedVariables false
set_option linter.unusedSimpArgs false

def mergeL (mb : Int → Int → Int) (x y : List Int) (i : Nat) : List Int := (List.zipWith mb x y).take i ++ x.drop i
def mergeS (vb : Int → Bool) (mb : Int → Int → Int) (a b : Fr) : Fr × Int := if alikeS vb a b = 0 then (⟨a.loc, a.hgt, List.zipWith mb a.sl b.sl⟩, 0) else (Fr.zero, alikeS vb a b)
theorem mergeL_len {mb : Int → Int → Int} {x y : List Int} (hx : x.length = 24) (hy : y.length = 24) (i : Nat) (hi : i ≤ 24) : (mergeL mb x y i).length = 24 := by
  simp [mergeL, hx, hy]
  omega
theorem mergeL_get {mb : Int → Int → Int} {x y : List Int} (hx : x.length = 24) (hy : y.length = 24) (i : Nat) (hi : i < 24) : (mergeL mb x y i).getD i 0 = x.getD i 0 := by
  have h1 : ((List.zipWith mb x y).take i).length = i := by simp [hx, hy]; omega
  unfold mergeL
  rw [List.getD_eq_getElem?_getD, List.getElem?_append_right (by omega), h1, Nat.sub_self, List.getElem?_drop, List.getD_eq_getElem?_getD, Nat.add_zero]
theorem mergeL_set {mb : Int → Int → Int} {x y : List Int} (hx : x.length = 24) (hy : y.length = 24) (i : Nat) (hi : i < 24) : (mergeL mb x y i).set i (mb (x.getD i 0) (y.getD i 0)) = mergeL mb x y (i + 1) := by
  have h1 : ((List.zipWith mb x y).take i).length = i := by simp [hx, hy]; omega
  have hz : i < (List.zipWith mb x y).length := by simp [hx, hy]; omega
  have e1 : x.getD i 0 = x[i]'(by omega) := by rw [List.getD_eq_getElem?_getD, List.getElem?_eq_getElem (by omega)]; rfl
  have e2 : y.getD i 0 = y[i]'(by omega) := by rw [List.getD_eq_getElem?_getD, List.getElem?_eq_getElem (by omega)]; rfl
  unfold mergeL
  rw [List.set_append_right _ _ (by omega), h1, Nat.sub_self, List.drop_eq_getElem_cons (by omega), List.set_cons_zero, List.take_succ_eq_append_getElem hz, List.getElem_zipWith, List.append_assoc, e1, e2]
  rfl
theorem mergeL_end {mb : Int → Int → Int} {x y : List Int} (hx : x.length = 24) (hy : y.length = 24) (h00 : mb 0 0 = 0) (n : Nat) (hn : n ≤ 24) (zx : ∀ j, n ≤ j → j < 24 → x.getD j 0 = 0) (zy : ∀ j, n ≤ j → j < 24 → y.getD j 0 = 0) : mergeL mb x y n = List.zipWith mb x y := by
  unfold mergeL
  have hz : (List.zipWith mb x y).length = 24 := by simp [hx, hy]
  have e : x.drop n = (List.zipWith mb x y).drop n := by
    refine List.ext_getElem (by simp [hx, hy]) (fun j h1 h2 => ?_)
    rw [List.length_drop] at h1
    rw [List.getElem_drop, List.getElem_drop, List.getElem_zipWith]
    have g1 := zx (n + j) (by omega) (by omega)
    have g2 := zy (n + j) (by omega) (by omega)
    rw [List.getD_eq_getElem?_getD, List.getElem?_eq_getElem (by omega)] at g1 g2
    have g1 : x[n + j] = 0 := g1
    have g2 : y[n + j] = 0 := g2
    rw [g1, g2, h00]
  rw [e, List.take_append_drop]
theorem region_frs {P : Program} {id : Nat} {ops : Array Oper} {bo : Bool} {Q : Exit → Act → World → Prop} {a : Act} {w : World} (Fact : World → Prop) (A : Act) (hreg : (Code.region id ops bo).wp P (fun e a' w' => Fact w' ∧ e = .normal ∧ a' = A) a w) (h : ∀ w', Fact w' → Q .normal A w') : (Code.region id ops bo).wp P Q a w :=
  Code.wp_mono (fun e a w h1 => by obtain ⟨h2, rfl, rfl⟩ := h1; exact h w h2) hreg
theorem alike_nat {vb : Int → Bool} {a b : Fr} (hfa : a.ok) (hfb : b.ok) (h : alikeS vb a b = 0) : ∃ n : Nat, a.loc + a.hgt = (n : Int) ∧ n ≤ 24 ∧ (∀ j, n ≤ j → j < 24 → a.sl.getD j 0 = 0) ∧ (∀ j, n ≤ j → j < 24 → b.sl.getD j 0 = 0) := by
  unfold alikeS at h
  by_cases h1 : checkS vb a = 0
  · rw [if_pos h1] at h
    by_cases h2 : checkS vb b = 0
    · rw [if_pos h2] at h
      by_cases h3 : a.loc = b.loc ∧ a.hgt = b.hgt
      · obtain ⟨L, H, sa, rfl, -, -, hLH, za⟩ := check_nat hfa h1
        obtain ⟨L2, H2, sb, rfl, -, -, -, zb⟩ := check_nat hfb h2
        have e1 : (L : Int) = (L2 : Int) := h3.1
        have e2 : (H : Int) = (H2 : Int) := h3.2
        exact ⟨L + H, by push_cast; rfl, hLH, za, fun j g1 g2 => zb j (by omega) g2⟩
      · rw [if_neg h3] at h
        cases h
    · rw [if_neg h2] at h
      exact absurd h h2
  · rw [if_neg h1] at h
    exact absurd h h1

set_option maxHeartbeats 3200000 in
set_option maxRecDepth 100000 in
theorem frMerge_calls (k : Nat) (A0 : Option Addr) (c0 : Nat) (l0 : List S59) (a b : Fr) (hfa : a.ok) (hfb : b.ok) (vb : Int → Bool) (mb : Int → Int → Int) (w : World) (hr0 : Kd.C k59 w A0 l0.length l0) (hc0 : l0.length ≤ c0) (hva : ∀ t ∈ a.sl, types_Valid.f l0 t = some (vb t)) (hvb : ∀ t ∈ b.sl, types_Valid.f l0 t = some (vb t)) (h00 : mb 0 0 = 0) (hmb : ∀ i, i < 24 → types_Merge.f k l0 (a.sl.getD i 0) (b.sl.getD i 0) = some (mb (a.sl.getD i 0) (b.sl.getD i 0))) : Calls Try.prog 32 #[.slice A0 l0.length c0, .agg a.a, .agg b.a] w fun e w' => e = .returned (.tuple #[.agg (mergeS vb mb a b).1.a, .int .i64 (mergeS vb mb a b).2]) ∧ Below w.heap.size w w' := by
  have HFA := Aside0.mk hfa
  have HFB := Aside0.mk hfb
  have HR0 := Aside0.mk hr0
  have HC0 := Aside0.mk hc0
  have HVA := Aside0.mk hva
  have HVB := Aside0.mk hvb
  have HMB := Aside0.mk hmb
  have HM0 := Aside0.mk h00
  have HA := Aside0.mk (Frs.nil w)
  clear hfa hfb hr0 hc0 hva hvb hmb h00
  by_cases z1 : alikeS vb a b = 0
  · have HAL0 := Aside0.mk z1
    clear z1
    obtain ⟨n, hs1, hle, hza, hzb⟩ := alike_nat HFA.out HFB.out HAL0.out
    have hw1 : wrap64 (n : Int) = (n : Int) := by unfold wrap64; omega
    have HLE := Aside0.mk hle
    have HZA := Aside0.mk hza
    have HZB := Aside0.mk hzb
    have HS1 := Aside0.mk hs1
    have HOK : Aside0 (∀ i, i ≤ 24 → (⟨a.loc, a.hgt, mergeL mb a.sl b.sl i⟩ : Fr).ok) := ⟨fun i hi => mergeL_len HFA.out HFB.out i hi⟩
    clear hle hza hzb
    go_enter Try.func32, Try.ntmps32
    go_wp2_with (first | ((with_reducible refine gate_dst (N := 4) rfl ?_); refine fr_box rfl rfl (f := a) rfl HFA.out HA.out ?_; intro ga w_ hA; (try simp only [List.cons_append, List.nil_append] at hA); replace HA := Aside0.mk hA; clear hA) | ((with_reducible refine gate_dst (N := 5) rfl ?_); refine fr_box rfl rfl (f := b) rfl HFB.out HA.out ?_; intro gb w_ hA; (try simp only [List.cons_append, List.nil_append] at hA); replace HA := Aside0.mk hA; clear hA) | ((with_reducible refine gate_dst (N := 6) rfl ?_); refine fr_alloc rfl rfl HA.out ?_; intro gr w_ hA; (try simp only [List.cons_append, List.nil_append] at hA); replace HA := Aside0.mk hA; clear hA) | (refine fr_load rfl rfl rfl HA.out (by first | exact List.mem_cons_self | exact List.mem_cons_of_mem _ List.mem_cons_self | exact List.mem_cons_of_mem _ (List.mem_cons_of_mem _ List.mem_cons_self) | exact List.mem_cons_of_mem _ (List.mem_cons_of_mem _ (List.mem_cons_of_mem _ List.mem_cons_self))) ?_) | (refine fr_load0 rfl rfl rfl HA.out (by first | exact List.mem_cons_self | exact List.mem_cons_of_mem _ List.mem_cons_self | exact List.mem_cons_of_mem _ (List.mem_cons_of_mem _ List.mem_cons_self) | exact List.mem_cons_of_mem _ (List.mem_cons_of_mem _ (List.mem_cons_of_mem _ List.mem_cons_self))) ?_) | (refine fr_load1 rfl rfl rfl HA.out (by first | exact List.mem_cons_self | exact List.mem_cons_of_mem _ List.mem_cons_self | exact List.mem_cons_of_mem _ (List.mem_cons_of_mem _ List.mem_cons_self) | exact List.mem_cons_of_mem _ (List.mem_cons_of_mem _ (List.mem_cons_of_mem _ List.mem_cons_self))) ?_) | (refine fr_store rfl rfl rfl rfl (by first | exact Fr.zero_ok | exact HCK.out) [] HA.out ?_; intro w_ hA; (try simp only [List.cons_append, List.nil_append] at hA); replace HA := Aside0.mk hA; clear hA) | (refine fr_build0 rfl rfl ?_))
    have hcall := alike_calls A0 c0 l0 a b HFA.out HFB.out vb w_ (Kd.C_below HR0.out HA.out.below) HC0.out HVA.out HVB.out
    rw [HAL0.out] at hcall
    refine hcall.mono ?_
    clear hcall
    rintro e w_ ⟨rfl, hb⟩
    replace HA := Aside0.mk (HA.out.step hb)
    clear hb
    go_wp2_with (first | ((with_reducible refine gate_dst (N := 4) rfl ?_); refine fr_box rfl rfl (f := a) rfl HFA.out HA.out ?_; intro ga w_ hA; (try simp only [List.cons_append, List.nil_append] at hA); replace HA := Aside0.mk hA; clear hA) | ((with_reducible refine gate_dst (N := 5) rfl ?_); refine fr_box rfl rfl (f := b) rfl HFB.out HA.out ?_; intro gb w_ hA; (try simp only [List.cons_append, List.nil_append] at hA); replace HA := Aside0.mk hA; clear hA) | ((with_reducible refine gate_dst (N := 6) rfl ?_); refine fr_alloc rfl rfl HA.out ?_; intro gr w_ hA; (try simp only [List.cons_append, List.nil_append] at hA); replace HA := Aside0.mk hA; clear hA) | (refine fr_load rfl rfl rfl HA.out (by first | exact List.mem_cons_self | exact List.mem_cons_of_mem _ List.mem_cons_self | exact List.mem_cons_of_mem _ (List.mem_cons_of_mem _ List.mem_cons_self) | exact List.mem_cons_of_mem _ (List.mem_cons_of_mem _ (List.mem_cons_of_mem _ List.mem_cons_self))) ?_) | (refine fr_load0 rfl rfl rfl HA.out (by first | exact List.mem_cons_self | exact List.mem_cons_of_mem _ List.mem_cons_self | exact List.mem_cons_of_mem _ (List.mem_cons_of_mem _ List.mem_cons_self) | exact List.mem_cons_of_mem _ (List.mem_cons_of_mem _ (List.mem_cons_of_mem _ List.mem_cons_self))) ?_) | (refine fr_load1 rfl rfl rfl HA.out (by first | exact List.mem_cons_self | exact List.mem_cons_of_mem _ List.mem_cons_self | exact List.mem_cons_of_mem _ (List.mem_cons_of_mem _ List.mem_cons_self) | exact List.mem_cons_of_mem _ (List.mem_cons_of_mem _ (List.mem_cons_of_mem _ List.mem_cons_self))) ?_) | (refine fr_store rfl rfl rfl rfl (by first | exact Fr.zero_ok | exact HCK.out) [] HA.out ?_; intro w_ hA; (try simp only [List.cons_append, List.nil_append] at hA); replace HA := Aside0.mk hA; clear hA) | (refine fr_build0 rfl rfl ?_))
    rw [hw1]
    go_loopw [23, 9] (fun v23 v9 wr => ∃ i : Nat, v23 = .int .i64 (i : Int) ∧ i ≤ n ∧ Aside0 (Frs w [(gr, Fr.zero), (gb, b), (ga, ⟨a.loc, a.hgt, mergeL mb a.sl b.sl i⟩)] wr)) (fun v23 v9 _ => ((n : Int) - intOf v23).toNat)
    case atStart => exact ⟨0, rfl, Nat.zero_le _, ⟨by rw [show mergeL mb a.sl b.sl 0 = a.sl from rfl]; exact HA.out⟩⟩
    case round =>
      obtain ⟨i, rfl, hi, HA⟩ := hrel
      obtain ⟨c, hc⟩ : ∃ c : Fr, c = ⟨a.loc, a.hgt, mergeL mb a.sl b.sl i⟩ := ⟨_, rfl⟩
      rw [← hc] at HA
      have HCK : Aside0 c.ok := ⟨by rw [hc]; exact HOK.out i (by have := HLE.out; omega)⟩
      have hcs : c.loc + c.hgt = (n : Int) := by rw [hc]; exact HS1.out
      have hcl : c.sl = mergeL mb a.sl b.sl i := by rw [hc]
      have HCL := Aside0.mk hcl
      have HCI := Aside0.mk hc
      have HIN : Aside0 (i ≤ n) := ⟨hi⟩
      clear hcl hc
      by_cases c1 : i < n
      · have c1b : decide ((i : Int) < (n : Int)) = true := decide_eq_true (by omega)
        have c1c : decide (i < n) = true := decide_eq_true c1
        have p1 : (0 ≤ (i : Int)) = True := eq_true (by omega)
        have p2 : ((i : Int) < 24) = True := eq_true (by have := HLE.out; omega)
        have HW2 : Aside0 (wrap64 ((i : Int) + 1) = ((i + 1 : Nat) : Int)) := ⟨by have := HLE.out; unfold wrap64; omega⟩
        have HI : Aside0 (i < 24) := ⟨by have := HLE.out; omega⟩
        have HIN1 : Aside0 (i < n) := ⟨c1⟩
        have hq := HMB.out i HI.out
        have hca := fun (W : World) (h : Frs w [(gr, Fr.zero), (gb, b), (ga, c)] W) => (h.at2).cs i (by have := HCK.out; unfold Fr.ok at this; have := HI.out; omega)
        have hcb := fun (W : World) (h : Frs w [(gr, Fr.zero), (gb, b), (ga, c)] W) => (h.at1).cs i (by have := HFB.out; unfold Fr.ok at this; have := HI.out; omega)
        have ea : c.sl[i]'(by have := HCK.out; unfold Fr.ok at this; have := HI.out; omega) = a.sl.getD i 0 := by rw [← mergeL_get (mb := mb) HFA.out HFB.out i HI.out, ← HCL.out, List.getD_eq_getElem?_getD, List.getElem?_eq_getElem (by have := HCK.out; unfold Fr.ok at this; have := HI.out; omega)]; rfl
        have eb : b.sl[i]'(by have := HFB.out; unfold Fr.ok at this; have := HI.out; omega) = b.sl.getD i 0 := by rw [List.getD_eq_getElem?_getD, List.getElem?_eq_getElem (by have := HFB.out; unfold Fr.ok at this; have := HI.out; omega)]; rfl
        have hset := mergeL_set (mb := mb) HFA.out HFB.out i HI.out
        rw [ea] at hca
        rw [eb] at hcb
        obtain ⟨ta, hta⟩ : ∃ ta, a.sl.getD i 0 = ta := ⟨_, rfl⟩
        obtain ⟨tb, htb⟩ : ∃ tb, b.sl.getD i 0 = tb := ⟨_, rfl⟩
        rw [hta, htb] at hq hset
        rw [hta] at hca
        rw [htb] at hcb
        have HNX : Aside0 ((⟨c.loc, c.hgt, c.sl.set i (mb ta tb)⟩ : Fr) = ⟨a.loc, a.hgt, mergeL mb a.sl b.sl (i + 1)⟩) := ⟨by rw [HCI.out]; show (⟨a.loc, a.hgt, (mergeL mb a.sl b.sl i).set i (mb ta tb)⟩ : Fr) = _; rw [hset]⟩
        have HQ := Aside0.mk hq
        have HCA := Aside0.mk hca
        have HCB := Aside0.mk hcb
        clear hq hca hcb ea eb hta htb hset c1
        go_upto_region 7 with (fail)
        have hA := HA.out
        refine' region_frs (fun w' => Frs w [(gr, Fr.zero), (gb, b), (ga, ⟨a.loc, a.hgt, mergeL mb a.sl b.sl (i + 1)⟩)] w') _ ?hreg ?hgo
        case hreg =>
          have hk1 := HCA.out _ (hA.drewN 1)
          have hk2 := HCB.out _ (hA.drewN 1)
          change World.cell? (World.drew _) _ = _ at hk1
          change World.cell? (World.drew _) _ = _ at hk2
          refine wp_region_noPanic ?_
          go_region_with (first | (go_at_call 52; (refine (types_Merge.calls k A0 c0 l0 ta tb (mb ta tb) _ (Kd.C_below HR0.out (hA.drewN 1).below) HC0.out HQ.out).mono ?_); rintro e w9 ⟨rfl, hb⟩; have hW : Frs w [(gr, Fr.zero), (gb, b), (ga, c)] w9 := Frs.step (hA.drewN 1) hb; have hf9 := hW.at2.fz (2 + i); have hk9 := HCA.out _ hW; have HW9 := Aside0.mk hW; clear hW hb))
          all_goals
            refine NoPanic.normal ⟨?_, rfl, ?_⟩
            · have h := Frs.slot [(gr, Fr.zero), (gb, b)] HW9.out i (mb ta tb)
              rw [HNX.out] at h
              exact h
            · exact Eq.refl _
        case hgo =>
          intro w_ hW
          replace HA := Aside0.mk hW
          clear hW hA
          go_wp2
          rw [HW2.out]
          exact ⟨⟨i + 1, rfl, HIN1.out, HA⟩, by have := HIN1.out; simp [intOf]; omega⟩
      · have c1b : decide ((i : Int) < (n : Int)) = false := decide_eq_false (by omega)
        have c1c : decide (i < n) = false := decide_eq_false c1
        obtain rfl : i = n := by omega
        go_wp2_with (first | ((with_reducible refine gate_dst (N := 4) rfl ?_); refine fr_box rfl rfl (f := a) rfl HFA.out HA.out ?_; intro ga w_ hA; (try simp only [List.cons_append, List.nil_append] at hA); replace HA := Aside0.mk hA; clear hA) | ((with_reducible refine gate_dst (N := 5) rfl ?_); refine fr_box rfl rfl (f := b) rfl HFB.out HA.out ?_; intro gb w_ hA; (try simp only [List.cons_append, List.nil_append] at hA); replace HA := Aside0.mk hA; clear hA) | ((with_reducible refine gate_dst (N := 6) rfl ?_); refine fr_alloc rfl rfl HA.out ?_; intro gr w_ hA; (try simp only [List.cons_append, List.nil_append] at hA); replace HA := Aside0.mk hA; clear hA) | (refine fr_load rfl rfl rfl HA.out (by first | exact List.mem_cons_self | exact List.mem_cons_of_mem _ List.mem_cons_self | exact List.mem_cons_of_mem _ (List.mem_cons_of_mem _ List.mem_cons_self) | exact List.mem_cons_of_mem _ (List.mem_cons_of_mem _ (List.mem_cons_of_mem _ List.mem_cons_self))) ?_) | (refine fr_load0 rfl rfl rfl HA.out (by first | exact List.mem_cons_self | exact List.mem_cons_of_mem _ List.mem_cons_self | exact List.mem_cons_of_mem _ (List.mem_cons_of_mem _ List.mem_cons_self) | exact List.mem_cons_of_mem _ (List.mem_cons_of_mem _ (List.mem_cons_of_mem _ List.mem_cons_self))) ?_) | (refine fr_load1 rfl rfl rfl HA.out (by first | exact List.mem_cons_self | exact List.mem_cons_of_mem _ List.mem_cons_self | exact List.mem_cons_of_mem _ (List.mem_cons_of_mem _ List.mem_cons_self) | exact List.mem_cons_of_mem _ (List.mem_cons_of_mem _ (List.mem_cons_of_mem _ List.mem_cons_self))) ?_) | (refine fr_store rfl rfl rfl rfl (by first | exact Fr.zero_ok | exact HCK.out) [] HA.out ?_; intro w_ hA; (try simp only [List.cons_append, List.nil_append] at hA); replace HA := Aside0.mk hA; clear hA) | (refine fr_build0 rfl rfl ?_))
        refine bodyPost_ret (fr_ret2 rfl _ HA.out (by first | exact List.mem_cons_self | exact List.mem_cons_of_mem _ List.mem_cons_self | exact List.mem_cons_of_mem _ (List.mem_cons_of_mem _ List.mem_cons_self) | exact List.mem_cons_of_mem _ (List.mem_cons_of_mem _ (List.mem_cons_of_mem _ List.mem_cons_self))) rfl) rfl ⟨?_, HA.out.below⟩
        unfold mergeS
        rw [if_pos HAL0.out, HCI.out, mergeL_end HFA.out HFB.out HM0.out i HLE.out HZA.out HZB.out]
        rfl
  · obtain ⟨al, hal⟩ : ∃ al, alikeS vb a b = al := ⟨_, rfl⟩
    rw [hal] at z1
    have z1b : (al != 0) = true := by rw [bne_iff_ne]; exact z1
    have Z1 := Aside0.mk z1
    have HAL := Aside0.mk hal
    clear z1 hal
    go_enter Try.func32, Try.ntmps32
    go_wp2_with (first | ((with_reducible refine gate_dst (N := 4) rfl ?_); refine fr_box rfl rfl (f := a) rfl HFA.out HA.out ?_; intro ga w_ hA; (try simp only [List.cons_append, List.nil_append] at hA); replace HA := Aside0.mk hA; clear hA) | ((with_reducible refine gate_dst (N := 5) rfl ?_); refine fr_box rfl rfl (f := b) rfl HFB.out HA.out ?_; intro gb w_ hA; (try simp only [List.cons_append, List.nil_append] at hA); replace HA := Aside0.mk hA; clear hA) | ((with_reducible refine gate_dst (N := 6) rfl ?_); refine fr_alloc rfl rfl HA.out ?_; intro gr w_ hA; (try simp only [List.cons_append, List.nil_append] at hA); replace HA := Aside0.mk hA; clear hA) | (refine fr_load rfl rfl rfl HA.out (by first | exact List.mem_cons_self | exact List.mem_cons_of_mem _ List.mem_cons_self | exact List.mem_cons_of_mem _ (List.mem_cons_of_mem _ List.mem_cons_self) | exact List.mem_cons_of_mem _ (List.mem_cons_of_mem _ (List.mem_cons_of_mem _ List.mem_cons_self))) ?_) | (refine fr_load0 rfl rfl rfl HA.out (by first | exact List.mem_cons_self | exact List.mem_cons_of_mem _ List.mem_cons_self | exact List.mem_cons_of_mem _ (List.mem_cons_of_mem _ List.mem_cons_self) | exact List.mem_cons_of_mem _ (List.mem_cons_of_mem _ (List.mem_cons_of_mem _ List.mem_cons_self))) ?_) | (refine fr_load1 rfl rfl rfl HA.out (by first | exact List.mem_cons_self | exact List.mem_cons_of_mem _ List.mem_cons_self | exact List.mem_cons_of_mem _ (List.mem_cons_of_mem _ List.mem_cons_self) | exact List.mem_cons_of_mem _ (List.mem_cons_of_mem _ (List.mem_cons_of_mem _ List.mem_cons_self))) ?_) | (refine fr_store rfl rfl rfl rfl (by first | exact Fr.zero_ok | exact HCK.out) [] HA.out ?_; intro w_ hA; (try simp only [List.cons_append, List.nil_append] at hA); replace HA := Aside0.mk hA; clear hA) | (refine fr_build0 rfl rfl ?_))
    have hcall := alike_calls A0 c0 l0 a b HFA.out HFB.out vb w_ (Kd.C_below HR0.out HA.out.below) HC0.out HVA.out HVB.out
    rw [HAL.out] at hcall
    refine hcall.mono ?_
    clear hcall
    rintro e w_ ⟨rfl, hb⟩
    replace HA := Aside0.mk (HA.out.step hb)
    clear hb
    go_wp2_with (first | ((with_reducible refine gate_dst (N := 4) rfl ?_); refine fr_box rfl rfl (f := a) rfl HFA.out HA.out ?_; intro ga w_ hA; (try simp only [List.cons_append, List.nil_append] at hA); replace HA := Aside0.mk hA; clear hA) | ((with_reducible refine gate_dst (N := 5) rfl ?_); refine fr_box rfl rfl (f := b) rfl HFB.out HA.out ?_; intro gb w_ hA; (try simp only [List.cons_append, List.nil_append] at hA); replace HA := Aside0.mk hA; clear hA) | ((with_reducible refine gate_dst (N := 6) rfl ?_); refine fr_alloc rfl rfl HA.out ?_; intro gr w_ hA; (try simp only [List.cons_append, List.nil_append] at hA); replace HA := Aside0.mk hA; clear hA) | (refine fr_load rfl rfl rfl HA.out (by first | exact List.mem_cons_self | exact List.mem_cons_of_mem _ List.mem_cons_self | exact List.mem_cons_of_mem _ (List.mem_cons_of_mem _ List.mem_cons_self) | exact List.mem_cons_of_mem _ (List.mem_cons_of_mem _ (List.mem_cons_of_mem _ List.mem_cons_self))) ?_) | (refine fr_load0 rfl rfl rfl HA.out (by first | exact List.mem_cons_self | exact List.mem_cons_of_mem _ List.mem_cons_self | exact List.mem_cons_of_mem _ (List.mem_cons_of_mem _ List.mem_cons_self) | exact List.mem_cons_of_mem _ (List.mem_cons_of_mem _ (List.mem_cons_of_mem _ List.mem_cons_self))) ?_) | (refine fr_load1 rfl rfl rfl HA.out (by first | exact List.mem_cons_self | exact List.mem_cons_of_mem _ List.mem_cons_self | exact List.mem_cons_of_mem _ (List.mem_cons_of_mem _ List.mem_cons_self) | exact List.mem_cons_of_mem _ (List.mem_cons_of_mem _ (List.mem_cons_of_mem _ List.mem_cons_self))) ?_) | (refine fr_store rfl rfl rfl rfl (by first | exact Fr.zero_ok | exact HCK.out) [] HA.out ?_; intro w_ hA; (try simp only [List.cons_append, List.nil_append] at hA); replace HA := Aside0.mk hA; clear hA) | (refine fr_build0 rfl rfl ?_))
    refine bodyPost_ret (fr_ret2 rfl _ HA.out (by first | exact List.mem_cons_self | exact List.mem_cons_of_mem _ List.mem_cons_self | exact List.mem_cons_of_mem _ (List.mem_cons_of_mem _ List.mem_cons_self) | exact List.mem_cons_of_mem _ (List.mem_cons_of_mem _ (List.mem_cons_of_mem _ List.mem_cons_self))) rfl) rfl ⟨?_, HA.out.below⟩
    unfold mergeS
    rw [HAL.out, if_neg Z1.out]
    rfl


end Go.Proofs.Ytgjnmpgmbhbbhaa.P

end

section
namespace Go.Proofs.Ytgjnmpgmbhbbhaa.P
open Go.RowKit Go.Proofs.YtgjnmpgmbhbbhaaW.PrintWords Go.Proofs.YtgjnmpgmbhbbhaaW.PrintLast Go.Proofs.YtgjnmpgmbhbbhaaW.PrintMore
attribute [local go_sem] max2_int min2_int max_two min_two max_three min_three max_four min_four   -- for this text's walks alone
set_option linter.unusedVariables false
set_option linter.unusedSimpArgs false

def provisoref02_IsRef.f (a0 : Int) : Option (Bool) := if a0 = 3 then (some true) else (if a0 = 4 then (some true) else (if a0 = 5 then (some true) else (some (decide (a0 ≥ 16)))))
set_option maxHeartbeats 8000000 in
set_option maxRecDepth 100000 in
theorem provisoref02_IsRef.calls (a0 : Int) (r : Bool) (w : World) (h : provisoref02_IsRef.f a0 = some r) :
    Calls Try.prog 67 #[.int .u8 a0] w fun e w' => e = .returned (.bool r) ∧ Drawn0 w w' := by
  have H : (if a0 = 3 then (some true) else (if a0 = 4 then (some true) else (if a0 = 5 then (some true) else (some (decide (a0 ≥ 16)))))) = some r := h
  clear h
  by_cases c2 : a0 = 3
  · rw [if_pos c2] at H
    have c2b0 : (a0 == 3) = true := beq_iff_eq.mpr c2
    have c2b1 : (a0 != 3) = false := bne_eq_false_iff_eq.mpr c2
    clear c2
    obtain rfl := Option.some.inj H
    go_enter Try.func67, Try.ntmps67
    go_wp2
    go_ret
    exact ⟨by first | rfl | (simp; done) | (simp [*]; done), by repeat (first | exact Drawn0.refl _ | apply Drawn0.step)⟩
  · rw [if_neg c2] at H
    have c2b0 : (a0 == 3) = false := beq_eq_false_iff_ne.mpr c2
    have c2b1 : (a0 != 3) = true := bne_iff_ne.mpr c2
    by_cases c3 : a0 = 4
    · rw [if_pos c3] at H
      have c3b0 : (a0 == 4) = true := beq_iff_eq.mpr c3
      have c3b1 : (a0 != 4) = false := bne_eq_false_iff_eq.mpr c3
      clear c3
      obtain rfl := Option.some.inj H
      go_enter Try.func67, Try.ntmps67
      go_wp2
      go_ret
      exact ⟨by first | rfl | (simp; done) | (simp [*]; done), by repeat (first | exact Drawn0.refl _ | apply Drawn0.step)⟩
    · rw [if_neg c3] at H
      have c3b0 : (a0 == 4) = false := beq_eq_false_iff_ne.mpr c3
      have c3b1 : (a0 != 4) = true := bne_iff_ne.mpr c3
      by_cases c4 : a0 = 5
      · rw [if_pos c4] at H
        have c4b0 : (a0 == 5) = true := beq_iff_eq.mpr c4
        have c4b1 : (a0 != 5) = false := bne_eq_false_iff_eq.mpr c4
        clear c4
        obtain rfl := Option.some.inj H
        go_enter Try.func67, Try.ntmps67
        go_wp2
        go_ret
        exact ⟨by first | rfl | (simp; done) | (simp [*]; done), by repeat (first | exact Drawn0.refl _ | apply Drawn0.step)⟩
      · rw [if_neg c4] at H
        have c4b0 : (a0 == 5) = false := beq_eq_false_iff_ne.mpr c4
        have c4b1 : (a0 != 5) = true := bne_iff_ne.mpr c4
        obtain rfl := Option.some.inj H
        go_enter Try.func67, Try.ntmps67
        go_wp2
        go_ret
        exact ⟨by first | rfl | (simp; done) | (simp [*]; done), by repeat (first | exact Drawn0.refl _ | apply Drawn0.step)⟩

end Go.Proofs.Ytgjnmpgmbhbbhaa.P

end

section
namespace Go.Proofs.Ytgjnmpgmbhbbhaa.P
open Go.RowKit Go.Proofs.YtgjnmpgmbhbbhaaW.PrintWords Go.Proofs.YtgjnmpgmbhbbhaaW.PrintLast Go.Proofs.YtgjnmpgmbhbbhaaW.PrintMore
attribute [local go_sem] max2_int min2_int max_two min_two max_three min_three max_four min_four   -- for this text's walks alone
set_option linter.unusedVariables false
set_option linter.unusedSimpArgs false

mutual
def provisoref02_Sub.j0 : Nat → List (S59) → Int → Int → Bool → Option (Bool)
  | 0, _, _, _, _ => none
  | k + 1, x0, x1, x2, x18 => if x18 = true then (some false) else (if x1 = x2 then (provisoref02_Sub.j1 k x0 x1 x2 true) else (if x2 = 0 then (provisoref02_Sub.j1 k x0 x1 x2 true) else (if x1 = 3 then ((provisoref02_IsRef.f x2).bind fun t171 => (if t171 = true then (provisoref02_Sub.j1 k x0 x1 x2 true) else ((provisoref02_IsRef.f x1).bind fun t172 => (if t172 = true then (provisoref02_Sub.j1 k x0 x1 x2 (x2 == 5)) else (provisoref02_Sub.j1 k x0 x1 x2 false))))) else ((provisoref02_IsRef.f x1).bind fun t173 => (if t173 = true then (provisoref02_Sub.j1 k x0 x1 x2 (x2 == 5)) else (provisoref02_Sub.j1 k x0 x1 x2 false))))))
def provisoref02_Sub.j1 : Nat → List (S59) → Int → Int → Bool → Option (Bool)
  | 0, _, _, _, _ => none
  | k + 1, x0, x1, x2, x41 => if x41 = true then (some true) else (if x1 < 16 then (provisoref02_Sub.j2 k x0 x1 x2 true) else (provisoref02_Sub.j2 k x0 x1 x2 (decide (x2 < 16))))
def provisoref02_Sub.j2 : Nat → List (S59) → Int → Int → Bool → Option (Bool)
  | 0, _, _, _, _ => none
  | k + 1, x0, x1, x2, x47 => if x47 = true then (some false) else ((provisoref02_Line.f k x0 ((x1 - 16) % 256)).bind fun t174 => (provisoref02_Sub.l0 k x2 t174 0))
def provisoref02_Sub.l0 : Nat → Int → List Int → Int → Option (Bool)
  | 0, _, _, _ => none
  | k + 1, x2, x7, x8 => if x8 < (x7.length : Int) then (if 0 ≤ x8 then (if (rd x7 x8) = ((x2 - 16) % 256) then (some true) else (provisoref02_Sub.l0 k x2 x7 (wrap64 (x8 + 1)))) else (none)) else (some false)
end
def provisoref02_Sub.f (k : Nat) (l0 : List (S59)) (a1 : Int) (a2 : Int) : Option (Bool) := (provisoref02_Valid.f l0 a1).bind fun t169 => (if t169 = true then ((provisoref02_Valid.f l0 a2).bind fun t170 => (provisoref02_Sub.j0 k l0 a1 a2 (!t170))) else (provisoref02_Sub.j0 k l0 a1 a2 true))
set_option maxHeartbeats 8000000 in
set_option maxRecDepth 100000 in
theorem provisoref02_Sub.calls (k : Nat) (A0 : Option Addr) (c0 : Nat) (l0 : List (S59)) (a1 : Int) (a2 : Int) (r : Bool) (w : World) (hr0 : Kd.C k59 w A0 l0.length l0) (hc0 : l0.length ≤ c0) (h : provisoref02_Sub.f k l0 a1 a2 = some r) :
    Calls Try.prog 54 #[.slice A0 l0.length c0, .int .u8 a1, .int .u8 a2] w fun e w' => e = .returned (.bool r) ∧ Below w.heap.size w w' := by
  have HR0 := Aside0.mk hr0
  have HC0 := Aside0.mk hc0
  clear hr0 hc0
  have HB := Aside0.mk (Below.refl w.heap.size w)
  have H : ((provisoref02_Valid.f l0 a1).bind fun t169 => (if t169 = true then ((provisoref02_Valid.f l0 a2).bind fun t170 => (provisoref02_Sub.j0 k l0 a1 a2 (!t170))) else (provisoref02_Sub.j0 k l0 a1 a2 true))) = some r := h
  clear h
  have HC4 := Aside0.mk H
  clear H
  go_enter Try.func54, Try.ntmps54
  go_upto_region 1 with (fail)
  go_cut [18] (fun v18 wc => ∃ (kq : Nat) (x18_3 : Bool), v18 = .bool x18_3 ∧ Aside0 (provisoref02_Sub.j0 kq l0 a1 a2 x18_3 = some r) ∧ Aside0 (kq ≤ k) ∧ Aside0 (Below w.heap.size w wc))
  case first =>
    have H := HC4.out
    clear HC4
    replace H := Option.bind_eq_some_iff.mp H
    obtain ⟨t169, A50, H⟩ := H
    replace H : (if t169 = true then ((provisoref02_Valid.f l0 a2).bind fun t170 => (provisoref02_Sub.j0 k l0 a1 a2 (!t170))) else (provisoref02_Sub.j0 k l0 a1 a2 true)) = some r := H
    have A5 := Aside0.mk A50
    clear A50
    by_cases c6 : t169 = true
    · subst c6
      have H1 : ((provisoref02_Valid.f l0 a2).bind fun t170 => (provisoref02_Sub.j0 k l0 a1 a2 (!t170))) = some r := by rw [if_pos rfl] at H; exact H
      clear H
      have H := H1
      clear H1
      replace H := Option.bind_eq_some_iff.mp H
      obtain ⟨t170, A70, H⟩ := H
      replace H : (provisoref02_Sub.j0 k l0 a1 a2 (!t170)) = some r := H
      have A7 := Aside0.mk A70
      clear A70
      have H' := Aside0.mk H
      clear H
      go_wp2_with (first | ((with_reducible refine gate_callee (f := 51) rfl ?_); refine goesL_ (some 11) rfl rfl Try.func51 (by kernel_rfl) rfl #[.slice A0 l0.length c0, .int .u8 a1] rfl (by (try simp only [List.map_toArray, List.map_cons, List.map_nil]); first | done | rfl | (simp only [List.length_drop, List.length_take]; rfl)) ?_; (with_reducible refine (provisoref02_Valid.calls _ _ l0 a1 true _ ?side1 ?side2 A5.out).mono ?_); (case side1 => repeat (first | exact (Kd.C_below HR0.out HB.out) | (with_reducible refine Kd.C_alloc ?_ _) | (with_reducible refine Kd.C_drewN ?_ _) | (with_reducible refine Kd.C_drew ?_))); (case side2 => exact HC0.out); rintro e w' ⟨rfl, ⟨nd, rfl⟩⟩; refine ⟨_, rfl, ?_⟩) | (go_at_call 51; (with_reducible refine (provisoref02_Valid.calls _ _ l0 a2 t170 _ ?side1 ?side2 A7.out).mono ?_); (case side1 => repeat (first | exact (Kd.C_below HR0.out (by repeat (first | (with_reducible first | exact HB.out | apply below_alloc | apply pw_below_drewN | apply below_drew1) | exact HB.out))) | (with_reducible refine Kd.C_alloc ?_ _) | (with_reducible refine Kd.C_drewN ?_ _) | (with_reducible refine Kd.C_drew ?_))); (case side2 => exact HC0.out); rintro e w' ⟨rfl, ⟨nd, rfl⟩⟩))
      go_meet
      case rel => exact ⟨_, (!t170), (by first | rfl | (simp; done) | (simp [*]; done)), H', ⟨by first | omega | exact Nat.le_refl _⟩, ⟨by repeat (first | (with_reducible first | exact HB.out | apply below_alloc | apply pw_below_drewN | apply below_drew1) | exact HB.out)⟩⟩
    · replace c6 := Bool.eq_false_iff.mpr c6
      subst c6
      have H1 : (provisoref02_Sub.j0 k l0 a1 a2 true) = some r := by rw [if_neg (show ¬ (false = true) by decide)] at H; exact H
      clear H
      have H := H1
      clear H1
      have H' := Aside0.mk H
      clear H
      go_wp2_with (first | ((with_reducible refine gate_callee (f := 51) rfl ?_); refine goesL_ (some 11) rfl rfl Try.func51 (by kernel_rfl) rfl #[.slice A0 l0.length c0, .int .u8 a1] rfl (by (try simp only [List.map_toArray, List.map_cons, List.map_nil]); first | done | rfl | (simp only [List.length_drop, List.length_take]; rfl)) ?_; (with_reducible refine (provisoref02_Valid.calls _ _ l0 a1 false _ ?side1 ?side2 A5.out).mono ?_); (case side1 => repeat (first | exact (Kd.C_below HR0.out HB.out) | (with_reducible refine Kd.C_alloc ?_ _) | (with_reducible refine Kd.C_drewN ?_ _) | (with_reducible refine Kd.C_drew ?_))); (case side2 => exact HC0.out); rintro e w' ⟨rfl, ⟨nd, rfl⟩⟩; refine ⟨_, rfl, ?_⟩))
      go_meet
      case rel => exact ⟨_, (true), (by first | rfl | (simp; done) | (simp [*]; done)), H', ⟨by first | omega | exact Nat.le_refl _⟩, ⟨by repeat (first | (with_reducible first | exact HB.out | apply below_alloc | apply pw_below_drewN | apply below_drew1) | exact HB.out)⟩⟩
  case rest =>
    clear HC4
    try clear p2
    try clear c5
    try clear c6
    obtain ⟨kq, x18_3, rfl, HA, HJ3, HB⟩ := hcut
    cases kq with
    | zero => exact absurd HA.out (by simp [provisoref02_Sub.j0])
    | succ kj3 =>
      have H := HA.out
      clear HA
      simp only [provisoref02_Sub.j0] at H
      by_cases c8 : x18_3 = true
      · subst c8
        have H1 : (some false) = some r := by rw [if_pos rfl] at H; exact H
        clear H
        have H := H1
        clear H1
        obtain rfl := Option.some.inj H
        go_wp2
        go_ret
        exact ⟨by first | rfl | (simp [errW_none, errW_some] <;> rfl) | (simp [*, errW_none, errW_some] <;> rfl), by repeat (first | (with_reducible first | exact HB.out | apply below_alloc | apply pw_below_drewN | apply below_drew1) | exact HB.out)⟩
      · replace c8 := Bool.eq_false_iff.mpr c8
        subst c8
        have H1 : (if a1 = a2 then (provisoref02_Sub.j1 kj3 l0 a1 a2 true) else (if a2 = 0 then (provisoref02_Sub.j1 kj3 l0 a1 a2 true) else (if a1 = 3 then ((provisoref02_IsRef.f a2).bind fun t171 => (if t171 = true then (provisoref02_Sub.j1 kj3 l0 a1 a2 true) else ((provisoref02_IsRef.f a1).bind fun t172 => (if t172 = true then (provisoref02_Sub.j1 kj3 l0 a1 a2 (a2 == 5)) else (provisoref02_Sub.j1 kj3 l0 a1 a2 false))))) else ((provisoref02_IsRef.f a1).bind fun t173 => (if t173 = true then (provisoref02_Sub.j1 kj3 l0 a1 a2 (a2 == 5)) else (provisoref02_Sub.j1 kj3 l0 a1 a2 false)))))) = some r := by rw [if_neg (show ¬ (false = true) by decide)] at H; exact H
        clear H
        have H := H1
        clear H1
        have HC9 := Aside0.mk H
        clear H
        go_upto_region 3 with (fail)
        go_cut [41] (fun v41 wc => ∃ (kq : Nat) (x41_8 : Bool), v41 = .bool x41_8 ∧ Aside0 (provisoref02_Sub.j1 kq l0 a1 a2 x41_8 = some r) ∧ Aside0 (kq ≤ kj3) ∧ Aside0 (Below w.heap.size w wc))
        case first =>
          have H := HC9.out
          clear HC9
          by_cases c10 : a1 = a2
          · rw [if_pos c10] at H
            have c10b0 : (a1 == a2) = true := beq_iff_eq.mpr c10
            have c10b1 : (a1 != a2) = false := bne_eq_false_iff_eq.mpr c10
            clear c10
            (first | rw [c10b0] | (simp only [i64_w, i32_w]; rw [c10b0]) | skip)
            have H' := Aside0.mk H
            clear H
            go_wp2
            go_meet
            case rel => exact ⟨_, (true), (by first | rfl | (simp; done) | (simp [*]; done)), H', ⟨by have := HJ3.out; first | omega | exact Nat.le_refl _⟩, ⟨by repeat (first | (with_reducible first | exact HB.out | apply below_alloc | apply pw_below_drewN | apply below_drew1) | exact HB.out)⟩⟩
          · rw [if_neg c10] at H
            have c10b0 : (a1 == a2) = false := beq_eq_false_iff_ne.mpr c10
            have c10b1 : (a1 != a2) = true := bne_iff_ne.mpr c10
            (first | rw [c10b0] | (simp only [i64_w, i32_w]; rw [c10b0]) | skip)
            by_cases c11 : a2 = 0
            · rw [if_pos c11] at H
              have c11b0 : (a2 == 0) = true := beq_iff_eq.mpr c11
              have c11b1 : (a2 != 0) = false := bne_eq_false_iff_eq.mpr c11
              clear c11
              have H' := Aside0.mk H
              clear H
              go_wp2
              go_meet
              case rel => exact ⟨_, (true), (by first | rfl | (simp; done) | (simp [*]; done)), H', ⟨by have := HJ3.out; first | omega | exact Nat.le_refl _⟩, ⟨by repeat (first | (with_reducible first | exact HB.out | apply below_alloc | apply pw_below_drewN | apply below_drew1) | exact HB.out)⟩⟩
            · rw [if_neg c11] at H
              have c11b0 : (a2 == 0) = false := beq_eq_false_iff_ne.mpr c11
              have c11b1 : (a2 != 0) = true := bne_iff_ne.mpr c11
              by_cases c12 : a1 = 3
              · rw [if_pos c12] at H
                have c12b0 : (a1 == 3) = true := beq_iff_eq.mpr c12
                have c12b1 : (a1 != 3) = false := bne_eq_false_iff_eq.mpr c12
                clear c12
                replace H := Option.bind_eq_some_iff.mp H
                obtain ⟨t171, A130, H⟩ := H
                replace H : (if t171 = true then (provisoref02_Sub.j1 kj3 l0 a1 a2 true) else ((provisoref02_IsRef.f a1).bind fun t172 => (if t172 = true then (provisoref02_Sub.j1 kj3 l0 a1 a2 (a2 == 5)) else (provisoref02_Sub.j1 kj3 l0 a1 a2 false)))) = some r := H
                have A13 := Aside0.mk A130
                clear A130
                by_cases c14 : t171 = true
                · subst c14
                  have H1 : (provisoref02_Sub.j1 kj3 l0 a1 a2 true) = some r := by rw [if_pos rfl] at H; exact H
                  clear H
                  have H := H1
                  clear H1
                  have H' := Aside0.mk H
                  clear H
                  go_wp2_with (first | (go_at_call 67; (with_reducible refine (provisoref02_IsRef.calls a2 true _ A13.out).mono ?_); rintro e w' ⟨rfl, ⟨nd, rfl⟩⟩))
                  go_meet
                  case rel => exact ⟨_, (true), (by first | rfl | (simp; done) | (simp [*]; done)), H', ⟨by have := HJ3.out; first | omega | exact Nat.le_refl _⟩, ⟨by repeat (first | (with_reducible first | exact HB.out | apply below_alloc | apply pw_below_drewN | apply below_drew1) | exact HB.out)⟩⟩
                · replace c14 := Bool.eq_false_iff.mpr c14
                  subst c14
                  have H1 : ((provisoref02_IsRef.f a1).bind fun t172 => (if t172 = true then (provisoref02_Sub.j1 kj3 l0 a1 a2 (a2 == 5)) else (provisoref02_Sub.j1 kj3 l0 a1 a2 false))) = some r := by rw [if_neg (show ¬ (false = true) by decide)] at H; exact H
                  clear H
                  have H := H1
                  clear H1
                  replace H := Option.bind_eq_some_iff.mp H
                  obtain ⟨t172, A150, H⟩ := H
                  replace H : (if t172 = true then (provisoref02_Sub.j1 kj3 l0 a1 a2 (a2 == 5)) else (provisoref02_Sub.j1 kj3 l0 a1 a2 false)) = some r := H
                  have A15 := Aside0.mk A150
                  clear A150
                  by_cases c16 : t172 = true
                  · subst c16
                    have H1 : (provisoref02_Sub.j1 kj3 l0 a1 a2 (a2 == 5)) = some r := by rw [if_pos rfl] at H; exact H
                    clear H
                    have H := H1
                    clear H1
                    have H' := Aside0.mk H
                    clear H
                    go_wp2_with (first | (go_at_call 67; (with_reducible refine (provisoref02_IsRef.calls a2 false _ A13.out).mono ?_); rintro e w' ⟨rfl, ⟨nd, rfl⟩⟩) | (go_at_call 67; (with_reducible refine (provisoref02_IsRef.calls a1 true _ A15.out).mono ?_); rintro e w' ⟨rfl, ⟨nd, rfl⟩⟩))
                    go_meet
                    case rel => exact ⟨_, ((a2 == 5)), (by first | rfl | (simp; done) | (simp [*]; done)), H', ⟨by have := HJ3.out; first | omega | exact Nat.le_refl _⟩, ⟨by repeat (first | (with_reducible first | exact HB.out | apply below_alloc | apply pw_below_drewN | apply below_drew1) | exact HB.out)⟩⟩
                  · replace c16 := Bool.eq_false_iff.mpr c16
                    subst c16
                    have H1 : (provisoref02_Sub.j1 kj3 l0 a1 a2 false) = some r := by rw [if_neg (show ¬ (false = true) by decide)] at H; exact H
                    clear H
                    have H := H1
                    clear H1
                    have H' := Aside0.mk H
                    clear H
                    go_wp2_with (first | (go_at_call 67; (with_reducible refine (provisoref02_IsRef.calls a2 false _ A13.out).mono ?_); rintro e w' ⟨rfl, ⟨nd, rfl⟩⟩) | (go_at_call 67; (with_reducible refine (provisoref02_IsRef.calls a1 false _ A15.out).mono ?_); rintro e w' ⟨rfl, ⟨nd, rfl⟩⟩))
                    go_meet
                    case rel => exact ⟨_, (false), (by first | rfl | (simp; done) | (simp [*]; done)), H', ⟨by have := HJ3.out; first | omega | exact Nat.le_refl _⟩, ⟨by repeat (first | (with_reducible first | exact HB.out | apply below_alloc | apply pw_below_drewN | apply below_drew1) | exact HB.out)⟩⟩
              · rw [if_neg c12] at H
                have c12b0 : (a1 == 3) = false := beq_eq_false_iff_ne.mpr c12
                have c12b1 : (a1 != 3) = true := bne_iff_ne.mpr c12
                replace H := Option.bind_eq_some_iff.mp H
                obtain ⟨t173, A170, H⟩ := H
                replace H : (if t173 = true then (provisoref02_Sub.j1 kj3 l0 a1 a2 (a2 == 5)) else (provisoref02_Sub.j1 kj3 l0 a1 a2 false)) = some r := H
                have A17 := Aside0.mk A170
                clear A170
                by_cases c18 : t173 = true
                · subst c18
                  have H1 : (provisoref02_Sub.j1 kj3 l0 a1 a2 (a2 == 5)) = some r := by rw [if_pos rfl] at H; exact H
                  clear H
                  have H := H1
                  clear H1
                  have H' := Aside0.mk H
                  clear H
                  go_wp2_with (first | (go_at_call 67; (with_reducible refine (provisoref02_IsRef.calls a1 true _ A17.out).mono ?_); rintro e w' ⟨rfl, ⟨nd, rfl⟩⟩))
                  go_meet
                  case rel => exact ⟨_, ((a2 == 5)), (by first | rfl | (simp; done) | (simp [*]; done)), H', ⟨by have := HJ3.out; first | omega | exact Nat.le_refl _⟩, ⟨by repeat (first | (with_reducible first | exact HB.out | apply below_alloc | apply pw_below_drewN | apply below_drew1) | exact HB.out)⟩⟩
                · replace c18 := Bool.eq_false_iff.mpr c18
                  subst c18
                  have H1 : (provisoref02_Sub.j1 kj3 l0 a1 a2 false) = some r := by rw [if_neg (show ¬ (false = true) by decide)] at H; exact H
                  clear H
                  have H := H1
                  clear H1
                  have H' := Aside0.mk H
                  clear H
                  go_wp2_with (first | (go_at_call 67; (with_reducible refine (provisoref02_IsRef.calls a1 false _ A17.out).mono ?_); rintro e w' ⟨rfl, ⟨nd, rfl⟩⟩))
                  go_meet
                  case rel => exact ⟨_, (false), (by first | rfl | (simp; done) | (simp [*]; done)), H', ⟨by have := HJ3.out; first | omega | exact Nat.le_refl _⟩, ⟨by repeat (first | (with_reducible first | exact HB.out | apply below_alloc | apply pw_below_drewN | apply below_drew1) | exact HB.out)⟩⟩
        case rest =>
          clear HC9
          try clear c1
          try clear p2
          try clear c5
          try clear c6
          try clear c8
          try clear c10
          try clear c10b0
          try clear c10b1
          try clear c11
          try clear c11b0
          try clear c11b1
          try clear c12
          try clear c12b0
          try clear c12b1
          try clear c14
          try clear c16
          try clear c18
          try clear p2
          obtain ⟨kq, x41_8, rfl, HA, HJ8, HB⟩ := hcut
          cases kq with
          | zero => exact absurd HA.out (by simp [provisoref02_Sub.j1])
          | succ kj8 =>
            have H := HA.out
            clear HA
            simp only [provisoref02_Sub.j1] at H
            by_cases c19 : x41_8 = true
            · subst c19
              have H1 : (some true) = some r := by rw [if_pos rfl] at H; exact H
              clear H
              have H := H1
              clear H1
              obtain rfl := Option.some.inj H
              go_wp2
              go_ret
              exact ⟨by first | rfl | (simp [errW_none, errW_some] <;> rfl) | (simp [*, errW_none, errW_some] <;> rfl), by repeat (first | (with_reducible first | exact HB.out | apply below_alloc | apply pw_below_drewN | apply below_drew1) | exact HB.out)⟩
            · replace c19 := Bool.eq_false_iff.mpr c19
              subst c19
              have H1 : (if a1 < 16 then (provisoref02_Sub.j2 kj8 l0 a1 a2 true) else (provisoref02_Sub.j2 kj8 l0 a1 a2 (decide (a2 < 16)))) = some r := by rw [if_neg (show ¬ (false = true) by decide)] at H; exact H
              clear H
              have H := H1
              clear H1
              have HC20 := Aside0.mk H
              clear H
              go_upto_region 5 with (fail)
              go_cut [47] (fun v47 wc => ∃ (kq : Nat) (x47_19 : Bool), v47 = .bool x47_19 ∧ Aside0 (provisoref02_Sub.j2 kq l0 a1 a2 x47_19 = some r) ∧ Aside0 (kq ≤ kj8) ∧ Aside0 (Below w.heap.size w wc))
              case first =>
                have H := HC20.out
                clear HC20
                by_cases c21 : a1 < 16
                · rw [if_pos c21] at H
                  have c21b0 : decide (a1 < 16) = true := decide_eq_true c21
                  clear c21
                  (first | rw [c21b0] | (simp only [i64_w, i32_w]; rw [c21b0]) | skip)
                  have H' := Aside0.mk H
                  clear H
                  go_wp2
                  go_meet
                  case rel => exact ⟨_, (true), (by first | rfl | (simp; done) | (simp [*]; done)), H', ⟨by have := HJ3.out; have := HJ8.out; first | omega | exact Nat.le_refl _⟩, ⟨by repeat (first | (with_reducible first | exact HB.out | apply below_alloc | apply pw_below_drewN | apply below_drew1) | exact HB.out)⟩⟩
                · rw [if_neg c21] at H
                  have c21b0 : decide (a1 < 16) = false := decide_eq_false c21
                  clear c21
                  (first | rw [c21b0] | (simp only [i64_w, i32_w]; rw [c21b0]) | skip)
                  have H' := Aside0.mk H
                  clear H
                  go_wp2
                  go_meet
                  case rel => exact ⟨_, (decide (a2 < 16)), (by first | rfl | (simp; done) | (simp [*]; done)), H', ⟨by have := HJ3.out; have := HJ8.out; first | omega | exact Nat.le_refl _⟩, ⟨by repeat (first | (with_reducible first | exact HB.out | apply below_alloc | apply pw_below_drewN | apply below_drew1) | exact HB.out)⟩⟩
              case rest =>
                clear HC20
                try clear c1
                try clear c2
                try clear p2
                try clear c5
                try clear c6
                try clear c8
                try clear c10
                try clear c10b0
                try clear c10b1
                try clear c11
                try clear c11b0
                try clear c11b1
                try clear c12
                try clear c12b0
                try clear c12b1
                try clear c14
                try clear c16
                try clear c18
                try clear c19
                try clear c21
                try clear c21b0
                try clear p2
                obtain ⟨kq, x47_19, rfl, HA, HJ19, HB⟩ := hcut
                cases kq with
                | zero => exact absurd HA.out (by simp [provisoref02_Sub.j2])
                | succ kj19 =>
                  have H := HA.out
                  clear HA
                  simp only [provisoref02_Sub.j2] at H
                  by_cases c22 : x47_19 = true
                  · subst c22
                    have H1 : (some false) = some r := by rw [if_pos rfl] at H; exact H
                    clear H
                    have H := H1
                    clear H1
                    obtain rfl := Option.some.inj H
                    go_wp2
                    go_ret
                    exact ⟨by first | rfl | (simp [errW_none, errW_some] <;> rfl) | (simp [*, errW_none, errW_some] <;> rfl), by repeat (first | (with_reducible first | exact HB.out | apply below_alloc | apply pw_below_drewN | apply below_drew1) | exact HB.out)⟩
                  · replace c22 := Bool.eq_false_iff.mpr c22
                    subst c22
                    have H1 : ((provisoref02_Line.f kj19 l0 ((a1 - 16) % 256)).bind fun t174 => (provisoref02_Sub.l0 kj19 a2 t174 0)) = some r := by rw [if_neg (show ¬ (false = true) by decide)] at H; exact H
                    clear H
                    have H := H1
                    clear H1
                    replace H := Option.bind_eq_some_iff.mp H
                    obtain ⟨t174, A230, H⟩ := H
                    replace H : (provisoref02_Sub.l0 kj19 a2 t174 0) = some r := H
                    have A23 := Aside0.mk A230
                    clear A230
                    have H' := Aside0.mk H
                    clear H
                    go_wp2_with (first | ((with_reducible refine gate_callee (f := 68) rfl ?_); refine goesL_ (some 52) rfl rfl Try.func68 (by kernel_rfl) rfl #[.slice A0 l0.length c0, .int .i64 ((a1 - 16) % 256)] rfl (by (try simp only [List.map_toArray, List.map_cons, List.map_nil]); first | done | rfl | (simp only [List.length_drop, List.length_take]; rfl)) ?_; (with_reducible refine (provisoref02_Line.calls kj19 _ _ l0 ((a1 - 16) % 256) t174 _ ?side1 ?side2 A23.out).mono ?_); (case side1 => repeat (first | exact (Kd.C_below HR0.out HB.out) | (with_reducible refine Kd.C_alloc ?_ _) | (with_reducible refine Kd.C_drewN ?_ _) | (with_reducible refine Kd.C_drew ?_))); (case side2 => exact HC0.out); rintro e w24 ⟨v175, rfl, ho0, hb⟩; refine ⟨_, rfl, ?_⟩; have n0_ := Aside0.mk (Kd.R_lower ho0 (below_size (by repeat (first | (with_reducible first | exact HB.out | apply below_alloc | apply pw_below_drewN | apply below_drew1) | exact HB.out)))); have n1_ := Aside0.mk (below_step (by repeat (first | (with_reducible first | exact HB.out | apply below_alloc | apply pw_below_drewN | apply below_drew1) | exact HB.out)) hb); clear HB; have HO176 := n0_; have HB := n1_; clear n0_ n1_; (try clear hb); (try clear hb2); (try clear hk); (try clear hi); (try clear ho0)))
                    go_loopg [8] kj19 (fun kq v8 w' => ∃ (x8_4 : Int), v8 = .int .i64 x8_4 ∧ Aside0 (provisoref02_Sub.l0 kq a2 t174 x8_4 = some r) ∧ Aside0 (kq ≤ kj19) ∧ Aside0 (Kd.R (Kd.int .i64) 3 w' w.heap.size (fun _ => True) v175 t174) ∧ Aside0 (Below w.heap.size w w'))
                    case atStart => exact ⟨(0), (by first | rfl | (simp; done) | (simp [*]; done)), H', ⟨Nat.le_refl _⟩, ⟨by (with_reducible repeat (first | apply Kd.R_alloc | apply Kd.R_drewN | apply Kd.R_drew)); exact HO176.out⟩, ⟨by repeat (first | (with_reducible first | exact HB.out | apply below_alloc | apply pw_below_drewN | apply below_drew1) | exact HB.out)⟩⟩
                    case round =>
                      clear H'
                      try clear c1
                      try clear c2
                      try clear p2
                      try clear c5
                      try clear c6
                      try clear c8
                      try clear c10
                      try clear c10b0
                      try clear c10b1
                      try clear c11
                      try clear c11b0
                      try clear c11b1
                      try clear c12
                      try clear c12b0
                      try clear c12b1
                      try clear c14
                      try clear c16
                      try clear c18
                      try clear c19
                      try clear c21
                      try clear c21b0
                      try clear c22
                      try clear p2
                      obtain ⟨x8_4, rfl, HA, HK4, HO_7, HB⟩ := hrel
                      cases gk with
                      | zero => exact absurd HA.out (by simp [provisoref02_Sub.l0])
                      | succ k4 =>
                        have H := HA.out
                        clear HA
                        simp only [provisoref02_Sub.l0] at H
                        by_cases c25 : x8_4 < (t174.length : Int)
                        · rw [if_pos c25] at H
                          have c25b0 : decide (x8_4 < (t174.length : Int)) = true := decide_eq_true c25
                          clear c25
                          by_cases c26 : 0 ≤ x8_4
                          · rw [if_pos c26] at H
                            have c26b0 : decide (0 ≤ x8_4) = true := decide_eq_true c26
                            clear c26
                            by_cases c27 : (rd t174 x8_4) = ((a2 - 16) % 256)
                            · rw [if_pos c27] at H
                              have c27b0 : ((rd t174 x8_4) == ((a2 - 16) % 256)) = true := beq_iff_eq.mpr c27
                              have c27b1 : ((rd t174 x8_4) != ((a2 - 16) % 256)) = false := bne_eq_false_iff_eq.mpr c27
                              clear c27
                              obtain rfl := Option.some.inj H
                              obtain ⟨Ao28, co28, eo28⟩ := Kd.R_slice HO_7.out
                              subst eo28
                              have p177 : 0 ≤ (x8_4 : Int) := of_decide_eq_true (by first | (with_reducible assumption) | assumption)
                              have q177 : x8_4 < (t174.length : Int) := of_decide_eq_true (by first | (with_reducible assumption) | assumption)
                              obtain ⟨ad177, e177, hx177_0⟩ := Kd.at_int (Kd.R_reads' HO_7.out).2.2 x8_4 p177 q177
                              cases e177
                              replace p177 := eq_true p177
                              replace q177 := eq_true q177
                              go_wp2
                              go_ret
                              exact ⟨by first | rfl | (simp [errW_none, errW_some] <;> rfl) | (simp [*, errW_none, errW_some] <;> rfl), by repeat (first | (with_reducible first | exact HB.out | apply below_alloc | apply pw_below_drewN | apply below_drew1) | exact HB.out)⟩
                            · rw [if_neg c27] at H
                              have c27b0 : ((rd t174 x8_4) == ((a2 - 16) % 256)) = false := beq_eq_false_iff_ne.mpr c27
                              have c27b1 : ((rd t174 x8_4) != ((a2 - 16) % 256)) = true := bne_iff_ne.mpr c27
                              have H' := Aside0.mk H
                              clear H
                              obtain ⟨Ao29, co29, eo29⟩ := Kd.R_slice HO_7.out
                              subst eo29
                              have p177 : 0 ≤ (x8_4 : Int) := of_decide_eq_true (by first | (with_reducible assumption) | assumption)
                              have q177 : x8_4 < (t174.length : Int) := of_decide_eq_true (by first | (with_reducible assumption) | assumption)
                              obtain ⟨ad177, e177, hx177_0⟩ := Kd.at_int (Kd.R_reads' HO_7.out).2.2 x8_4 p177 q177
                              cases e177
                              replace p177 := eq_true p177
                              replace q177 := eq_true q177
                              go_wp2
                              go_roundg k4
                              case measure => have := HJ3.out; have := HJ8.out; have := HJ19.out; have := HK4.out; omega
                              case rel => exact ⟨(wrap64 (x8_4 + 1)), (by first | rfl | (simp; done) | (simp [*]; done)), H', ⟨by have := HJ3.out; have := HJ8.out; have := HJ19.out; have := HK4.out; omega⟩, ⟨by (with_reducible repeat (first | apply Kd.R_alloc | apply Kd.R_drewN | apply Kd.R_drew)); exact HO_7.out⟩, ⟨by repeat (first | (with_reducible first | exact HB.out | apply below_alloc | apply pw_below_drewN | apply below_drew1) | exact HB.out)⟩⟩
                          · rw [if_neg c26] at H
                            exact absurd H (by simp)
                        · rw [if_neg c25] at H
                          have c25b0 : decide (x8_4 < (t174.length : Int)) = false := decide_eq_false c25
                          clear c25
                          obtain rfl := Option.some.inj H
                          obtain ⟨Ao30, co30, eo30⟩ := Kd.R_slice HO_7.out
                          subst eo30
                          go_wp2
                          go_ret
                          exact ⟨by first | rfl | (simp [errW_none, errW_some] <;> rfl) | (simp [*, errW_none, errW_some] <;> rfl), by repeat (first | (with_reducible first | exact HB.out | apply below_alloc | apply pw_below_drewN | apply below_drew1) | exact HB.out)⟩

theorem sub_tail {sb : Int → Int → Bool} (h00 : sb 0 0 = true) {x y : List Int} (n : Nat) (hx : ∀ j, n ≤ j → j < 24 → x.getD j 0 = 0) (hy : ∀ j, n ≤ j → j < 24 → y.getD j 0 = 0) (h : (List.range n).all (fun i => sb (x.getD i 0) (y.getD i 0)) = true) : (List.range 24).all (fun i => sb (x.getD i 0) (y.getD i 0)) = true := by
  rw [List.all_eq_true] at h ⊢
  intro i hi
  rw [List.mem_range] at hi
  by_cases c : i < n
  · exact h i (List.mem_range.2 c)
  · show sb (x.getD i 0) (y.getD i 0) = true
    rw [hx i (by omega) hi, hy i (by omega) hi, h00]
set_option maxHeartbeats 3200000 in
set_option maxRecDepth 100000 in
theorem refSub_calls (k : Nat) (A0 : Option Addr) (c0 : Nat) (l0 : List S59) (a b : Fr) (hfa : a.ok) (hfb : b.ok) (vb : Int → Bool) (sb : Int → Int → Bool) (w : World) (hr0 : Kd.C k59 w A0 l0.length l0) (hc0 : l0.length ≤ c0) (h0 : vb 0 = true) (hva : ∀ t ∈ a.sl, provisoref02_Valid.f l0 t = some (vb t)) (hvb : ∀ t ∈ b.sl, provisoref02_Valid.f l0 t = some (vb t)) (h00 : sb 0 0 = true) (hsb : ∀ i, i < 24 → provisoref02_Sub.f k l0 (a.sl.getD i 0) (b.sl.getD i 0) = some (sb (a.sl.getD i 0) (b.sl.getD i 0))) : Calls Try.prog 34 #[.slice A0 l0.length c0, .agg a.a, .agg b.a] w fun e w' => e = .returned (.bool (subS vb sb a b)) ∧ Below w.heap.size w w' := by
  have HFA := Aside0.mk hfa
  have HFB := Aside0.mk hfb
  have HR0 := Aside0.mk hr0
  have HC0 := Aside0.mk hc0
  have HV0 := Aside0.mk h0
  have HVA := Aside0.mk hva
  have HVB := Aside0.mk hvb
  have HA := Aside0.mk (Frs.nil w)
  clear hfa hfb hr0 hc0 h0 hva hvb
  have HSB := Aside0.mk hsb
  have HS0 := Aside0.mk h00
  clear hsb h00
  obtain ⟨ea, hea⟩ : ∃ ea, checkS vb a = ea := ⟨_, rfl⟩
  obtain ⟨eb, heb⟩ : ∃ eb, checkS vb b = eb := ⟨_, rfl⟩
  have HEa := Aside0.mk hea
  have HEb := Aside0.mk heb
  have HAL : Aside0 (alikeS vb a b = if ea = 0 then (if eb = 0 then (if a.loc = b.loc ∧ a.hgt = b.hgt then 0 else 32) else eb) else ea) := ⟨by unfold alikeS; rw [hea, heb]⟩
  clear hea heb
  by_cases z1 : ea = 0
  · subst z1
    by_cases z2 : eb = 0
    · subst z2
      by_cases z3 : a.loc = b.loc
      · by_cases z4 : a.hgt = b.hgt
        · have HAL0 : Aside0 (alikeS vb a b = 0) := ⟨by rw [HAL.out]; simp [z3, z4]⟩
          clear HAL
          obtain ⟨L, H, sa, rfl, hla, hL, hLH, hza⟩ := check_nat HFA.out HEa.out
          obtain ⟨L2, H2, sb', rfl, hlb, hL2, hLH2, hzb⟩ := check_nat HFB.out HEb.out
          have z3 : (L : Int) = (L2 : Int) := z3
          have z4 : (H : Int) = (H2 : Int) := z4
          obtain rfl : L = L2 := by omega
          obtain rfl : H = H2 := by omega
          obtain ⟨a, hae⟩ : ∃ a : Fr, a = ⟨(L : Int), (H : Int), sa⟩ := ⟨_, rfl⟩
          obtain ⟨b, hbe⟩ : ∃ b : Fr, b = ⟨(L : Int), (H : Int), sb'⟩ := ⟨_, rfl⟩
          have esa : sa = a.sl := by rw [hae]
          have esb : sb' = b.sl := by rw [hbe]
          have eal : a.loc = (L : Int) := by rw [hae]
          have eah : a.hgt = (H : Int) := by rw [hae]
          have ebl : b.loc = (L : Int) := by rw [hbe]
          have ebh : b.hgt = (H : Int) := by rw [hbe]
          have HEA := Aside0.mk hae
          have HEB := Aside0.mk hbe
          rw [← hae] at HFA HVA HEa
          rw [← hbe] at HFB HVB HEb
          rw [← hae, ← hbe] at HAL0 HSB
          rw [← hae, ← hbe]
          rw [esa] at hla hza
          rw [esb] at hlb hzb
          clear esa esb hae hbe z3 z4 hL2 hLH2 HEA HEB
          have HLA := Aside0.mk hla
          have HLB := Aside0.mk hlb
          have HZA := Aside0.mk hza
          have HZB := Aside0.mk hzb
          have HEAL := Aside0.mk eal
          have HEAH := Aside0.mk eah
          have HEBL := Aside0.mk ebl
          have HEBH := Aside0.mk ebh
          obtain ⟨n, hnn⟩ : ∃ n, n = L + H := ⟨_, rfl⟩
          have hs1 : (L : Int) + (H : Int) = (n : Int) := by omega
          have hw1 : wrap64 (n : Int) = (n : Int) := by unfold wrap64; omega
          have HN := Aside0.mk hnn
          have HLE : Aside0 (n ≤ 24) := ⟨by omega⟩
          clear hla hlb hza hzb hnn hL hLH eal eah ebl ebh
          go_enter Try.func34, Try.ntmps34
          go_wp2_with (first | ((with_reducible refine gate_dst (N := 14) rfl ?_); refine fr_guard rfl (by rfl) ?_; dsimp only; refine fr_load rfl rfl rfl HA.out (by first | exact List.mem_cons_self | exact List.mem_cons_of_mem _ List.mem_cons_self | exact List.mem_cons_of_mem _ (List.mem_cons_of_mem _ List.mem_cons_self) | exact List.mem_cons_of_mem _ (List.mem_cons_of_mem _ (List.mem_cons_of_mem _ List.mem_cons_self))) ?_) | ((with_reducible refine gate_dst (N := 4) rfl ?_); refine fr_box rfl rfl (f := a) rfl HFA.out HA.out ?_; intro ga w_ hA; (try simp only [List.cons_append, List.nil_append] at hA); replace HA := Aside0.mk hA; clear hA) | ((with_reducible refine gate_dst (N := 5) rfl ?_); refine fr_box rfl rfl (f := b) rfl HFB.out HA.out ?_; intro gb w_ hA; (try simp only [List.cons_append, List.nil_append] at hA); replace HA := Aside0.mk hA; clear hA) | (refine fr_load rfl rfl rfl HA.out (by first | exact List.mem_cons_self | exact List.mem_cons_of_mem _ List.mem_cons_self | exact List.mem_cons_of_mem _ (List.mem_cons_of_mem _ List.mem_cons_self) | exact List.mem_cons_of_mem _ (List.mem_cons_of_mem _ (List.mem_cons_of_mem _ List.mem_cons_self))) ?_) | (refine fr_load0 rfl rfl rfl HA.out (by first | exact List.mem_cons_self | exact List.mem_cons_of_mem _ List.mem_cons_self | exact List.mem_cons_of_mem _ (List.mem_cons_of_mem _ List.mem_cons_self) | exact List.mem_cons_of_mem _ (List.mem_cons_of_mem _ (List.mem_cons_of_mem _ List.mem_cons_self))) ?_) | (refine fr_load1 rfl rfl rfl HA.out (by first | exact List.mem_cons_self | exact List.mem_cons_of_mem _ List.mem_cons_self | exact List.mem_cons_of_mem _ (List.mem_cons_of_mem _ List.mem_cons_self) | exact List.mem_cons_of_mem _ (List.mem_cons_of_mem _ (List.mem_cons_of_mem _ List.mem_cons_self))) ?_))
          have hcall := refCheck_calls A0 c0 l0 a HFA.out vb w_ (Kd.C_below HR0.out HA.out.below) HC0.out HV0.out HVA.out
          rw [HEa.out] at hcall
          refine hcall.mono ?_
          clear hcall
          rintro e w_ ⟨rfl, hb⟩
          replace HA := Aside0.mk (HA.out.step hb)
          clear hb
          go_wp2_with (first | ((with_reducible refine gate_dst (N := 14) rfl ?_); refine fr_guard rfl (by rfl) ?_; dsimp only; refine fr_load rfl rfl rfl HA.out (by first | exact List.mem_cons_self | exact List.mem_cons_of_mem _ List.mem_cons_self | exact List.mem_cons_of_mem _ (List.mem_cons_of_mem _ List.mem_cons_self) | exact List.mem_cons_of_mem _ (List.mem_cons_of_mem _ (List.mem_cons_of_mem _ List.mem_cons_self))) ?_) | ((with_reducible refine gate_dst (N := 4) rfl ?_); refine fr_box rfl rfl (f := a) rfl HFA.out HA.out ?_; intro ga w_ hA; (try simp only [List.cons_append, List.nil_append] at hA); replace HA := Aside0.mk hA; clear hA) | ((with_reducible refine gate_dst (N := 5) rfl ?_); refine fr_box rfl rfl (f := b) rfl HFB.out HA.out ?_; intro gb w_ hA; (try simp only [List.cons_append, List.nil_append] at hA); replace HA := Aside0.mk hA; clear hA) | (refine fr_load rfl rfl rfl HA.out (by first | exact List.mem_cons_self | exact List.mem_cons_of_mem _ List.mem_cons_self | exact List.mem_cons_of_mem _ (List.mem_cons_of_mem _ List.mem_cons_self) | exact List.mem_cons_of_mem _ (List.mem_cons_of_mem _ (List.mem_cons_of_mem _ List.mem_cons_self))) ?_) | (refine fr_load0 rfl rfl rfl HA.out (by first | exact List.mem_cons_self | exact List.mem_cons_of_mem _ List.mem_cons_self | exact List.mem_cons_of_mem _ (List.mem_cons_of_mem _ List.mem_cons_self) | exact List.mem_cons_of_mem _ (List.mem_cons_of_mem _ (List.mem_cons_of_mem _ List.mem_cons_self))) ?_) | (refine fr_load1 rfl rfl rfl HA.out (by first | exact List.mem_cons_self | exact List.mem_cons_of_mem _ List.mem_cons_self | exact List.mem_cons_of_mem _ (List.mem_cons_of_mem _ List.mem_cons_self) | exact List.mem_cons_of_mem _ (List.mem_cons_of_mem _ (List.mem_cons_of_mem _ List.mem_cons_self))) ?_))
          have hcall := refCheck_calls A0 c0 l0 b HFB.out vb w_ (Kd.C_below HR0.out HA.out.below) HC0.out HV0.out HVB.out
          rw [HEb.out] at hcall
          refine hcall.mono ?_
          clear hcall
          rintro e w_ ⟨rfl, hb⟩
          replace HA := Aside0.mk (HA.out.step hb)
          clear hb
          have hc1 := HA.out.at1.c0
          have hc2 := HA.out.at1.c1
          have hc3 := HA.out.at0.c0
          have hc4 := HA.out.at0.c1
          rw [HEAL.out] at hc1
          rw [HEAH.out] at hc2
          rw [HEBL.out] at hc3
          rw [HEBH.out] at hc4
          go_wp2
          clear hc1 hc2 hc3 hc4
          go_loopw [7] (fun v7 wr => ∃ i : Nat, v7 = .int .i64 (i : Int) ∧ i ≤ n ∧ Aside0 ((List.range i).all (fun i => sb (a.sl.getD i 0) (b.sl.getD i 0)) = true) ∧ Aside0 (Frs w [(gb, b), (ga, a)] wr)) (fun v7 _ => ((n : Int) - intOf v7).toNat)
          case atStart => exact ⟨0, rfl, Nat.zero_le _, ⟨rfl⟩, HA⟩
          case round =>
            obtain ⟨i, rfl, hi, HP, HA⟩ := hrel
            have hc1 := HA.out.at1.c0
            have hc2 := HA.out.at1.c1
            rw [HEAL.out] at hc1
            rw [HEAH.out] at hc2
            by_cases c1 : i < n
            · have c1b : decide ((i : Int) < (n : Int)) = true := decide_eq_true (by omega)
              have c1c : decide (i < n) = true := decide_eq_true c1
              have p1 : (0 ≤ (i : Int)) = True := eq_true (by omega)
              have p2 : ((i : Int) < 24) = True := eq_true (by have := HLE.out; omega)
              have HW2 : Aside0 (wrap64 ((i : Int) + 1) = ((i + 1 : Nat) : Int)) := ⟨by have := HLE.out; unfold wrap64; omega⟩
              have HI : Aside0 (i < 24) := ⟨by have := HLE.out; omega⟩
              have hq := HSB.out i HI.out
              have hca := fun (W : World) (h : Frs w [(gb, b), (ga, a)] W) => (h.at1).cs i (by have := HFA.out; unfold Fr.ok at this; have := HI.out; omega)
              have hcb := fun (W : World) (h : Frs w [(gb, b), (ga, a)] W) => (h.at0).cs i (by have := HFB.out; unfold Fr.ok at this; have := HI.out; omega)
              have ea : a.sl[i]'(by have := HFA.out; unfold Fr.ok at this; have := HI.out; omega) = a.sl.getD i 0 := by rw [List.getD_eq_getElem?_getD, List.getElem?_eq_getElem (by have := HFA.out; unfold Fr.ok at this; have := HI.out; omega)]; rfl
              have eb : b.sl[i]'(by have := HFB.out; unfold Fr.ok at this; have := HI.out; omega) = b.sl.getD i 0 := by rw [List.getD_eq_getElem?_getD, List.getElem?_eq_getElem (by have := HFB.out; unfold Fr.ok at this; have := HI.out; omega)]; rfl
              rw [ea] at hca
              rw [eb] at hcb
              obtain ⟨ta, hta⟩ : ∃ ta, a.sl.getD i 0 = ta := ⟨_, rfl⟩
              obtain ⟨tb, htb⟩ : ∃ tb, b.sl.getD i 0 = tb := ⟨_, rfl⟩
              rw [hta, htb] at hq
              rw [hta] at hca
              rw [htb] at hcb
              have HQ := Aside0.mk hq
              have HTA := Aside0.mk hta
              have HTB := Aside0.mk htb
              have HCA := Aside0.mk hca
              have HCB := Aside0.mk hcb
              clear hq hca hcb ea eb hta htb
              go_upto_region 6 with (fail)
              clear hc1 hc2
              have hA := HA.out
              go_region_held3 (fun w' => w'.cell? ⟨ga, 2 + i, none⟩ = some (.int .u8 ta) ∧ w'.cell? ⟨gb, 2 + i, none⟩ = some (.int .u8 tb) ∧ Frs w [(gb, b), (ga, a)] w')
                (first | (exact ⟨HCA.out _ hW, HCB.out _ hW, hW⟩) | (exact ⟨HCA.out _ (hA.drewN 1), HCB.out _ (hA.drewN 1), hA.drewN 1⟩))
                (first | (go_at_call 54; (refine (provisoref02_Sub.calls k A0 c0 l0 ta tb (sb ta tb) _ (Kd.C_below HR0.out (hA.drewN 1).below) HC0.out HQ.out).mono ?_); rintro e w9 ⟨rfl, hb⟩; have hW : Frs w [(gb, b), (ga, a)] w9 := Frs.step (hA.drewN 1) hb))
              have HA := Aside0.mk hW
              clear hW hA
              by_cases hb2 : sb ta tb = true
              · have HT2 : Aside0 ((List.range (i + 1)).all (fun i => sb (a.sl.getD i 0) (b.sl.getD i 0)) = true) := ⟨by rw [all_succ, HP.out, HTA.out, HTB.out, hb2]; rfl⟩
                rw [hb2]
                clear hb2
                go_wp2
                rw [HW2.out]
                exact ⟨⟨i + 1, rfl, by omega, HT2, HA⟩, by simp [intOf]; omega⟩
              · have hb2 := Bool.eq_false_iff.mpr hb2
                have HB9 := Aside0.mk hb2
                rw [hb2]
                clear hb2
                go_wp2
                go_ret
                refine ⟨?_, HA.out.below⟩
                have : subS vb sb a b = false := by
                  unfold subS
                  rw [HAL0.out, Bool.and_eq_false_iff]
                  refine .inr (Bool.eq_false_iff.mpr (fun h => ?_))
                  have h2 := List.all_eq_true.1 h i (List.mem_range.2 HI.out)
                  simp only [HTA.out, HTB.out, HB9.out] at h2
                  cases h2
                rw [this]
                rfl
            · have c1b : decide ((i : Int) < (n : Int)) = false := decide_eq_false (by omega)
              have c1c : decide (i < n) = false := decide_eq_false c1
              obtain rfl : i = n := by omega
              go_wp2
              go_ret
              refine ⟨?_, HA.out.below⟩
              have : subS vb sb a b = true := by
                unfold subS
                rw [HAL0.out, sub_tail HS0.out i (fun j h1 h2 => HZA.out j (by have := HN.out; omega) h2) (fun j h1 h2 => HZB.out j (by have := HN.out; omega) h2) HP.out]
                rfl
              rw [this]
              rfl
        · have z4b : (a.hgt != b.hgt) = true := by rw [bne_iff_ne]; exact z4
          have z3b : (a.loc != b.loc) = false := by rw [z3]; simp
          have Z4 := Aside0.mk z4
          clear z4
          have Z3 := Aside0.mk z3
          clear z3
          go_enter Try.func34, Try.ntmps34
          go_wp2_with (first | ((with_reducible refine gate_dst (N := 14) rfl ?_); refine fr_guard rfl (by rfl) ?_; dsimp only; refine fr_load rfl rfl rfl HA.out (by first | exact List.mem_cons_self | exact List.mem_cons_of_mem _ List.mem_cons_self | exact List.mem_cons_of_mem _ (List.mem_cons_of_mem _ List.mem_cons_self) | exact List.mem_cons_of_mem _ (List.mem_cons_of_mem _ (List.mem_cons_of_mem _ List.mem_cons_self))) ?_) | ((with_reducible refine gate_dst (N := 4) rfl ?_); refine fr_box rfl rfl (f := a) rfl HFA.out HA.out ?_; intro ga w_ hA; (try simp only [List.cons_append, List.nil_append] at hA); replace HA := Aside0.mk hA; clear hA) | ((with_reducible refine gate_dst (N := 5) rfl ?_); refine fr_box rfl rfl (f := b) rfl HFB.out HA.out ?_; intro gb w_ hA; (try simp only [List.cons_append, List.nil_append] at hA); replace HA := Aside0.mk hA; clear hA) | (refine fr_load rfl rfl rfl HA.out (by first | exact List.mem_cons_self | exact List.mem_cons_of_mem _ List.mem_cons_self | exact List.mem_cons_of_mem _ (List.mem_cons_of_mem _ List.mem_cons_self) | exact List.mem_cons_of_mem _ (List.mem_cons_of_mem _ (List.mem_cons_of_mem _ List.mem_cons_self))) ?_) | (refine fr_load0 rfl rfl rfl HA.out (by first | exact List.mem_cons_self | exact List.mem_cons_of_mem _ List.mem_cons_self | exact List.mem_cons_of_mem _ (List.mem_cons_of_mem _ List.mem_cons_self) | exact List.mem_cons_of_mem _ (List.mem_cons_of_mem _ (List.mem_cons_of_mem _ List.mem_cons_self))) ?_) | (refine fr_load1 rfl rfl rfl HA.out (by first | exact List.mem_cons_self | exact List.mem_cons_of_mem _ List.mem_cons_self | exact List.mem_cons_of_mem _ (List.mem_cons_of_mem _ List.mem_cons_self) | exact List.mem_cons_of_mem _ (List.mem_cons_of_mem _ (List.mem_cons_of_mem _ List.mem_cons_self))) ?_))
          have hcall := refCheck_calls A0 c0 l0 a HFA.out vb w_ (Kd.C_below HR0.out HA.out.below) HC0.out HV0.out HVA.out
          rw [HEa.out] at hcall
          refine hcall.mono ?_
          clear hcall
          rintro e w_ ⟨rfl, hb⟩
          replace HA := Aside0.mk (HA.out.step hb)
          clear hb
          go_wp2_with (first | ((with_reducible refine gate_dst (N := 14) rfl ?_); refine fr_guard rfl (by rfl) ?_; dsimp only; refine fr_load rfl rfl rfl HA.out (by first | exact List.mem_cons_self | exact List.mem_cons_of_mem _ List.mem_cons_self | exact List.mem_cons_of_mem _ (List.mem_cons_of_mem _ List.mem_cons_self) | exact List.mem_cons_of_mem _ (List.mem_cons_of_mem _ (List.mem_cons_of_mem _ List.mem_cons_self))) ?_) | ((with_reducible refine gate_dst (N := 4) rfl ?_); refine fr_box rfl rfl (f := a) rfl HFA.out HA.out ?_; intro ga w_ hA; (try simp only [List.cons_append, List.nil_append] at hA); replace HA := Aside0.mk hA; clear hA) | ((with_reducible refine gate_dst (N := 5) rfl ?_); refine fr_box rfl rfl (f := b) rfl HFB.out HA.out ?_; intro gb w_ hA; (try simp only [List.cons_append, List.nil_append] at hA); replace HA := Aside0.mk hA; clear hA) | (refine fr_load rfl rfl rfl HA.out (by first | exact List.mem_cons_self | exact List.mem_cons_of_mem _ List.mem_cons_self | exact List.mem_cons_of_mem _ (List.mem_cons_of_mem _ List.mem_cons_self) | exact List.mem_cons_of_mem _ (List.mem_cons_of_mem _ (List.mem_cons_of_mem _ List.mem_cons_self))) ?_) | (refine fr_load0 rfl rfl rfl HA.out (by first | exact List.mem_cons_self | exact List.mem_cons_of_mem _ List.mem_cons_self | exact List.mem_cons_of_mem _ (List.mem_cons_of_mem _ List.mem_cons_self) | exact List.mem_cons_of_mem _ (List.mem_cons_of_mem _ (List.mem_cons_of_mem _ List.mem_cons_self))) ?_) | (refine fr_load1 rfl rfl rfl HA.out (by first | exact List.mem_cons_self | exact List.mem_cons_of_mem _ List.mem_cons_self | exact List.mem_cons_of_mem _ (List.mem_cons_of_mem _ List.mem_cons_self) | exact List.mem_cons_of_mem _ (List.mem_cons_of_mem _ (List.mem_cons_of_mem _ List.mem_cons_self))) ?_))
          have hcall := refCheck_calls A0 c0 l0 b HFB.out vb w_ (Kd.C_below HR0.out HA.out.below) HC0.out HV0.out HVB.out
          rw [HEb.out] at hcall
          refine hcall.mono ?_
          clear hcall
          rintro e w_ ⟨rfl, hb⟩
          replace HA := Aside0.mk (HA.out.step hb)
          clear hb
          have hc1 := HA.out.at1.c0
          have hc2 := HA.out.at1.c1
          have hc3 := HA.out.at0.c0
          have hc4 := HA.out.at0.c1
          go_wp2
          go_ret
          refine ⟨?_, HA.out.below⟩
          have : subS vb sb a b = false := by
            unfold subS
            rw [HAL.out]; simp only [Z4.out, and_false, if_false, if_true]
            rfl
          rw [this]
          rfl
      · have z3b : (a.loc != b.loc) = true := by rw [bne_iff_ne]; exact z3
        have Z3 := Aside0.mk z3
        clear z3
        go_enter Try.func34, Try.ntmps34
        go_wp2_with (first | ((with_reducible refine gate_dst (N := 14) rfl ?_); refine fr_guard rfl (by rfl) ?_; dsimp only; refine fr_load rfl rfl rfl HA.out (by first | exact List.mem_cons_self | exact List.mem_cons_of_mem _ List.mem_cons_self | exact List.mem_cons_of_mem _ (List.mem_cons_of_mem _ List.mem_cons_self) | exact List.mem_cons_of_mem _ (List.mem_cons_of_mem _ (List.mem_cons_of_mem _ List.mem_cons_self))) ?_) | ((with_reducible refine gate_dst (N := 4) rfl ?_); refine fr_box rfl rfl (f := a) rfl HFA.out HA.out ?_; intro ga w_ hA; (try simp only [List.cons_append, List.nil_append] at hA); replace HA := Aside0.mk hA; clear hA) | ((with_reducible refine gate_dst (N := 5) rfl ?_); refine fr_box rfl rfl (f := b) rfl HFB.out HA.out ?_; intro gb w_ hA; (try simp only [List.cons_append, List.nil_append] at hA); replace HA := Aside0.mk hA; clear hA) | (refine fr_load rfl rfl rfl HA.out (by first | exact List.mem_cons_self | exact List.mem_cons_of_mem _ List.mem_cons_self | exact List.mem_cons_of_mem _ (List.mem_cons_of_mem _ List.mem_cons_self) | exact List.mem_cons_of_mem _ (List.mem_cons_of_mem _ (List.mem_cons_of_mem _ List.mem_cons_self))) ?_) | (refine fr_load0 rfl rfl rfl HA.out (by first | exact List.mem_cons_self | exact List.mem_cons_of_mem _ List.mem_cons_self | exact List.mem_cons_of_mem _ (List.mem_cons_of_mem _ List.mem_cons_self) | exact List.mem_cons_of_mem _ (List.mem_cons_of_mem _ (List.mem_cons_of_mem _ List.mem_cons_self))) ?_) | (refine fr_load1 rfl rfl rfl HA.out (by first | exact List.mem_cons_self | exact List.mem_cons_of_mem _ List.mem_cons_self | exact List.mem_cons_of_mem _ (List.mem_cons_of_mem _ List.mem_cons_self) | exact List.mem_cons_of_mem _ (List.mem_cons_of_mem _ (List.mem_cons_of_mem _ List.mem_cons_self))) ?_))
        have hcall := refCheck_calls A0 c0 l0 a HFA.out vb w_ (Kd.C_below HR0.out HA.out.below) HC0.out HV0.out HVA.out
        rw [HEa.out] at hcall
        refine hcall.mono ?_
        clear hcall
        rintro e w_ ⟨rfl, hb⟩
        replace HA := Aside0.mk (HA.out.step hb)
        clear hb
        go_wp2_with (first | ((with_reducible refine gate_dst (N := 14) rfl ?_); refine fr_guard rfl (by rfl) ?_; dsimp only; refine fr_load rfl rfl rfl HA.out (by first | exact List.mem_cons_self | exact List.mem_cons_of_mem _ List.mem_cons_self | exact List.mem_cons_of_mem _ (List.mem_cons_of_mem _ List.mem_cons_self) | exact List.mem_cons_of_mem _ (List.mem_cons_of_mem _ (List.mem_cons_of_mem _ List.mem_cons_self))) ?_) | ((with_reducible refine gate_dst (N := 4) rfl ?_); refine fr_box rfl rfl (f := a) rfl HFA.out HA.out ?_; intro ga w_ hA; (try simp only [List.cons_append, List.nil_append] at hA); replace HA := Aside0.mk hA; clear hA) | ((with_reducible refine gate_dst (N := 5) rfl ?_); refine fr_box rfl rfl (f := b) rfl HFB.out HA.out ?_; intro gb w_ hA; (try simp only [List.cons_append, List.nil_append] at hA); replace HA := Aside0.mk hA; clear hA) | (refine fr_load rfl rfl rfl HA.out (by first | exact List.mem_cons_self | exact List.mem_cons_of_mem _ List.mem_cons_self | exact List.mem_cons_of_mem _ (List.mem_cons_of_mem _ List.mem_cons_self) | exact List.mem_cons_of_mem _ (List.mem_cons_of_mem _ (List.mem_cons_of_mem _ List.mem_cons_self))) ?_) | (refine fr_load0 rfl rfl rfl HA.out (by first | exact List.mem_cons_self | exact List.mem_cons_of_mem _ List.mem_cons_self | exact List.mem_cons_of_mem _ (List.mem_cons_of_mem _ List.mem_cons_self) | exact List.mem_cons_of_mem _ (List.mem_cons_of_mem _ (List.mem_cons_of_mem _ List.mem_cons_self))) ?_) | (refine fr_load1 rfl rfl rfl HA.out (by first | exact List.mem_cons_self | exact List.mem_cons_of_mem _ List.mem_cons_self | exact List.mem_cons_of_mem _ (List.mem_cons_of_mem _ List.mem_cons_self) | exact List.mem_cons_of_mem _ (List.mem_cons_of_mem _ (List.mem_cons_of_mem _ List.mem_cons_self))) ?_))
        have hcall := refCheck_calls A0 c0 l0 b HFB.out vb w_ (Kd.C_below HR0.out HA.out.below) HC0.out HV0.out HVB.out
        rw [HEb.out] at hcall
        refine hcall.mono ?_
        clear hcall
        rintro e w_ ⟨rfl, hb⟩
        replace HA := Aside0.mk (HA.out.step hb)
        clear hb
        have hc1 := HA.out.at1.c0
        have hc2 := HA.out.at1.c1
        have hc3 := HA.out.at0.c0
        have hc4 := HA.out.at0.c1
        go_wp2
        go_ret
        refine ⟨?_, HA.out.below⟩
        have : subS vb sb a b = false := by
          unfold subS
          rw [HAL.out]; simp only [Z3.out, false_and, if_false, if_true]
          rfl
        rw [this]
        rfl
    · have z2b : (eb != 0) = true := by rw [bne_iff_ne]; exact z2
      have Z2 := Aside0.mk z2
      clear z2
      go_enter Try.func34, Try.ntmps34
      go_wp2_with (first | ((with_reducible refine gate_dst (N := 14) rfl ?_); refine fr_guard rfl (by rfl) ?_; dsimp only; refine fr_load rfl rfl rfl HA.out (by first | exact List.mem_cons_self | exact List.mem_cons_of_mem _ List.mem_cons_self | exact List.mem_cons_of_mem _ (List.mem_cons_of_mem _ List.mem_cons_self) | exact List.mem_cons_of_mem _ (List.mem_cons_of_mem _ (List.mem_cons_of_mem _ List.mem_cons_self))) ?_) | ((with_reducible refine gate_dst (N := 4) rfl ?_); refine fr_box rfl rfl (f := a) rfl HFA.out HA.out ?_; intro ga w_ hA; (try simp only [List.cons_append, List.nil_append] at hA); replace HA := Aside0.mk hA; clear hA) | ((with_reducible refine gate_dst (N := 5) rfl ?_); refine fr_box rfl rfl (f := b) rfl HFB.out HA.out ?_; intro gb w_ hA; (try simp only [List.cons_append, List.nil_append] at hA); replace HA := Aside0.mk hA; clear hA) | (refine fr_load rfl rfl rfl HA.out (by first | exact List.mem_cons_self | exact List.mem_cons_of_mem _ List.mem_cons_self | exact List.mem_cons_of_mem _ (List.mem_cons_of_mem _ List.mem_cons_self) | exact List.mem_cons_of_mem _ (List.mem_cons_of_mem _ (List.mem_cons_of_mem _ List.mem_cons_self))) ?_) | (refine fr_load0 rfl rfl rfl HA.out (by first | exact List.mem_cons_self | exact List.mem_cons_of_mem _ List.mem_cons_self | exact List.mem_cons_of_mem _ (List.mem_cons_of_mem _ List.mem_cons_self) | exact List.mem_cons_of_mem _ (List.mem_cons_of_mem _ (List.mem_cons_of_mem _ List.mem_cons_self))) ?_) | (refine fr_load1 rfl rfl rfl HA.out (by first | exact List.mem_cons_self | exact List.mem_cons_of_mem _ List.mem_cons_self | exact List.mem_cons_of_mem _ (List.mem_cons_of_mem _ List.mem_cons_self) | exact List.mem_cons_of_mem _ (List.mem_cons_of_mem _ (List.mem_cons_of_mem _ List.mem_cons_self))) ?_))
      have hcall := refCheck_calls A0 c0 l0 a HFA.out vb w_ (Kd.C_below HR0.out HA.out.below) HC0.out HV0.out HVA.out
      rw [HEa.out] at hcall
      refine hcall.mono ?_
      clear hcall
      rintro e w_ ⟨rfl, hb⟩
      replace HA := Aside0.mk (HA.out.step hb)
      clear hb
      go_wp2_with (first | ((with_reducible refine gate_dst (N := 14) rfl ?_); refine fr_guard rfl (by rfl) ?_; dsimp only; refine fr_load rfl rfl rfl HA.out (by first | exact List.mem_cons_self | exact List.mem_cons_of_mem _ List.mem_cons_self | exact List.mem_cons_of_mem _ (List.mem_cons_of_mem _ List.mem_cons_self) | exact List.mem_cons_of_mem _ (List.mem_cons_of_mem _ (List.mem_cons_of_mem _ List.mem_cons_self))) ?_) | ((with_reducible refine gate_dst (N := 4) rfl ?_); refine fr_box rfl rfl (f := a) rfl HFA.out HA.out ?_; intro ga w_ hA; (try simp only [List.cons_append, List.nil_append] at hA); replace HA := Aside0.mk hA; clear hA) | ((with_reducible refine gate_dst (N := 5) rfl ?_); refine fr_box rfl rfl (f := b) rfl HFB.out HA.out ?_; intro gb w_ hA; (try simp only [List.cons_append, List.nil_append] at hA); replace HA := Aside0.mk hA; clear hA) | (refine fr_load rfl rfl rfl HA.out (by first | exact List.mem_cons_self | exact List.mem_cons_of_mem _ List.mem_cons_self | exact List.mem_cons_of_mem _ (List.mem_cons_of_mem _ List.mem_cons_self) | exact List.mem_cons_of_mem _ (List.mem_cons_of_mem _ (List.mem_cons_of_mem _ List.mem_cons_self))) ?_) | (refine fr_load0 rfl rfl rfl HA.out (by first | exact List.mem_cons_self | exact List.mem_cons_of_mem _ List.mem_cons_self | exact List.mem_cons_of_mem _ (List.mem_cons_of_mem _ List.mem_cons_self) | exact List.mem_cons_of_mem _ (List.mem_cons_of_mem _ (List.mem_cons_of_mem _ List.mem_cons_self))) ?_) | (refine fr_load1 rfl rfl rfl HA.out (by first | exact List.mem_cons_self | exact List.mem_cons_of_mem _ List.mem_cons_self | exact List.mem_cons_of_mem _ (List.mem_cons_of_mem _ List.mem_cons_self) | exact List.mem_cons_of_mem _ (List.mem_cons_of_mem _ (List.mem_cons_of_mem _ List.mem_cons_self))) ?_))
      have hcall := refCheck_calls A0 c0 l0 b HFB.out vb w_ (Kd.C_below HR0.out HA.out.below) HC0.out HV0.out HVB.out
      rw [HEb.out] at hcall
      refine hcall.mono ?_
      clear hcall
      rintro e w_ ⟨rfl, hb⟩
      replace HA := Aside0.mk (HA.out.step hb)
      clear hb
      go_wp2
      go_ret
      refine ⟨?_, HA.out.below⟩
      have : subS vb sb a b = false := by
        unfold subS
        rw [HAL.out]; simp only [Z2.out, if_false, if_true, decide_false]
        rfl
      rw [this]
      rfl
  · have z1b : (ea != 0) = true := by rw [bne_iff_ne]; exact z1
    have Z1 := Aside0.mk z1
    clear z1
    go_enter Try.func34, Try.ntmps34
    go_wp2_with (first | ((with_reducible refine gate_dst (N := 14) rfl ?_); refine fr_guard rfl (by rfl) ?_; dsimp only; refine fr_load rfl rfl rfl HA.out (by first | exact List.mem_cons_self | exact List.mem_cons_of_mem _ List.mem_cons_self | exact List.mem_cons_of_mem _ (List.mem_cons_of_mem _ List.mem_cons_self) | exact List.mem_cons_of_mem _ (List.mem_cons_of_mem _ (List.mem_cons_of_mem _ List.mem_cons_self))) ?_) | ((with_reducible refine gate_dst (N := 4) rfl ?_); refine fr_box rfl rfl (f := a) rfl HFA.out HA.out ?_; intro ga w_ hA; (try simp only [List.cons_append, List.nil_append] at hA); replace HA := Aside0.mk hA; clear hA) | ((with_reducible refine gate_dst (N := 5) rfl ?_); refine fr_box rfl rfl (f := b) rfl HFB.out HA.out ?_; intro gb w_ hA; (try simp only [List.cons_append, List.nil_append] at hA); replace HA := Aside0.mk hA; clear hA) | (refine fr_load rfl rfl rfl HA.out (by first | exact List.mem_cons_self | exact List.mem_cons_of_mem _ List.mem_cons_self | exact List.mem_cons_of_mem _ (List.mem_cons_of_mem _ List.mem_cons_self) | exact List.mem_cons_of_mem _ (List.mem_cons_of_mem _ (List.mem_cons_of_mem _ List.mem_cons_self))) ?_) | (refine fr_load0 rfl rfl rfl HA.out (by first | exact List.mem_cons_self | exact List.mem_cons_of_mem _ List.mem_cons_self | exact List.mem_cons_of_mem _ (List.mem_cons_of_mem _ List.mem_cons_self) | exact List.mem_cons_of_mem _ (List.mem_cons_of_mem _ (List.mem_cons_of_mem _ List.mem_cons_self))) ?_) | (refine fr_load1 rfl rfl rfl HA.out (by first | exact List.mem_cons_self | exact List.mem_cons_of_mem _ List.mem_cons_self | exact List.mem_cons_of_mem _ (List.mem_cons_of_mem _ List.mem_cons_self) | exact List.mem_cons_of_mem _ (List.mem_cons_of_mem _ (List.mem_cons_of_mem _ List.mem_cons_self))) ?_))
    have hcall := refCheck_calls A0 c0 l0 a HFA.out vb w_ (Kd.C_below HR0.out HA.out.below) HC0.out HV0.out HVA.out
    rw [HEa.out] at hcall
    refine hcall.mono ?_
    clear hcall
    rintro e w_ ⟨rfl, hb⟩
    replace HA := Aside0.mk (HA.out.step hb)
    clear hb
    go_wp2
    go_ret
    refine ⟨?_, HA.out.below⟩
    have : subS vb sb a b = false := by
      unfold subS
      rw [HAL.out]; simp only [Z1.out, if_false, decide_false]
      rfl
    rw [this]
    rfl


end Go.Proofs.Ytgjnmpgmbhbbhaa.P

end

section
namespace Go.Proofs.Ytgjnmpgmbhbbhaa.P
open Go.RowKit Go.Proofs.YtgjnmpgmbhbbhaaW.PrintWords Go.Proofs.YtgjnmpgmbhbbhaaW.PrintLast Go.Proofs.YtgjnmpgmbhbbhaaW.PrintMore
attribute [local go_sem] max2_int min2_int max_two min_two max_three min_three max_four min_four   -- for this text's walks alone
set_option linter.unusedVariables false
set_option linter.unusedSimpArgs false

def provisoref02_all.l0 : Nat → List (S59) → List Int → Int → Option (List Int)
  | 0, _, _, _ => none
  | k + 1, x0, x3, x4 => if x4 < 256 then ((provisoref02_Valid.f x0 ((x4) % 256)).bind fun t178 => (if t178 = true then (if x3.length < 140737488355328 then (provisoref02_all.l0 k x0 (x3 ++ [(x4) % 256]) (wrap64 (x4 + 1))) else (none)) else (provisoref02_all.l0 k x0 x3 (wrap64 (x4 + 1))))) else (some x3)
def provisoref02_all.f (k : Nat) (l0 : List (S59)) : Option (List Int) := provisoref02_all.l0 k l0 ([] : List Int) 0
set_option maxHeartbeats 8000000 in
set_option maxRecDepth 100000 in
theorem provisoref02_all.calls (k : Nat) (A0 : Option Addr) (c0 : Nat) (l0 : List (S59)) (r : List Int) (w : World) (hr0 : Kd.C k59 w A0 l0.length l0) (hc0 : l0.length ≤ c0) (h : provisoref02_all.f k l0 = some r) :
    Calls Try.prog 69 #[.slice A0 l0.length c0] w fun e w' => ∃ v0_ : Value, e = .returned (v0_) ∧ Kd.R (Kd.int .u8) 24 w' w.heap.size (fun _ => True) v0_ r ∧ Below w.heap.size w w' := by
  have HR0 := Aside0.mk hr0
  have HC0 := Aside0.mk hc0
  clear hr0 hc0
  have HB := Aside0.mk (Below.refl w.heap.size w)
  have H : (provisoref02_all.l0 k l0 ([] : List Int) 0) = some r := h
  clear h
  have H' := Aside0.mk H
  clear H
  go_enter Try.func69, Try.ntmps69
  go_wp2
  go_loopg [3, 4] k (fun kq v3 v4 w' => ∃ (x3_1 : List Int) (x4_1 : Int), v4 = .int .i64 x4_1 ∧ Aside0 (provisoref02_all.l0 kq l0 x3_1 x4_1 = some r) ∧ Aside0 (kq ≤ k) ∧ Aside0 (Kd.R (Kd.int .u8) 24 w' w.heap.size (fun _ => True) v3 x3_1) ∧ Aside0 (Below w.heap.size w w'))
  case atStart => exact ⟨(([] : List Int)), (0), (by first | rfl | (simp; done) | (simp [*]; done)), H', ⟨Nat.le_refl _⟩, ⟨by first | exact Kd.R_nil _ _ _ _ _ | exact Kd.N_nil _ _ _ _ _ | exact Kd.V_nil _ _ _ _ _ | exact Kd.Q_nil _ _ _ _ _ | exact Kd.S_nil _ _ _ _ _⟩, ⟨by repeat (first | (with_reducible first | exact HB.out | apply below_alloc | apply pw_below_drewN | apply below_drew1) | exact HB.out)⟩⟩
  case round =>
    clear H'
    obtain ⟨x3_1, x4_1, rfl, HA, HK1, HO_3, HB⟩ := hrel
    cases gk with
    | zero => exact absurd HA.out (by simp [provisoref02_all.l0])
    | succ k1 =>
      have H := HA.out
      clear HA
      simp only [provisoref02_all.l0] at H
      by_cases c2 : x4_1 < 256
      · rw [if_pos c2] at H
        have c2b0 : decide (x4_1 < 256) = true := decide_eq_true c2
        clear c2
        replace H := Option.bind_eq_some_iff.mp H
        obtain ⟨t178, A30, H⟩ := H
        replace H : (if t178 = true then (if x3_1.length < 140737488355328 then (provisoref02_all.l0 k1 l0 (x3_1 ++ [(x4_1) % 256]) (wrap64 (x4_1 + 1))) else (none)) else (provisoref02_all.l0 k1 l0 x3_1 (wrap64 (x4_1 + 1)))) = some r := H
        have A3 := Aside0.mk A30
        clear A30
        by_cases c4 : t178 = true
        · subst c4
          have H1 : (if x3_1.length < 140737488355328 then (provisoref02_all.l0 k1 l0 (x3_1 ++ [(x4_1) % 256]) (wrap64 (x4_1 + 1))) else (none)) = some r := by rw [if_pos rfl] at H; exact H
          clear H
          have H := H1
          clear H1
          by_cases c5 : x3_1.length < 140737488355328
          · rw [if_pos c5] at H
            have LMc5 := Aside0.mk c5
            clear c5
            obtain ⟨y179, hy179⟩ : ∃ y_ : List Int, y_ = (x3_1 ++ [(x4_1) % 256]) := ⟨_, rfl⟩
            replace H : (provisoref02_all.l0 k1 l0 y179 (wrap64 (x4_1 + 1))) = some r := by first | (rw [hy179]; with_reducible exact H) | (have H2_ := (Option.bind_some _ _).symm.trans H; rw [hy179]; with_reducible exact H2_) | (have H2_ := (Option.bind_some _ _).symm.trans H; with_reducible exact H2_) | with_reducible exact H | (rw [hy179]; exact H) | exact H
            have Ny179 := Aside0.mk hy179
            clear hy179
            have H' := Aside0.mk H
            clear H
            go_wp2_with (first | ((with_reducible refine gate_callee (f := 51) rfl ?_); refine goesL_ (some 12) rfl rfl Try.func51 (by kernel_rfl) rfl #[.slice A0 l0.length c0, .int .u8 ((x4_1) % 256)] rfl (by (try simp only [List.map_toArray, List.map_cons, List.map_nil]); first | done | rfl | (simp only [List.length_drop, List.length_take]; rfl)) ?_; (with_reducible refine (provisoref02_Valid.calls _ _ l0 ((x4_1) % 256) true _ ?side1 ?side2 A3.out).mono ?_); (case side1 => repeat (first | exact (Kd.C_below HR0.out HB.out) | (with_reducible refine Kd.C_alloc ?_ _) | (with_reducible refine Kd.C_drewN ?_ _) | (with_reducible refine Kd.C_drew ?_))); (case side2 => exact HC0.out); rintro e w' ⟨rfl, ⟨nd, rfl⟩⟩; refine ⟨_, rfl, ?_⟩) | ((with_reducible refine gate_builtin (b := .append) (xs := #[.tmp 13, .tmp 16]) rfl ?_); at_builtin; refine Kd.R_append (Kd.int .u8) (w0 := w) w.heap.size rfl (.tmp 13) (.tmp 16) 23 24 (.int .u8 0) 1 rfl Try.underlying23 info24 rfl (by decide) (by omega) u3 x3_1 ((x4_1) % 256) [.int .u8 ((x4_1) % 256)] (fun _ => True) (fun _ => False) rfl rfl ?aP (fun _ hk => hk.elim) ?aF ?aO ?aB ?aS ?aL ?_; (case aP => exact rfl); (case aB => exact (by repeat (first | (with_reducible first | exact HB.out | apply below_alloc | apply pw_below_drewN | apply below_drew1) | exact HB.out))); (case aF => exact (fun _ _ => trivial)); (case aO => exact (by (with_reducible repeat (first | apply Kd.R_alloc | apply Kd.R_drewN | apply Kd.R_drew)); exact HO_3.out)); (case aS => exact (below_size (by repeat (first | (with_reducible first | exact HB.out | apply below_alloc | apply pw_below_drewN | apply below_drew1) | exact HB.out)))); (case aL => have := LMc5.out; omega); intro v180 w6 ho hb hg hat; rw [← Ny179.out] at ho; have n0_ := Aside0.mk (hb); have n1_ := Aside0.mk (ho); clear HB; clear HO_3; have HB := n0_; have HO181 := n1_; clear n0_ n1_; clear ho hb hg hat))
            go_roundg k1
            case measure => have := HK1.out; omega
            case rel => exact ⟨(y179), (wrap64 (x4_1 + 1)), (by first | rfl | (simp; done) | (simp [*]; done)), H', ⟨by have := HK1.out; omega⟩, ⟨by (with_reducible repeat (first | apply Kd.R_alloc | apply Kd.R_drewN | apply Kd.R_drew)); exact HO181.out⟩, ⟨by repeat (first | (with_reducible first | exact HB.out | apply below_alloc | apply pw_below_drewN | apply below_drew1) | exact HB.out)⟩⟩
          · rw [if_neg c5] at H
            exact absurd H (by simp)
        · replace c4 := Bool.eq_false_iff.mpr c4
          subst c4
          have H1 : (provisoref02_all.l0 k1 l0 x3_1 (wrap64 (x4_1 + 1))) = some r := by rw [if_neg (show ¬ (false = true) by decide)] at H; exact H
          clear H
          have H := H1
          clear H1
          have H' := Aside0.mk H
          clear H
          go_wp2_with (first | ((with_reducible refine gate_callee (f := 51) rfl ?_); refine goesL_ (some 12) rfl rfl Try.func51 (by kernel_rfl) rfl #[.slice A0 l0.length c0, .int .u8 ((x4_1) % 256)] rfl (by (try simp only [List.map_toArray, List.map_cons, List.map_nil]); first | done | rfl | (simp only [List.length_drop, List.length_take]; rfl)) ?_; (with_reducible refine (provisoref02_Valid.calls _ _ l0 ((x4_1) % 256) false _ ?side1 ?side2 A3.out).mono ?_); (case side1 => repeat (first | exact (Kd.C_below HR0.out HB.out) | (with_reducible refine Kd.C_alloc ?_ _) | (with_reducible refine Kd.C_drewN ?_ _) | (with_reducible refine Kd.C_drew ?_))); (case side2 => exact HC0.out); rintro e w' ⟨rfl, ⟨nd, rfl⟩⟩; refine ⟨_, rfl, ?_⟩))
          go_roundg k1
          case measure => have := HK1.out; omega
          case rel => exact ⟨(x3_1), (wrap64 (x4_1 + 1)), (by first | rfl | (simp; done) | (simp [*]; done)), H', ⟨by have := HK1.out; omega⟩, ⟨by (with_reducible repeat (first | apply Kd.R_alloc | apply Kd.R_drewN | apply Kd.R_drew)); exact HO_3.out⟩, ⟨by repeat (first | (with_reducible first | exact HB.out | apply below_alloc | apply pw_below_drewN | apply below_drew1) | exact HB.out)⟩⟩
      · rw [if_neg c2] at H
        have c2b0 : decide (x4_1 < 256) = false := decide_eq_false c2
        clear c2
        obtain rfl := Option.some.inj H
        go_wp2
        go_ret
        exact ⟨_, by first | rfl | (simp [errW_none, errW_some] <;> rfl) | (simp [*, errW_none, errW_some] <;> rfl), by (with_reducible repeat (first | apply Kd.R_alloc | apply Kd.R_drewN | apply Kd.R_drew)); exact HO_3.out, by repeat (first | (with_reducible first | exact HB.out | apply below_alloc | apply pw_below_drewN | apply below_drew1) | exact HB.out)⟩

def provisoref02_Merge.l0 : Nat → List (S59) → Int → Int → Int → List Int → Int → Option (Int)
  | 0, _, _, _, _, _, _ => none
  | k + 1, x0, x1, x2, x7, x8, x9 => if x9 < (x8.length : Int) then (if 0 ≤ x9 then ((provisoref02_Sub.f k x0 x1 (rd x8 x9)).bind fun t186 => (if t186 = true then ((provisoref02_Sub.f k x0 x2 (rd x8 x9)).bind fun t187 => (if t187 = true then ((provisoref02_Sub.f k x0 (rd x8 x9) x7).bind fun t188 => (if t188 = true then (provisoref02_Merge.l0 k x0 x1 x2 (rd x8 x9) x8 (wrap64 (x9 + 1))) else (provisoref02_Merge.l0 k x0 x1 x2 x7 x8 (wrap64 (x9 + 1))))) else (provisoref02_Merge.l0 k x0 x1 x2 x7 x8 (wrap64 (x9 + 1))))) else (provisoref02_Merge.l0 k x0 x1 x2 x7 x8 (wrap64 (x9 + 1))))) else (none)) else (some x7)
def provisoref02_Merge.f (k : Nat) (l0 : List (S59)) (a1 : Int) (a2 : Int) : Option (Int) := (provisoref02_all.f k l0).bind fun t182 => (provisoref02_Merge.l0 k l0 a1 a2 0 t182 0)
set_option maxHeartbeats 8000000 in
set_option maxRecDepth 100000 in
theorem provisoref02_Merge.calls (k : Nat) (A0 : Option Addr) (c0 : Nat) (l0 : List (S59)) (a1 : Int) (a2 : Int) (r : Int) (w : World) (hr0 : Kd.C k59 w A0 l0.length l0) (hc0 : l0.length ≤ c0) (h : provisoref02_Merge.f k l0 a1 a2 = some r) :
    Calls Try.prog 55 #[.slice A0 l0.length c0, .int .u8 a1, .int .u8 a2] w fun e w' => e = .returned (.int .u8 r) ∧ Below w.heap.size w w' := by
  have HR0 := Aside0.mk hr0
  have HC0 := Aside0.mk hc0
  clear hr0 hc0
  have HB := Aside0.mk (Below.refl w.heap.size w)
  have H : ((provisoref02_all.f k l0).bind fun t182 => (provisoref02_Merge.l0 k l0 a1 a2 0 t182 0)) = some r := h
  clear h
  replace H := Option.bind_eq_some_iff.mp H
  obtain ⟨t182, A40, H⟩ := H
  replace H : (provisoref02_Merge.l0 k l0 a1 a2 0 t182 0) = some r := H
  have A4 := Aside0.mk A40
  clear A40
  have H' := Aside0.mk H
  clear H
  go_enter Try.func55, Try.ntmps55
  go_wp2_with (first | ((with_reducible refine gate_callee (f := 69) rfl ?_); refine goesL_ (some 12) rfl rfl Try.func69 (by kernel_rfl) rfl #[.slice A0 l0.length c0] rfl (by (try simp only [List.map_toArray, List.map_cons, List.map_nil]); first | done | rfl | (simp only [List.length_drop, List.length_take]; rfl)) ?_; (with_reducible refine (provisoref02_all.calls k _ _ l0 t182 _ ?side1 ?side2 A4.out).mono ?_); (case side1 => repeat (first | exact HR0.out | (with_reducible refine Kd.C_alloc ?_ _) | (with_reducible refine Kd.C_drewN ?_ _) | (with_reducible refine Kd.C_drew ?_))); (case side2 => exact HC0.out); rintro e w5 ⟨v183, rfl, ho0, hb⟩; refine ⟨_, rfl, ?_⟩; have n0_ := Aside0.mk (Kd.R_lower ho0 (below_size (by repeat (first | (with_reducible first | exact HB.out | apply below_alloc | apply pw_below_drewN | apply below_drew1) | exact HB.out)))); have n1_ := Aside0.mk (below_step (by repeat (first | (with_reducible first | exact HB.out | apply below_alloc | apply pw_below_drewN | apply below_drew1) | exact HB.out)) hb); clear HB; have HO184 := n0_; have HB := n1_; clear n0_ n1_; (try clear hb); (try clear hb2); (try clear hk); (try clear hi); (try clear ho0)))
  go_loopg [7, 9] k (fun kq v7 v9 w' => ∃ (x7_1 : Int) (x9_1 : Int), v7 = .int .u8 x7_1 ∧ v9 = .int .i64 x9_1 ∧ Aside0 (provisoref02_Merge.l0 kq l0 a1 a2 x7_1 t182 x9_1 = some r) ∧ Aside0 (kq ≤ k) ∧ Aside0 (Kd.R (Kd.int .u8) 24 w' w.heap.size (fun _ => True) v183 t182) ∧ Aside0 (Below w.heap.size w w'))
  case atStart => exact ⟨(0), (0), (by first | rfl | (simp; done) | (simp [*]; done)), (by first | rfl | (simp; done) | (simp [*]; done)), H', ⟨Nat.le_refl _⟩, ⟨by (with_reducible repeat (first | apply Kd.R_alloc | apply Kd.R_drewN | apply Kd.R_drew)); exact HO184.out⟩, ⟨by repeat (first | (with_reducible first | exact HB.out | apply below_alloc | apply pw_below_drewN | apply below_drew1) | exact HB.out)⟩⟩
  case round =>
    clear H'
    try clear p2
    try clear c5
    obtain ⟨x7_1, x9_1, rfl, rfl, HA, HK1, HO_8, HB⟩ := hrel
    cases gk with
    | zero => exact absurd HA.out (by simp [provisoref02_Merge.l0])
    | succ k1 =>
      have H := HA.out
      clear HA
      simp only [provisoref02_Merge.l0] at H
      by_cases c6 : x9_1 < (t182.length : Int)
      · rw [if_pos c6] at H
        have c6b0 : decide (x9_1 < (t182.length : Int)) = true := decide_eq_true c6
        clear c6
        by_cases c7 : 0 ≤ x9_1
        · rw [if_pos c7] at H
          have c7b0 : decide (0 ≤ x9_1) = true := decide_eq_true c7
          clear c7
          replace H := Option.bind_eq_some_iff.mp H
          obtain ⟨t186, A80, H⟩ := H
          replace H : (if t186 = true then ((provisoref02_Sub.f k1 l0 a2 (rd t182 x9_1)).bind fun t187 => (if t187 = true then ((provisoref02_Sub.f k1 l0 (rd t182 x9_1) x7_1).bind fun t188 => (if t188 = true then (provisoref02_Merge.l0 k1 l0 a1 a2 (rd t182 x9_1) t182 (wrap64 (x9_1 + 1))) else (provisoref02_Merge.l0 k1 l0 a1 a2 x7_1 t182 (wrap64 (x9_1 + 1))))) else (provisoref02_Merge.l0 k1 l0 a1 a2 x7_1 t182 (wrap64 (x9_1 + 1))))) else (provisoref02_Merge.l0 k1 l0 a1 a2 x7_1 t182 (wrap64 (x9_1 + 1)))) = some r := H
          have A8 := Aside0.mk A80
          clear A80
          by_cases c9 : t186 = true
          · subst c9
            have H1 : ((provisoref02_Sub.f k1 l0 a2 (rd t182 x9_1)).bind fun t187 => (if t187 = true then ((provisoref02_Sub.f k1 l0 (rd t182 x9_1) x7_1).bind fun t188 => (if t188 = true then (provisoref02_Merge.l0 k1 l0 a1 a2 (rd t182 x9_1) t182 (wrap64 (x9_1 + 1))) else (provisoref02_Merge.l0 k1 l0 a1 a2 x7_1 t182 (wrap64 (x9_1 + 1))))) else (provisoref02_Merge.l0 k1 l0 a1 a2 x7_1 t182 (wrap64 (x9_1 + 1))))) = some r := by rw [if_pos rfl] at H; exact H
            clear H
            have H := H1
            clear H1
            replace H := Option.bind_eq_some_iff.mp H
            obtain ⟨t187, A100, H⟩ := H
            replace H : (if t187 = true then ((provisoref02_Sub.f k1 l0 (rd t182 x9_1) x7_1).bind fun t188 => (if t188 = true then (provisoref02_Merge.l0 k1 l0 a1 a2 (rd t182 x9_1) t182 (wrap64 (x9_1 + 1))) else (provisoref02_Merge.l0 k1 l0 a1 a2 x7_1 t182 (wrap64 (x9_1 + 1))))) else (provisoref02_Merge.l0 k1 l0 a1 a2 x7_1 t182 (wrap64 (x9_1 + 1)))) = some r := H
            have A10 := Aside0.mk A100
            clear A100
            by_cases c11 : t187 = true
            · subst c11
              have H1 : ((provisoref02_Sub.f k1 l0 (rd t182 x9_1) x7_1).bind fun t188 => (if t188 = true then (provisoref02_Merge.l0 k1 l0 a1 a2 (rd t182 x9_1) t182 (wrap64 (x9_1 + 1))) else (provisoref02_Merge.l0 k1 l0 a1 a2 x7_1 t182 (wrap64 (x9_1 + 1))))) = some r := by rw [if_pos rfl] at H; exact H
              clear H
              have H := H1
              clear H1
              replace H := Option.bind_eq_some_iff.mp H
              obtain ⟨t188, A120, H⟩ := H
              replace H : (if t188 = true then (provisoref02_Merge.l0 k1 l0 a1 a2 (rd t182 x9_1) t182 (wrap64 (x9_1 + 1))) else (provisoref02_Merge.l0 k1 l0 a1 a2 x7_1 t182 (wrap64 (x9_1 + 1)))) = some r := H
              have A12 := Aside0.mk A120
              clear A120
              by_cases c13 : t188 = true
              · subst c13
                have H1 : (provisoref02_Merge.l0 k1 l0 a1 a2 (rd t182 x9_1) t182 (wrap64 (x9_1 + 1))) = some r := by rw [if_pos rfl] at H; exact H
                clear H
                have H := H1
                clear H1
                have H' := Aside0.mk H
                clear H
                obtain ⟨Ao14, co14, eo14⟩ := Kd.R_slice HO_8.out
                subst eo14
                have p185 : 0 ≤ (x9_1 : Int) := of_decide_eq_true (by first | (with_reducible assumption) | assumption)
                have q185 : x9_1 < (t182.length : Int) := of_decide_eq_true (by first | (with_reducible assumption) | assumption)
                obtain ⟨ad185, e185, hx185_0⟩ := Kd.at_int (Kd.R_reads' HO_8.out).2.2 x9_1 p185 q185
                cases e185
                replace p185 := eq_true p185
                replace q185 := eq_true q185
                go_wp2_with (first | ((with_reducible refine gate_callee (f := 54) rfl ?_); refine goesL_ (some 26) rfl rfl Try.func54 (by kernel_rfl) rfl #[.slice A0 l0.length c0, .int .u8 a1, .int .u8 (rd t182 x9_1)] rfl (by (try simp only [List.map_toArray, List.map_cons, List.map_nil]); first | done | rfl | (simp only [List.length_drop, List.length_take]; rfl)) ?_; (with_reducible refine (provisoref02_Sub.calls k1 _ _ l0 a1 (rd t182 x9_1) true _ ?side1 ?side2 A8.out).mono ?_); (case side1 => repeat (first | exact (Kd.C_below HR0.out HB.out) | (with_reducible refine Kd.C_alloc ?_ _) | (with_reducible refine Kd.C_drewN ?_ _) | (with_reducible refine Kd.C_drew ?_))); (case side2 => exact HC0.out); rintro e w15 ⟨rfl, hb⟩; refine ⟨_, rfl, ?_⟩; have n0_ := Aside0.mk (Kd.R_below (by (with_reducible repeat (first | apply Kd.R_alloc | apply Kd.R_drewN | apply Kd.R_drew)); exact HO_8.out) hb); have n1_ := Aside0.mk (below_step (by repeat (first | (with_reducible first | exact HB.out | apply below_alloc | apply pw_below_drewN | apply below_drew1) | exact HB.out)) hb); clear HO_8; clear HB; have HO_8 := n0_; have HB := n1_; clear n0_ n1_; (try clear hb); (try clear hb2); (try clear hk); (try clear hi)) | (go_at_call 54; (with_reducible refine (provisoref02_Sub.calls k1 _ _ l0 a2 (rd t182 x9_1) true _ ?side1 ?side2 A10.out).mono ?_); (case side1 => repeat (first | exact (Kd.C_below HR0.out HB.out) | (with_reducible refine Kd.C_alloc ?_ _) | (with_reducible refine Kd.C_drewN ?_ _) | (with_reducible refine Kd.C_drew ?_))); (case side2 => exact HC0.out); rintro e w16 ⟨rfl, hb⟩; have n0_ := Aside0.mk (Kd.R_below (by (with_reducible repeat (first | apply Kd.R_alloc | apply Kd.R_drewN | apply Kd.R_drew)); exact HO_8.out) hb); have n1_ := Aside0.mk (below_step (by repeat (first | (with_reducible first | exact HB.out | apply below_alloc | apply pw_below_drewN | apply below_drew1) | exact HB.out)) hb); clear HO_8; clear HB; have HO_8 := n0_; have HB := n1_; clear n0_ n1_; (try clear hb); (try clear hb2); (try clear hk); (try clear hi)) | (go_at_call 54; (with_reducible refine (provisoref02_Sub.calls k1 _ _ l0 (rd t182 x9_1) x7_1 true _ ?side1 ?side2 A12.out).mono ?_); (case side1 => repeat (first | exact (Kd.C_below HR0.out HB.out) | (with_reducible refine Kd.C_alloc ?_ _) | (with_reducible refine Kd.C_drewN ?_ _) | (with_reducible refine Kd.C_drew ?_))); (case side2 => exact HC0.out); rintro e w17 ⟨rfl, hb⟩; have n0_ := Aside0.mk (Kd.R_below (by (with_reducible repeat (first | apply Kd.R_alloc | apply Kd.R_drewN | apply Kd.R_drew)); exact HO_8.out) hb); have n1_ := Aside0.mk (below_step (by repeat (first | (with_reducible first | exact HB.out | apply below_alloc | apply pw_below_drewN | apply below_drew1) | exact HB.out)) hb); clear HO_8; clear HB; have HO_8 := n0_; have HB := n1_; clear n0_ n1_; (try clear hb); (try clear hb2); (try clear hk); (try clear hi)))
                go_roundg k1
                case measure => have := HK1.out; omega
                case rel => exact ⟨(rd t182 x9_1), (wrap64 (x9_1 + 1)), (by first | rfl | (simp; done) | (simp [*]; done)), (by first | rfl | (simp; done) | (simp [*]; done)), H', ⟨by have := HK1.out; omega⟩, ⟨by (with_reducible repeat (first | apply Kd.R_alloc | apply Kd.R_drewN | apply Kd.R_drew)); exact HO_8.out⟩, ⟨by repeat (first | (with_reducible first | exact HB.out | apply below_alloc | apply pw_below_drewN | apply below_drew1) | exact HB.out)⟩⟩
              · replace c13 := Bool.eq_false_iff.mpr c13
                subst c13
                have H1 : (provisoref02_Merge.l0 k1 l0 a1 a2 x7_1 t182 (wrap64 (x9_1 + 1))) = some r := by rw [if_neg (show ¬ (false = true) by decide)] at H; exact H
                clear H
                have H := H1
                clear H1
                have H' := Aside0.mk H
                clear H
                obtain ⟨Ao18, co18, eo18⟩ := Kd.R_slice HO_8.out
                subst eo18
                have p185 : 0 ≤ (x9_1 : Int) := of_decide_eq_true (by first | (with_reducible assumption) | assumption)
                have q185 : x9_1 < (t182.length : Int) := of_decide_eq_true (by first | (with_reducible assumption) | assumption)
                obtain ⟨ad185, e185, hx185_0⟩ := Kd.at_int (Kd.R_reads' HO_8.out).2.2 x9_1 p185 q185
                cases e185
                replace p185 := eq_true p185
                replace q185 := eq_true q185
                go_wp2_with (first | ((with_reducible refine gate_callee (f := 54) rfl ?_); refine goesL_ (some 26) rfl rfl Try.func54 (by kernel_rfl) rfl #[.slice A0 l0.length c0, .int .u8 a1, .int .u8 (rd t182 x9_1)] rfl (by (try simp only [List.map_toArray, List.map_cons, List.map_nil]); first | done | rfl | (simp only [List.length_drop, List.length_take]; rfl)) ?_; (with_reducible refine (provisoref02_Sub.calls k1 _ _ l0 a1 (rd t182 x9_1) true _ ?side1 ?side2 A8.out).mono ?_); (case side1 => repeat (first | exact (Kd.C_below HR0.out HB.out) | (with_reducible refine Kd.C_alloc ?_ _) | (with_reducible refine Kd.C_drewN ?_ _) | (with_reducible refine Kd.C_drew ?_))); (case side2 => exact HC0.out); rintro e w19 ⟨rfl, hb⟩; refine ⟨_, rfl, ?_⟩; have n0_ := Aside0.mk (Kd.R_below (by (with_reducible repeat (first | apply Kd.R_alloc | apply Kd.R_drewN | apply Kd.R_drew)); exact HO_8.out) hb); have n1_ := Aside0.mk (below_step (by repeat (first | (with_reducible first | exact HB.out | apply below_alloc | apply pw_below_drewN | apply below_drew1) | exact HB.out)) hb); clear HO_8; clear HB; have HO_8 := n0_; have HB := n1_; clear n0_ n1_; (try clear hb); (try clear hb2); (try clear hk); (try clear hi)) | (go_at_call 54; (with_reducible refine (provisoref02_Sub.calls k1 _ _ l0 a2 (rd t182 x9_1) true _ ?side1 ?side2 A10.out).mono ?_); (case side1 => repeat (first | exact (Kd.C_below HR0.out HB.out) | (with_reducible refine Kd.C_alloc ?_ _) | (with_reducible refine Kd.C_drewN ?_ _) | (with_reducible refine Kd.C_drew ?_))); (case side2 => exact HC0.out); rintro e w20 ⟨rfl, hb⟩; have n0_ := Aside0.mk (Kd.R_below (by (with_reducible repeat (first | apply Kd.R_alloc | apply Kd.R_drewN | apply Kd.R_drew)); exact HO_8.out) hb); have n1_ := Aside0.mk (below_step (by repeat (first | (with_reducible first | exact HB.out | apply below_alloc | apply pw_below_drewN | apply below_drew1) | exact HB.out)) hb); clear HO_8; clear HB; have HO_8 := n0_; have HB := n1_; clear n0_ n1_; (try clear hb); (try clear hb2); (try clear hk); (try clear hi)) | (go_at_call 54; (with_reducible refine (provisoref02_Sub.calls k1 _ _ l0 (rd t182 x9_1) x7_1 false _ ?side1 ?side2 A12.out).mono ?_); (case side1 => repeat (first | exact (Kd.C_below HR0.out HB.out) | (with_reducible refine Kd.C_alloc ?_ _) | (with_reducible refine Kd.C_drewN ?_ _) | (with_reducible refine Kd.C_drew ?_))); (case side2 => exact HC0.out); rintro e w21 ⟨rfl, hb⟩; have n0_ := Aside0.mk (Kd.R_below (by (with_reducible repeat (first | apply Kd.R_alloc | apply Kd.R_drewN | apply Kd.R_drew)); exact HO_8.out) hb); have n1_ := Aside0.mk (below_step (by repeat (first | (with_reducible first | exact HB.out | apply below_alloc | apply pw_below_drewN | apply below_drew1) | exact HB.out)) hb); clear HO_8; clear HB; have HO_8 := n0_; have HB := n1_; clear n0_ n1_; (try clear hb); (try clear hb2); (try clear hk); (try clear hi)))
                go_roundg k1
                case measure => have := HK1.out; omega
                case rel => exact ⟨(x7_1), (wrap64 (x9_1 + 1)), (by first | rfl | (simp; done) | (simp [*]; done)), (by first | rfl | (simp; done) | (simp [*]; done)), H', ⟨by have := HK1.out; omega⟩, ⟨by (with_reducible repeat (first | apply Kd.R_alloc | apply Kd.R_drewN | apply Kd.R_drew)); exact HO_8.out⟩, ⟨by repeat (first | (with_reducible first | exact HB.out | apply below_alloc | apply pw_below_drewN | apply below_drew1) | exact HB.out)⟩⟩
            · replace c11 := Bool.eq_false_iff.mpr c11
              subst c11
              have H1 : (provisoref02_Merge.l0 k1 l0 a1 a2 x7_1 t182 (wrap64 (x9_1 + 1))) = some r := by rw [if_neg (show ¬ (false = true) by decide)] at H; exact H
              clear H
              have H := H1
              clear H1
              have H' := Aside0.mk H
              clear H
              obtain ⟨Ao22, co22, eo22⟩ := Kd.R_slice HO_8.out
              subst eo22
              have p185 : 0 ≤ (x9_1 : Int) := of_decide_eq_true (by first | (with_reducible assumption) | assumption)
              have q185 : x9_1 < (t182.length : Int) := of_decide_eq_true (by first | (with_reducible assumption) | assumption)
              obtain ⟨ad185, e185, hx185_0⟩ := Kd.at_int (Kd.R_reads' HO_8.out).2.2 x9_1 p185 q185
              cases e185
              replace p185 := eq_true p185
              replace q185 := eq_true q185
              go_wp2_with (first | ((with_reducible refine gate_callee (f := 54) rfl ?_); refine goesL_ (some 26) rfl rfl Try.func54 (by kernel_rfl) rfl #[.slice A0 l0.length c0, .int .u8 a1, .int .u8 (rd t182 x9_1)] rfl (by (try simp only [List.map_toArray, List.map_cons, List.map_nil]); first | done | rfl | (simp only [List.length_drop, List.length_take]; rfl)) ?_; (with_reducible refine (provisoref02_Sub.calls k1 _ _ l0 a1 (rd t182 x9_1) true _ ?side1 ?side2 A8.out).mono ?_); (case side1 => repeat (first | exact (Kd.C_below HR0.out HB.out) | (with_reducible refine Kd.C_alloc ?_ _) | (with_reducible refine Kd.C_drewN ?_ _) | (with_reducible refine Kd.C_drew ?_))); (case side2 => exact HC0.out); rintro e w23 ⟨rfl, hb⟩; refine ⟨_, rfl, ?_⟩; have n0_ := Aside0.mk (Kd.R_below (by (with_reducible repeat (first | apply Kd.R_alloc | apply Kd.R_drewN | apply Kd.R_drew)); exact HO_8.out) hb); have n1_ := Aside0.mk (below_step (by repeat (first | (with_reducible first | exact HB.out | apply below_alloc | apply pw_below_drewN | apply below_drew1) | exact HB.out)) hb); clear HO_8; clear HB; have HO_8 := n0_; have HB := n1_; clear n0_ n1_; (try clear hb); (try clear hb2); (try clear hk); (try clear hi)) | (go_at_call 54; (with_reducible refine (provisoref02_Sub.calls k1 _ _ l0 a2 (rd t182 x9_1) false _ ?side1 ?side2 A10.out).mono ?_); (case side1 => repeat (first | exact (Kd.C_below HR0.out HB.out) | (with_reducible refine Kd.C_alloc ?_ _) | (with_reducible refine Kd.C_drewN ?_ _) | (with_reducible refine Kd.C_drew ?_))); (case side2 => exact HC0.out); rintro e w24 ⟨rfl, hb⟩; have n0_ := Aside0.mk (Kd.R_below (by (with_reducible repeat (first | apply Kd.R_alloc | apply Kd.R_drewN | apply Kd.R_drew)); exact HO_8.out) hb); have n1_ := Aside0.mk (below_step (by repeat (first | (with_reducible first | exact HB.out | apply below_alloc | apply pw_below_drewN | apply below_drew1) | exact HB.out)) hb); clear HO_8; clear HB; have HO_8 := n0_; have HB := n1_; clear n0_ n1_; (try clear hb); (try clear hb2); (try clear hk); (try clear hi)))
              go_roundg k1
              case measure => have := HK1.out; omega
              case rel => exact ⟨(x7_1), (wrap64 (x9_1 + 1)), (by first | rfl | (simp; done) | (simp [*]; done)), (by first | rfl | (simp; done) | (simp [*]; done)), H', ⟨by have := HK1.out; omega⟩, ⟨by (with_reducible repeat (first | apply Kd.R_alloc | apply Kd.R_drewN | apply Kd.R_drew)); exact HO_8.out⟩, ⟨by repeat (first | (with_reducible first | exact HB.out | apply below_alloc | apply pw_below_drewN | apply below_drew1) | exact HB.out)⟩⟩
          · replace c9 := Bool.eq_false_iff.mpr c9
            subst c9
            have H1 : (provisoref02_Merge.l0 k1 l0 a1 a2 x7_1 t182 (wrap64 (x9_1 + 1))) = some r := by rw [if_neg (show ¬ (false = true) by decide)] at H; exact H
            clear H
            have H := H1
            clear H1
            have H' := Aside0.mk H
            clear H
            obtain ⟨Ao25, co25, eo25⟩ := Kd.R_slice HO_8.out
            subst eo25
            have p185 : 0 ≤ (x9_1 : Int) := of_decide_eq_true (by first | (with_reducible assumption) | assumption)
            have q185 : x9_1 < (t182.length : Int) := of_decide_eq_true (by first | (with_reducible assumption) | assumption)
            obtain ⟨ad185, e185, hx185_0⟩ := Kd.at_int (Kd.R_reads' HO_8.out).2.2 x9_1 p185 q185
            cases e185
            replace p185 := eq_true p185
            replace q185 := eq_true q185
            go_wp2_with (first | ((with_reducible refine gate_callee (f := 54) rfl ?_); refine goesL_ (some 26) rfl rfl Try.func54 (by kernel_rfl) rfl #[.slice A0 l0.length c0, .int .u8 a1, .int .u8 (rd t182 x9_1)] rfl (by (try simp only [List.map_toArray, List.map_cons, List.map_nil]); first | done | rfl | (simp only [List.length_drop, List.length_take]; rfl)) ?_; (with_reducible refine (provisoref02_Sub.calls k1 _ _ l0 a1 (rd t182 x9_1) false _ ?side1 ?side2 A8.out).mono ?_); (case side1 => repeat (first | exact (Kd.C_below HR0.out HB.out) | (with_reducible refine Kd.C_alloc ?_ _) | (with_reducible refine Kd.C_drewN ?_ _) | (with_reducible refine Kd.C_drew ?_))); (case side2 => exact HC0.out); rintro e w26 ⟨rfl, hb⟩; refine ⟨_, rfl, ?_⟩; have n0_ := Aside0.mk (Kd.R_below (by (with_reducible repeat (first | apply Kd.R_alloc | apply Kd.R_drewN | apply Kd.R_drew)); exact HO_8.out) hb); have n1_ := Aside0.mk (below_step (by repeat (first | (with_reducible first | exact HB.out | apply below_alloc | apply pw_below_drewN | apply below_drew1) | exact HB.out)) hb); clear HO_8; clear HB; have HO_8 := n0_; have HB := n1_; clear n0_ n1_; (try clear hb); (try clear hb2); (try clear hk); (try clear hi)))
            go_roundg k1
            case measure => have := HK1.out; omega
            case rel => exact ⟨(x7_1), (wrap64 (x9_1 + 1)), (by first | rfl | (simp; done) | (simp [*]; done)), (by first | rfl | (simp; done) | (simp [*]; done)), H', ⟨by have := HK1.out; omega⟩, ⟨by (with_reducible repeat (first | apply Kd.R_alloc | apply Kd.R_drewN | apply Kd.R_drew)); exact HO_8.out⟩, ⟨by repeat (first | (with_reducible first | exact HB.out | apply below_alloc | apply pw_below_drewN | apply below_drew1) | exact HB.out)⟩⟩
        · rw [if_neg c7] at H
          exact absurd H (by simp)
      · rw [if_neg c6] at H
        have c6b0 : decide (x9_1 < (t182.length : Int)) = false := decide_eq_false c6
        clear c6
        obtain rfl := Option.some.inj H
        obtain ⟨Ao27, co27, eo27⟩ := Kd.R_slice HO_8.out
        subst eo27
        go_wp2
        go_ret
        exact ⟨by first | rfl | (simp [errW_none, errW_some] <;> rfl) | (simp [*, errW_none, errW_some] <;> rfl), by repeat (first | (with_reducible first | exact HB.out | apply below_alloc | apply pw_below_drewN | apply below_drew1) | exact HB.out)⟩

set_option maxHeartbeats 3200000 in
set_option maxRecDepth 100000 in
theorem refMerge_calls (k : Nat) (A0 : Option Addr) (c0 : Nat) (l0 : List S59) (a b : Fr) (hfa : a.ok) (hfb : b.ok) (vb : Int → Bool) (mb : Int → Int → Int) (w : World) (hr0 : Kd.C k59 w A0 l0.length l0) (hc0 : l0.length ≤ c0) (h0 : vb 0 = true) (hva : ∀ t ∈ a.sl, provisoref02_Valid.f l0 t = some (vb t)) (hvb : ∀ t ∈ b.sl, provisoref02_Valid.f l0 t = some (vb t)) (h00 : mb 0 0 = 0) (hmb : ∀ i, i < 24 → provisoref02_Merge.f k l0 (a.sl.getD i 0) (b.sl.getD i 0) = some (mb (a.sl.getD i 0) (b.sl.getD i 0))) : Calls Try.prog 35 #[.slice A0 l0.length c0, .agg a.a, .agg b.a] w fun e w' => e = .returned (.tuple #[.agg (mergeS vb mb a b).1.a, .int .i64 (mergeS vb mb a b).2]) ∧ Below w.heap.size w w' := by
  have HFA := Aside0.mk hfa
  have HFB := Aside0.mk hfb
  have HR0 := Aside0.mk hr0
  have HC0 := Aside0.mk hc0
  have HVA := Aside0.mk hva
  have HVB := Aside0.mk hvb
  have HMB := Aside0.mk hmb
  have HM0 := Aside0.mk h00
  have HA := Aside0.mk (Frs.nil w)
  clear hfa hfb hr0 hc0 hva hvb hmb h00
  have HV0 := Aside0.mk h0
  clear h0
  obtain ⟨ea, hea⟩ : ∃ ea, checkS vb a = ea := ⟨_, rfl⟩
  obtain ⟨eb, heb⟩ : ∃ eb, checkS vb b = eb := ⟨_, rfl⟩
  have HEa := Aside0.mk hea
  have HEb := Aside0.mk heb
  have HAL : Aside0 (alikeS vb a b = if ea = 0 then (if eb = 0 then (if a.loc = b.loc ∧ a.hgt = b.hgt then 0 else 32) else eb) else ea) := ⟨by unfold alikeS; rw [hea, heb]⟩
  clear hea heb
  by_cases z1 : ea = 0
  · subst z1
    by_cases z2 : eb = 0
    · subst z2
      by_cases z3 : a.loc = b.loc
      · have z3b : (a.loc != b.loc) = false := by rw [z3]; simp
        by_cases z4 : a.hgt = b.hgt
        · have z4b : (a.hgt != b.hgt) = false := by rw [z4]; simp
          have HAL0 : Aside0 (alikeS vb a b = 0) := ⟨by rw [HAL.out]; simp [z3, z4]⟩
          clear HAL z3 z4
          obtain ⟨n, hs1, hle, hza, hzb⟩ := alike_nat HFA.out HFB.out HAL0.out
          have hw1 : wrap64 (n : Int) = (n : Int) := by unfold wrap64; omega
          have HLE := Aside0.mk hle
          have HZA := Aside0.mk hza
          have HZB := Aside0.mk hzb
          have HS1 := Aside0.mk hs1
          have HOK : Aside0 (∀ i, i ≤ 24 → (⟨a.loc, a.hgt, mergeL mb a.sl b.sl i⟩ : Fr).ok) := ⟨fun i hi => mergeL_len HFA.out HFB.out i hi⟩
          clear hle hza hzb
          go_enter Try.func35, Try.ntmps35
          go_wp2_with (first | ((with_reducible refine gate_dst (N := 4) rfl ?_); refine fr_box rfl rfl (f := a) rfl HFA.out HA.out ?_; intro ga w_ hA; (try simp only [List.cons_append, List.nil_append] at hA); replace HA := Aside0.mk hA; clear hA) | ((with_reducible refine gate_dst (N := 5) rfl ?_); refine fr_box rfl rfl (f := b) rfl HFB.out HA.out ?_; intro gb w_ hA; (try simp only [List.cons_append, List.nil_append] at hA); replace HA := Aside0.mk hA; clear hA) | ((with_reducible refine gate_dst (N := 6) rfl ?_); refine fr_alloc rfl rfl HA.out ?_; intro gr w_ hA; (try simp only [List.cons_append, List.nil_append] at hA); replace HA := Aside0.mk hA; clear hA) | (refine fr_load rfl rfl rfl HA.out (by first | exact List.mem_cons_self | exact List.mem_cons_of_mem _ List.mem_cons_self | exact List.mem_cons_of_mem _ (List.mem_cons_of_mem _ List.mem_cons_self) | exact List.mem_cons_of_mem _ (List.mem_cons_of_mem _ (List.mem_cons_of_mem _ List.mem_cons_self))) ?_) | (refine fr_load0 rfl rfl rfl HA.out (by first | exact List.mem_cons_self | exact List.mem_cons_of_mem _ List.mem_cons_self | exact List.mem_cons_of_mem _ (List.mem_cons_of_mem _ List.mem_cons_self) | exact List.mem_cons_of_mem _ (List.mem_cons_of_mem _ (List.mem_cons_of_mem _ List.mem_cons_self))) ?_) | (refine fr_load1 rfl rfl rfl HA.out (by first | exact List.mem_cons_self | exact List.mem_cons_of_mem _ List.mem_cons_self | exact List.mem_cons_of_mem _ (List.mem_cons_of_mem _ List.mem_cons_self) | exact List.mem_cons_of_mem _ (List.mem_cons_of_mem _ (List.mem_cons_of_mem _ List.mem_cons_self))) ?_) | (refine fr_store rfl rfl rfl rfl (by first | exact Fr.zero_ok | exact HCK.out) [] HA.out ?_; intro w_ hA; (try simp only [List.cons_append, List.nil_append] at hA); replace HA := Aside0.mk hA; clear hA) | (refine fr_build0 rfl rfl ?_))
          have hcall := refCheck_calls A0 c0 l0 a HFA.out vb w_ (Kd.C_below HR0.out HA.out.below) HC0.out HV0.out HVA.out
          rw [HEa.out] at hcall
          refine hcall.mono ?_
          clear hcall
          rintro e w_ ⟨rfl, hb⟩
          replace HA := Aside0.mk (HA.out.step hb)
          clear hb
          go_wp2_with (first | ((with_reducible refine gate_dst (N := 4) rfl ?_); refine fr_box rfl rfl (f := a) rfl HFA.out HA.out ?_; intro ga w_ hA; (try simp only [List.cons_append, List.nil_append] at hA); replace HA := Aside0.mk hA; clear hA) | ((with_reducible refine gate_dst (N := 5) rfl ?_); refine fr_box rfl rfl (f := b) rfl HFB.out HA.out ?_; intro gb w_ hA; (try simp only [List.cons_append, List.nil_append] at hA); replace HA := Aside0.mk hA; clear hA) | ((with_reducible refine gate_dst (N := 6) rfl ?_); refine fr_alloc rfl rfl HA.out ?_; intro gr w_ hA; (try simp only [List.cons_append, List.nil_append] at hA); replace HA := Aside0.mk hA; clear hA) | (refine fr_load rfl rfl rfl HA.out (by first | exact List.mem_cons_self | exact List.mem_cons_of_mem _ List.mem_cons_self | exact List.mem_cons_of_mem _ (List.mem_cons_of_mem _ List.mem_cons_self) | exact List.mem_cons_of_mem _ (List.mem_cons_of_mem _ (List.mem_cons_of_mem _ List.mem_cons_self))) ?_) | (refine fr_load0 rfl rfl rfl HA.out (by first | exact List.mem_cons_self | exact List.mem_cons_of_mem _ List.mem_cons_self | exact List.mem_cons_of_mem _ (List.mem_cons_of_mem _ List.mem_cons_self) | exact List.mem_cons_of_mem _ (List.mem_cons_of_mem _ (List.mem_cons_of_mem _ List.mem_cons_self))) ?_) | (refine fr_load1 rfl rfl rfl HA.out (by first | exact List.mem_cons_self | exact List.mem_cons_of_mem _ List.mem_cons_self | exact List.mem_cons_of_mem _ (List.mem_cons_of_mem _ List.mem_cons_self) | exact List.mem_cons_of_mem _ (List.mem_cons_of_mem _ (List.mem_cons_of_mem _ List.mem_cons_self))) ?_) | (refine fr_store rfl rfl rfl rfl (by first | exact Fr.zero_ok | exact HCK.out) [] HA.out ?_; intro w_ hA; (try simp only [List.cons_append, List.nil_append] at hA); replace HA := Aside0.mk hA; clear hA) | (refine fr_build0 rfl rfl ?_))
          have hcall := refCheck_calls A0 c0 l0 b HFB.out vb w_ (Kd.C_below HR0.out HA.out.below) HC0.out HV0.out HVB.out
          rw [HEb.out] at hcall
          refine hcall.mono ?_
          clear hcall
          rintro e w_ ⟨rfl, hb⟩
          replace HA := Aside0.mk (HA.out.step hb)
          clear hb
          go_wp2_with (first | ((with_reducible refine gate_dst (N := 32) rfl ?_); refine fr_guard rfl (by rfl) ?_; dsimp only; refine fr_load0 rfl rfl rfl HA.out (by first | exact List.mem_cons_self | exact List.mem_cons_of_mem _ List.mem_cons_self | exact List.mem_cons_of_mem _ (List.mem_cons_of_mem _ List.mem_cons_self) | exact List.mem_cons_of_mem _ (List.mem_cons_of_mem _ (List.mem_cons_of_mem _ List.mem_cons_self))) ?_) | ((with_reducible refine gate_dst (N := 32) rfl ?_); refine fr_guard rfl (by rfl) ?_; dsimp only; refine fr_load1 rfl rfl rfl HA.out (by first | exact List.mem_cons_self | exact List.mem_cons_of_mem _ List.mem_cons_self | exact List.mem_cons_of_mem _ (List.mem_cons_of_mem _ List.mem_cons_self) | exact List.mem_cons_of_mem _ (List.mem_cons_of_mem _ (List.mem_cons_of_mem _ List.mem_cons_self))) ?_) | ((with_reducible refine gate_dst (N := 34) rfl ?_); refine fr_guard rfl (by rfl) ?_; dsimp only; refine fr_load0 rfl rfl rfl HA.out (by first | exact List.mem_cons_self | exact List.mem_cons_of_mem _ List.mem_cons_self | exact List.mem_cons_of_mem _ (List.mem_cons_of_mem _ List.mem_cons_self) | exact List.mem_cons_of_mem _ (List.mem_cons_of_mem _ (List.mem_cons_of_mem _ List.mem_cons_self))) ?_) | ((with_reducible refine gate_dst (N := 34) rfl ?_); refine fr_guard rfl (by rfl) ?_; dsimp only; refine fr_load1 rfl rfl rfl HA.out (by first | exact List.mem_cons_self | exact List.mem_cons_of_mem _ List.mem_cons_self | exact List.mem_cons_of_mem _ (List.mem_cons_of_mem _ List.mem_cons_self) | exact List.mem_cons_of_mem _ (List.mem_cons_of_mem _ (List.mem_cons_of_mem _ List.mem_cons_self))) ?_) | ((with_reducible refine gate_dst (N := 4) rfl ?_); refine fr_box rfl rfl (f := a) rfl HFA.out HA.out ?_; intro ga w_ hA; (try simp only [List.cons_append, List.nil_append] at hA); replace HA := Aside0.mk hA; clear hA) | ((with_reducible refine gate_dst (N := 5) rfl ?_); refine fr_box rfl rfl (f := b) rfl HFB.out HA.out ?_; intro gb w_ hA; (try simp only [List.cons_append, List.nil_append] at hA); replace HA := Aside0.mk hA; clear hA) | ((with_reducible refine gate_dst (N := 6) rfl ?_); refine fr_alloc rfl rfl HA.out ?_; intro gr w_ hA; (try simp only [List.cons_append, List.nil_append] at hA); replace HA := Aside0.mk hA; clear hA) | (refine fr_load rfl rfl rfl HA.out (by first | exact List.mem_cons_self | exact List.mem_cons_of_mem _ List.mem_cons_self | exact List.mem_cons_of_mem _ (List.mem_cons_of_mem _ List.mem_cons_self) | exact List.mem_cons_of_mem _ (List.mem_cons_of_mem _ (List.mem_cons_of_mem _ List.mem_cons_self))) ?_) | (refine fr_load0 rfl rfl rfl HA.out (by first | exact List.mem_cons_self | exact List.mem_cons_of_mem _ List.mem_cons_self | exact List.mem_cons_of_mem _ (List.mem_cons_of_mem _ List.mem_cons_self) | exact List.mem_cons_of_mem _ (List.mem_cons_of_mem _ (List.mem_cons_of_mem _ List.mem_cons_self))) ?_) | (refine fr_load1 rfl rfl rfl HA.out (by first | exact List.mem_cons_self | exact List.mem_cons_of_mem _ List.mem_cons_self | exact List.mem_cons_of_mem _ (List.mem_cons_of_mem _ List.mem_cons_self) | exact List.mem_cons_of_mem _ (List.mem_cons_of_mem _ (List.mem_cons_of_mem _ List.mem_cons_self))) ?_) | (refine fr_store rfl rfl rfl rfl (by first | exact Fr.zero_ok | exact HCK.out) [] HA.out ?_; intro w_ hA; (try simp only [List.cons_append, List.nil_append] at hA); replace HA := Aside0.mk hA; clear hA) | (refine fr_build0 rfl rfl ?_))
          go_loopw [10] (fun v10 wr => ∃ i : Nat, v10 = .int .i64 (i : Int) ∧ i ≤ n ∧ Aside0 (Frs w [(gr, Fr.zero), (gb, b), (ga, ⟨a.loc, a.hgt, mergeL mb a.sl b.sl i⟩)] wr)) (fun v10 _ => ((n : Int) - intOf v10).toNat)
          case atStart => exact ⟨0, rfl, Nat.zero_le _, ⟨by rw [show mergeL mb a.sl b.sl 0 = a.sl from rfl]; exact HA.out⟩⟩
          case round =>
            obtain ⟨i, rfl, hi, HA⟩ := hrel
            obtain ⟨c, hc⟩ : ∃ c : Fr, c = ⟨a.loc, a.hgt, mergeL mb a.sl b.sl i⟩ := ⟨_, rfl⟩
            rw [← hc] at HA
            have HCK : Aside0 c.ok := ⟨by rw [hc]; exact HOK.out i (by have := HLE.out; omega)⟩
            have hcs : c.loc + c.hgt = (n : Int) := by rw [hc]; exact HS1.out
            have hcl : c.sl = mergeL mb a.sl b.sl i := by rw [hc]
            have HCL := Aside0.mk hcl
            have HCI := Aside0.mk hc
            have HIN : Aside0 (i ≤ n) := ⟨hi⟩
            clear hcl hc
            by_cases c1 : i < n
            · have c1b : decide ((i : Int) < (n : Int)) = true := decide_eq_true (by omega)
              have c1c : decide (i < n) = true := decide_eq_true c1
              have p1 : (0 ≤ (i : Int)) = True := eq_true (by omega)
              have p2 : ((i : Int) < 24) = True := eq_true (by have := HLE.out; omega)
              have HW2 : Aside0 (wrap64 ((i : Int) + 1) = ((i + 1 : Nat) : Int)) := ⟨by have := HLE.out; unfold wrap64; omega⟩
              have HI : Aside0 (i < 24) := ⟨by have := HLE.out; omega⟩
              have HIN1 : Aside0 (i < n) := ⟨c1⟩
              have hq := HMB.out i HI.out
              have hca := fun (W : World) (h : Frs w [(gr, Fr.zero), (gb, b), (ga, c)] W) => (h.at2).cs i (by have := HCK.out; unfold Fr.ok at this; have := HI.out; omega)
              have hcb := fun (W : World) (h : Frs w [(gr, Fr.zero), (gb, b), (ga, c)] W) => (h.at1).cs i (by have := HFB.out; unfold Fr.ok at this; have := HI.out; omega)
              have ea : c.sl[i]'(by have := HCK.out; unfold Fr.ok at this; have := HI.out; omega) = a.sl.getD i 0 := by rw [← mergeL_get (mb := mb) HFA.out HFB.out i HI.out, ← HCL.out, List.getD_eq_getElem?_getD, List.getElem?_eq_getElem (by have := HCK.out; unfold Fr.ok at this; have := HI.out; omega)]; rfl
              have eb : b.sl[i]'(by have := HFB.out; unfold Fr.ok at this; have := HI.out; omega) = b.sl.getD i 0 := by rw [List.getD_eq_getElem?_getD, List.getElem?_eq_getElem (by have := HFB.out; unfold Fr.ok at this; have := HI.out; omega)]; rfl
              have hset := mergeL_set (mb := mb) HFA.out HFB.out i HI.out
              rw [ea] at hca
              rw [eb] at hcb
              obtain ⟨ta, hta⟩ : ∃ ta, a.sl.getD i 0 = ta := ⟨_, rfl⟩
              obtain ⟨tb, htb⟩ : ∃ tb, b.sl.getD i 0 = tb := ⟨_, rfl⟩
              rw [hta, htb] at hq hset
              rw [hta] at hca
              rw [htb] at hcb
              have HNX : Aside0 ((⟨c.loc, c.hgt, c.sl.set i (mb ta tb)⟩ : Fr) = ⟨a.loc, a.hgt, mergeL mb a.sl b.sl (i + 1)⟩) := ⟨by rw [HCI.out]; show (⟨a.loc, a.hgt, (mergeL mb a.sl b.sl i).set i (mb ta tb)⟩ : Fr) = _; rw [hset]⟩
              have HQ := Aside0.mk hq
              have HCA := Aside0.mk hca
              have HCB := Aside0.mk hcb
              clear hq hca hcb ea eb hta htb hset c1
              go_upto_region 12 with (first | ((with_reducible refine gate_dst (N := 4) rfl ?_); refine fr_box rfl rfl (f := a) rfl HFA.out HA.out ?_; intro ga w_ hA; (try simp only [List.cons_append, List.nil_append] at hA); replace HA := Aside0.mk hA; clear hA) | ((with_reducible refine gate_dst (N := 5) rfl ?_); refine fr_box rfl rfl (f := b) rfl HFB.out HA.out ?_; intro gb w_ hA; (try simp only [List.cons_append, List.nil_append] at hA); replace HA := Aside0.mk hA; clear hA) | ((with_reducible refine gate_dst (N := 6) rfl ?_); refine fr_alloc rfl rfl HA.out ?_; intro gr w_ hA; (try simp only [List.cons_append, List.nil_append] at hA); replace HA := Aside0.mk hA; clear hA) | (refine fr_load rfl rfl rfl HA.out (by first | exact List.mem_cons_self | exact List.mem_cons_of_mem _ List.mem_cons_self | exact List.mem_cons_of_mem _ (List.mem_cons_of_mem _ List.mem_cons_self) | exact List.mem_cons_of_mem _ (List.mem_cons_of_mem _ (List.mem_cons_of_mem _ List.mem_cons_self))) ?_) | (refine fr_load0 rfl rfl rfl HA.out (by first | exact List.mem_cons_self | exact List.mem_cons_of_mem _ List.mem_cons_self | exact List.mem_cons_of_mem _ (List.mem_cons_of_mem _ List.mem_cons_self) | exact List.mem_cons_of_mem _ (List.mem_cons_of_mem _ (List.mem_cons_of_mem _ List.mem_cons_self))) ?_) | (refine fr_load1 rfl rfl rfl HA.out (by first | exact List.mem_cons_self | exact List.mem_cons_of_mem _ List.mem_cons_self | exact List.mem_cons_of_mem _ (List.mem_cons_of_mem _ List.mem_cons_self) | exact List.mem_cons_of_mem _ (List.mem_cons_of_mem _ (List.mem_cons_of_mem _ List.mem_cons_self))) ?_) | (refine fr_store rfl rfl rfl rfl (by first | exact Fr.zero_ok | exact HCK.out) [] HA.out ?_; intro w_ hA; (try simp only [List.cons_append, List.nil_append] at hA); replace HA := Aside0.mk hA; clear hA) | (refine fr_build0 rfl rfl ?_))
              have hA := HA.out
              refine' region_frs (fun w' => Frs w [(gr, Fr.zero), (gb, b), (ga, ⟨a.loc, a.hgt, mergeL mb a.sl b.sl (i + 1)⟩)] w') _ ?hreg ?hgo
              case hreg =>
                have hk1 := HCA.out _ (hA.drewN 1)
                have hk2 := HCB.out _ (hA.drewN 1)
                change World.cell? (World.drew _) _ = _ at hk1
                change World.cell? (World.drew _) _ = _ at hk2
                refine wp_region_noPanic ?_
                go_region_with (first | (go_at_call 55; (refine (provisoref02_Merge.calls k A0 c0 l0 ta tb (mb ta tb) _ (Kd.C_below HR0.out (hA.drewN 1).below) HC0.out HQ.out).mono ?_); rintro e w9 ⟨rfl, hb⟩; have hW : Frs w [(gr, Fr.zero), (gb, b), (ga, c)] w9 := Frs.step (hA.drewN 1) hb; have hf9 := hW.at2.fz (2 + i); have hk9 := HCA.out _ hW; have HW9 := Aside0.mk hW; clear hW hb))
                all_goals
                  refine NoPanic.normal ⟨?_, rfl, ?_⟩
                  · have h := Frs.slot [(gr, Fr.zero), (gb, b)] HW9.out i (mb ta tb)
                    rw [HNX.out] at h
                    exact h
                  · exact Eq.refl _
              case hgo =>
                intro w_ hW
                replace HA := Aside0.mk hW
                clear hW hA
                go_wp2
                rw [HW2.out]
                exact ⟨⟨i + 1, rfl, HIN1.out, HA⟩, by have := HIN1.out; simp [intOf]; omega⟩
            · have c1b : decide ((i : Int) < (n : Int)) = false := decide_eq_false (by omega)
              have c1c : decide (i < n) = false := decide_eq_false c1
              obtain rfl : i = n := by omega
              go_wp2_with (first | ((with_reducible refine gate_dst (N := 4) rfl ?_); refine fr_box rfl rfl (f := a) rfl HFA.out HA.out ?_; intro ga w_ hA; (try simp only [List.cons_append, List.nil_append] at hA); replace HA := Aside0.mk hA; clear hA) | ((with_reducible refine gate_dst (N := 5) rfl ?_); refine fr_box rfl rfl (f := b) rfl HFB.out HA.out ?_; intro gb w_ hA; (try simp only [List.cons_append, List.nil_append] at hA); replace HA := Aside0.mk hA; clear hA) | ((with_reducible refine gate_dst (N := 6) rfl ?_); refine fr_alloc rfl rfl HA.out ?_; intro gr w_ hA; (try simp only [List.cons_append, List.nil_append] at hA); replace HA := Aside0.mk hA; clear hA) | (refine fr_load rfl rfl rfl HA.out (by first | exact List.mem_cons_self | exact List.mem_cons_of_mem _ List.mem_cons_self | exact List.mem_cons_of_mem _ (List.mem_cons_of_mem _ List.mem_cons_self) | exact List.mem_cons_of_mem _ (List.mem_cons_of_mem _ (List.mem_cons_of_mem _ List.mem_cons_self))) ?_) | (refine fr_load0 rfl rfl rfl HA.out (by first | exact List.mem_cons_self | exact List.mem_cons_of_mem _ List.mem_cons_self | exact List.mem_cons_of_mem _ (List.mem_cons_of_mem _ List.mem_cons_self) | exact List.mem_cons_of_mem _ (List.mem_cons_of_mem _ (List.mem_cons_of_mem _ List.mem_cons_self))) ?_) | (refine fr_load1 rfl rfl rfl HA.out (by first | exact List.mem_cons_self | exact List.mem_cons_of_mem _ List.mem_cons_self | exact List.mem_cons_of_mem _ (List.mem_cons_of_mem _ List.mem_cons_self) | exact List.mem_cons_of_mem _ (List.mem_cons_of_mem _ (List.mem_cons_of_mem _ List.mem_cons_self))) ?_) | (refine fr_store rfl rfl rfl rfl (by first | exact Fr.zero_ok | exact HCK.out) [] HA.out ?_; intro w_ hA; (try simp only [List.cons_append, List.nil_append] at hA); replace HA := Aside0.mk hA; clear hA) | (refine fr_build0 rfl rfl ?_))
              refine bodyPost_ret (fr_ret2 rfl _ HA.out (by first | exact List.mem_cons_self | exact List.mem_cons_of_mem _ List.mem_cons_self | exact List.mem_cons_of_mem _ (List.mem_cons_of_mem _ List.mem_cons_self) | exact List.mem_cons_of_mem _ (List.mem_cons_of_mem _ (List.mem_cons_of_mem _ List.mem_cons_self))) rfl) rfl ⟨?_, HA.out.below⟩
              unfold mergeS
              rw [if_pos HAL0.out, HCI.out, mergeL_end HFA.out HFB.out HM0.out i HLE.out HZA.out HZB.out]
              rfl
        · have z4b : (a.hgt != b.hgt) = true := by rw [bne_iff_ne]; exact z4
          have Z4 := Aside0.mk z4
          clear z4
          have Z3 := Aside0.mk z3
          clear z3
          go_enter Try.func35, Try.ntmps35
          go_wp2_with (first | ((with_reducible refine gate_dst (N := 4) rfl ?_); refine fr_box rfl rfl (f := a) rfl HFA.out HA.out ?_; intro ga w_ hA; (try simp only [List.cons_append, List.nil_append] at hA); replace HA := Aside0.mk hA; clear hA) | ((with_reducible refine gate_dst (N := 5) rfl ?_); refine fr_box rfl rfl (f := b) rfl HFB.out HA.out ?_; intro gb w_ hA; (try simp only [List.cons_append, List.nil_append] at hA); replace HA := Aside0.mk hA; clear hA) | ((with_reducible refine gate_dst (N := 6) rfl ?_); refine fr_alloc rfl rfl HA.out ?_; intro gr w_ hA; (try simp only [List.cons_append, List.nil_append] at hA); replace HA := Aside0.mk hA; clear hA) | (refine fr_load rfl rfl rfl HA.out (by first | exact List.mem_cons_self | exact List.mem_cons_of_mem _ List.mem_cons_self | exact List.mem_cons_of_mem _ (List.mem_cons_of_mem _ List.mem_cons_self) | exact List.mem_cons_of_mem _ (List.mem_cons_of_mem _ (List.mem_cons_of_mem _ List.mem_cons_self))) ?_) | (refine fr_load0 rfl rfl rfl HA.out (by first | exact List.mem_cons_self | exact List.mem_cons_of_mem _ List.mem_cons_self | exact List.mem_cons_of_mem _ (List.mem_cons_of_mem _ List.mem_cons_self) | exact List.mem_cons_of_mem _ (List.mem_cons_of_mem _ (List.mem_cons_of_mem _ List.mem_cons_self))) ?_) | (refine fr_load1 rfl rfl rfl HA.out (by first | exact List.mem_cons_self | exact List.mem_cons_of_mem _ List.mem_cons_self | exact List.mem_cons_of_mem _ (List.mem_cons_of_mem _ List.mem_cons_self) | exact List.mem_cons_of_mem _ (List.mem_cons_of_mem _ (List.mem_cons_of_mem _ List.mem_cons_self))) ?_) | (refine fr_store rfl rfl rfl rfl (by first | exact Fr.zero_ok | exact HCK.out) [] HA.out ?_; intro w_ hA; (try simp only [List.cons_append, List.nil_append] at hA); replace HA := Aside0.mk hA; clear hA) | (refine fr_build0 rfl rfl ?_))
          have hcall := refCheck_calls A0 c0 l0 a HFA.out vb w_ (Kd.C_below HR0.out HA.out.below) HC0.out HV0.out HVA.out
          rw [HEa.out] at hcall
          refine hcall.mono ?_
          clear hcall
          rintro e w_ ⟨rfl, hb⟩
          replace HA := Aside0.mk (HA.out.step hb)
          clear hb
          go_wp2_with (first | ((with_reducible refine gate_dst (N := 4) rfl ?_); refine fr_box rfl rfl (f := a) rfl HFA.out HA.out ?_; intro ga w_ hA; (try simp only [List.cons_append, List.nil_append] at hA); replace HA := Aside0.mk hA; clear hA) | ((with_reducible refine gate_dst (N := 5) rfl ?_); refine fr_box rfl rfl (f := b) rfl HFB.out HA.out ?_; intro gb w_ hA; (try simp only [List.cons_append, List.nil_append] at hA); replace HA := Aside0.mk hA; clear hA) | ((with_reducible refine gate_dst (N := 6) rfl ?_); refine fr_alloc rfl rfl HA.out ?_; intro gr w_ hA; (try simp only [List.cons_append, List.nil_append] at hA); replace HA := Aside0.mk hA; clear hA) | (refine fr_load rfl rfl rfl HA.out (by first | exact List.mem_cons_self | exact List.mem_cons_of_mem _ List.mem_cons_self | exact List.mem_cons_of_mem _ (List.mem_cons_of_mem _ List.mem_cons_self) | exact List.mem_cons_of_mem _ (List.mem_cons_of_mem _ (List.mem_cons_of_mem _ List.mem_cons_self))) ?_) | (refine fr_load0 rfl rfl rfl HA.out (by first | exact List.mem_cons_self | exact List.mem_cons_of_mem _ List.mem_cons_self | exact List.mem_cons_of_mem _ (List.mem_cons_of_mem _ List.mem_cons_self) | exact List.mem_cons_of_mem _ (List.mem_cons_of_mem _ (List.mem_cons_of_mem _ List.mem_cons_self))) ?_) | (refine fr_load1 rfl rfl rfl HA.out (by first | exact List.mem_cons_self | exact List.mem_cons_of_mem _ List.mem_cons_self | exact List.mem_cons_of_mem _ (List.mem_cons_of_mem _ List.mem_cons_self) | exact List.mem_cons_of_mem _ (List.mem_cons_of_mem _ (List.mem_cons_of_mem _ List.mem_cons_self))) ?_) | (refine fr_store rfl rfl rfl rfl (by first | exact Fr.zero_ok | exact HCK.out) [] HA.out ?_; intro w_ hA; (try simp only [List.cons_append, List.nil_append] at hA); replace HA := Aside0.mk hA; clear hA) | (refine fr_build0 rfl rfl ?_))
          have hcall := refCheck_calls A0 c0 l0 b HFB.out vb w_ (Kd.C_below HR0.out HA.out.below) HC0.out HV0.out HVB.out
          rw [HEb.out] at hcall
          refine hcall.mono ?_
          clear hcall
          rintro e w_ ⟨rfl, hb⟩
          replace HA := Aside0.mk (HA.out.step hb)
          clear hb
          go_wp2_with (first | ((with_reducible refine gate_dst (N := 32) rfl ?_); refine fr_guard rfl (by rfl) ?_; dsimp only; refine fr_load0 rfl rfl rfl HA.out (by first | exact List.mem_cons_self | exact List.mem_cons_of_mem _ List.mem_cons_self | exact List.mem_cons_of_mem _ (List.mem_cons_of_mem _ List.mem_cons_self) | exact List.mem_cons_of_mem _ (List.mem_cons_of_mem _ (List.mem_cons_of_mem _ List.mem_cons_self))) ?_) | ((with_reducible refine gate_dst (N := 32) rfl ?_); refine fr_guard rfl (by rfl) ?_; dsimp only; refine fr_load1 rfl rfl rfl HA.out (by first | exact List.mem_cons_self | exact List.mem_cons_of_mem _ List.mem_cons_self | exact List.mem_cons_of_mem _ (List.mem_cons_of_mem _ List.mem_cons_self) | exact List.mem_cons_of_mem _ (List.mem_cons_of_mem _ (List.mem_cons_of_mem _ List.mem_cons_self))) ?_) | ((with_reducible refine gate_dst (N := 34) rfl ?_); refine fr_guard rfl (by rfl) ?_; dsimp only; refine fr_load0 rfl rfl rfl HA.out (by first | exact List.mem_cons_self | exact List.mem_cons_of_mem _ List.mem_cons_self | exact List.mem_cons_of_mem _ (List.mem_cons_of_mem _ List.mem_cons_self) | exact List.mem_cons_of_mem _ (List.mem_cons_of_mem _ (List.mem_cons_of_mem _ List.mem_cons_self))) ?_) | ((with_reducible refine gate_dst (N := 34) rfl ?_); refine fr_guard rfl (by rfl) ?_; dsimp only; refine fr_load1 rfl rfl rfl HA.out (by first | exact List.mem_cons_self | exact List.mem_cons_of_mem _ List.mem_cons_self | exact List.mem_cons_of_mem _ (List.mem_cons_of_mem _ List.mem_cons_self) | exact List.mem_cons_of_mem _ (List.mem_cons_of_mem _ (List.mem_cons_of_mem _ List.mem_cons_self))) ?_) | ((with_reducible refine gate_dst (N := 4) rfl ?_); refine fr_box rfl rfl (f := a) rfl HFA.out HA.out ?_; intro ga w_ hA; (try simp only [List.cons_append, List.nil_append] at hA); replace HA := Aside0.mk hA; clear hA) | ((with_reducible refine gate_dst (N := 5) rfl ?_); refine fr_box rfl rfl (f := b) rfl HFB.out HA.out ?_; intro gb w_ hA; (try simp only [List.cons_append, List.nil_append] at hA); replace HA := Aside0.mk hA; clear hA) | ((with_reducible refine gate_dst (N := 6) rfl ?_); refine fr_alloc rfl rfl HA.out ?_; intro gr w_ hA; (try simp only [List.cons_append, List.nil_append] at hA); replace HA := Aside0.mk hA; clear hA) | (refine fr_load rfl rfl rfl HA.out (by first | exact List.mem_cons_self | exact List.mem_cons_of_mem _ List.mem_cons_self | exact List.mem_cons_of_mem _ (List.mem_cons_of_mem _ List.mem_cons_self) | exact List.mem_cons_of_mem _ (List.mem_cons_of_mem _ (List.mem_cons_of_mem _ List.mem_cons_self))) ?_) | (refine fr_load0 rfl rfl rfl HA.out (by first | exact List.mem_cons_self | exact List.mem_cons_of_mem _ List.mem_cons_self | exact List.mem_cons_of_mem _ (List.mem_cons_of_mem _ List.mem_cons_self) | exact List.mem_cons_of_mem _ (List.mem_cons_of_mem _ (List.mem_cons_of_mem _ List.mem_cons_self))) ?_) | (refine fr_load1 rfl rfl rfl HA.out (by first | exact List.mem_cons_self | exact List.mem_cons_of_mem _ List.mem_cons_self | exact List.mem_cons_of_mem _ (List.mem_cons_of_mem _ List.mem_cons_self) | exact List.mem_cons_of_mem _ (List.mem_cons_of_mem _ (List.mem_cons_of_mem _ List.mem_cons_self))) ?_) | (refine fr_store rfl rfl rfl rfl (by first | exact Fr.zero_ok | exact HCK.out) [] HA.out ?_; intro w_ hA; (try simp only [List.cons_append, List.nil_append] at hA); replace HA := Aside0.mk hA; clear hA) | (refine fr_build0 rfl rfl ?_))
          refine bodyPost_ret (fr_ret2 rfl _ HA.out (by first | exact List.mem_cons_self | exact List.mem_cons_of_mem _ List.mem_cons_self | exact List.mem_cons_of_mem _ (List.mem_cons_of_mem _ List.mem_cons_self) | exact List.mem_cons_of_mem _ (List.mem_cons_of_mem _ (List.mem_cons_of_mem _ List.mem_cons_self))) rfl) rfl ⟨?_, HA.out.below⟩
          unfold mergeS
          rw [HAL.out]
          simp [Z4.out]
      · have z3b : (a.loc != b.loc) = true := by rw [bne_iff_ne]; exact z3
        have Z3 := Aside0.mk z3
        clear z3
        go_enter Try.func35, Try.ntmps35
        go_wp2_with (first | ((with_reducible refine gate_dst (N := 4) rfl ?_); refine fr_box rfl rfl (f := a) rfl HFA.out HA.out ?_; intro ga w_ hA; (try simp only [List.cons_append, List.nil_append] at hA); replace HA := Aside0.mk hA; clear hA) | ((with_reducible refine gate_dst (N := 5) rfl ?_); refine fr_box rfl rfl (f := b) rfl HFB.out HA.out ?_; intro gb w_ hA; (try simp only [List.cons_append, List.nil_append] at hA); replace HA := Aside0.mk hA; clear hA) | ((with_reducible refine gate_dst (N := 6) rfl ?_); refine fr_alloc rfl rfl HA.out ?_; intro gr w_ hA; (try simp only [List.cons_append, List.nil_append] at hA); replace HA := Aside0.mk hA; clear hA) | (refine fr_load rfl rfl rfl HA.out (by first | exact List.mem_cons_self | exact List.mem_cons_of_mem _ List.mem_cons_self | exact List.mem_cons_of_mem _ (List.mem_cons_of_mem _ List.mem_cons_self) | exact List.mem_cons_of_mem _ (List.mem_cons_of_mem _ (List.mem_cons_of_mem _ List.mem_cons_self))) ?_) | (refine fr_load0 rfl rfl rfl HA.out (by first | exact List.mem_cons_self | exact List.mem_cons_of_mem _ List.mem_cons_self | exact List.mem_cons_of_mem _ (List.mem_cons_of_mem _ List.mem_cons_self) | exact List.mem_cons_of_mem _ (List.mem_cons_of_mem _ (List.mem_cons_of_mem _ List.mem_cons_self))) ?_) | (refine fr_load1 rfl rfl rfl HA.out (by first | exact List.mem_cons_self | exact List.mem_cons_of_mem _ List.mem_cons_self | exact List.mem_cons_of_mem _ (List.mem_cons_of_mem _ List.mem_cons_self) | exact List.mem_cons_of_mem _ (List.mem_cons_of_mem _ (List.mem_cons_of_mem _ List.mem_cons_self))) ?_) | (refine fr_store rfl rfl rfl rfl (by first | exact Fr.zero_ok | exact HCK.out) [] HA.out ?_; intro w_ hA; (try simp only [List.cons_append, List.nil_append] at hA); replace HA := Aside0.mk hA; clear hA) | (refine fr_build0 rfl rfl ?_))
        have hcall := refCheck_calls A0 c0 l0 a HFA.out vb w_ (Kd.C_below HR0.out HA.out.below) HC0.out HV0.out HVA.out
        rw [HEa.out] at hcall
        refine hcall.mono ?_
        clear hcall
        rintro e w_ ⟨rfl, hb⟩
        replace HA := Aside0.mk (HA.out.step hb)
        clear hb
        go_wp2_with (first | ((with_reducible refine gate_dst (N := 4) rfl ?_); refine fr_box rfl rfl (f := a) rfl HFA.out HA.out ?_; intro ga w_ hA; (try simp only [List.cons_append, List.nil_append] at hA); replace HA := Aside0.mk hA; clear hA) | ((with_reducible refine gate_dst (N := 5) rfl ?_); refine fr_box rfl rfl (f := b) rfl HFB.out HA.out ?_; intro gb w_ hA; (try simp only [List.cons_append, List.nil_append] at hA); replace HA := Aside0.mk hA; clear hA) | ((with_reducible refine gate_dst (N := 6) rfl ?_); refine fr_alloc rfl rfl HA.out ?_; intro gr w_ hA; (try simp only [List.cons_append, List.nil_append] at hA); replace HA := Aside0.mk hA; clear hA) | (refine fr_load rfl rfl rfl HA.out (by first | exact List.mem_cons_self | exact List.mem_cons_of_mem _ List.mem_cons_self | exact List.mem_cons_of_mem _ (List.mem_cons_of_mem _ List.mem_cons_self) | exact List.mem_cons_of_mem _ (List.mem_cons_of_mem _ (List.mem_cons_of_mem _ List.mem_cons_self))) ?_) | (refine fr_load0 rfl rfl rfl HA.out (by first | exact List.mem_cons_self | exact List.mem_cons_of_mem _ List.mem_cons_self | exact List.mem_cons_of_mem _ (List.mem_cons_of_mem _ List.mem_cons_self) | exact List.mem_cons_of_mem _ (List.mem_cons_of_mem _ (List.mem_cons_of_mem _ List.mem_cons_self))) ?_) | (refine fr_load1 rfl rfl rfl HA.out (by first | exact List.mem_cons_self | exact List.mem_cons_of_mem _ List.mem_cons_self | exact List.mem_cons_of_mem _ (List.mem_cons_of_mem _ List.mem_cons_self) | exact List.mem_cons_of_mem _ (List.mem_cons_of_mem _ (List.mem_cons_of_mem _ List.mem_cons_self))) ?_) | (refine fr_store rfl rfl rfl rfl (by first | exact Fr.zero_ok | exact HCK.out) [] HA.out ?_; intro w_ hA; (try simp only [List.cons_append, List.nil_append] at hA); replace HA := Aside0.mk hA; clear hA) | (refine fr_build0 rfl rfl ?_))
        have hcall := refCheck_calls A0 c0 l0 b HFB.out vb w_ (Kd.C_below HR0.out HA.out.below) HC0.out HV0.out HVB.out
        rw [HEb.out] at hcall
        refine hcall.mono ?_
        clear hcall
        rintro e w_ ⟨rfl, hb⟩
        replace HA := Aside0.mk (HA.out.step hb)
        clear hb
        go_wp2_with (first | ((with_reducible refine gate_dst (N := 32) rfl ?_); refine fr_guard rfl (by rfl) ?_; dsimp only; refine fr_load0 rfl rfl rfl HA.out (by first | exact List.mem_cons_self | exact List.mem_cons_of_mem _ List.mem_cons_self | exact List.mem_cons_of_mem _ (List.mem_cons_of_mem _ List.mem_cons_self) | exact List.mem_cons_of_mem _ (List.mem_cons_of_mem _ (List.mem_cons_of_mem _ List.mem_cons_self))) ?_) | ((with_reducible refine gate_dst (N := 32) rfl ?_); refine fr_guard rfl (by rfl) ?_; dsimp only; refine fr_load1 rfl rfl rfl HA.out (by first | exact List.mem_cons_self | exact List.mem_cons_of_mem _ List.mem_cons_self | exact List.mem_cons_of_mem _ (List.mem_cons_of_mem _ List.mem_cons_self) | exact List.mem_cons_of_mem _ (List.mem_cons_of_mem _ (List.mem_cons_of_mem _ List.mem_cons_self))) ?_) | ((with_reducible refine gate_dst (N := 34) rfl ?_); refine fr_guard rfl (by rfl) ?_; dsimp only; refine fr_load0 rfl rfl rfl HA.out (by first | exact List.mem_cons_self | exact List.mem_cons_of_mem _ List.mem_cons_self | exact List.mem_cons_of_mem _ (List.mem_cons_of_mem _ List.mem_cons_self) | exact List.mem_cons_of_mem _ (List.mem_cons_of_mem _ (List.mem_cons_of_mem _ List.mem_cons_self))) ?_) | ((with_reducible refine gate_dst (N := 34) rfl ?_); refine fr_guard rfl (by rfl) ?_; dsimp only; refine fr_load1 rfl rfl rfl HA.out (by first | exact List.mem_cons_self | exact List.mem_cons_of_mem _ List.mem_cons_self | exact List.mem_cons_of_mem _ (List.mem_cons_of_mem _ List.mem_cons_self) | exact List.mem_cons_of_mem _ (List.mem_cons_of_mem _ (List.mem_cons_of_mem _ List.mem_cons_self))) ?_) | ((with_reducible refine gate_dst (N := 4) rfl ?_); refine fr_box rfl rfl (f := a) rfl HFA.out HA.out ?_; intro ga w_ hA; (try simp only [List.cons_append, List.nil_append] at hA); replace HA := Aside0.mk hA; clear hA) | ((with_reducible refine gate_dst (N := 5) rfl ?_); refine fr_box rfl rfl (f := b) rfl HFB.out HA.out ?_; intro gb w_ hA; (try simp only [List.cons_append, List.nil_append] at hA); replace HA := Aside0.mk hA; clear hA) | ((with_reducible refine gate_dst (N := 6) rfl ?_); refine fr_alloc rfl rfl HA.out ?_; intro gr w_ hA; (try simp only [List.cons_append, List.nil_append] at hA); replace HA := Aside0.mk hA; clear hA) | (refine fr_load rfl rfl rfl HA.out (by first | exact List.mem_cons_self | exact List.mem_cons_of_mem _ List.mem_cons_self | exact List.mem_cons_of_mem _ (List.mem_cons_of_mem _ List.mem_cons_self) | exact List.mem_cons_of_mem _ (List.mem_cons_of_mem _ (List.mem_cons_of_mem _ List.mem_cons_self))) ?_) | (refine fr_load0 rfl rfl rfl HA.out (by first | exact List.mem_cons_self | exact List.mem_cons_of_mem _ List.mem_cons_self | exact List.mem_cons_of_mem _ (List.mem_cons_of_mem _ List.mem_cons_self) | exact List.mem_cons_of_mem _ (List.mem_cons_of_mem _ (List.mem_cons_of_mem _ List.mem_cons_self))) ?_) | (refine fr_load1 rfl rfl rfl HA.out (by first | exact List.mem_cons_self | exact List.mem_cons_of_mem _ List.mem_cons_self | exact List.mem_cons_of_mem _ (List.mem_cons_of_mem _ List.mem_cons_self) | exact List.mem_cons_of_mem _ (List.mem_cons_of_mem _ (List.mem_cons_of_mem _ List.mem_cons_self))) ?_) | (refine fr_store rfl rfl rfl rfl (by first | exact Fr.zero_ok | exact HCK.out) [] HA.out ?_; intro w_ hA; (try simp only [List.cons_append, List.nil_append] at hA); replace HA := Aside0.mk hA; clear hA) | (refine fr_build0 rfl rfl ?_))
        refine bodyPost_ret (fr_ret2 rfl _ HA.out (by first | exact List.mem_cons_self | exact List.mem_cons_of_mem _ List.mem_cons_self | exact List.mem_cons_of_mem _ (List.mem_cons_of_mem _ List.mem_cons_self) | exact List.mem_cons_of_mem _ (List.mem_cons_of_mem _ (List.mem_cons_of_mem _ List.mem_cons_self))) rfl) rfl ⟨?_, HA.out.below⟩
        unfold mergeS
        rw [HAL.out]
        simp [Z3.out]
    · have z2b : (eb != 0) = true := by rw [bne_iff_ne]; exact z2
      have Z2 := Aside0.mk z2
      clear z2
      go_enter Try.func35, Try.ntmps35
      go_wp2_with (first | ((with_reducible refine gate_dst (N := 4) rfl ?_); refine fr_box rfl rfl (f := a) rfl HFA.out HA.out ?_; intro ga w_ hA; (try simp only [List.cons_append, List.nil_append] at hA); replace HA := Aside0.mk hA; clear hA) | ((with_reducible refine gate_dst (N := 5) rfl ?_); refine fr_box rfl rfl (f := b) rfl HFB.out HA.out ?_; intro gb w_ hA; (try simp only [List.cons_append, List.nil_append] at hA); replace HA := Aside0.mk hA; clear hA) | ((with_reducible refine gate_dst (N := 6) rfl ?_); refine fr_alloc rfl rfl HA.out ?_; intro gr w_ hA; (try simp only [List.cons_append, List.nil_append] at hA); replace HA := Aside0.mk hA; clear hA) | (refine fr_load rfl rfl rfl HA.out (by first | exact List.mem_cons_self | exact List.mem_cons_of_mem _ List.mem_cons_self | exact List.mem_cons_of_mem _ (List.mem_cons_of_mem _ List.mem_cons_self) | exact List.mem_cons_of_mem _ (List.mem_cons_of_mem _ (List.mem_cons_of_mem _ List.mem_cons_self))) ?_) | (refine fr_load0 rfl rfl rfl HA.out (by first | exact List.mem_cons_self | exact List.mem_cons_of_mem _ List.mem_cons_self | exact List.mem_cons_of_mem _ (List.mem_cons_of_mem _ List.mem_cons_self) | exact List.mem_cons_of_mem _ (List.mem_cons_of_mem _ (List.mem_cons_of_mem _ List.mem_cons_self))) ?_) | (refine fr_load1 rfl rfl rfl HA.out (by first | exact List.mem_cons_self | exact List.mem_cons_of_mem _ List.mem_cons_self | exact List.mem_cons_of_mem _ (List.mem_cons_of_mem _ List.mem_cons_self) | exact List.mem_cons_of_mem _ (List.mem_cons_of_mem _ (List.mem_cons_of_mem _ List.mem_cons_self))) ?_) | (refine fr_store rfl rfl rfl rfl (by first | exact Fr.zero_ok | exact HCK.out) [] HA.out ?_; intro w_ hA; (try simp only [List.cons_append, List.nil_append] at hA); replace HA := Aside0.mk hA; clear hA) | (refine fr_build0 rfl rfl ?_))
      have hcall := refCheck_calls A0 c0 l0 a HFA.out vb w_ (Kd.C_below HR0.out HA.out.below) HC0.out HV0.out HVA.out
      rw [HEa.out] at hcall
      refine hcall.mono ?_
      clear hcall
      rintro e w_ ⟨rfl, hb⟩
      replace HA := Aside0.mk (HA.out.step hb)
      clear hb
      go_wp2_with (first | ((with_reducible refine gate_dst (N := 4) rfl ?_); refine fr_box rfl rfl (f := a) rfl HFA.out HA.out ?_; intro ga w_ hA; (try simp only [List.cons_append, List.nil_append] at hA); replace HA := Aside0.mk hA; clear hA) | ((with_reducible refine gate_dst (N := 5) rfl ?_); refine fr_box rfl rfl (f := b) rfl HFB.out HA.out ?_; intro gb w_ hA; (try simp only [List.cons_append, List.nil_append] at hA); replace HA := Aside0.mk hA; clear hA) | ((with_reducible refine gate_dst (N := 6) rfl ?_); refine fr_alloc rfl rfl HA.out ?_; intro gr w_ hA; (try simp only [List.cons_append, List.nil_append] at hA); replace HA := Aside0.mk hA; clear hA) | (refine fr_load rfl rfl rfl HA.out (by first | exact List.mem_cons_self | exact List.mem_cons_of_mem _ List.mem_cons_self | exact List.mem_cons_of_mem _ (List.mem_cons_of_mem _ List.mem_cons_self) | exact List.mem_cons_of_mem _ (List.mem_cons_of_mem _ (List.mem_cons_of_mem _ List.mem_cons_self))) ?_) | (refine fr_load0 rfl rfl rfl HA.out (by first | exact List.mem_cons_self | exact List.mem_cons_of_mem _ List.mem_cons_self | exact List.mem_cons_of_mem _ (List.mem_cons_of_mem _ List.mem_cons_self) | exact List.mem_cons_of_mem _ (List.mem_cons_of_mem _ (List.mem_cons_of_mem _ List.mem_cons_self))) ?_) | (refine fr_load1 rfl rfl rfl HA.out (by first | exact List.mem_cons_self | exact List.mem_cons_of_mem _ List.mem_cons_self | exact List.mem_cons_of_mem _ (List.mem_cons_of_mem _ List.mem_cons_self) | exact List.mem_cons_of_mem _ (List.mem_cons_of_mem _ (List.mem_cons_of_mem _ List.mem_cons_self))) ?_) | (refine fr_store rfl rfl rfl rfl (by first | exact Fr.zero_ok | exact HCK.out) [] HA.out ?_; intro w_ hA; (try simp only [List.cons_append, List.nil_append] at hA); replace HA := Aside0.mk hA; clear hA) | (refine fr_build0 rfl rfl ?_))
      have hcall := refCheck_calls A0 c0 l0 b HFB.out vb w_ (Kd.C_below HR0.out HA.out.below) HC0.out HV0.out HVB.out
      rw [HEb.out] at hcall
      refine hcall.mono ?_
      clear hcall
      rintro e w_ ⟨rfl, hb⟩
      replace HA := Aside0.mk (HA.out.step hb)
      clear hb
      go_wp2_with (first | ((with_reducible refine gate_dst (N := 4) rfl ?_); refine fr_box rfl rfl (f := a) rfl HFA.out HA.out ?_; intro ga w_ hA; (try simp only [List.cons_append, List.nil_append] at hA); replace HA := Aside0.mk hA; clear hA) | ((with_reducible refine gate_dst (N := 5) rfl ?_); refine fr_box rfl rfl (f := b) rfl HFB.out HA.out ?_; intro gb w_ hA; (try simp only [List.cons_append, List.nil_append] at hA); replace HA := Aside0.mk hA; clear hA) | ((with_reducible refine gate_dst (N := 6) rfl ?_); refine fr_alloc rfl rfl HA.out ?_; intro gr w_ hA; (try simp only [List.cons_append, List.nil_append] at hA); replace HA := Aside0.mk hA; clear hA) | (refine fr_load rfl rfl rfl HA.out (by first | exact List.mem_cons_self | exact List.mem_cons_of_mem _ List.mem_cons_self | exact List.mem_cons_of_mem _ (List.mem_cons_of_mem _ List.mem_cons_self) | exact List.mem_cons_of_mem _ (List.mem_cons_of_mem _ (List.mem_cons_of_mem _ List.mem_cons_self))) ?_) | (refine fr_load0 rfl rfl rfl HA.out (by first | exact List.mem_cons_self | exact List.mem_cons_of_mem _ List.mem_cons_self | exact List.mem_cons_of_mem _ (List.mem_cons_of_mem _ List.mem_cons_self) | exact List.mem_cons_of_mem _ (List.mem_cons_of_mem _ (List.mem_cons_of_mem _ List.mem_cons_self))) ?_) | (refine fr_load1 rfl rfl rfl HA.out (by first | exact List.mem_cons_self | exact List.mem_cons_of_mem _ List.mem_cons_self | exact List.mem_cons_of_mem _ (List.mem_cons_of_mem _ List.mem_cons_self) | exact List.mem_cons_of_mem _ (List.mem_cons_of_mem _ (List.mem_cons_of_mem _ List.mem_cons_self))) ?_) | (refine fr_store rfl rfl rfl rfl (by first | exact Fr.zero_ok | exact HCK.out) [] HA.out ?_; intro w_ hA; (try simp only [List.cons_append, List.nil_append] at hA); replace HA := Aside0.mk hA; clear hA) | (refine fr_build0 rfl rfl ?_))
      refine bodyPost_ret (fr_ret2 rfl _ HA.out (by first | exact List.mem_cons_self | exact List.mem_cons_of_mem _ List.mem_cons_self | exact List.mem_cons_of_mem _ (List.mem_cons_of_mem _ List.mem_cons_self) | exact List.mem_cons_of_mem _ (List.mem_cons_of_mem _ (List.mem_cons_of_mem _ List.mem_cons_self))) rfl) rfl ⟨?_, HA.out.below⟩
      unfold mergeS
      rw [HAL.out]
      simp [Z2.out]
  · have z1b : (ea != 0) = true := by rw [bne_iff_ne]; exact z1
    have Z1 := Aside0.mk z1
    clear z1
    go_enter Try.func35, Try.ntmps35
    go_wp2_with (first | ((with_reducible refine gate_dst (N := 4) rfl ?_); refine fr_box rfl rfl (f := a) rfl HFA.out HA.out ?_; intro ga w_ hA; (try simp only [List.cons_append, List.nil_append] at hA); replace HA := Aside0.mk hA; clear hA) | ((with_reducible refine gate_dst (N := 5) rfl ?_); refine fr_box rfl rfl (f := b) rfl HFB.out HA.out ?_; intro gb w_ hA; (try simp only [List.cons_append, List.nil_append] at hA); replace HA := Aside0.mk hA; clear hA) | ((with_reducible refine gate_dst (N := 6) rfl ?_); refine fr_alloc rfl rfl HA.out ?_; intro gr w_ hA; (try simp only [List.cons_append, List.nil_append] at hA); replace HA := Aside0.mk hA; clear hA) | (refine fr_load rfl rfl rfl HA.out (by first | exact List.mem_cons_self | exact List.mem_cons_of_mem _ List.mem_cons_self | exact List.mem_cons_of_mem _ (List.mem_cons_of_mem _ List.mem_cons_self) | exact List.mem_cons_of_mem _ (List.mem_cons_of_mem _ (List.mem_cons_of_mem _ List.mem_cons_self))) ?_) | (refine fr_load0 rfl rfl rfl HA.out (by first | exact List.mem_cons_self | exact List.mem_cons_of_mem _ List.mem_cons_self | exact List.mem_cons_of_mem _ (List.mem_cons_of_mem _ List.mem_cons_self) | exact List.mem_cons_of_mem _ (List.mem_cons_of_mem _ (List.mem_cons_of_mem _ List.mem_cons_self))) ?_) | (refine fr_load1 rfl rfl rfl HA.out (by first | exact List.mem_cons_self | exact List.mem_cons_of_mem _ List.mem_cons_self | exact List.mem_cons_of_mem _ (List.mem_cons_of_mem _ List.mem_cons_self) | exact List.mem_cons_of_mem _ (List.mem_cons_of_mem _ (List.mem_cons_of_mem _ List.mem_cons_self))) ?_) | (refine fr_store rfl rfl rfl rfl (by first | exact Fr.zero_ok | exact HCK.out) [] HA.out ?_; intro w_ hA; (try simp only [List.cons_append, List.nil_append] at hA); replace HA := Aside0.mk hA; clear hA) | (refine fr_build0 rfl rfl ?_))
    have hcall := refCheck_calls A0 c0 l0 a HFA.out vb w_ (Kd.C_below HR0.out HA.out.below) HC0.out HV0.out HVA.out
    rw [HEa.out] at hcall
    refine hcall.mono ?_
    clear hcall
    rintro e w_ ⟨rfl, hb⟩
    replace HA := Aside0.mk (HA.out.step hb)
    clear hb
    go_wp2_with (first | ((with_reducible refine gate_dst (N := 4) rfl ?_); refine fr_box rfl rfl (f := a) rfl HFA.out HA.out ?_; intro ga w_ hA; (try simp only [List.cons_append, List.nil_append] at hA); replace HA := Aside0.mk hA; clear hA) | ((with_reducible refine gate_dst (N := 5) rfl ?_); refine fr_box rfl rfl (f := b) rfl HFB.out HA.out ?_; intro gb w_ hA; (try simp only [List.cons_append, List.nil_append] at hA); replace HA := Aside0.mk hA; clear hA) | ((with_reducible refine gate_dst (N := 6) rfl ?_); refine fr_alloc rfl rfl HA.out ?_; intro gr w_ hA; (try simp only [List.cons_append, List.nil_append] at hA); replace HA := Aside0.mk hA; clear hA) | (refine fr_load rfl rfl rfl HA.out (by first | exact List.mem_cons_self | exact List.mem_cons_of_mem _ List.mem_cons_self | exact List.mem_cons_of_mem _ (List.mem_cons_of_mem _ List.mem_cons_self) | exact List.mem_cons_of_mem _ (List.mem_cons_of_mem _ (List.mem_cons_of_mem _ List.mem_cons_self))) ?_) | (refine fr_load0 rfl rfl rfl HA.out (by first | exact List.mem_cons_self | exact List.mem_cons_of_mem _ List.mem_cons_self | exact List.mem_cons_of_mem _ (List.mem_cons_of_mem _ List.mem_cons_self) | exact List.mem_cons_of_mem _ (List.mem_cons_of_mem _ (List.mem_cons_of_mem _ List.mem_cons_self))) ?_) | (refine fr_load1 rfl rfl rfl HA.out (by first | exact List.mem_cons_self | exact List.mem_cons_of_mem _ List.mem_cons_self | exact List.mem_cons_of_mem _ (List.mem_cons_of_mem _ List.mem_cons_self) | exact List.mem_cons_of_mem _ (List.mem_cons_of_mem _ (List.mem_cons_of_mem _ List.mem_cons_self))) ?_) | (refine fr_store rfl rfl rfl rfl (by first | exact Fr.zero_ok | exact HCK.out) [] HA.out ?_; intro w_ hA; (try simp only [List.cons_append, List.nil_append] at hA); replace HA := Aside0.mk hA; clear hA) | (refine fr_build0 rfl rfl ?_))
    refine bodyPost_ret (fr_ret2 rfl _ HA.out (by first | exact List.mem_cons_self | exact List.mem_cons_of_mem _ List.mem_cons_self | exact List.mem_cons_of_mem _ (List.mem_cons_of_mem _ List.mem_cons_self) | exact List.mem_cons_of_mem _ (List.mem_cons_of_mem _ (List.mem_cons_of_mem _ List.mem_cons_self))) rfl) rfl ⟨?_, HA.out.below⟩
    unfold mergeS
    rw [HAL.out]
    simp [Z1.out]


def provisolaw03_FramesMeets.Facts (l0 : List S59) (a0 a1 : Int) (a2 : List Int) (b0 b1 : Int) (b2 : List Int) : Prop :=
  a2.length = 24 ∧ b2.length = 24 ∧ ∃ (k : Nat) (tb : Bool), provisolaw03_table.f k l0 = some tb ∧ (tb = true → ∃ (vb : Int → Bool) (sb : Int → Int → Bool) (mb : Int → Int → Int),
    provisoplain_Classes.f k l0 = some l0 ∧ provisoplain_SameClasses.f k l0 l0 = some true ∧ vb 0 = true ∧ sb 0 0 = true ∧ mb 0 0 = 0 ∧
    (∀ t, t ∈ a2 ∨ t ∈ b2 → types_Valid.f l0 t = some (vb t) ∧ provisoref02_Valid.f l0 t = some (vb t)) ∧
    (∀ t u, t ∈ a2 ∨ t ∈ b2 → u ∈ a2 ∨ u ∈ b2 → types_Sub.f k l0 t u = some (sb t u) ∧ provisoref02_Sub.f k l0 t u = some (sb t u) ∧ types_Merge.f k l0 t u = some (mb t u) ∧ provisoref02_Merge.f k l0 t u = some (mb t u)))
theorem meets_mem {f : Fr} (hf : f.ok) {i : Nat} (hi : i < 24) : f.sl.getD i 0 ∈ f.sl := by
  have h : i < f.sl.length := by unfold Fr.ok at hf; omega
  rw [List.getD_eq_getElem?_getD, List.getElem?_eq_getElem h]
  exact List.getElem_mem h
theorem mergeS_ok {vb : Int → Bool} {mb : Int → Int → Int} {a b : Fr} (ha : a.ok) (hb : b.ok) : (mergeS vb mb a b).1.ok := by
  unfold Fr.ok at ha hb
  unfold mergeS
  split
  · show (List.zipWith mb a.sl b.sl).length = 24
    rw [List.length_zipWith, ha, hb]
    rfl
  · exact Fr.zero_ok
set_option maxHeartbeats 6400000 in
set_option maxRecDepth 100000 in
theorem provisolaw03_FramesMeets.calls (A0 : Option Addr) (c0 : Nat) (l0 : List S59) (a0 a1 : Int) (a2 : List Int) (b0 b1 : Int) (b2 : List Int) (w : World) (hr0 : Kd.C k59 w A0 l0.length l0) (hc0 : l0.length ≤ c0) (h : provisolaw03_FramesMeets.Facts l0 a0 a1 a2 b0 b1 b2) :
    Calls Try.prog 9 #[.slice A0 l0.length c0, .agg (⟨a0, a1, a2⟩ : Fr).a, .agg (⟨b0, b1, b2⟩ : Fr).a] w fun e w' => e = .returned (.bool true) ∧ Below w.heap.size w w' := by
  obtain ⟨hla, hlb, k, tb, htb, h⟩ := h
  obtain ⟨a, hae⟩ : ∃ a : Fr, a = ⟨a0, a1, a2⟩ := ⟨_, rfl⟩
  obtain ⟨b, hbe⟩ : ∃ b : Fr, b = ⟨b0, b1, b2⟩ := ⟨_, rfl⟩
  have ea2 : a2 = a.sl := by rw [hae]
  have eb2 : b2 = b.sl := by rw [hbe]
  rw [← hae, ← hbe]
  rw [ea2, eb2] at h
  have HFA : Aside0 (a.ok) := ⟨by unfold Fr.ok; rw [← ea2]; exact hla⟩
  have HFB : Aside0 (b.ok) := ⟨by unfold Fr.ok; rw [← eb2]; exact hlb⟩
  clear ea2 eb2 hla hlb hae hbe
  have HR0 := Aside0.mk hr0
  have HC0 := Aside0.mk hc0
  have HTB := Aside0.mk htb
  have HFACT := Aside0.mk h
  have HA := Aside0.mk (Frs.nil w)
  clear hr0 hc0 htb h
  go_enter Try.func9, Try.ntmps9
  go_wp2_with (first | ((with_reducible refine gate_dst (N := 4) rfl ?_); refine fr_box rfl rfl (f := a) rfl HFA.out HA.out ?_; intro ga w_ hA; (try simp only [List.cons_append, List.nil_append] at hA); replace HA := Aside0.mk hA; clear hA) | ((with_reducible refine gate_dst (N := 5) rfl ?_); refine fr_box rfl rfl (f := b) rfl HFB.out HA.out ?_; intro gb w_ hA; (try simp only [List.cons_append, List.nil_append] at hA); replace HA := Aside0.mk hA; clear hA))
  refine (provisolaw03_table.calls k A0 c0 l0 tb w_ (Kd.C_below HR0.out HA.out.below) HC0.out HTB.out).mono ?_
  rintro e w_ ⟨rfl, hb⟩
  replace HA := Aside0.mk (HA.out.step hb)
  clear hb
  cases tb with
  | false =>
    go_wp2
    go_ret
    exact ⟨rfl, HA.out.below⟩
  | true =>
    obtain ⟨vb, sb, mb, hcls, hsame, hv0, hs0, hm0, hval, hops⟩ := HFACT.out rfl
    have HCLS := Aside0.mk hcls
    have HSAME := Aside0.mk hsame
    have HV0 := Aside0.mk hv0
    have HS0 := Aside0.mk hs0
    have HM0 := Aside0.mk hm0
    have HVIA : Aside0 (∀ t ∈ a.sl, types_Valid.f l0 t = some (vb t)) := ⟨fun t ht => (hval t (.inl ht)).1⟩
    have HVIB : Aside0 (∀ t ∈ b.sl, types_Valid.f l0 t = some (vb t)) := ⟨fun t ht => (hval t (.inr ht)).1⟩
    have HVRA : Aside0 (∀ t ∈ a.sl, provisoref02_Valid.f l0 t = some (vb t)) := ⟨fun t ht => (hval t (.inl ht)).2⟩
    have HVRB : Aside0 (∀ t ∈ b.sl, provisoref02_Valid.f l0 t = some (vb t)) := ⟨fun t ht => (hval t (.inr ht)).2⟩
    have hab := fun i (hi : i < 24) => hops _ _ (.inl (meets_mem HFA.out hi)) (.inr (meets_mem HFB.out hi))
    have haa := fun i (hi : i < 24) => hops _ _ (.inl (meets_mem HFA.out hi)) (.inl (meets_mem HFA.out hi))
    have HSIab := Aside0.mk (fun i (hi : i < 24) => (hab i hi).1)
    have HSRab := Aside0.mk (fun i (hi : i < 24) => (hab i hi).2.1)
    have HMI := Aside0.mk (fun i (hi : i < 24) => (hab i hi).2.2.1)
    have HMR := Aside0.mk (fun i (hi : i < 24) => (hab i hi).2.2.2)
    have HSIaa := Aside0.mk (fun i (hi : i < 24) => (haa i hi).1)
    have HSRaa := Aside0.mk (fun i (hi : i < 24) => (haa i hi).2.1)
    clear hcls hsame hv0 hs0 hm0 hval hops hab haa HFACT HTB
    obtain ⟨u, hu⟩ : ∃ u : Bool, subS vb sb a b = u := ⟨_, rfl⟩
    obtain ⟨v, hv⟩ : ∃ v : Bool, subS vb sb a a = v := ⟨_, rfl⟩
    obtain ⟨m, hm⟩ : ∃ m : Fr × Int, mergeS vb mb a b = m := ⟨_, rfl⟩
    obtain ⟨m, e⟩ := m
    have HU := Aside0.mk hu
    have HV := Aside0.mk hv
    have HM := Aside0.mk hm
    have HMK : Aside0 (m.ok) := ⟨by have := mergeS_ok (vb := vb) (mb := mb) HFA.out HFB.out; rw [hm] at this; exact this⟩
    clear hu hv hm
    go_wp2_with fail
    refine (provisoplain_Classes.calls k A0 c0 l0 l0 _ (Kd.C_below HR0.out HA.out.below) HC0.out HCLS.out).mono ?_
    rintro e_ wc ⟨v2, rfl, hS, hb⟩
    obtain ⟨A2, c2, rfl, hc2, hC2⟩ := Kd.R_reads (Kd.S_R hS)
    replace HA := Aside0.mk (HA.out.step hb)
    have HC2 := Aside0.mk hc2
    have HG := Aside0.mk hC2
    have HB := Aside0.mk (Frs.nil wc)
    clear hS hc2 hC2 hb
    go_upto_region 4 with (fail)
    have hA := HA.out
    have hB := HB.out
    refine wp_region_held_drew (S := (fun w' => Frs w [(gb, b), (ga, a)] w' ∧ Frs wc [] w')) (by kernel_rfl) ?_ (fun hHeld => ?_)
    · exact ⟨hA.drewN 1, hB.drewN 1⟩
    clear hA hB
    refine take_dst (i := 0) (v := ?_) 17 rfl rfl (by kernel_rfl) (by kernel_rfl) (by kernel_rfl) (fun _ _ _ h => h) (Or.inl ⟨by rfl, ?_⟩) (by assumption) ?_
    rotate_left
    · intro w hSw
      go_simp
      try with_reducible rfl
    (try simp only [Act.put, List.setIfInBounds_toArray, List.set_cons_zero, List.set_cons_succ])
    refine take_dst (i := 1) 18 rfl rfl (by kernel_rfl) (by kernel_rfl) (by kernel_rfl) (fun _ _ _ h => h) (fr_yields rfl rfl rfl (fun _ h => h.1) (List.mem_cons_of_mem _ List.mem_cons_self)) (by assumption) ?_
    (try simp only [Act.put, List.setIfInBounds_toArray, List.set_cons_zero, List.set_cons_succ])
    refine take_dst (i := 2) 19 rfl rfl (by kernel_rfl) (by kernel_rfl) (by kernel_rfl) (fun _ _ _ h => h) (fr_yields rfl rfl rfl (fun _ h => h.1) List.mem_cons_self) (by assumption) ?_
    (try simp only [Act.put, List.setIfInBounds_toArray, List.set_cons_zero, List.set_cons_succ])
    refine take_dst (i := 4) (v := ?_) 21 rfl rfl (by kernel_rfl) (by kernel_rfl) (by kernel_rfl) (fun _ _ _ h => h) (Or.inl ⟨by rfl, ?_⟩) (by assumption) ?_
    rotate_left
    · intro w hSw
      go_simp
      try with_reducible rfl
    (try simp only [Act.put, List.setIfInBounds_toArray, List.set_cons_zero, List.set_cons_succ])
    refine take_dst (i := 5) 22 rfl rfl (by kernel_rfl) (by kernel_rfl) (by kernel_rfl) (fun _ _ _ h => h) (fr_yields rfl rfl rfl (fun _ h => h.1) (List.mem_cons_of_mem _ List.mem_cons_self)) (by assumption) ?_
    (try simp only [Act.put, List.setIfInBounds_toArray, List.set_cons_zero, List.set_cons_succ])
    refine take_dst (i := 6) 23 rfl rfl (by kernel_rfl) (by kernel_rfl) (by kernel_rfl) (fun _ _ _ h => h) (fr_yields rfl rfl rfl (fun _ h => h.1) List.mem_cons_self) (by assumption) ?_
    (try simp only [Act.put, List.setIfInBounds_toArray, List.set_cons_zero, List.set_cons_succ])
    refine wpAnyH_ready (rs := [3]) (by kernel_rfl) (by simp) ?_
    refine AllReadyH.cons rfl (fun K hK => ?_) AllReadyH.nil
    go_simp
    have hcall := frSub_calls k A2 c2 l0 a b HFA.out HFB.out vb sb _ (Kd.C_below HG.out hHeld.2.below) HC2.out HVIA.out HVIB.out HSIab.out
    rw [HU.out] at hcall
    refine hcall.mono ?_
    clear hcall
    rintro e w9 ⟨rfl, hb⟩
    have h9 : Frs w [(gb, b), (ga, a)] w9 ∧ Frs wc [] w9 := ⟨hHeld.1.step hb, hHeld.2.step hb⟩
    go_simp
    refine hK.out _ _ h9 (fun hHeld => ?_)
    (try simp only [Act.put, List.setIfInBounds_toArray, List.set_cons_zero, List.set_cons_succ])
    clear hK K h9 hb
    refine wpAnyH_ready (rs := [7]) (by kernel_rfl) (by simp) ?_
    refine AllReadyH.cons rfl (fun K hK => ?_) AllReadyH.nil
    go_simp
    have hcall := refSub_calls k A0 c0 l0 a b HFA.out HFB.out vb sb _ (Kd.C_below HR0.out hHeld.1.below) HC0.out HV0.out HVRA.out HVRB.out HS0.out HSRab.out
    rw [HU.out] at hcall
    refine hcall.mono ?_
    clear hcall
    rintro e w9 ⟨rfl, hb⟩
    have h9 : Frs w [(gb, b), (ga, a)] w9 ∧ Frs wc [] w9 := ⟨hHeld.1.step hb, hHeld.2.step hb⟩
    go_simp
    refine hK.out _ _ h9 (fun hHeld => ?_)
    (try simp only [Act.put, List.setIfInBounds_toArray, List.set_cons_zero, List.set_cons_succ])
    clear hK K h9 hb
    refine take_dst (i := 8) (v := ?_) 25 rfl rfl (by kernel_rfl) (by kernel_rfl) (by kernel_rfl) (fun _ _ _ h => h) (Or.inl ⟨by rfl, ?_⟩) (by assumption) ?_
    rotate_left
    · intro w hSw
      go_simp
      try with_reducible rfl
    (try simp only [Act.put, List.setIfInBounds_toArray, List.set_cons_zero, List.set_cons_succ])
    refine take_dst (i := 9) (v := ?_) 26 rfl rfl (by kernel_rfl) (by kernel_rfl) (by kernel_rfl) (fun _ _ _ h => h) (Or.inl ⟨by rfl, ?_⟩) (by assumption) ?_
    rotate_left
    · intro w hSw
      go_simp
      try with_reducible rfl
    (try simp only [Act.put, List.setIfInBounds_toArray, List.set_cons_zero, List.set_cons_succ])
    refine take_dst (i := 10) (v := ?_) 27 rfl rfl (by kernel_rfl) (by kernel_rfl) (by kernel_rfl) (fun _ _ _ h => h) (Or.inl ⟨by rfl, ?_⟩) (by assumption) ?_
    rotate_left
    · intro w hSw
      go_simp
      try with_reducible rfl
    (try simp only [Act.put, List.setIfInBounds_toArray, List.set_cons_zero, List.set_cons_succ])
    refine take_dst (i := 11) 28 rfl rfl (by kernel_rfl) (by kernel_rfl) (by kernel_rfl) (fun _ _ _ h => h) (fr_yields rfl rfl rfl (fun _ h => h.1) (List.mem_cons_of_mem _ List.mem_cons_self)) (by assumption) ?_
    (try simp only [Act.put, List.setIfInBounds_toArray, List.set_cons_zero, List.set_cons_succ])
    refine take_dst (i := 12) 29 rfl rfl (by kernel_rfl) (by kernel_rfl) (by kernel_rfl) (fun _ _ _ h => h) (fr_yields rfl rfl rfl (fun _ h => h.1) (List.mem_cons_of_mem _ List.mem_cons_self)) (by assumption) ?_
    (try simp only [Act.put, List.setIfInBounds_toArray, List.set_cons_zero, List.set_cons_succ])
    refine take_dst (i := 14) (v := ?_) 31 rfl rfl (by kernel_rfl) (by kernel_rfl) (by kernel_rfl) (fun _ _ _ h => h) (Or.inl ⟨by rfl, ?_⟩) (by assumption) ?_
    rotate_left
    · intro w hSw
      go_simp
      try with_reducible rfl
    (try simp only [Act.put, List.setIfInBounds_toArray, List.set_cons_zero, List.set_cons_succ])
    refine take_dst (i := 15) 32 rfl rfl (by kernel_rfl) (by kernel_rfl) (by kernel_rfl) (fun _ _ _ h => h) (fr_yields rfl rfl rfl (fun _ h => h.1) (List.mem_cons_of_mem _ List.mem_cons_self)) (by assumption) ?_
    (try simp only [Act.put, List.setIfInBounds_toArray, List.set_cons_zero, List.set_cons_succ])
    refine take_dst (i := 16) 33 rfl rfl (by kernel_rfl) (by kernel_rfl) (by kernel_rfl) (fun _ _ _ h => h) (fr_yields rfl rfl rfl (fun _ h => h.1) (List.mem_cons_of_mem _ List.mem_cons_self)) (by assumption) ?_
    (try simp only [Act.put, List.setIfInBounds_toArray, List.set_cons_zero, List.set_cons_succ])
    refine wpAnyH_ready (rs := [13]) (by kernel_rfl) (by simp) ?_
    refine AllReadyH.cons rfl (fun K hK => ?_) AllReadyH.nil
    go_simp
    have hcall := frSub_calls k A2 c2 l0 a a HFA.out HFA.out vb sb _ (Kd.C_below HG.out hHeld.2.below) HC2.out HVIA.out HVIA.out HSIaa.out
    rw [HV.out] at hcall
    refine hcall.mono ?_
    clear hcall
    rintro e w9 ⟨rfl, hb⟩
    have h9 : Frs w [(gb, b), (ga, a)] w9 ∧ Frs wc [] w9 := ⟨hHeld.1.step hb, hHeld.2.step hb⟩
    go_simp
    refine hK.out _ _ h9 (fun hHeld => ?_)
    (try simp only [Act.put, List.setIfInBounds_toArray, List.set_cons_zero, List.set_cons_succ])
    clear hK K h9 hb
    refine wpAnyH_ready (rs := [17]) (by kernel_rfl) (by simp) ?_
    refine AllReadyH.cons rfl (fun K hK => ?_) AllReadyH.nil
    go_simp
    have hcall := refSub_calls k A0 c0 l0 a a HFA.out HFA.out vb sb _ (Kd.C_below HR0.out hHeld.1.below) HC0.out HV0.out HVRA.out HVRA.out HS0.out HSRaa.out
    rw [HV.out] at hcall
    refine hcall.mono ?_
    clear hcall
    rintro e w9 ⟨rfl, hb⟩
    have h9 : Frs w [(gb, b), (ga, a)] w9 ∧ Frs wc [] w9 := ⟨hHeld.1.step hb, hHeld.2.step hb⟩
    go_simp
    refine hK.out _ _ h9 (fun hHeld => ?_)
    (try simp only [Act.put, List.setIfInBounds_toArray, List.set_cons_zero, List.set_cons_succ])
    clear hK K h9 hb
    refine take_dst (i := 18) (v := ?_) 35 rfl rfl (by kernel_rfl) (by kernel_rfl) (by kernel_rfl) (fun _ _ _ h => h) (Or.inl ⟨by rfl, ?_⟩) (by assumption) ?_
    rotate_left
    · intro w hSw
      go_simp
      try with_reducible rfl
    (try simp only [Act.put, List.setIfInBounds_toArray, List.set_cons_zero, List.set_cons_succ])
    refine take_dst (i := 19) (v := ?_) 36 rfl rfl (by kernel_rfl) (by kernel_rfl) (by kernel_rfl) (fun _ _ _ h => h) (Or.inl ⟨by rfl, ?_⟩) (by assumption) ?_
    rotate_left
    · intro w hSw
      go_simp
      try with_reducible rfl
    (try simp only [Act.put, List.setIfInBounds_toArray, List.set_cons_zero, List.set_cons_succ])
    refine wpAnyH_done (by kernel_rfl) ?_ _
    have HA := Aside0.mk hHeld.1
    have HB := Aside0.mk hHeld.2
    clear hHeld
    go_wp2_with (first | ((with_reducible refine gate_dst (N := 39) rfl ?_); refine fr_load rfl rfl rfl HA.out (by first | exact List.mem_cons_self | exact List.mem_cons_of_mem _ List.mem_cons_self | exact List.mem_cons_of_mem _ (List.mem_cons_of_mem _ List.mem_cons_self) | exact List.mem_cons_of_mem _ (List.mem_cons_of_mem _ (List.mem_cons_of_mem _ List.mem_cons_self))) ?_) | ((with_reducible refine gate_dst (N := 40) rfl ?_); refine fr_load rfl rfl rfl HA.out (by first | exact List.mem_cons_self | exact List.mem_cons_of_mem _ List.mem_cons_self | exact List.mem_cons_of_mem _ (List.mem_cons_of_mem _ List.mem_cons_self) | exact List.mem_cons_of_mem _ (List.mem_cons_of_mem _ (List.mem_cons_of_mem _ List.mem_cons_self))) ?_))
    have hcall := frMerge_calls k A2 c2 l0 a b HFA.out HFB.out vb mb _ (Kd.C_below HG.out HB.out.below) HC2.out HVIA.out HVIB.out HM0.out HMI.out
    rw [HM.out] at hcall
    refine hcall.mono ?_
    clear hcall
    rintro e w_ ⟨rfl, hb⟩
    replace HA := Aside0.mk (HA.out.step hb)
    replace HB := Aside0.mk (HB.out.step hb)
    clear hb
    go_wp2_with (first | ((with_reducible refine gate_dst (N := 8) rfl ?_); refine fr_alloc2 rfl rfl HA.out HB.out ?_; intro gm w_ hA hB; (try simp only [List.cons_append, List.nil_append] at hA hB); replace HA := Aside0.mk hA; replace HB := Aside0.mk hB; clear hA hB) | (refine fr_store2 rfl rfl rfl rfl HMK.out [] HA.out [] HB.out ?_; intro w_ hA hB; (try simp only [List.cons_append, List.nil_append] at hA hB); replace HA := Aside0.mk hA; replace HB := Aside0.mk hB; clear hA hB) | ((with_reducible refine gate_dst (N := 46) rfl ?_); refine fr_load rfl rfl rfl HA.out (by first | exact List.mem_cons_self | exact List.mem_cons_of_mem _ List.mem_cons_self | exact List.mem_cons_of_mem _ (List.mem_cons_of_mem _ List.mem_cons_self) | exact List.mem_cons_of_mem _ (List.mem_cons_of_mem _ (List.mem_cons_of_mem _ List.mem_cons_self))) ?_) | ((with_reducible refine gate_dst (N := 47) rfl ?_); refine fr_load rfl rfl rfl HA.out (by first | exact List.mem_cons_self | exact List.mem_cons_of_mem _ List.mem_cons_self | exact List.mem_cons_of_mem _ (List.mem_cons_of_mem _ List.mem_cons_self) | exact List.mem_cons_of_mem _ (List.mem_cons_of_mem _ (List.mem_cons_of_mem _ List.mem_cons_self))) ?_))
    have hcall := refMerge_calls k A0 c0 l0 a b HFA.out HFB.out vb mb _ (Kd.C_below HR0.out HA.out.below) HC0.out HV0.out HVRA.out HVRB.out HM0.out HMR.out
    rw [HM.out] at hcall
    refine hcall.mono ?_
    clear hcall
    rintro e w_ ⟨rfl, hb⟩
    replace HA := Aside0.mk (HA.out.step hb)
    replace HB := Aside0.mk (HB.out.step hb)
    clear hb
    go_wp2_with (first | ((with_reducible refine gate_dst (N := 10) rfl ?_); refine fr_alloc2 rfl rfl HA.out HB.out ?_; intro gn w_ hA hB; (try simp only [List.cons_append, List.nil_append] at hA hB); replace HA := Aside0.mk hA; replace HB := Aside0.mk hB; clear hA hB) | (refine fr_store2 rfl rfl rfl rfl HMK.out [] HA.out [] HB.out ?_; intro w_ hA hB; (try simp only [List.cons_append, List.nil_append] at hA hB); replace HA := Aside0.mk hA; replace HB := Aside0.mk hB; clear hA hB) | ((with_reducible refine gate_dst (N := 51) rfl ?_); refine fr_load rfl rfl rfl HA.out (by first | exact List.mem_cons_self | exact List.mem_cons_of_mem _ List.mem_cons_self | exact List.mem_cons_of_mem _ (List.mem_cons_of_mem _ List.mem_cons_self) | exact List.mem_cons_of_mem _ (List.mem_cons_of_mem _ (List.mem_cons_of_mem _ List.mem_cons_self))) ?_) | ((with_reducible refine gate_dst (N := 52) rfl ?_); refine fr_load rfl rfl rfl HA.out (by first | exact List.mem_cons_self | exact List.mem_cons_of_mem _ List.mem_cons_self | exact List.mem_cons_of_mem _ (List.mem_cons_of_mem _ List.mem_cons_self) | exact List.mem_cons_of_mem _ (List.mem_cons_of_mem _ (List.mem_cons_of_mem _ List.mem_cons_self))) ?_) | ((with_reducible refine gate_dst (N := 53) rfl ?_); refine fr_eql_self rfl rfl rfl rfl HMK.out ?_))
    refine (provisoplain_SameClasses.calls k A2 c2 l0 A0 c0 l0 true _ (Kd.C_below HG.out HB.out.below) HC2.out (Kd.C_below HR0.out HA.out.below) HC0.out HSAME.out).mono ?_
    rintro e_ w_ ⟨rfl, hb⟩
    replace HA := Aside0.mk (HA.out.step hb)
    clear hb
    go_wp2
    go_ret
    exact ⟨rfl, HA.out.below⟩

end Go.Proofs.Ytgjnmpgmbhbbhaa.P

end

section
namespace Go.Proofs.Ytgjnmpgmbhbbhaa.P
open Go.RowKit Go.Proofs.YtgjnmpgmbhbbhaaW.PrintWords
def provisolaw03_FramesMeets.Pure : Prop := ∀ (l0 : List (S59)) (a1_0 : Int) (a1_1 : Int) (a1_2 : List (Int)) (a2_0 : Int) (a2_1 : Int) (a2_2 : List (Int)), (fun l : List (S59) => l.length ≤ 9223372036854775807 ∧ l.length * 48 ≤ 140737488351232 ∧ ∀ x ∈ l, Ok59 x) l0 → (fun n : Int => (Lit.int .i64 n).wf = true) a1_0 → (fun n : Int => (Lit.int .i64 n).wf = true) a1_1 → (fun l : List (Int) => l.length = 24 ∧ ∀ x ∈ l, (fun n : Int => (Lit.int .u8 n).wf = true) x) a1_2 → (fun n : Int => (Lit.int .i64 n).wf = true) a2_0 → (fun n : Int => (Lit.int .i64 n).wf = true) a2_1 → (fun l : List (Int) => l.length = 24 ∧ ∀ x ∈ l, (fun n : Int => (Lit.int .u8 n).wf = true) x) a2_2 → provisolaw03_FramesMeets.Facts l0 a1_0 a1_1 a1_2 a2_0 a2_1 a2_2
end Go.Proofs.Ytgjnmpgmbhbbhaa.P

end

section
namespace Go.Proofs.Ytgjnmpgmbhbbhaa.P
open Go.RowKit Go.Proofs.YtgjnmpgmbhbbhaaW.PrintWords Go.Proofs.YtgjnmpgmbhbbhaaW.PrintLast Go.Proofs.YtgjnmpgmbhbbhaaW.PrintMore
set_option linter.unusedVariables false
set_option linter.unusedSimpArgs false

theorem w_next {i : Int} {n : Nat} (h0 : 0 ≤ i) (h : i < (n : Int)) (hn : n ≤ 9223372036854775807) : wrap64 (i + 1) = i + 1 := by
  unfold wrap64
  omega

def sign (i c : Int) : Bool :=
  (decide (97 ≤ c) && decide (c ≤ 122)) || (decide (65 ≤ c) && decide (c ≤ 90)) || (decide (0 < i) && ((decide (48 ≤ c) && decide (c ≤ 57)) || decide (c = 95)))
def tailOk (s : ByteArray) : Nat → Bool
  | 0 => true
  | d + 1 => sign ((s.size : Int) - (d + 1)) (bt s ((s.size : Int) - (d + 1))) && tailOk s d
def nameOk (s : ByteArray) : Bool := decide (1 ≤ s.size) && decide (s.size ≤ 24) && tailOk s s.size
theorem ref_name_tail (s : ByteArray) (hn : s.size ≤ 140737488351232) (d : Nat) : ∀ (i : Int), 0 ≤ i → i ≤ s.size → (s.size : Int) - i = d → Ev (fun k => provisoref02_IsName.l0 k s i) (tailOk s d) := by
  induction d with
  | zero =>
    intro i h0 h1 hd
    exact Ev.step (f := fun _ => some true) (fun k => by simp only [provisoref02_IsName.l0]; rw [if_neg (by omega)]) (Ev.now _)
  | succ d ih =>
    intro i h0 h1 hd
    have hlt : i < (s.size : Int) := by omega
    have hi : (s.size : Int) - (d + 1) = i := by omega
    have h := ih (i + 1) (by omega) (by omega) (by omega)
    cases hs : sign i (bt s i) with
    | true =>
      refine Ev.step (fun k => ?_) (show Ev _ (tailOk s (d + 1)) from by simp only [tailOk, hi, hs, Bool.true_and]; exact h)
      simp only [provisoref02_IsName.l0]
      rw [if_pos hlt, if_pos h0, w_next h0 hlt (by omega)]
      revert hs
      generalize bt s i = c
      intro hs
      by_cases a1 : 97 ≤ c <;> by_cases a2 : c ≤ 122 <;> by_cases a3 : 65 ≤ c <;> by_cases a4 : c ≤ 90 <;> by_cases a5 : i = 0 <;> by_cases a6 : c < 48 <;> by_cases a7 : 57 < c <;> by_cases a8 : c = 95 <;> (try omega) <;> (have a9 : 0 < i ∨ i = 0 := by omega) <;> simp [sign, a1, a2, a3, a4, a5, a6, a7, a8] at hs ⊢ <;> omega
    | false =>
      refine Ev.step (f := fun _ => some false) (fun k => ?_) (show Ev _ (tailOk s (d + 1)) from by simp only [tailOk, hi, hs, Bool.false_and]; exact Ev.now _)
      simp only [provisoref02_IsName.l0]
      rw [if_pos hlt, if_pos h0, w_next h0 hlt (by omega)]
      revert hs
      generalize bt s i = c
      intro hs
      by_cases a1 : 97 ≤ c <;> by_cases a2 : c ≤ 122 <;> by_cases a3 : 65 ≤ c <;> by_cases a4 : c ≤ 90 <;> by_cases a5 : i = 0 <;> by_cases a6 : c < 48 <;> by_cases a7 : 57 < c <;> by_cases a8 : c = 95 <;> (try omega) <;> (have a9 : 0 < i ∨ i = 0 := by omega) <;> simp [sign, a1, a2, a3, a4, a5, a6, a7, a8] at hs ⊢ <;> omega
theorem ref_name (s : ByteArray) (hn : s.size ≤ 140737488351232) : Ev (fun k => provisoref02_IsName.f k s) (nameOk s) := by
  have h := ref_name_tail s hn s.size 0 (by omega) (by omega) (by omega)
  by_cases a1 : (s.size : Int) < 1
  · have e : nameOk s = false := by unfold nameOk; rw [decide_eq_false (by omega)]; simp
    rw [e]
    refine Ev.congr (f := fun k => provisoref02_IsName.j0 k s true) (fun k => by unfold provisoref02_IsName.f; rw [if_pos a1]) ?_
    exact Ev.step (f := fun _ => some false) (fun k => by simp only [provisoref02_IsName.j0]; rfl) (Ev.now _)
  · refine Ev.congr (f := fun k => provisoref02_IsName.j0 k s (decide ((s.size : Int) > 24))) (fun k => by unfold provisoref02_IsName.f; rw [if_neg a1]) ?_
    by_cases a2 : (s.size : Int) > 24
    · have e : nameOk s = false := by unfold nameOk; rw [decide_eq_false (p := s.size ≤ 24) (by omega)]; simp
      rw [e]
      exact Ev.step (f := fun _ => some false) (fun k => by simp only [provisoref02_IsName.j0]; simp [a2]) (Ev.now _)
    · have e : nameOk s = tailOk s s.size := by unfold nameOk; rw [decide_eq_true (p := s.size ≤ 24) (by omega), decide_eq_true (p := 1 ≤ s.size) (by omega)]; simp
      rw [e]
      exact Ev.step (fun k => by simp only [provisoref02_IsName.j0]; simp [a2]) h

theorem str_eq (a b : ByteArray) : a.toList = b.toList ↔ a = b :=
  ⟨fun h => by rw [ByteArray.toList_eq, ByteArray.toList_eq] at h; exact Go.WideShapes.bytes_inj h, fun h => by rw [h]⟩
def words6 : List ByteArray := [⟨#[116, 111, 112]⟩, ⟨#[105, 110, 116]⟩, ⟨#[98, 111, 111, 108]⟩, ⟨#[110, 117, 108, 108]⟩, ⟨#[105, 110, 116, 115]⟩, ⟨#[97, 110, 121]⟩]
def isWordB (s : ByteArray) : Bool := words6.any fun t => decide (t = s)
theorem ref_word (s : ByteArray) : Ev (fun k => provisoref02_isWord.f k s) (isWordB s) := by
  have step : ∀ (x : Int) (t : ByteArray) (r : Bool), 0 ≤ x → x ≤ 5 → provisoref02_word.f x = some t → Ev (fun k => provisoref02_isWord.l0 k s (x + 1)) r → Ev (fun k => provisoref02_isWord.l0 k s x) (decide (t = s) || r) := by
    intro x t r h0 h5 ht h
    by_cases e : t = s
    · rw [decide_eq_true e, Bool.true_or]
      exact Ev.step (f := fun _ => some true) (fun k => by simp only [provisoref02_isWord.l0]; rw [if_pos (by omega), ht]; simp [e]) (Ev.now _)
    · rw [decide_eq_false e, Bool.false_or]
      refine Ev.step (fun k => ?_) h
      simp only [provisoref02_isWord.l0]
      rw [if_pos (by omega), ht]
      simp only [Option.bind_some, str_eq]
      rw [if_neg e, show (x + 1) % 256 = x + 1 from by omega]
  have h6 : Ev (fun k => provisoref02_isWord.l0 k s 6) false := Ev.step (f := fun _ => some false) (fun k => by simp only [provisoref02_isWord.l0]; rw [if_neg (by omega)]) (Ev.now _)
  have h := step 0 _ _ (by omega) (by omega) rfl (step 1 _ _ (by omega) (by omega) rfl (step 2 _ _ (by omega) (by omega) rfl (step 3 _ _ (by omega) (by omega) rfl (step 4 _ _ (by omega) (by omega) rfl (step 5 _ _ (by omega) (by omega) rfl h6)))))
  exact h

abbrev Tbl := List S59
def par (l : Tbl) (c : Int) : Int := (rd_T59 l c).f1
def nam (l : Tbl) (c : Int) : ByteArray := (rd_T59 l c).f0
def own (l : Tbl) (c : Int) : List S62 := (rd_T59 l c).f2
def Dec (l : Tbl) (n : Int) : Prop := ∀ i : Int, 0 ≤ i → i < n → par l i < i
def fieldsOf (l : Tbl) (c : Int) : List S62 := (climbL l c).reverse.flatMap fun i => own l i
theorem line_tells (l : Tbl) (n : Int) (hn : n ≤ l.length) (hl : l.length * 48 ≤ 140737488351232) (hd : Dec l n) : ∀ (d : Nat) (c : Int) (acc : List Int), c < n → (c + 1).toNat ≤ d → (acc.length : Int) + c < l.length → acc.length ≤ l.length →
    Ev (fun k => provisoref02_Line.l0 k l c acc) (acc ++ climbL l c)
  | 0, c, acc, _, h, _, _ => by
    rw [climbL_out l c (by omega), List.append_nil]
    exact Ev.step (f := fun _ => some acc) (fun k => by simp only [provisoref02_Line.l0]; rw [if_neg (by omega)]) (Ev.now _)
  | d + 1, c, acc, hc, hcd, ha, ha2 => by
    by_cases h0 : 0 ≤ c
    · have hp := hd c h0 hc
      have hcl : c < (l.length : Int) := by omega
      rw [climbL_in l c h0 hcl hp]
      have hx := line_tells l n hn hl hd d (par l c) (acc ++ [c]) (by omega) (by omega) (by simp; omega) (by simp; omega)
      rw [List.append_assoc] at hx
      refine Ev.step (fun k => ?_) hx
      simp only [provisoref02_Line.l0]
      rw [if_pos h0, if_pos hcl, if_pos (by omega), if_pos (by omega), if_pos h0]
      rfl
    · rw [climbL_out l c (by omega), List.append_nil]
      exact Ev.step (f := fun _ => some acc) (fun k => by simp only [provisoref02_Line.l0]; rw [if_neg (by omega)]) (Ev.now _)
theorem ref_line (l : Tbl) (n : Int) (hn : n ≤ l.length) (hl : l.length * 48 ≤ 140737488351232) (hd : Dec l n) (c : Int) (hc : c < n) : Ev (fun k => provisoref02_Line.f k l c) (climbL l c) := by
  by_cases h0 : l.length = 0
  · rw [climbL_out l c (by omega)]
    refine Ev.congr (f := fun k => provisoref02_Line.l0 k l c []) (fun k => rfl) ?_
    exact Ev.step (f := fun _ => some []) (fun k => by simp only [provisoref02_Line.l0]; rw [if_neg (by omega)]) (Ev.now _)
  · have := line_tells l n hn hl hd (c + 1).toNat c [] hc (Nat.le_refl _) (by simp; omega) (by simp)
    rw [List.nil_append] at this
    exact this
theorem fields_tells (l : Tbl) (line : List Int) (hm : ∀ x ∈ line, 0 ≤ x ∧ x < (l.length : Int)) (hl : l.length * 48 ≤ 140737488351232) (hll : line.length ≤ l.length) (hlim : (line.reverse.flatMap fun i => own l i).length < 5864062014805) : ∀ (d : Nat), d ≤ line.length →
    Ev (fun k => provisoref02_Fields.l0 k l line ((line.drop d).reverse.flatMap fun i => own l i) ((d : Int) - 1)) (line.reverse.flatMap fun i => own l i)
  | 0, _ => by
    rw [List.drop_zero]
    exact Ev.step (f := fun _ => some _) (fun k => by simp only [provisoref02_Fields.l0]; rw [if_neg (by omega)]) (Ev.now _)
  | d + 1, hd => by
    have ih := fields_tells l line hm hl hll hlim d (by omega)
    have hrd : rd line ((d : Nat) : Int) = line[d]'(by omega) := by simp [rd, List.getD_eq_getElem?_getD, show d < line.length by omega]
    have hmd := hm (line[d]'(by omega)) (List.getElem_mem _)
    have e1 : ((line.drop d).reverse.flatMap fun i => own l i) = ((line.drop (d + 1)).reverse.flatMap fun i => own l i) ++ own l (line[d]'(by omega)) := by
      rw [List.drop_eq_getElem_cons (by omega), List.reverse_cons, List.flatMap_append]
      simp
    have hle : ((line.drop d).reverse.flatMap fun i => own l i).length ≤ (line.reverse.flatMap fun i => own l i).length := by
      have : line = line.take d ++ line.drop d := by simp
      conv => rhs; rw [this, List.reverse_append, List.flatMap_append, List.length_append]
      omega
    rw [e1] at ih hle
    rw [List.length_append] at hle
    refine Ev.step (fun k => ?_) ih
    simp only [provisoref02_Fields.l0]
    rw [show ((d + 1 : Nat) : Int) - 1 = (d : Int) by omega, hrd, if_pos (by omega), if_pos (by omega), if_pos (by omega), if_pos hmd.1, if_pos hmd.2]
    rw [if_pos (by unfold own at hle hlim ⊢; omega), show wrap64 ((d : Int) - 1) = (d : Int) - 1 by unfold wrap64; omega]
    rfl
theorem ref_fields (l : Tbl) (n : Int) (hn : n ≤ l.length) (hl : l.length * 48 ≤ 140737488351232) (hd : Dec l n) (c : Int) (hc : c < n) (hlim : (fieldsOf l c).length < 5864062014805) : Ev (fun k => provisoref02_Fields.f k l c) (fieldsOf l c) := by
  have hll := climbL_length l c
  have h := fields_tells l (climbL l c) (climbL_mem l c) hl hll hlim (climbL l c).length (Nat.le_refl _)
  rw [List.drop_length, List.reverse_nil, List.flatMap_nil] at h
  refine Ev.congr (fun k => rfl) (Ev.bind (ref_line l n hn hl hd c hc) (f := fun k t => provisoref02_Fields.l0 k l t [] (wrap64 ((t.length : Int) - 1))) ?_)
  rw [show wrap64 (((climbL l c).length : Int) - 1) = ((climbL l c).length : Int) - 1 by unfold wrap64; omega]
  exact h

def hasB (fs : List S62) (s : ByteArray) : Bool := fs.any fun f => decide (f.f0 = s)
theorem has_tells (fs : List S62) (s : ByteArray) (hl : fs.length ≤ 9223372036854775807) : ∀ (d i : Nat), fs.length - i = d → i ≤ fs.length → Ev (fun k => provisoref02_has.l0 k fs s (i : Int)) (hasB (fs.drop i) s)
  | 0, i, hd, hi => by
    rw [List.drop_of_length_le (by omega)]
    exact Ev.step (f := fun _ => some false) (fun k => by simp only [provisoref02_has.l0]; rw [if_neg (by omega)]) (Ev.now _)
  | d + 1, i, hd, hi => by
    have ih := has_tells fs s hl d (i + 1) (by omega) (by omega)
    have hlt : i < fs.length := by omega
    have hrd : rd_T62 fs ((i : Nat) : Int) = fs[i] := by simp [rd_T62, List.getD_eq_getElem?_getD, hlt]
    rw [List.drop_eq_getElem_cons hlt]
    by_cases e : fs[i].f0 = s
    · have e2 : hasB (fs[i] :: fs.drop (i + 1)) s = true := by unfold hasB; rw [List.any_cons, decide_eq_true e, Bool.true_or]
      rw [e2]
      exact Ev.step (f := fun _ => some true) (fun k => by simp only [provisoref02_has.l0]; rw [if_pos (by omega), if_pos (by omega), hrd]; simp [e]) (Ev.now _)
    · have e2 : hasB (fs[i] :: fs.drop (i + 1)) s = hasB (fs.drop (i + 1)) s := by unfold hasB; rw [List.any_cons, decide_eq_false e, Bool.false_or]
      rw [e2]
      refine Ev.step (fun k => ?_) ih
      simp only [provisoref02_has.l0]
      rw [if_pos (by omega), if_pos (by omega), hrd, if_neg (by rw [str_eq]; exact e), w_next (n := fs.length) (by omega) (by omega) hl]
      rfl
theorem ref_has (fs : List S62) (s : ByteArray) (hl : fs.length ≤ 9223372036854775807) : Ev (fun k => provisoref02_has.f k fs s) (hasB fs s) := by
  have := has_tells fs s hl fs.length 0 (by omega) (by omega)
  rw [List.drop_zero] at this
  exact this
def validB (l : Tbl) (a : Int) : Bool := decide (a ≤ 5) || (decide (16 ≤ a) && decide (a - 16 < (l.length : Int)))
theorem ref_valid (l : Tbl) (a : Int) (ha : 0 ≤ a ∧ a ≤ 255) : provisoref02_Valid.f l a = some (validB l a) := by
  unfold provisoref02_Valid.f validB
  by_cases h1 : a ≤ 5
  · simp [h1]
  · by_cases h2 : a ≥ 16
    · rw [if_neg h1, if_pos h2, show (a - 16) % 256 = a - 16 by omega]
      simp [h1, h2]
    · rw [if_neg h1, if_neg h2]
      simp [h1, h2]
def storedB (l : Tbl) (a : Int) : Bool := validB l a && decide (a ≠ 0) && decide (a ≠ 3)
theorem ref_stored (l : Tbl) (a : Int) (ha : 0 ≤ a ∧ a ≤ 255) : provisoref02_Stored.f l a = some (storedB l a) := by
  unfold provisoref02_Stored.f storedB
  rw [ref_valid l a ha]
  simp only [Option.bind_some]
  cases validB l a <;> by_cases h0 : a = 0 <;> by_cases h3 : a = 3 <;> simp [h0, h3]
end Go.Proofs.Ytgjnmpgmbhbbhaa.P


end

section
namespace Go.Proofs.Ytgjnmpgmbhbbhaa.P
open Go.RowKit Go.Proofs.YtgjnmpgmbhbbhaaW.PrintWords Go.Proofs.YtgjnmpgmbhbbhaaW.PrintLast Go.Proofs.YtgjnmpgmbhbbhaaW.PrintMore
set_option linter.unusedVariables false
set_option linter.unusedSimpArgs false

def Sane (l : Tbl) : Prop := l.length ≤ 9223372036854775807 ∧ l.length * 48 ≤ 140737488351232 ∧ ∀ x ∈ l, Ok59 x
theorem rd_mem (l : Tbl) (c : Int) (h0 : 0 ≤ c) (h1 : c < (l.length : Int)) : rd_T59 l c ∈ l := by
  have h : c.toNat < l.length := by omega
  simp [rd_T59, List.getD_eq_getElem?_getD, h]
theorem Sane.size {l : Tbl} (h : Sane l) : l.length ≤ 2932031007320 := by have := h.2.1; omega
theorem Sane.nam {l : Tbl} (h : Sane l) {c : Int} (h0 : 0 ≤ c) (h1 : c < (l.length : Int)) : (nam l c).size ≤ 140737488351232 := (h.2.2 _ (rd_mem l c h0 h1)).1
theorem Sane.par {l : Tbl} (h : Sane l) {c : Int} (h0 : 0 ≤ c) (h1 : c < (l.length : Int)) : -9223372036854775808 ≤ par l c ∧ par l c ≤ 9223372036854775807 := by
  have := (h.2.2 _ (rd_mem l c h0 h1)).2.1
  simp [Lit.wf, IntKind.min, IntKind.max, IntKind.signed, IntKind.bits] at this
  exact this
theorem Sane.own {l : Tbl} (h : Sane l) {c : Int} (h0 : 0 ≤ c) (h1 : c < (l.length : Int)) : (own l c).length * 24 ≤ 140737488351232 ∧ ∀ x ∈ own l c, x.f0.size ≤ 140737488351232 ∧ (0 ≤ x.f1 ∧ x.f1 ≤ 255) := by
  obtain ⟨_, h2, h3⟩ := (h.2.2 _ (rd_mem l c h0 h1)).2.2
  refine ⟨h2, fun x hx => ⟨(h3 x hx).1, ?_⟩⟩
  have := (h3 x hx).2
  simp [Lit.wf, IntKind.min, IntKind.max, IntKind.signed, IntKind.bits] at this
  exact this

theorem nam_eq (l : Tbl) (i : Int) (s : ByteArray) : (rd_T59 l i).f0.toList = s.toList ↔ nam l i = s := str_eq _ _

def fieldFaultFrom (l : Tbl) (all fs : List S62) : Nat → Nat → Int
  | 0, _ => if (fs.length : Int) > 32 - (all.length : Int) then 4 else 0
  | d + 1, i => if nameOk (rd_T62 fs i).f0 = true then (if hasB all (rd_T62 fs i).f0 = true then 20 else if hasB (fs.take i) (rd_T62 fs i).f0 = true then 20 else if storedB l (rd_T62 fs i).f1 = true then fieldFaultFrom l all fs d (i + 1) else 22) else 6
def fieldFault (l : Tbl) (all fs : List S62) : Int := fieldFaultFrom l all fs fs.length 0
def aheadFrom (l : Tbl) (c : Int) : Nat → Bool
  | 0 => false
  | d + 1 => decide (nam l (c - (d + 1)) = nam l c) || aheadFrom l c d
def aheadB (l : Tbl) (c : Int) : Bool := aheadFrom l c c.toNat
def parFault (l : Tbl) (c : Int) : Int := if par l c < -1 then 21 else if par l c ≥ c then 21 else fieldFault l (fieldsOf l (par l c)) (own l c)
def faultB (l : Tbl) (c : Int) : Int :=
  if c ≥ 32 then 4 else if nameOk (nam l c) = true then (if isWordB (nam l c) = true then 6 else if aheadB l c = true then 20 else parFault l c) else 6

theorem fields_fault (l : Tbl) (all fs : List S62) (h1 : all.length ≤ 5864062014805) (h2 : fs.length * 24 ≤ 140737488351232) (h3 : ∀ x ∈ fs, x.f0.size ≤ 140737488351232 ∧ (0 ≤ x.f1 ∧ x.f1 ≤ 255)) (nm : ByteArray) (pr : Int) : ∀ (d i : Nat), fs.length - i = d → i ≤ fs.length →
    Ev (fun k => provisoref02_fault.l1 k l all (i : Int) nm pr fs) (fieldFaultFrom l all fs d i)
  | 0, i, hd, hi => by
    unfold fieldFaultFrom
    refine Ev.step (f := fun _ => some _) (fun k => ?_) (Ev.now _)
    simp only [provisoref02_fault.l1]
    rw [if_neg (by omega), show wrap64 (32 - (all.length : Int)) = 32 - (all.length : Int) by unfold wrap64; omega]
    split <;> rfl
  | d + 1, i, hd, hi => by
    have hlt : i < fs.length := by omega
    have hrd : rd_T62 fs ((i : Nat) : Int) = fs[i] := by simp [rd_T62, List.getD_eq_getElem?_getD, hlt]
    obtain ⟨hs, ht⟩ := h3 fs[i] (List.getElem_mem _)
    have ih := fields_fault l all fs h1 h2 h3 nm pr d (i + 1) (by omega) (by omega)
    unfold fieldFaultFrom
    rw [hrd]
    refine Ev.step (fun k => by simp only [provisoref02_fault.l1]; rw [if_pos (by omega), if_pos (by omega), hrd]) ?_
    refine Ev.bind (f := fun k t => if t = true then _ else _) (ref_name _ hs) ?_
    cases nameOk fs[i].f0 with
    | false => exact Ev.now _
    | true =>
      refine Ev.bind (f := fun k t => if t = true then _ else _) (ref_has all _ (by omega)) ?_
      cases hasB all fs[i].f0 with
      | true => exact Ev.now _
      | false =>
        refine Ev.congr (f := fun k => (provisoref02_has.f k (fs.take i) fs[i].f0).bind _) (fun k => by
          show (if (i : Int) ≤ (fs.length : Int) then _ else _) = _
          rw [if_pos (by omega), Int.toNat_natCast]) ?_
        refine Ev.bind (f := fun k t => if t = true then _ else _) (ref_has (fs.take i) _ (by simp; omega)) ?_
        cases hasB (fs.take i) fs[i].f0 with
        | true => exact Ev.now _
        | false =>
          refine Ev.congr (f := fun k => if storedB l fs[i].f1 = true then _ else _) (fun k => by
            show (provisoref02_Stored.f l fs[i].f1).bind _ = _
            rw [ref_stored l _ ht]
            rfl) ?_
          cases storedB l fs[i].f1 with
          | false => exact Ev.now _
          | true =>
            refine Ev.congr (fun k => ?_) ih
            show provisoref02_fault.l1 k l all (wrap64 ((i : Int) + 1)) nm pr fs = _
            rw [w_next (n := fs.length) (by omega) (by omega) (by omega)]
            rfl
theorem par_fault (l : Tbl) (hs : Sane l) (c : Int) (h0 : 0 ≤ c) (h1 : c < (l.length : Int)) (hd : Dec l c) (hlim : ∀ p : Int, -1 ≤ p → p < c → (fieldsOf l p).length ≤ 32) :
    Ev (fun k => provisoref02_fault.l0 k l c c (nam l c) (par l c) (own l c)) (parFault l c) := by
  unfold parFault
  have hj : Ev (fun k => provisoref02_fault.j2 k l true (nam l c) (par l c) (own l c)) 21 := Ev.step (f := fun _ => some 21) (fun k => by simp only [provisoref02_fault.j2]; rfl) (Ev.now _)
  by_cases p1 : par l c < -1
  · rw [if_pos p1]
    exact Ev.step (fun k => by simp only [provisoref02_fault.l0]; rw [if_neg (by omega), if_pos p1]) hj
  · rw [if_neg p1]
    by_cases p2 : par l c ≥ c
    · rw [if_pos p2]
      exact Ev.step (fun k => by simp only [provisoref02_fault.l0]; rw [if_neg (by omega), if_neg p1, decide_eq_true p2]) hj
    · rw [if_neg p2]
      refine Ev.step (f := fun k => provisoref02_fault.j2 k l false (nam l c) (par l c) (own l c)) (fun k => by simp only [provisoref02_fault.l0]; rw [if_neg (by omega), if_neg p1, decide_eq_false p2]) ?_
      have hlp := hlim (par l c) (by omega) (by omega)
      refine Ev.step (f := fun k => (provisoref02_Fields.f k l (par l c)).bind fun t => provisoref02_fault.l1 k l t 0 (nam l c) (par l c) (own l c)) (fun k => by simp only [provisoref02_fault.j2]; rfl) ?_
      refine Ev.bind (f := fun k t => provisoref02_fault.l1 k l t 0 (nam l c) (par l c) (own l c)) (ref_fields l c (by omega) hs.2.1 hd (par l c) (by omega) (by omega)) ?_
      exact fields_fault l _ (own l c) (by omega) (hs.own h0 h1).1 (hs.own h0 h1).2 _ _ _ 0 (by omega) (by omega)
theorem ahead_fault (l : Tbl) (hs : Sane l) (c : Int) (h0 : 0 ≤ c) (h1 : c < (l.length : Int)) (hd : Dec l c) (hlim : ∀ p : Int, -1 ≤ p → p < c → (fieldsOf l p).length ≤ 32) : ∀ (d : Nat), (d : Int) ≤ c →
    Ev (fun k => provisoref02_fault.l0 k l c (c - d) (nam l c) (par l c) (own l c)) (if aheadFrom l c d = true then 20 else parFault l c)
  | 0, _ => by
    have := par_fault l hs c h0 h1 hd hlim
    simpa [aheadFrom] using this
  | d + 1, hdc => by
    have ih := ahead_fault l hs c h0 h1 hd hlim d (by omega)
    have hsz := hs.size
    have e1 : c - ((d : Int) + 1) + 1 = c - d := by omega
    by_cases e : nam l (c - ((d : Int) + 1)) = nam l c
    · have e2 : aheadFrom l c (d + 1) = true := by unfold aheadFrom; rw [decide_eq_true e, Bool.true_or]
      rw [e2, if_pos rfl]
      refine Ev.step (f := fun _ => some 20) (fun k => ?_) (Ev.now _)
      show provisoref02_fault.l0 (k + 1) l c (c - ((d : Int) + 1)) (nam l c) (par l c) (own l c) = _
      simp only [provisoref02_fault.l0]
      rw [if_pos (by omega), if_pos (by omega), if_pos (by omega), if_pos ((nam_eq l _ _).mpr e)]
    · have e2 : aheadFrom l c (d + 1) = aheadFrom l c d := by conv => lhs; unfold aheadFrom
                                                              rw [decide_eq_false e, Bool.false_or]
      rw [e2]
      refine Ev.step (fun k => ?_) ih
      show provisoref02_fault.l0 (k + 1) l c (c - ((d : Int) + 1)) (nam l c) (par l c) (own l c) = _
      simp only [provisoref02_fault.l0]
      rw [if_pos (by omega), if_pos (by omega), if_pos (by omega), if_neg (fun h9 => e ((nam_eq l _ _).mp h9)), show wrap64 (c - ((d : Int) + 1) + 1) = c - d by rw [e1]; unfold wrap64; omega]
theorem ref_fault (l : Tbl) (hs : Sane l) (c : Int) (h0 : 0 ≤ c) (h1 : c < (l.length : Int)) (hd : Dec l c) (hlim : ∀ p : Int, -1 ≤ p → p < c → (fieldsOf l p).length ≤ 32) : Ev (fun k => provisoref02_fault.f k l c) (faultB l c) := by
  unfold faultB
  have ha := ahead_fault l hs c h0 h1 hd hlim c.toNat (by omega)
  rw [show c - (c.toNat : Int) = 0 by omega] at ha
  have hj : ∀ b : Bool, Ev (fun k => provisoref02_fault.j0 k l c b (nam l c) (par l c) (own l c)) (if b = true then 6 else if aheadB l c = true then 20 else parFault l c) := by
    intro b
    cases b with
    | true => exact Ev.step (f := fun _ => some 6) (fun k => by simp only [provisoref02_fault.j0]; rfl) (Ev.now _)
    | false => exact Ev.step (fun k => by simp only [provisoref02_fault.j0]; rfl) ha
  by_cases h32 : c ≥ 32
  · rw [if_pos h32]
    exact Ev.congr (f := fun _ => some 4) (fun k => by unfold provisoref02_fault.f; rw [if_pos h0, if_pos h1, if_pos h32]) (Ev.now _)
  · rw [if_neg h32]
    refine Ev.congr (fun k => by unfold provisoref02_fault.f; rw [if_pos h0, if_pos h1, if_neg h32]; rfl) (Ev.bind (f := fun k t => if t = true then ((provisoref02_isWord.f k (nam l c)).bind fun t119 => provisoref02_fault.j0 k l c t119 (nam l c) (par l c) (own l c)) else provisoref02_fault.j0 k l c true (nam l c) (par l c) (own l c)) (ref_name _ (hs.nam h0 h1)) ?_)
    have hjt := hj true
    cases nameOk (nam l c) with
    | false => exact hjt
    | true => exact Ev.bind (f := fun k t => provisoref02_fault.j0 k l c t (nam l c) (par l c) (own l c)) (ref_word _) (hj _)

def GoodTo (l : Tbl) (n : Int) : Prop := ∀ c : Int, 0 ≤ c → c < n → faultB l c = 0
theorem field_fault_long (l : Tbl) (all fs : List S62) : ∀ (d i : Nat), fieldFaultFrom l all fs d i = 0 → (fs.length : Int) ≤ 32 - all.length
  | 0, i, h => by
    unfold fieldFaultFrom at h
    split at h <;> omega
  | d + 1, i, h => by
    unfold fieldFaultFrom at h
    split at h
    · split at h
      · omega
      · split at h
        · omega
        · split at h
          · exact field_fault_long l all fs d (i + 1) h
          · omega
    · omega
theorem fault_zero {l : Tbl} {c : Int} (h : faultB l c = 0) : c < 32 ∧ nameOk (nam l c) = true ∧ isWordB (nam l c) = false ∧ aheadB l c = false ∧ -1 ≤ par l c ∧ par l c < c ∧ fieldFault l (fieldsOf l (par l c)) (own l c) = 0 := by
  unfold faultB parFault at h
  split at h
  · omega
  · split at h
    · split at h
      · omega
      · split at h
        · omega
        · split at h
          · omega
          · split at h
            · omega
            · rename_i h1 h2 h3 h4 h5 h6
              exact ⟨by omega, h2, by simpa using h3, by simpa using h4, by omega, by omega, h⟩
    · omega
theorem GoodTo.dec {l : Tbl} {n : Int} (h : GoodTo l n) : Dec l n := fun i h0 h1 => (fault_zero (h i h0 h1)).2.2.2.2.2.1
theorem fieldsOf_in (l : Tbl) (c : Int) (h0 : 0 ≤ c) (h1 : c < (l.length : Int)) (h2 : par l c < c) : fieldsOf l c = fieldsOf l (par l c) ++ own l c := by
  unfold fieldsOf
  rw [climbL_in l c h0 h1 h2, List.reverse_cons, List.flatMap_append]
  simp [par]
theorem fieldsOf_out (l : Tbl) (c : Int) (h : ¬ (0 ≤ c ∧ c < (l.length : Int))) : fieldsOf l c = [] := by
  unfold fieldsOf
  rw [climbL_out l c h]
  rfl
theorem GoodTo.fields {l : Tbl} {n : Int} (hn : n ≤ l.length) (h : GoodTo l n) (c : Int) (hc : c < n) : (fieldsOf l c).length ≤ 32 := by
  by_cases h0 : 0 ≤ c
  · obtain ⟨_, _, _, _, h5, h6, h7⟩ := fault_zero (h c h0 hc)
    have := field_fault_long l _ _ _ _ h7
    rw [fieldsOf_in l c h0 (by omega) h6, List.length_append]
    omega
  · rw [fieldsOf_out l c (by omega)]
    simp
def checkFrom (l : Tbl) : Nat → Int → Int × Int
  | 0, _ => (0, 0)
  | d + 1, c => if faultB l c = 0 then checkFrom l d (c + 1) else (c, faultB l c)
def checkB (l : Tbl) : Int × Int := checkFrom l l.length 0
theorem check_tells (l : Tbl) (hs : Sane l) : ∀ (d : Nat) (c : Int), 0 ≤ c → (l.length : Int) - c = d → GoodTo l c → Ev (fun k => provisoref02_Check.l0 k l c) (checkFrom l d c)
  | 0, c, h0, hd, hg => by
    unfold checkFrom
    exact Ev.step (f := fun _ => some _) (fun k => by simp only [provisoref02_Check.l0]; rw [if_neg (by omega)]) (Ev.now _)
  | d + 1, c, h0, hd, hg => by
    have hf := ref_fault l hs c h0 (by omega) hg.dec (fun p hp1 hp2 => hg.fields (by omega) p hp2)
    unfold checkFrom
    refine Ev.step (fun k => by simp only [provisoref02_Check.l0]; rw [if_pos (by omega)]) (Ev.bind (f := fun k t => if t = 0 then _ else _) hf ?_)
    by_cases e : faultB l c = 0
    · rw [if_pos e]
      have hsz := hs.size
      refine Ev.congr (fun k => ?_) (check_tells l hs d (c + 1) (by omega) (by omega) (fun i hi0 hi1 => if hi : i < c then hg i hi0 hi else by rw [show i = c by omega]; exact e))
      rw [if_pos e, show wrap64 (c + 1) = c + 1 by unfold wrap64; omega]
    · rw [if_neg e]
      exact Ev.congr (f := fun _ => some _) (fun k => by rw [if_neg e]) (Ev.now _)
theorem ref_check (l : Tbl) (hs : Sane l) : Ev (fun k => provisoref02_Check.f k l) (checkB l) :=
  check_tells l hs l.length 0 (by omega) (by omega) (fun i h0 h1 => by omega)
theorem checkFrom_zero (l : Tbl) : ∀ (d : Nat) (c : Int), (checkFrom l d c).2 = 0 ↔ ∀ i : Int, c ≤ i → i < c + d → faultB l i = 0
  | 0, c => by
    constructor
    · intro _ i h1 h2; omega
    · intro _; rfl
  | d + 1, c => by
    unfold checkFrom
    split
    · rename_i e
      rw [checkFrom_zero l d (c + 1)]
      constructor
      · intro h i h1 h2
        by_cases hi : i = c
        · rw [hi]; exact e
        · exact h i (by omega) (by omega)
      · intro h i h1 h2
        exact h i (by omega) (by omega)
    · rename_i e
      constructor
      · intro h; exact absurd h e
      · intro h; exact h c (by omega) (by omega)
def Good (l : Tbl) : Prop := GoodTo l l.length
theorem good_iff (l : Tbl) : (checkB l).2 = 0 ↔ Good l := by
  unfold checkB
  rw [checkFrom_zero l l.length 0]
  unfold Good GoodTo
  simp
theorem Good.short {l : Tbl} (h : Good l) : l.length ≤ 32 := by
  rcases Nat.lt_or_ge 32 l.length with h1 | h1
  · have := (fault_zero (h 32 (by omega) (by omega))).1
    omega
  · exact h1
theorem Good.dec {l : Tbl} (h : Good l) : Dec l l.length := GoodTo.dec h
end Go.Proofs.Ytgjnmpgmbhbbhaa.P


end

section
namespace Go.Proofs.Ytgjnmpgmbhbbhaa.P
open Go.RowKit Go.Proofs.YtgjnmpgmbhbbhaaW.PrintWords Go.Proofs.YtgjnmpgmbhbbhaaW.PrintLast Go.Proofs.YtgjnmpgmbhbbhaaW.PrintMore
set_option linter.unusedVariables false
set_option linter.unusedSimpArgs false

theorem u8_of {a : Int} (h : (Lit.int .u8 a).wf = true) : 0 ≤ a ∧ a ≤ 255 := by
  simp [Lit.wf, IntKind.min, IntKind.max, IntKind.signed, IntKind.bits] at h
  exact h
theorem Good.nameOk {l : Tbl} (h : Good l) {c : Int} (h0 : 0 ≤ c) (h1 : c < (l.length : Int)) : nameOk (nam l c) = true ∧ isWordB (nam l c) = false :=
  ⟨(fault_zero (h c h0 h1)).2.1, (fault_zero (h c h0 h1)).2.2.1⟩
end Go.Proofs.Ytgjnmpgmbhbbhaa.P


end

section
namespace Go.Proofs.Ytgjnmpgmbhbbhaa.P
open Go.RowKit Go.Proofs.YtgjnmpgmbhbbhaaW.PrintWords Go.Proofs.YtgjnmpgmbhbbhaaW.PrintLast Go.Proofs.YtgjnmpgmbhbbhaaW.PrintMore
set_option linter.unusedVariables false
set_option linter.unusedSimpArgs false

theorem climb_suffix {l : Tbl} (hd : Dec l l.length) : ∀ (d : Nat) (x y : Int), (x + 1).toNat ≤ d → y ∈ climbL l x → ∃ pre, climbL l x = pre ++ climbL l y
  | 0, x, y, h, hm => by
    rw [climbL_out l x (by omega)] at hm
    cases hm
  | d + 1, x, y, h, hm => by
    by_cases hx : 0 ≤ x ∧ x < (l.length : Int)
    · have hp := hd x hx.1 hx.2
      rw [climbL_in l x hx.1 hx.2 hp] at hm ⊢
      rcases List.mem_cons.1 hm with rfl | hm
      · exact ⟨[], by rw [climbL_in l y hx.1 hx.2 hp]; rfl⟩
      · obtain ⟨pre, e⟩ := climb_suffix hd d _ y (by unfold par at hp; omega) hm
        exact ⟨x :: pre, by rw [e]; rfl⟩
    · rw [climbL_out l x hx] at hm
      cases hm
theorem climb_le {l : Tbl} (hd : Dec l l.length) : ∀ (d : Nat) (x y : Int), (x + 1).toNat ≤ d → y ∈ climbL l x → y ≤ x
  | 0, x, y, h, hm => by
    rw [climbL_out l x (by omega)] at hm
    cases hm
  | d + 1, x, y, h, hm => by
    by_cases hx : 0 ≤ x ∧ x < (l.length : Int)
    · have hp := hd x hx.1 hx.2
      rw [climbL_in l x hx.1 hx.2 hp] at hm
      rcases List.mem_cons.1 hm with rfl | hm
      · exact Int.le_refl _
      · have := climb_le hd d _ y (by unfold par at hp; omega) hm
        unfold par at hp
        omega
    · rw [climbL_out l x hx] at hm
      cases hm
theorem climb_antisymm {l : Tbl} (hd : Dec l l.length) {x y : Int} (h1 : y ∈ climbL l x) (h2 : x ∈ climbL l y) : x = y := by
  have a := climb_le hd _ x y (Nat.le_refl _) h1
  have b := climb_le hd _ y x (Nat.le_refl _) h2
  omega
theorem class_valid (l : Tbl) (a : Int) (ha : 0 ≤ a ∧ a ≤ 255) : classOf l a = if 16 ≤ a ∧ a - 16 < (l.length : Int) then a - 16 else -1 := by
  unfold classOf
  by_cases h1 : a < 16
  · rw [if_pos h1, if_neg (by omega)]
  · rw [if_neg h1, show (a - 16) % 256 = a - 16 by omega]
    by_cases h2 : a - 16 ≥ (l.length : Int)
    · rw [if_pos h2, if_neg (by omega)]
    · rw [if_neg h2, if_pos (by omega)]
theorem impl_valid (l : Tbl) (a : Int) (ha : 0 ≤ a ∧ a ≤ 255) : types_Valid.f l a = some (validB l a) := by
  unfold types_Valid.f validB
  by_cases h1 : a ≤ 5
  · simp [h1]
  · rw [if_neg h1, class_is, class_valid l a ha]
    by_cases h2 : 16 ≤ a ∧ a - 16 < (l.length : Int)
    · rw [if_pos h2]
      simp [h1, h2.1, h2.2]
    · rw [if_neg h2]
      simp [h1]
      omega
def subB (l : Tbl) (a b : Int) : Bool :=
  if validB l a = true ∧ validB l b = true then (if a = b then true else if b = 0 then true else if a = 3 ∨ b = 5 then isRefB a && isRefB b else if 0 ≤ classOf l a ∧ 0 ≤ classOf l b then decide (classOf l b ∈ climbL l (classOf l a)) else false) else false
theorem impl_sub (l : Tbl) (a b : Int) (ha : 0 ≤ a ∧ a ≤ 255) (hb : 0 ≤ b ∧ b ≤ 255) (k : Nat) : types_Sub.f (k + 3) l a b = some (subB l a b) := by
  unfold types_Sub.f subB
  rw [impl_valid l a ha, impl_valid l b hb]
  simp only [Option.bind_some, types_Sub.j0, types_Sub.j1, types_Sub.j2, isRef_is, class_is, types_above.f]
  cases validB l a with
  | false => simp
  | true =>
    cases validB l b with
    | false => simp
    | true =>
      by_cases e1 : a = b
      · simp [e1]
      · by_cases e2 : b = 0
        · simp [e1, e2]
        · by_cases e3 : a = 3
          · cases hra : isRefB a <;> cases hrb : isRefB b <;> simp [e1, e2, e3, hra, hrb] <;> simp_all
          · by_cases e5 : b = 5
            · cases hra : isRefB a <;> cases hrb : isRefB b <;> simp [e1, e2, e3, e5, hra, hrb] <;> simp_all
            · by_cases g1 : 0 ≤ classOf l a <;> by_cases g2 : 0 ≤ classOf l b <;> simp [e1, e2, e3, e5, g1, g2] <;> omega

theorem valid_cases {l : Tbl} {a : Int} (ha : 0 ≤ a ∧ a ≤ 255) (h : validB l a = true) : (a ≤ 5 ∧ classOf l a = -1) ∨ (16 ≤ a ∧ a - 16 < (l.length : Int) ∧ classOf l a = a - 16) := by
  unfold validB at h
  rw [class_valid l a ha]
  simp at h
  rcases h with h | ⟨h1, h2⟩
  · exact .inl ⟨h, by rw [if_neg (by omega)]⟩
  · exact .inr ⟨h1, by omega, by rw [if_pos (by omega)]⟩
theorem sub_iff (l : Tbl) (a b : Int) : subB l a b = true ↔ validB l a = true ∧ validB l b = true ∧ (a = b ∨ b = 0 ∨ ((a = 3 ∨ b = 5) ∧ isRefB a = true ∧ isRefB b = true) ∨ (¬ (a = 3 ∨ b = 5) ∧ 0 ≤ classOf l a ∧ 0 ≤ classOf l b ∧ classOf l b ∈ climbL l (classOf l a))) := by
  unfold subB
  by_cases h : validB l a = true ∧ validB l b = true
  · rw [if_pos h]
    by_cases e1 : a = b
    · simp [e1, h.2]
    · rw [if_neg e1]
      by_cases e2 : b = 0
      · simp [e2, h.1]
        rw [← e2]; exact h.2
      · rw [if_neg e2]
        by_cases e3 : a = 3 ∨ b = 5
        · rw [if_pos e3]
          simp [h.1, h.2, e1, e2, e3]
        · rw [if_neg e3]
          by_cases g : 0 ≤ classOf l a ∧ 0 ≤ classOf l b
          · rw [if_pos g]
            simp [h.1, h.2, e1, e2, e3, g.1, g.2]
          · rw [if_neg g]
            simp [h.1, h.2, e1, e2, e3]
            intro g1 g2
            exact absurd ⟨g1, g2⟩ g
  · rw [if_neg h]
    simp
    intro h1 h2
    exact absurd ⟨h1, h2⟩ h
theorem isRef_iff (a : Int) : isRefB a = true ↔ a = 3 ∨ a = 4 ∨ a = 5 ∨ a ≥ 16 := by unfold isRefB; simp [or_assoc]
theorem sub_refl (l : Tbl) (a : Int) (h : validB l a = true) : subB l a a = true := (sub_iff l a a).2 ⟨h, h, .inl rfl⟩
theorem sub_antisymm {l : Tbl} (hg : Good l) {a b : Int} (ha : 0 ≤ a ∧ a ≤ 255) (hb : 0 ≤ b ∧ b ≤ 255) (h1 : subB l a b = true) (h2 : subB l b a = true) : a = b := by
  rw [sub_iff] at h1 h2
  obtain ⟨va, vb, h1⟩ := h1
  obtain ⟨_, _, h2⟩ := h2
  have ka := valid_cases ha va
  have kb := valid_cases hb vb
  rw [isRef_iff, isRef_iff] at h1 h2
  rcases h1 with rfl | rfl | ⟨p1, p2, p3⟩ | ⟨p1, p2, p3, p4⟩
  · rfl
  · rcases h2 with rfl | rfl | ⟨q1, q2, q3⟩ | ⟨q1, q2, q3, q4⟩ <;> omega
  · rcases h2 with rfl | rfl | ⟨q1, q2, q3⟩ | ⟨q1, q2, q3, q4⟩ <;> omega
  · rcases h2 with rfl | rfl | ⟨q1, q2, q3⟩ | ⟨q1, q2, q3, q4⟩
    · rfl
    · omega
    · omega
    · have := climb_antisymm hg.dec p4 q4
      omega
end Go.Proofs.Ytgjnmpgmbhbbhaa.P


end

section
namespace Go.Proofs.Ytgjnmpgmbhbbhaa.P
open Go.RowKit Go.Proofs.YtgjnmpgmbhbbhaaW.PrintWords Go.Proofs.YtgjnmpgmbhbbhaaW.PrintLast Go.Proofs.YtgjnmpgmbhbbhaaW.PrintMore
set_option linter.unusedVariables false
set_option linter.unusedSimpArgs false

def mergeB (l : Tbl) (a b : Int) : Int := if validB l a = true ∧ validB l b = true then (if subB l a b = true then b else if subB l b a = true then a else mergeUp l a b) else 0
theorem impl_merge (l : Tbl) (a b : Int) (ha : 0 ≤ a ∧ a ≤ 255) (hb : 0 ≤ b ∧ b ≤ 255) (k : Nat) : types_Merge.f (k + 3) l a b = some (mergeB l a b) := by
  unfold types_Merge.f mergeB
  rw [impl_valid l a ha, impl_valid l b hb, impl_sub l a b ha hb, impl_sub l b a hb ha]
  cases validB l a <;> cases validB l b <;> cases subB l a b <;> cases subB l b a <;> simp
theorem top_valid (l : Tbl) : validB l 0 = true := by simp [validB]
theorem sub_top (l : Tbl) (a : Int) (h : validB l a = true) : subB l a 0 = true := (sub_iff l a 0).2 ⟨h, top_valid l, .inr (.inl rfl)⟩
theorem any_valid (l : Tbl) : validB l 5 = true := by simp [validB]
theorem class_type {l : Tbl} (hg : Good l) {c : Int} (h0 : 0 ≤ c) (h1 : c < (l.length : Int)) : (16 + c) % 256 = 16 + c ∧ validB l (16 + c) = true ∧ classOf l (16 + c) = c ∧ 0 ≤ 16 + c ∧ 16 + c ≤ 255 := by
  have := hg.short
  refine ⟨by omega, by simp [validB]; omega, ?_, by omega, by omega⟩
  rw [class_valid l (16 + c) (by omega), if_pos (by omega)]
  omega
theorem merge_up {l : Tbl} (hg : Good l) {a b : Int} (ha : 0 ≤ a ∧ a ≤ 255) (hb : 0 ≤ b ∧ b ≤ 255) (va : validB l a = true) (vb : validB l b = true) (n1 : ¬ subB l a b = true) (n2 : ¬ subB l b a = true) :
    (0 ≤ mergeUp l a b ∧ mergeUp l a b ≤ 255) ∧ validB l (mergeUp l a b) = true ∧ subB l a (mergeUp l a b) = true ∧ subB l b (mergeUp l a b) = true ∧ ∀ c : Int, 0 ≤ c → c ≤ 255 → subB l a c = true → subB l b c = true → subB l (mergeUp l a b) c = true := by
  have ka := valid_cases ha va
  have kb := valid_cases hb vb
  have m1 := n1
  have m2 := n2
  rw [sub_iff] at m1 m2
  have ra := isRef_iff a
  have rb := isRef_iff b
  -- what an upper bound is
  have ub : ∀ c : Int, 0 ≤ c → c ≤ 255 → subB l a c = true → subB l b c = true → c = 0 ∨ (c = 5 ∧ isRefB a = true ∧ isRefB b = true) ∨ (0 ≤ classOf l a ∧ 0 ≤ classOf l b ∧ 0 ≤ classOf l c ∧ validB l c = true ∧ classOf l c ∈ climbL l (classOf l a) ∧ classOf l c ∈ climbL l (classOf l b) ∧ 16 ≤ c) := by
    intro c hc0 hc1 h1 h2
    have kc : validB l c = true := ((sub_iff l a c).1 h1).2.1
    have kc2 := valid_cases ⟨hc0, hc1⟩ kc
    have e1 : a ≠ c := fun e => n2 (by rw [e]; exact h2)
    have e2 : b ≠ c := fun e => n1 (by rw [e]; exact h1)
    have h1' := ((sub_iff l a c).1 h1).2.2
    have h2' := ((sub_iff l b c).1 h2).2.2
    have rc := isRef_iff c
    rcases h1' with h | h | ⟨p1, p2, p3⟩ | ⟨p1, p2, p3, p4⟩
    · exact absurd h e1
    · exact .inl h
    · rcases h2' with h | h | ⟨q1, q2, q3⟩ | ⟨q1, q2, q3, q4⟩
      · exact absurd h e2
      · exact .inl h
      · by_cases c5 : c = 5
        · exact .inr (.inl ⟨c5, p2, q2⟩)
        · exfalso
          have a3 : a = 3 := by omega
          exact m1 ⟨va, vb, .inr (.inr (.inl ⟨.inl a3, p2, q2⟩))⟩
      · exfalso
        have c5 : c ≠ 5 := by omega
        have a3 : a = 3 := by omega
        exact m1 ⟨va, vb, .inr (.inr (.inl ⟨.inl a3, p2, by rw [rb]; omega⟩))⟩
    · rcases h2' with h | h | ⟨q1, q2, q3⟩ | ⟨q1, q2, q3, q4⟩
      · exact absurd h e2
      · exact .inl h
      · exfalso
        have b3 : b = 3 := by omega
        exact m2 ⟨vb, va, .inr (.inr (.inl ⟨.inl b3, q2, by rw [ra]; omega⟩))⟩
      · exact .inr (.inr ⟨p2, q2, p3, kc, p4, q4, by omega⟩)
  unfold mergeUp
  by_cases r1 : isRefB a = true
  · rw [if_pos r1]
    by_cases r2 : isRefB b = true
    · rw [if_pos r2]
      have five : (0 ≤ (5 : Int) ∧ (5 : Int) ≤ 255) ∧ validB l 5 = true ∧ subB l a 5 = true ∧ subB l b 5 = true := ⟨by omega, any_valid l, (sub_iff l a 5).2 ⟨va, any_valid l, .inr (.inr (.inl ⟨.inr rfl, r1, by decide⟩))⟩, (sub_iff l b 5).2 ⟨vb, any_valid l, .inr (.inr (.inl ⟨.inr rfl, r2, by decide⟩))⟩⟩
      have fiveLeast : (¬ (0 ≤ classOf l a ∧ 0 ≤ classOf l b)) → ∀ c : Int, 0 ≤ c → c ≤ 255 → subB l a c = true → subB l b c = true → subB l 5 c = true := by
        intro hn c hc0 hc1 h1 h2
        rcases ub c hc0 hc1 h1 h2 with h | ⟨h, _⟩ | ⟨h, h', _⟩
        · rw [h]; exact sub_top l 5 (any_valid l)
        · rw [h]; exact sub_refl l 5 (any_valid l)
        · exact absurd ⟨h, h'⟩ hn
      by_cases g1 : 0 ≤ classOf l a
      · rw [if_pos g1]
        by_cases g2 : 0 ≤ classOf l b
        · rw [if_pos g2]
          unfold upOf
          cases hf : (climbL l (classOf l a)).find? (fun c => decide (c ∈ climbL l (classOf l b))) with
          | none =>
            refine ⟨five.1, five.2.1, five.2.2.1, five.2.2.2, fun c hc0 hc1 h1 h2 => ?_⟩
            rcases ub c hc0 hc1 h1 h2 with h | ⟨h, _⟩ | ⟨_, _, _, _, h4, h5, _⟩
            · rw [h]; exact sub_top l 5 (any_valid l)
            · rw [h]; exact sub_refl l 5 (any_valid l)
            · have := List.find?_eq_none.1 hf _ h4
              simp [h5] at this
          | some u =>
            have hu1 := List.mem_of_find?_eq_some hf
            have hu2 : u ∈ climbL l (classOf l b) := by have := List.find?_some hf; simpa using this
            obtain ⟨hu3, hu4⟩ := climbL_mem l _ u hu1
            obtain ⟨t1, t2, t3, t4, t5⟩ := class_type hg hu3 hu4
            show (0 ≤ (16 + u) % 256 ∧ (16 + u) % 256 ≤ 255) ∧ validB l ((16 + u) % 256) = true ∧ subB l a ((16 + u) % 256) = true ∧ subB l b ((16 + u) % 256) = true ∧ ∀ c : Int, 0 ≤ c → c ≤ 255 → subB l a c = true → subB l b c = true → subB l ((16 + u) % 256) c = true
            rw [t1]
            refine ⟨⟨t4, t5⟩, t2, ?_, ?_, fun c hc0 hc1 h1 h2 => ?_⟩
            · exact (sub_iff l a _).2 ⟨va, t2, .inr (.inr (.inr ⟨by omega, g1, by rw [t3]; exact hu3, by rw [t3]; exact hu1⟩))⟩
            · exact (sub_iff l b _).2 ⟨vb, t2, .inr (.inr (.inr ⟨by omega, g2, by rw [t3]; exact hu3, by rw [t3]; exact hu2⟩))⟩
            · rcases ub c hc0 hc1 h1 h2 with h | ⟨h, _⟩ | ⟨_, _, h3, h6, h4, h5, h7⟩
              · rw [h]; exact sub_top l _ t2
              · rw [h]; exact (sub_iff l _ 5).2 ⟨t2, any_valid l, .inr (.inr (.inl ⟨.inr rfl, by rw [isRef_iff]; omega, by decide⟩))⟩
              · refine (sub_iff l _ c).2 ⟨t2, h6, .inr (.inr (.inr ⟨by omega, by rw [t3]; exact hu3, h3, ?_⟩))⟩
                rw [t3]
                -- the first common one: whatever is common lies behind it
                obtain ⟨_, pre, suf, e, hpre⟩ := List.find?_eq_some_iff_append.1 hf
                obtain ⟨pre2, e2⟩ := climb_suffix hg.dec _ _ u (Nat.le_refl _) hu1
                have hnpre : classOf l c ∉ pre := fun hm => by
                  have := hpre _ hm
                  simp [h5] at this
                have hne : ¬ u ∈ pre := fun hm => by
                  have := hpre _ hm
                  simp [hu2] at this
                rw [e] at h4
                rcases List.mem_append.1 h4 with h4 | h4
                · exact absurd h4 hnpre
                · -- u :: suf is the line of u
                  have hlen : climbL l u = u :: suf := by
                    have hin := hg.dec u hu3 hu4
                    have e3 := climbL_in l u hu3 hu4 hin
                    rw [e] at e2
                    rw [e3] at e2 ⊢
                    -- both split at u's one place
                    have hnod : ∀ (p q s t : List Int), p ++ u :: s = q ++ u :: t → ¬ u ∈ p → ¬ u ∈ s → s = t := by
                      intro p
                      induction p with
                      | nil =>
                        intro q s t he _ hs
                        cases q with
                        | nil => simpa using he
                        | cons a q =>
                          simp at he
                          exact absurd (by rw [he.2]; simp) hs
                      | cons a p ih =>
                        intro q s t he hp hs
                        cases q with
                        | nil =>
                          simp at he
                          exact absurd (by rw [← he.1]; simp) hp
                        | cons b q =>
                          simp at he
                          exact ih q s t he.2 (fun h => hp (List.mem_cons_of_mem _ h)) hs
                    have hs : ¬ u ∈ suf := by
                      intro hm
                      have hlt : ∀ (x : Int) (p s : List Int), climbL l x = p ++ u :: s → ¬ u ∈ s := by
                        intro x p
                        induction p generalizing x with
                        | nil =>
                          intro s he hm
                          by_cases hx : 0 ≤ x ∧ x < (l.length : Int)
                          · have hpx := hg.dec x hx.1 hx.2
                            rw [climbL_in l x hx.1 hx.2 hpx] at he
                            simp at he
                            have h9 : u ∈ climbL l (rd_T59 l x).f1 := by rw [he.2]; exact hm
                            have := climb_le hg.dec _ _ u (Nat.le_refl _) h9
                            unfold par at hpx
                            omega
                          · rw [climbL_out l x hx] at he
                            simp at he
                        | cons a p ih =>
                          intro s he
                          by_cases hx : 0 ≤ x ∧ x < (l.length : Int)
                          · have hpx := hg.dec x hx.1 hx.2
                            rw [climbL_in l x hx.1 hx.2 hpx] at he
                            simp at he
                            exact ih _ s he.2
                          · rw [climbL_out l x hx] at he
                            simp at he
                      exact hlt _ pre suf e hm
                    rw [hnod pre pre2 suf _ e2 hne hs]
                  rw [hlen]
                  exact h4
        · rw [if_neg g2]
          exact ⟨five.1, five.2.1, five.2.2.1, five.2.2.2, fiveLeast (fun h => g2 h.2)⟩
      · rw [if_neg g1]
        exact ⟨five.1, five.2.1, five.2.2.1, five.2.2.2, fiveLeast (fun h => g1 h.1)⟩
    · rw [if_neg r2]
      refine ⟨by omega, top_valid l, sub_top l a va, sub_top l b vb, fun c hc0 hc1 h1 h2 => ?_⟩
      rcases ub c hc0 hc1 h1 h2 with h | ⟨_, _, h⟩ | ⟨_, h, _⟩
      · rw [h]; exact sub_refl l 0 (top_valid l)
      · exact absurd h r2
      · exact absurd (rb.2 (by omega)) r2
  · rw [if_neg r1]
    refine ⟨by omega, top_valid l, sub_top l a va, sub_top l b vb, fun c hc0 hc1 h1 h2 => ?_⟩
    rcases ub c hc0 hc1 h1 h2 with h | ⟨_, h, _⟩ | ⟨h, _⟩
    · rw [h]; exact sub_refl l 0 (top_valid l)
    · exact absurd h r1
    · exact absurd (ra.2 (by omega)) r1
theorem merge_least {l : Tbl} (hg : Good l) {a b : Int} (ha : 0 ≤ a ∧ a ≤ 255) (hb : 0 ≤ b ∧ b ≤ 255) (va : validB l a = true) (vb : validB l b = true) :
    (0 ≤ mergeB l a b ∧ mergeB l a b ≤ 255) ∧ validB l (mergeB l a b) = true ∧ subB l a (mergeB l a b) = true ∧ subB l b (mergeB l a b) = true ∧ ∀ c : Int, 0 ≤ c → c ≤ 255 → subB l a c = true → subB l b c = true → subB l (mergeB l a b) c = true := by
  unfold mergeB
  rw [if_pos ⟨va, vb⟩]
  by_cases n1 : subB l a b = true
  · rw [if_pos n1]
    exact ⟨hb, vb, n1, sub_refl l b vb, fun c _ _ _ h => h⟩
  · rw [if_neg n1]
    by_cases n2 : subB l b a = true
    · rw [if_pos n2]
      exact ⟨ha, va, sub_refl l a va, n2, fun c _ _ h _ => h⟩
    · rw [if_neg n2]
      exact merge_up hg ha hb va vb n1 n2
theorem merge_self {l : Tbl} {a : Int} (va : validB l a = true) : mergeB l a a = a := by
  unfold mergeB
  rw [if_pos ⟨va, va⟩, if_pos (sub_refl l a va)]
end Go.Proofs.Ytgjnmpgmbhbbhaa.P


end

section
namespace Go.Proofs.Ytgjnmpgmbhbbhaa.P
open Go.RowKit Go.Proofs.YtgjnmpgmbhbbhaaW.PrintWords Go.Proofs.YtgjnmpgmbhbbhaaW.PrintLast Go.Proofs.YtgjnmpgmbhbbhaaW.PrintMore
set_option linter.unusedVariables false
set_option linter.unusedSimpArgs false

theorem rd_class (l : Tbl) (i : Nat) (h : i < l.length) : rd_T59 l (i : Int) = l[i] := by simp [rd_T59, List.getD_eq_getElem?_getD, h]
theorem classes_tells (l : Tbl) (hs : Sane l) : ∀ (d i : Nat), l.length - i = d → i ≤ l.length → Ev (fun k => provisoplain_Classes.l0 k (l.take i) l (l.length : Int) (i : Int)) l
  | 0, i, hd, hi => by
    have e : l.take i = l := List.take_of_length_le (by omega)
    rw [e]
    exact Ev.step (f := fun _ => some l) (fun k => by simp only [provisoplain_Classes.l0]; rw [if_neg (by omega)]) (Ev.now _)
  | d + 1, i, hd, hi => by
    have hlt : i < l.length := by omega
    have ih := classes_tells l hs d (i + 1) (by omega) (by omega)
    have hsz := hs.size
    have ho := (hs.own (c := (i : Int)) (by omega) (by omega)).1
    unfold own at ho
    refine Ev.step (fun k => ?_) ih
    simp only [provisoplain_Classes.l0]
    rw [if_pos (by omega), if_pos (by omega), if_pos (by omega)]
    unfold api_Field_41.f
    rw [if_pos (by omega)]
    simp only [Option.bind_some]
    rw [if_pos (by rw [List.length_take]; omega), rd_class l i hlt, show wrap64 ((i : Int) + 1) = ((i + 1 : Nat) : Int) by unfold wrap64; omega, List.take_succ_eq_append_getElem hlt]
theorem impl_classes (l : Tbl) (hs : Sane l) : Ev (fun k => provisoplain_Classes.f k l) l := by
  have := classes_tells l hs l.length 0 (by omega) (by omega)
  rw [List.take_zero] at this
  exact this
theorem equal_fields_self (xs : List S62) (hl : xs.length ≤ 9223372036854775807) : ∀ (d i : Nat), xs.length - i = d → i ≤ xs.length → Ev (fun k => api_Field_44.l0 k xs xs (xs.length : Int) (i : Int)) true
  | 0, i, hd, hi => Ev.step (f := fun _ => some true) (fun k => by simp only [api_Field_44.l0]; rw [if_neg (by omega)]) (Ev.now _)
  | d + 1, i, hd, hi => by
    refine Ev.step (fun k => ?_) (equal_fields_self xs hl d (i + 1) (by omega) (by omega))
    simp only [api_Field_44.l0]
    rw [if_pos (by omega), if_pos (by omega), if_pos (by omega), if_pos (by omega), if_neg (by simp), show wrap64 ((i : Int) + 1) = ((i + 1 : Nat) : Int) by unfold wrap64; omega]
theorem impl_equal_fields_self (xs : List S62) (hl : xs.length ≤ 9223372036854775807) : Ev (fun k => api_Field_44.f k xs xs) true :=
  Ev.congr (fun k => by unfold api_Field_44.f; rw [if_pos rfl]; rfl) (equal_fields_self xs hl xs.length 0 (by omega) (by omega))
theorem same_classes_self (l : Tbl) (hs : Sane l) : ∀ (d i : Nat), l.length - i = d → i ≤ l.length → Ev (fun k => provisoplain_SameClasses.l0 k l l (l.length : Int) (i : Int)) true
  | 0, i, hd, hi => Ev.step (f := fun _ => some true) (fun k => by simp only [provisoplain_SameClasses.l0]; rw [if_neg (by omega)]) (Ev.now _)
  | d + 1, i, hd, hi => by
    have hsz := hs.size
    have ho := (hs.own (c := (i : Int)) (by omega) (by omega)).1
    unfold own at ho
    refine Ev.step (fun k => by
      simp only [provisoplain_SameClasses.l0]
      rw [if_pos (by omega), if_pos (by omega), if_pos (by omega), if_pos (by omega)]
      simp only [if_true]) (Ev.bind (f := fun k t => if t = true then provisoplain_SameClasses.l0 k l l (l.length : Int) (wrap64 ((i : Int) + 1)) else some false) (impl_equal_fields_self (rd_T59 l (i : Int)).f2 (by omega)) ?_)
    refine Ev.congr (fun k => ?_) (same_classes_self l hs d (i + 1) (by omega) (by omega))
    rw [if_pos rfl, show wrap64 ((i : Int) + 1) = ((i + 1 : Nat) : Int) by unfold wrap64; omega]
theorem impl_same_classes (l : Tbl) (hs : Sane l) : Ev (fun k => provisoplain_SameClasses.f k l l) true :=
  Ev.congr (fun k => by unfold provisoplain_SameClasses.f; rw [if_pos rfl]; rfl) (same_classes_self l hs l.length 0 (by omega) (by omega))

theorem ref_isRef (a : Int) : provisoref02_IsRef.f a = some (isRefB a) := by
  unfold provisoref02_IsRef.f isRefB
  by_cases h3 : a = 3 <;> by_cases h4 : a = 4 <;> by_cases h5 : a = 5 <;> simp [h3, h4, h5]
theorem sub_search (b : Int) (hb : 16 ≤ b ∧ b ≤ 255) (line : List Int) (hl : line.length ≤ 2932031007320) : ∀ (d i : Nat), line.length - i = d → i ≤ line.length → Ev (fun k => provisoref02_Sub.l0 k b line (i : Int)) (decide (b - 16 ∈ line.drop i))
  | 0, i, hd, hi => by
    rw [List.drop_of_length_le (by omega)]
    exact Ev.step (f := fun _ => some _) (fun k => by simp only [provisoref02_Sub.l0]; rw [if_neg (by omega)]; simp) (Ev.now _)
  | d + 1, i, hd, hi => by
    have hlt : i < line.length := by omega
    have hrd : rd line ((i : Nat) : Int) = line[i] := by simp [rd, List.getD_eq_getElem?_getD, hlt]
    have ih := sub_search b hb line hl d (i + 1) (by omega) (by omega)
    by_cases e : line[i] = b - 16
    · have e2 : decide (b - 16 ∈ line.drop i) = true := by rw [List.drop_eq_getElem_cons hlt]; simp [e]
      rw [e2]
      exact Ev.step (f := fun _ => some true) (fun k => by simp only [provisoref02_Sub.l0]; rw [if_pos (by omega), if_pos (by omega), hrd, if_pos (by omega)]) (Ev.now _)
    · have e2 : decide (b - 16 ∈ line.drop i) = decide (b - 16 ∈ line.drop (i + 1)) := by
        rw [List.drop_eq_getElem_cons hlt]
        have e3 : ¬ (b - 16 = line[i]) := fun h => e h.symm
        by_cases h : b - 16 ∈ line.drop (i + 1)
        · rw [decide_eq_true h, decide_eq_true (List.mem_cons_of_mem _ h)]
        · rw [decide_eq_false h, decide_eq_false (fun hm => (List.mem_cons.1 hm).elim e3 h)]
      rw [e2]
      refine Ev.step (fun k => ?_) ih
      simp only [provisoref02_Sub.l0]
      rw [if_pos (by omega), if_pos (by omega), hrd, if_neg (by omega), show wrap64 ((i : Int) + 1) = ((i + 1 : Nat) : Int) by unfold wrap64; omega]
theorem ref_sub (l : Tbl) (hs : Sane l) (hg : Good l) (a b : Int) (ha : 0 ≤ a ∧ a ≤ 255) (hb : 0 ≤ b ∧ b ≤ 255) : Ev (fun k => provisoref02_Sub.f k l a b) (subB l a b) := by
  have j0 : Ev (fun k => provisoref02_Sub.j0 k l a b true) false := Ev.step (f := fun _ => some false) (fun k => by simp only [provisoref02_Sub.j0]; rfl) (Ev.now _)
  have j1 : Ev (fun k => provisoref02_Sub.j1 k l a b true) true := Ev.step (f := fun _ => some true) (fun k => by simp only [provisoref02_Sub.j1]; rfl) (Ev.now _)
  have j2 : Ev (fun k => provisoref02_Sub.j2 k l a b true) false := Ev.step (f := fun _ => some false) (fun k => by simp only [provisoref02_Sub.j2]; rfl) (Ev.now _)
  unfold subB
  cases va : validB l a with
  | false =>
    rw [if_neg (by simp)]
    exact Ev.congr (fun k => by unfold provisoref02_Sub.f; rw [ref_valid l a ha, va]; rfl) j0
  | true =>
    cases vb : validB l b with
    | false =>
      rw [if_neg (by simp)]
      exact Ev.congr (fun k => by unfold provisoref02_Sub.f; rw [ref_valid l a ha, va, ref_valid l b hb, vb]; rfl) j0
    | true =>
      rw [if_pos ⟨rfl, rfl⟩]
      refine Ev.congr (f := fun k => provisoref02_Sub.j0 k l a b false) (fun k => by unfold provisoref02_Sub.f; rw [ref_valid l a ha, va, ref_valid l b hb, vb]; rfl) ?_
      by_cases e1 : a = b
      · rw [if_pos e1]
        exact Ev.step (fun k => by simp only [provisoref02_Sub.j0]; rw [if_neg (by simp), if_pos e1]) j1
      · rw [if_neg e1]
        by_cases e2 : b = 0
        · rw [if_pos e2]
          exact Ev.step (fun k => by simp only [provisoref02_Sub.j0]; rw [if_neg (by simp), if_neg e1, if_pos e2]) j1
        · rw [if_neg e2]
          have ka := valid_cases ha va
          have kb := valid_cases hb vb
          -- behind the second test
          have jf : (¬ (a = 3 ∨ b = 5) ∨ ¬ (isRefB a = true ∧ isRefB b = true)) → Ev (fun k => provisoref02_Sub.j1 k l a b false) (if a = 3 ∨ b = 5 then (isRefB a && isRefB b) else if 0 ≤ classOf l a ∧ 0 ≤ classOf l b then decide (classOf l b ∈ climbL l (classOf l a)) else false) := by
            intro hn
            by_cases g : 16 ≤ a ∧ 16 ≤ b
            · have hn3 : ¬ (a = 3 ∨ b = 5) := by omega
              rw [if_neg hn3, if_pos (by omega)]
              refine Ev.step (f := fun k => provisoref02_Sub.j2 k l a b false) (fun k => by simp only [provisoref02_Sub.j1]; rw [if_neg (by simp), if_neg (by omega), decide_eq_false (by omega)]) ?_
              refine Ev.step (f := fun k => (provisoref02_Line.f k l (a - 16)).bind fun t => provisoref02_Sub.l0 k b t 0) (fun k => by simp only [provisoref02_Sub.j2]; rw [if_neg (by simp), show (a - 16) % 256 = a - 16 by omega]) ?_
              refine Ev.bind (f := fun k t => provisoref02_Sub.l0 k b t 0) (ref_line l l.length (Int.le_refl _) hs.2.1 hg.dec (a - 16) (by omega)) ?_
              have hll := climbL_length l (a - 16)
              have hsz := hs.size
              have h := sub_search b (by omega) (climbL l (a - 16)) (by omega) _ 0 rfl (by omega)
              rw [List.drop_zero] at h
              rw [show classOf l a = a - 16 by omega, show classOf l b = b - 16 by omega]
              exact h
            · have hv : (if a = 3 ∨ b = 5 then (isRefB a && isRefB b) else if 0 ≤ classOf l a ∧ 0 ≤ classOf l b then decide (classOf l b ∈ climbL l (classOf l a)) else false) = false := by
                by_cases h3 : a = 3 ∨ b = 5
                · rw [if_pos h3]
                  rcases hn with hn | hn
                  · exact absurd h3 hn
                  · cases h1 : isRefB a <;> cases h2 : isRefB b <;> simp_all
                · rw [if_neg h3, if_neg (by omega)]
              rw [hv]
              by_cases ga : a < 16
              · exact Ev.step (fun k => by simp only [provisoref02_Sub.j1]; rw [if_neg (by simp), if_pos ga]) j2
              · exact Ev.step (fun k => by simp only [provisoref02_Sub.j1]; rw [if_neg (by simp), if_neg ga, decide_eq_true (by omega)]) j2
          refine Ev.step (f := fun k => if a = 3 then (if isRefB b = true then provisoref02_Sub.j1 k l a b true else if isRefB a = true then provisoref02_Sub.j1 k l a b (b == 5) else provisoref02_Sub.j1 k l a b false) else (if isRefB a = true then provisoref02_Sub.j1 k l a b (b == 5) else provisoref02_Sub.j1 k l a b false)) (fun k => by simp only [provisoref02_Sub.j0, ref_isRef, Option.bind_some]; rw [if_neg (by simp), if_neg e1, if_neg e2]) ?_
          have r5 : b = 5 → isRefB b = true := fun h => by rw [h]; decide
          have r3 : a = 3 → isRefB a = true := fun h => by rw [h]; decide
          by_cases e3 : a = 3
          · by_cases rb : isRefB b = true
            · refine Ev.congr (fun k => by rw [if_pos e3, if_pos rb]) ?_
              rw [if_pos (.inl e3), r3 e3, rb]
              exact j1
            · have b5 : (b == 5) = false := by simp; exact fun h => rb (r5 h)
              refine Ev.congr (f := fun k => provisoref02_Sub.j1 k l a b false) (fun k => by rw [if_pos e3, if_neg rb, b5]; split <;> rfl) ?_
              exact jf (.inr (fun h => rb h.2))
          · refine Ev.congr (fun k => by rw [if_neg e3]) ?_
            by_cases ra : isRefB a = true
            · refine Ev.congr (fun k => by rw [if_pos ra]) ?_
              by_cases e5 : b = 5
              · rw [if_pos (.inr e5), ra, r5 e5, show (b == 5) = true by simp [e5]]
                exact j1
              · rw [show (b == 5) = false by simp [e5]]
                exact jf (.inl (by omega))
            · refine Ev.congr (fun k => by rw [if_neg ra]) ?_
              exact jf (.inr (fun h => ra h.1))

def allTo (l : Tbl) (n : Nat) : List Int := ((List.range n).map (fun i : Nat => (i : Int))).filter (validB l)
theorem all_tells (l : Tbl) : ∀ (d i : Nat), 256 - i = d → i ≤ 256 → Ev (fun k => provisoref02_all.l0 k l (allTo l i) (i : Int)) (allTo l 256)
  | 0, i, hd, hi => by
    have e : i = 256 := by omega
    rw [e]
    exact Ev.step (f := fun _ => some _) (fun k => by simp only [provisoref02_all.l0]; rw [if_neg (by decide)]) (Ev.now _)
  | d + 1, i, hd, hi => by
    have ih := all_tells l d (i + 1) (by omega) (by omega)
    have hln : (allTo l i).length ≤ i := by
      unfold allTo
      exact Nat.le_trans (List.length_filter_le _ _) (by simp)
    have e1 : allTo l (i + 1) = allTo l i ++ (if validB l (i : Int) = true then [(i : Int)] else []) := by
      unfold allTo
      rw [List.range_succ, List.map_append, List.filter_append]
      congr 1
      simp only [List.map_cons, List.map_nil, List.filter_cons, List.filter_nil]
    refine Ev.step (f := fun k => if validB l (i : Int) = true then provisoref02_all.l0 k l (allTo l i ++ [(i : Int)]) ((i + 1 : Nat) : Int) else provisoref02_all.l0 k l (allTo l i) ((i + 1 : Nat) : Int)) (fun k => ?_) ?_
    · simp only [provisoref02_all.l0]
      rw [if_pos (by omega), show (i : Int) % 256 = i by omega, ref_valid l i (by omega)]
      simp only [Option.bind_some]
      rw [if_pos (show (allTo l i).length < 140737488355328 by omega), show wrap64 ((i : Int) + 1) = ((i + 1 : Nat) : Int) by unfold wrap64; omega]
    · cases hv : validB l (i : Int) with
      | true =>
        rw [hv, if_pos rfl] at e1
        rw [e1] at ih
        exact ih
      | false =>
        rw [hv, if_neg (by simp), List.append_nil] at e1
        rw [e1] at ih
        exact ih
theorem ref_all (l : Tbl) : Ev (fun k => provisoref02_all.f k l) (allTo l 256) := all_tells l 256 0 (by omega) (by omega)
theorem mem_all (l : Tbl) (t : Int) : t ∈ allTo l 256 ↔ (0 ≤ t ∧ t ≤ 255) ∧ validB l t = true := by
  unfold allTo
  rw [List.mem_filter, List.mem_map]
  constructor
  · rintro ⟨⟨i, hi, rfl⟩, h2⟩
    have := List.mem_range.1 hi
    exact ⟨by omega, h2⟩
  · rintro ⟨h1, h2⟩
    exact ⟨⟨t.toNat, List.mem_range.2 (by omega), by omega⟩, h2⟩
def bestOf (l : Tbl) (a b : Int) (ts : List Int) (best : Int) : Int := ts.foldl (fun best t => if subB l a t = true then (if subB l b t = true then (if subB l t best = true then t else best) else best) else best) best
theorem merge_tells (l : Tbl) (hs : Sane l) (hg : Good l) (a b : Int) (ha : 0 ≤ a ∧ a ≤ 255) (hb : 0 ≤ b ∧ b ≤ 255) (ts : List Int) (hts : ∀ t ∈ ts, 0 ≤ t ∧ t ≤ 255) (hl : ts.length ≤ 256) : ∀ (d i : Nat) (best : Int), 0 ≤ best ∧ best ≤ 255 → ts.length - i = d → i ≤ ts.length → Ev (fun k => provisoref02_Merge.l0 k l a b best ts (i : Int)) (bestOf l a b (ts.drop i) best)
  | 0, i, best, hbe, hd, hi => by
    rw [List.drop_of_length_le (by omega)]
    exact Ev.step (f := fun _ => some best) (fun k => by simp only [provisoref02_Merge.l0]; rw [if_neg (by omega)]) (Ev.now _)
  | d + 1, i, best, hbe, hd, hi => by
    have hlt : i < ts.length := by omega
    have hrd : rd ts ((i : Nat) : Int) = ts[i] := by simp [rd, List.getD_eq_getElem?_getD, hlt]
    have ht := hts ts[i] (List.getElem_mem _)
    rw [List.drop_eq_getElem_cons hlt]
    have hn : ∀ b2 : Int, 0 ≤ b2 ∧ b2 ≤ 255 → Ev (fun k => provisoref02_Merge.l0 k l a b b2 ts (wrap64 ((i : Int) + 1))) (bestOf l a b (ts.drop (i + 1)) b2) := fun b2 h2 => by
      rw [show wrap64 ((i : Int) + 1) = ((i + 1 : Nat) : Int) by unfold wrap64; omega]
      exact merge_tells l hs hg a b ha hb ts hts hl d (i + 1) b2 h2 (by omega) (by omega)
    show Ev _ (bestOf l a b (ts.drop (i + 1)) (if subB l a ts[i] = true then (if subB l b ts[i] = true then (if subB l ts[i] best = true then ts[i] else best) else best) else best))
    refine Ev.step (f := fun k => ((provisoref02_Sub.f k l a ts[i]).bind fun t227 => (if t227 = true then ((provisoref02_Sub.f k l b ts[i]).bind fun t228 => (if t228 = true then ((provisoref02_Sub.f k l ts[i] best).bind fun t229 => (if t229 = true then (provisoref02_Merge.l0 k l a b ts[i] ts (wrap64 ((i : Int) + 1))) else (provisoref02_Merge.l0 k l a b best ts (wrap64 ((i : Int) + 1))))) else (provisoref02_Merge.l0 k l a b best ts (wrap64 ((i : Int) + 1))))) else (provisoref02_Merge.l0 k l a b best ts (wrap64 ((i : Int) + 1)))))) (fun k => by simp only [provisoref02_Merge.l0]; rw [if_pos (by omega), if_pos (by omega), hrd]) ?_
    refine Ev.bind (f := fun k t => if t = true then _ else _) (ref_sub l hs hg a ts[i] ha ht) ?_
    cases subB l a ts[i] with
    | false => exact hn best hbe
    | true =>
      refine Ev.bind (f := fun k t => if t = true then _ else _) (ref_sub l hs hg b ts[i] hb ht) ?_
      cases subB l b ts[i] with
      | false => exact hn best hbe
      | true =>
        refine Ev.bind (f := fun k t => if t = true then _ else _) (ref_sub l hs hg ts[i] best ht hbe) ?_
        cases subB l ts[i] best with
        | false => exact hn best hbe
        | true => exact hn ts[i] ht
theorem best_is (l : Tbl) (hg : Good l) (a b : Int) (ha : 0 ≤ a ∧ a ≤ 255) (hb : 0 ≤ b ∧ b ≤ 255) (va : validB l a = true) (vb : validB l b = true) : ∀ (ts : List Int) (best : Int), (0 ≤ best ∧ best ≤ 255) → (∀ t ∈ ts, 0 ≤ t ∧ t ≤ 255) → subB l (mergeB l a b) best = true → (mergeB l a b ∈ ts ∨ best = mergeB l a b) → bestOf l a b ts best = mergeB l a b
  | [], best, _, _, _, h => by
    rcases h with h | h
    · cases h
    · exact h
  | t :: ts, best, hbe, hts, hsub, h => by
    obtain ⟨m1, m2, m3, m4, m5⟩ := merge_least hg ha hb va vb
    have ht := hts t List.mem_cons_self
    have hr := fun x hx => hts x (List.mem_cons_of_mem _ hx)
    show bestOf l a b ts (if subB l a t = true then (if subB l b t = true then (if subB l t best = true then t else best) else best) else best) = _
    by_cases e : t = mergeB l a b
    · rw [e, if_pos m3, if_pos m4, if_pos hsub]
      exact best_is l hg a b ha hb va vb ts _ m1 hr (sub_refl l _ m2) (.inr rfl)
    · have hrest : mergeB l a b ∈ ts ∨ best = mergeB l a b := by
        rcases h with h | h
        · rcases List.mem_cons.1 h with h | h
          · exact absurd h.symm e
          · exact .inl h
        · exact .inr h
      split
      · split
        · split
          · rename_i h1 h2 h3
            have h4 := m5 t ht.1 ht.2 h1 h2
            refine best_is l hg a b ha hb va vb ts t ht hr h4 ?_
            rcases hrest with h5 | h5
            · exact .inl h5
            · rw [h5] at h3
              exact absurd (sub_antisymm hg ht m1 h3 h4) e
          · exact best_is l hg a b ha hb va vb ts best hbe hr hsub hrest
        · exact best_is l hg a b ha hb va vb ts best hbe hr hsub hrest
      · exact best_is l hg a b ha hb va vb ts best hbe hr hsub hrest
theorem best_none (l : Tbl) (a b : Int) (h : ¬ (validB l a = true ∧ validB l b = true)) : ∀ (ts : List Int) (best : Int), bestOf l a b ts best = best
  | [], best => rfl
  | t :: ts, best => by
    show bestOf l a b ts (if subB l a t = true then (if subB l b t = true then (if subB l t best = true then t else best) else best) else best) = _
    have : ¬ (subB l a t = true ∧ subB l b t = true) := fun h2 => h ⟨((sub_iff l a t).1 h2.1).1, ((sub_iff l b t).1 h2.2).1⟩
    by_cases h1 : subB l a t = true
    · rw [if_pos h1, if_neg (fun h2 => this ⟨h1, h2⟩)]
      exact best_none l a b h ts best
    · rw [if_neg h1]
      exact best_none l a b h ts best
theorem ref_merge (l : Tbl) (hs : Sane l) (hg : Good l) (a b : Int) (ha : 0 ≤ a ∧ a ≤ 255) (hb : 0 ≤ b ∧ b ≤ 255) : Ev (fun k => provisoref02_Merge.f k l a b) (mergeB l a b) := by
  have hl : (allTo l 256).length ≤ 256 := by
    unfold allTo
    exact Nat.le_trans (List.length_filter_le _ _) (by simp)
  have h := merge_tells l hs hg a b ha hb (allTo l 256) (fun t ht => ((mem_all l t).1 ht).1) hl _ 0 0 (by omega) rfl (by omega)
  rw [List.drop_zero] at h
  have e : bestOf l a b (allTo l 256) 0 = mergeB l a b := by
    by_cases hv : validB l a = true ∧ validB l b = true
    · obtain ⟨m1, m2, _⟩ := merge_least hg ha hb hv.1 hv.2
      exact best_is l hg a b ha hb hv.1 hv.2 _ 0 (by omega) (fun t ht => ((mem_all l t).1 ht).1) (sub_top l _ m2) (.inl ((mem_all l _).2 ⟨m1, m2⟩))
    · rw [best_none l a b hv]
      unfold mergeB
      rw [if_neg hv]
  rw [e] at h
  exact Ev.congr (fun k => rfl) (Ev.bind (f := fun k t => provisoref02_Merge.l0 k l a b 0 t 0) (ref_all l) h)

end Go.Proofs.Ytgjnmpgmbhbbhaa.P


end

section
namespace Go.Proofs.Ytgjnmpgmbhbbhaa.Pure
open Go.RowKit Go.Proofs.Ytgjnmpgmbhbbhaa.P Go.Proofs.YtgjnmpgmbhbbhaaW.PrintWords
set_option linter.unusedSimpArgs false
set_option linter.unusedVariables false
theorem ev_list {α : Type} (f : Int → Nat → Option α) (r : Int → α) : ∀ (l : List Int), (∀ t ∈ l, Ev (f t) (r t)) → ∃ K, ∀ k, K ≤ k → ∀ t ∈ l, f t k = some (r t)
  | [], _ => ⟨0, fun _ _ _ h => by simp at h⟩
  | t :: l, h => by
    obtain ⟨K1, h1⟩ := h t List.mem_cons_self
    obtain ⟨K2, h2⟩ := ev_list f r l (fun u hu => h u (List.mem_cons_of_mem _ hu))
    exact ⟨K1 + K2, fun k hk u hu => by
      rcases List.mem_cons.1 hu with rfl | hu
      · exact h1 k (by omega)
      · exact h2 k (by omega) u hu⟩
theorem ev_pairs {α : Type} (f : Int → Int → Nat → Option α) (r : Int → Int → α) (m : List Int) : ∀ (l : List Int), (∀ t ∈ l, ∀ u ∈ m, Ev (f t u) (r t u)) → ∃ K, ∀ k, K ≤ k → ∀ t ∈ l, ∀ u ∈ m, f t u k = some (r t u)
  | [], _ => ⟨0, fun _ _ _ h => by simp at h⟩
  | t :: l, h => by
    obtain ⟨K1, h1⟩ := ev_list (f t) (r t) m (h t List.mem_cons_self)
    obtain ⟨K2, h2⟩ := ev_pairs f r m l (fun u hu => h u (List.mem_cons_of_mem _ hu))
    exact ⟨K1 + K2, fun k hk u hu => by
      rcases List.mem_cons.1 hu with rfl | hu
      · exact h1 k (by omega)
      · exact h2 k (by omega) u hu⟩
end Go.Proofs.Ytgjnmpgmbhbbhaa.Pure

end

section
namespace Go.Proofs.Ytgjnmpgmbhbbhaa.Pure
open Go.RowKit Go.Proofs.Ytgjnmpgmbhbbhaa.P Go.Proofs.YtgjnmpgmbhbbhaaW.PrintWords
set_option linter.unusedSimpArgs false
theorem FramesMeets : provisolaw03_FramesMeets.Pure := by
  intro l0 a0 a1 a2 b0 b1 b2 hl _ _ ha _ _ hb
  have hs : Sane l0 := hl
  have ra : ∀ t ∈ a2, 0 ≤ t ∧ t ≤ 255 := fun t ht => u8_of (ha.2 t ht)
  have rbb : ∀ t ∈ b2, 0 ≤ t ∧ t ≤ 255 := fun t ht => u8_of (hb.2 t ht)
  have rng : ∀ t, t ∈ a2 ∨ t ∈ b2 → 0 ≤ t ∧ t ≤ 255 := fun t ht => ht.elim (ra t) (rbb t)
  have rng2 : ∀ t, t ∈ a2 ++ b2 → 0 ≤ t ∧ t ≤ 255 := fun t ht => rng t (List.mem_append.1 ht)
  obtain ⟨K1, h1⟩ := ref_check l0 hs
  obtain ⟨K2, h2⟩ := impl_classes l0 hs
  obtain ⟨K3, h3⟩ := impl_same_classes l0 hs
  by_cases hc : (checkB l0).2 = 0
  · have hg := (good_iff l0).1 hc
    obtain ⟨K4, h4⟩ := ev_pairs (fun t u k => provisoref02_Sub.f k l0 t u) (subB l0) (a2 ++ b2) (a2 ++ b2) (fun t ht u hu => ref_sub l0 hs hg t u (rng2 t ht) (rng2 u hu))
    obtain ⟨K5, h5⟩ := ev_pairs (fun t u k => provisoref02_Merge.f k l0 t u) (mergeB l0) (a2 ++ b2) (a2 ++ b2) (fun t ht u hu => ref_merge l0 hs hg t u (rng2 t ht) (rng2 u hu))
    refine ⟨ha.1, hb.1, K1 + K2 + K3 + K4 + K5 + 3, true, ?_, fun _ => ⟨validB l0, subB l0, mergeB l0, h2 _ (by omega), h3 _ (by omega), top_valid l0, sub_refl l0 0 (top_valid l0), merge_self (top_valid l0), fun t ht => ⟨impl_valid l0 t (rng t ht), ref_valid l0 t (rng t ht)⟩, fun t u ht hu => ⟨impl_sub l0 t u (rng t ht) (rng u hu) _, h4 _ (by omega) t (List.mem_append.2 ht) u (List.mem_append.2 hu), impl_merge l0 t u (rng t ht) (rng u hu) _, h5 _ (by omega) t (List.mem_append.2 ht) u (List.mem_append.2 hu)⟩⟩⟩
    unfold provisolaw03_table.f
    have h1 : provisoref02_Check.f (K1 + K2 + K3 + K4 + K5 + 3) l0 = some (checkB l0) := h1 _ (by omega)
    rw [h1]
    show some ((checkB l0).2 == 0) = some true
    rw [hc]
    rfl
  · refine ⟨ha.1, hb.1, K1, false, ?_, fun h => by cases h⟩
    unfold provisolaw03_table.f
    have h1 : provisoref02_Check.f K1 l0 = some (checkB l0) := h1 _ (by omega)
    rw [h1]
    show some ((checkB l0).2 == 0) = some false
    rw [beq_eq_false_iff_ne.2 hc]
end Go.Proofs.Ytgjnmpgmbhbbhaa.Pure

end

section
namespace Go.Proofs.Ytgjnmpgmbhbbhaa.framesMeets
open Go.ChangeShapes Go.WideShapes Go.ChangeAt Go.RowKit Go.Proofs.YtgjnmpgmbhbbhaaW.PrintWords Go.Proofs.Ytgjnmpgmbhbbhaa.Sees Go.Proofs.Ytgjnmpgmbhbbhaa.P
open Go.ChangeMaps (open_string shut_string)
set_option linter.unusedVariables false
set_option linter.unusedSimpArgs false
theorem own : ownKnob Try.prog.godebug = none := by kernel_rfl
theorem laidOut : laidOutB Try.prog = true := by kernel_rfl
set_option maxRecDepth 100000 in
theorem lifted (os : Os) (started : os.Started) (H : Type) (enc : TypeId × Value → H) :
    ReturnsInHanded {} Try.checked os 9 .any (Rows.framesMeetsSpec.pre6 enc Try.prog Try.f9 Rows.framesMeetsRow.domain false) (Rows.framesMeetsSpec.post enc Try.prog Try.f9 false true false false) := by
  refine returnsInHanded_of_change_sized (C := Try.checked) own started (by kernel_rfl) Try.func9
    (ChangeSpec.witness6 (enc := enc) (C := Try.checked) false ⟨#[], #[.slice none 0 0, .agg #[.int .i64 0, .int .i64 0, .int .u8 0, .int .u8 0, .int .u8 0, .int .u8 0, .int .u8 0, .int .u8 0, .int .u8 0, .int .u8 0, .int .u8 0, .int .u8 0, .int .u8 0, .int .u8 0, .int .u8 0, .int .u8 0, .int .u8 0, .int .u8 0, .int .u8 0, .int .u8 0, .int .u8 0, .int .u8 0, .int .u8 0, .int .u8 0, .int .u8 0, .int .u8 0], .agg #[.int .i64 0, .int .i64 0, .int .u8 0, .int .u8 0, .int .u8 0, .int .u8 0, .int .u8 0, .int .u8 0, .int .u8 0, .int .u8 0, .int .u8 0, .int .u8 0, .int .u8 0, .int .u8 0, .int .u8 0, .int .u8 0, .int .u8 0, .int .u8 0, .int .u8 0, .int .u8 0, .int .u8 0, .int .u8 0, .int .u8 0, .int .u8 0, .int .u8 0, .int .u8 0]], []⟩ 8 (by kernel_rfl) (by kernel_rfl) (by kernel_rfl) (by kernel_rfl)) ?_
  intro W base args ds gs before hval0 hW hcnd hsz0 _
  have hsz : (DataW.weightsEach Try.prog (Try.f9.params.toList ++ Rows.framesMeetsSpec.plain.varTypes Try.prog) (ds ++ gs)).all (· ≤ reachBytes) = true := hsz0
  have hval : ∀ (j : Nat) t v, Try.f9.params[j]? = some t → args[j]? = some v → Value.okWide Try.prog W .any base t v := hval0
  have hW' := hW
  obtain ⟨p, q, hA0, hV, rfl, hfz, hnd⟩ := hW
  have hA : DataW.TrodAll enc Try.prog W 0 (fun _ => true) true Try.f9.params.toList args.toList ds p := hA0
  rw [Try.params9] at hA hval hsz
  obtain ⟨v0, vs0, d0, ds0, p0, q0, hargs, rfl, rfl, h0, r0⟩ := trodAll_cons hA
  obtain ⟨v1, vs1, d1, ds1, p1, q1, rfl, rfl, rfl, h1, r1⟩ := trodAll_cons r0
  obtain ⟨v2, vs2, d2, ds2, p2, q2, rfl, rfl, rfl, h2, r2⟩ := trodAll_cons r1
  obtain ⟨rfl, rfl, rfl⟩ := trodAll_nil r2
  obtain rfl : args = #[v0, v1, v2] := by cases args; simp_all
  obtain ⟨rfl, rfl⟩ := trodVars_none hV
  have k0 := h0
  have lt0 : ∀ x ∈ p0, x.block < W.heap.size := by obtain ⟨m, hm⟩ := k0; exact DataW.trod_lt m _ _ _ hm
  obtain ⟨y0, hy0, oy0⟩ := see_arg (j := 0) (t := 22) (sees_slice (B := 48) Try.underlying22 (by kernel_rfl) (by kernel_rfl) sees59) hsz rfl rfl h0
  obtain ⟨a0, len0, cap0, rfl⟩ := okWide_slice Try.underlying22 (hval 0 22 v0 rfl rfl)
  obtain ⟨rfl, hc0, hr0⟩ := see_slice rfl hy0
  have k1 := h1
  have lt1 : ∀ x ∈ p1, x.block < W.heap.size := by obtain ⟨m, hm⟩ := k1; exact DataW.trod_lt m _ _ _ hm
  obtain ⟨y1, hy1, oy1⟩ := see_arg (j := 1) (t := 27) (sees_struct (fun y => y) (fun y => y) (fun _ => rfl) Try.underlying27 (by kernel_rfl) (sees_more rfl (by kernel_rfl) (sees_int Try.underlying3) (sees_more rfl (by kernel_rfl) (sees_int Try.underlying3) (sees_last rfl (by kernel_rfl) (sees_array (by decide) Try.underlying25 (by kernel_rfl) (by kernel_rfl) (sees_int Try.underlying24)))))) hsz rfl rfl h1
  obtain ⟨cs1, rfl, hcs1⟩ := okWide_struct Try.underlying27 (hval 1 27 v1 rfl rfl)
  obtain rfl : cs1 = (⟨y1.1, y1.2.1, y1.2.2⟩ : Fr).a := Array.ext' (by have e_ := (frame_cells hy1).1; simpa [Value.cells, Fr.a] using e_)
  have k2 := h2
  have lt2 : ∀ x ∈ p2, x.block < W.heap.size := by obtain ⟨m, hm⟩ := k2; exact DataW.trod_lt m _ _ _ hm
  obtain ⟨y2, hy2, oy2⟩ := see_arg (j := 2) (t := 27) (sees_struct (fun y => y) (fun y => y) (fun _ => rfl) Try.underlying27 (by kernel_rfl) (sees_more rfl (by kernel_rfl) (sees_int Try.underlying3) (sees_more rfl (by kernel_rfl) (sees_int Try.underlying3) (sees_last rfl (by kernel_rfl) (sees_array (by decide) Try.underlying25 (by kernel_rfl) (by kernel_rfl) (sees_int Try.underlying24)))))) hsz rfl rfl h2
  obtain ⟨cs2, rfl, hcs2⟩ := okWide_struct Try.underlying27 (hval 2 27 v2 rfl rfl)
  obtain rfl : cs2 = (⟨y2.1, y2.2.1, y2.2.2⟩ : Fr).a := Array.ext' (by have e_ := (frame_cells hy2).1; simpa [Value.cells, Fr.a] using e_)
  clear hA0 hval0 hsz0 hsz
  have hk := Pure.FramesMeets y0 y1.1 y1.2.1 y1.2.2 y2.1 y2.2.1 y2.2.2 oy0 oy1.1 oy1.2.1 oy1.2.2 oy2.1 oy2.2.1 oy2.2.2
  refine (provisolaw03_FramesMeets.calls _ _ y0 (y1.1) (y1.2.1) (y1.2.2) (y2.1) (y2.2.1) (y2.2.2) W hr0 hc0 hk).mono ?_
  rintro e W' ⟨rfl, bel0⟩
  have bel : Below W.heap.size W W' := bel0
  exact ⟨_, rfl, _, _, _, [], _, [], hW', trodAll_mk1 (shut_bool Try.underlying4 _), (trodAll_cons_mk (Below.trod laidOut (by kernel_rfl) (of_decide_eq_true (by kernel_rfl)) k0 bel lt0) (trodAll_cons_mk (Below.trod laidOut (by kernel_rfl) (of_decide_eq_true (by kernel_rfl)) k1 bel lt1) (trodAll_cons_mk (Below.trod laidOut (by kernel_rfl) (of_decide_eq_true (by kernel_rfl)) k2 bel lt2) trodAll_mk0))), rfl, bel.frame _, fun h => by cases h⟩
theorem over : Rows.framesMeetsRow.holds Try.pinned (OpenSpec.ofChange Rows.framesMeetsSpec) :=
  OpenClaim.holds_of_wide 9 Try.f9 rfl rfl rfl rfl rfl rfl rfl ⟨rfl, rfl, rfl, rfl, rfl⟩ rfl rfl rfl rfl rfl (by kernel_rfl) Try.func9 (by kernel_rfl)
    (of_decide_eq_true (by kernel_rfl)) (by unfold Func.isWrapper; first | (rw [if_pos (by decide +kernel)]; kernel_rfl) | (rw [if_neg (by decide +kernel)]; exact ⟨rfl, rfl⟩))
    (fun os started H enc _ => lifted os started H enc)
theorem proved : Rows.FramesMeetsSaid := over
end Go.Proofs.Ytgjnmpgmbhbbhaa.framesMeets
namespace Go.Proofs.Ytgjnmpgmbhbbhaa
theorem framesMeets_holds : Rows.FramesMeetsSaid := framesMeets.proved
end Go.Proofs.Ytgjnmpgmbhbbhaa

end

