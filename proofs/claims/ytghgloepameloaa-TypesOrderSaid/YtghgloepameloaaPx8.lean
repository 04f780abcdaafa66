-- PRINTED by print.py (a twelfth state) out of the translation. Not trusted: Lean checks it.
import Derived.Test.YtghgloepameloaaPx0
import Derived.Test.YtghgloepameloaaPx5
import Derived.Test.YtghgloepameloaaPx6
namespace Go.Proofs.Ytghgloepameloaa.P
open Go.RowKit Go.Proofs.YtghgloepameloaaW.PrintWords Go.Proofs.YtghgloepameloaaW.PrintLast Go.Proofs.YtghgloepameloaaW.PrintMore
attribute [local go_sem] max2_int min2_int max_two min_two max_three min_three max_four min_four   -- for this text's walks alone
set_option linter.unusedVariables false
set_option linter.unusedSimpArgs false

/-! ### types_Merge: function 20 -/
def classOf (l : List S38) (a : Int) : Int := if a < 16 then -1 else if (a - 16) % 256 ≥ (l.length : Int) then -1 else (a - 16) % 256
theorem class_is (l : List S38) (a : Int) : types_class.f l a = some (classOf l a) := by
  unfold types_class.f classOf
  split
  · rfl
  · split <;> rfl
def isRefB (a : Int) : Bool := decide (a = 3) || decide (a = 4) || decide (a = 5) || decide (a ≥ 16)
theorem isRef_is (a : Int) : types_IsRef.f a = some (isRefB a) := by
  unfold types_IsRef.f isRefB
  by_cases h3 : a = 3 <;> by_cases h4 : a = 4 <;> by_cases h5 : a = 5 <;> simp [h3, h4, h5]
def upOf (l : List S38) (x y : Int) : Int := match (climbL l x).find? (fun c => decide (c ∈ climbL l y)) with | some c => (16 + c) % 256 | none => 5
def mergeUp (l : List S38) (a b : Int) : Int :=
  if isRefB a = true then if isRefB b = true then if 0 ≤ classOf l a then if 0 ≤ classOf l b then upOf l (classOf l a) (classOf l b) else 5 else 5 else 0 else 0
def types_Merge.f (k : Nat) (l0 : List S38) (a1 a2 : Int) : Option Int :=
  (types_Valid.f l0 a1).bind fun v1 => if v1 = true then ((types_Valid.f l0 a2).bind fun v2 => if v2 = true then ((types_Sub.f k l0 a1 a2).bind fun s1 => if s1 = true then some a2 else ((types_Sub.f k l0 a2 a1).bind fun s2 => if s2 = true then some a1 else some (mergeUp l0 a1 a2))) else some 0) else some 0
theorem types_Merge.mono : ∀ a0 a1 a2 k, LeO (types_Merge.f k a0 a1 a2) (types_Merge.f (k + 1) a0 a1 a2) := by
  intro a0 a1 a2 k
  unfold types_Merge.f
  repeat' first
      | (with_reducible exact types_Sub.mono _ _ _ _)
      | (with_reducible exact LeO.refl _)
      | (with_reducible exact LeO.none _)
      | (with_reducible refine LeO.ite ?_ ?_)
      | (with_reducible refine LeO.bind ?_ (fun _ => ?_))

/-- Merge's own closure. -/
structure MergeInv (W0 : World) (B By Bo : Nat) (A0 : Option Addr) (c0 : Nat) (l : List S38) (y : Int) (r : Int) (xs : List Int) (W : World) : Prop where
  lies : W.heap[B]? = some (.cells #[.slice A0 l.length c0] 22 (0, 0))
  other : W.heap[By]? = some (.cells #[.int .i64 y] 3 (0, 0))
  out : W.heap[Bo]? = some (.cells #[.int .u8 5] 23 (0, 0))
  below : Below W0.heap.size W0 W
  left : (match xs.find? (fun c => decide (c ∈ climbL l y)) with | some c => (16 + c) % 256 | none => 5) = r
structure MergeFin (W0 : World) (Bo : Nat) (r : Int) (W : World) : Prop where
  out : W.heap[Bo]? = some (.cells #[.int .u8 r] 23 (0, 0))
  below : Below W0.heap.size W0 W
/-- What stands while the two classes are asked. -/
structure MergeHeld (W0 : World) (Bo : Nat) (A0 : Option Addr) (c0 : Nat) (l : List S38) (W : World) : Prop where
  reads : Kd.C k38 W A0 l.length l
  below : Below W0.heap.size W0 W
  lies : W.heap[W0.heap.size]? = some (.cells #[.slice A0 l.length c0] 22 (0, 0))
  out : W.heap[Bo]? = some (.cells #[.int .u8 5] 23 (0, 0))
theorem MergeHeld.drew {W0 : World} {Bo : Nat} {A0 : Option Addr} {c0 : Nat} {l : List S38} {W : World} (h : MergeHeld W0 Bo A0 c0 l W) : MergeHeld W0 Bo A0 c0 l W.drew := ⟨Kd.C_drew h.reads, below_drew1 h.below, blk_drew h.lies, blk_drew h.out⟩
theorem MergeHeld.drewN {W0 : World} {Bo : Nat} {A0 : Option Addr} {c0 : Nat} {l : List S38} {W : World} (h : MergeHeld W0 Bo A0 c0 l W) (m : Nat) : MergeHeld W0 Bo A0 c0 l (W.drewN m) := ⟨Kd.C_drewN h.reads m, pw_below_drewN h.below m, blk_drewN h.lies m, blk_drewN h.out m⟩
theorem MergeHeld.alloc {W0 : World} {Bo : Nat} {A0 : Option Addr} {c0 : Nat} {l : List S38} {W : World} (h : MergeHeld W0 Bo A0 c0 l W) (o : Obj) : MergeHeld W0 Bo A0 c0 l (W.alloc o) := ⟨Kd.C_alloc h.reads o, below_alloc h.below o, blk_alloc h.lies o, blk_alloc h.out o⟩
theorem MergeHeld.both {W0 : World} {Bo : Nat} {A0 : Option Addr} {c0 : Nat} {l : List S38} {W : World} (h : MergeHeld W0 Bo A0 c0 l W) : W.cell? ⟨W0.heap.size, 0, none⟩ = some (.slice A0 l.length c0) ∧ MergeHeld W0 Bo A0 c0 l W := ⟨blk_cell h.lies 0, h⟩
theorem MergeHeld.far {W0 : World} {Bo : Nat} {A0 : Option Addr} {c0 : Nat} {l : List S38} {W : World} (h : MergeHeld W0 Bo A0 c0 l W) (hr : Kd.C k38 W0 A0 l.length l) {p : Nat} (v : Value) (h1 : W0.heap.size < p) (h2 : Bo ≠ p) : MergeHeld W0 Bo A0 c0 l (W.setCell ⟨p, 0, none⟩ v) :=
  have hb := h.below.setCell (p := ⟨p, 0, none⟩) (Nat.le_of_lt h1) v
  ⟨Kd.C_below hr hb, hb, blk_far h.lies (by simp; omega) v, blk_far h.out (by simpa using h2) v⟩
/-- Behind a region: the world by a letter. -/
theorem exit_gen {K : Act → World → Prop} {Q : Exit → Act → World → Prop} {e : Exit} {a : Act} {W : World} (Pm : World → Prop) (hP : Pm W) (h : ∀ W', Pm W' → Exit.then K Q e a W') : Exit.then K Q e a W := h W hP
set_option maxHeartbeats 800000 in
set_option maxRecDepth 100000 in
theorem types_Merge_step (A0 : Option Addr) (c0 : Nat) (l : List S38) (y x : Int) (W : World) (hr : Kd.C k38 W A0 l.length l) (hc : l.length ≤ c0) (B By Bo : Nat) (h1 : W.heap[B]? = some (.cells #[.slice A0 l.length c0] 22 (0, 0))) (h2 : W.heap[By]? = some (.cells #[.int .i64 y] 3 (0, 0))) (h3 : W.heap[Bo]? = some (.cells #[.int .u8 5] 23 (0, 0))) :
    Calls Try.prog 44 #[.int .i64 x, .pointer (some ⟨B, 0, none⟩), .pointer (some ⟨By, 0, none⟩), .pointer (some ⟨Bo, 0, none⟩)] W fun e W' =>
      (e = .returned (.bool true) ∧ ¬ x ∈ climbL l y ∧ Below W.heap.size W W') ∨
      (e = .returned (.bool false) ∧ x ∈ climbL l y ∧ ∃ W1, Below W.heap.size W W1 ∧ W' = W1.setCell ⟨Bo, 0, none⟩ (.int .u8 ((16 + x) % 256))) := by
  have hc1 := blk_cell h1 0
  have hc2 := blk_cell h2 0
  have H3 : Aside0 (W.heap[Bo]? = some (.cells #[.int .u8 5] 23 (0, 0))) := ⟨h3⟩
  have HR := Aside0.mk hr
  have HC := Aside0.mk hc
  clear h1 h2 h3 hr hc
  by_cases hm : x ∈ climbL l y
  · have hA : types_above.f l y x = some true := by unfold types_above.f; simp [hm]
    have HA := Aside0.mk hA
    have HM := Aside0.mk hm
    clear hA hm
    go_enter Try.func44, Try.ntmps44
    go_wp2_with fail
    refine (types_above.calls A0 c0 l y x true _ HR.out HC.out HA.out).mono ?_
    rintro e W1 ⟨rfl, hb⟩
    have h3 := blk_below H3.out hb
    have hc3 := blk_cell h3 0
    have hf3 := blk_frozen h3 0
    have HB := Aside0.mk hb
    clear h3 hb
    go_wp2
    go_ret
    exact .inr ⟨rfl, HM.out, _, HB.out, rfl⟩
  · have hA : types_above.f l y x = some false := by unfold types_above.f; simp [hm]
    have HA := Aside0.mk hA
    have HM := Aside0.mk hm
    clear hA hm
    go_enter Try.func44, Try.ntmps44
    go_wp2_with fail
    refine (types_above.calls A0 c0 l y x false _ HR.out HC.out HA.out).mono ?_
    rintro e W1 ⟨rfl, hb⟩
    have HB := Aside0.mk hb
    clear hb
    go_wp2
    go_ret
    exact .inl ⟨rfl, HM.out, HB.out⟩
set_option maxHeartbeats 3200000 in
set_option maxRecDepth 100000 in
theorem types_Merge.calls (k : Nat) (A0 : Option Addr) (c0 : Nat) (l0 : List S38) (a1 a2 : Int) (r : Int) (w : World) (hr0 : Kd.C k38 w A0 l0.length l0) (hc0 : l0.length ≤ c0) (h : types_Merge.f k l0 a1 a2 = some r) :
    Calls Try.prog 20 #[.slice A0 l0.length c0, .int .u8 a1, .int .u8 a2] w fun e w' => e = .returned (.int .u8 r) ∧ Below w.heap.size w w' := by
  have hmf : ∀ (fn : Fn) (first cap : Array Value) (w : World), (Instr.makeFunc fn first cap).run Try.prog w = .ok (.func fn first cap) w := fun _ _ _ _ => rfl
  have hlen : l0.length ≤ 9223372036854775807 := hr0.2.1
  have HR := Aside0.mk hr0
  have HC := Aside0.mk hc0
  have H := h
  unfold types_Merge.f at H
  obtain ⟨v1, V1, H⟩ := Option.bind_eq_some_iff.mp H
  have HV1 := Aside0.mk V1
  have hb0 : Below w.heap.size w (w.alloc (.cells #[.slice A0 l0.length c0] 22)) := (Below.refl _ _).alloc (Nat.le_refl _) _
  have HB0 := Aside0.mk hb0
  have HR1 := Aside0.mk (Kd.C_below hr0 hb0)
  have HI0 : Aside0 ((w.alloc (.cells #[.slice A0 l0.length c0] 22)).heap[w.heap.size]? = some (.cells #[.slice A0 l0.length c0] 22 (0, 0))) := ⟨blk_new _ _⟩
  clear hr0 hc0 h V1 hb0
  by_cases e1 : v1 = true
  · subst e1
    rw [if_pos rfl] at H
    obtain ⟨v2, V2, H⟩ := Option.bind_eq_some_iff.mp H
    have HV2 := Aside0.mk V2
    clear V2
    by_cases e2 : v2 = true
    · subst e2
      rw [if_pos rfl] at H
      obtain ⟨s1, S1, H⟩ := Option.bind_eq_some_iff.mp H
      have HS1 := Aside0.mk S1
      have HH := Aside0.mk H
      clear S1 H
      go_enter Try.func20, Try.ntmps20
      go_wp2_with fail
      refine (types_Valid.calls A0 c0 l0 a1 true _ HR1.out HC.out HV1.out).mono ?_
      rintro e w1 ⟨rfl, ⟨m1, rfl⟩⟩
      go_wp2_with fail
      refine (types_Valid.calls A0 c0 l0 a2 true _ (Kd.C_drewN HR1.out m1) HC.out HV2.out).mono ?_
      rintro e w1 ⟨rfl, ⟨m2, rfl⟩⟩
      go_wp2_with fail
      refine (types_Sub.calls k A0 c0 l0 a1 a2 s1 _ (Kd.C_drewN HR1.out (m1 + m2)) HC.out HS1.out).mono ?_
      rintro e w2 ⟨rfl, hb⟩
      have n1 := Aside0.mk (below_then (pw_below_drewN HB0.out (m1 + m2)) (by simp) hb)
      have n2 := Aside0.mk (blk_below (blk_drewN HI0.out (m1 + m2)) hb)
      clear hb HB0 HI0 HR1
      have hcI := blk_cell n2.out 0
      by_cases e3 : s1 = true
      · subst e3
        have H2 := HH.out
        rw [if_pos rfl] at H2
        obtain rfl := Option.some.inj H2
        clear H2 HH
        go_wp2
        go_ret
        exact ⟨rfl, n1.out⟩
      · replace e3 := Bool.eq_false_iff.mpr e3
        subst e3
        have H2 := HH.out
        rw [if_neg (by decide)] at H2
        obtain ⟨s2, S2, H2⟩ := Option.bind_eq_some_iff.mp H2
        have HS2 := Aside0.mk S2
        have HH2 := Aside0.mk H2
        clear S2 H2 HH
        go_wp2_with fail
        refine (types_Sub.calls k A0 c0 l0 a2 a1 s2 _ (Kd.C_below HR.out n1.out) HC.out HS2.out).mono ?_
        rintro e w3 ⟨rfl, hb⟩
        have n3 := Aside0.mk (below_step n1.out hb)
        have n4 := Aside0.mk (blk_below n2.out hb)
        clear hb n1 n2 hcI
        have hcI := blk_cell n4.out 0
        by_cases e4 : s2 = true
        · subst e4
          have H2 := HH2.out
          rw [if_pos rfl] at H2
          obtain rfl := Option.some.inj H2
          clear H2 HH2
          go_wp2
          go_ret
          exact ⟨rfl, n3.out⟩
        · replace e4 := Bool.eq_false_iff.mpr e4
          subst e4
          have H2 := HH2.out
          rw [if_neg (by decide)] at H2
          obtain rfl := Option.some.inj H2
          clear H2 HH2
          have HX1 := Aside0.mk (isRef_is a1)
          have HX2 := Aside0.mk (isRef_is a2)
          by_cases e5 : isRefB a1 = true
          · have E5 := Aside0.mk e5
            rw [e5] at HX1
            by_cases e6 : isRefB a2 = true
            · have E6 := Aside0.mk e6
              rw [e6] at HX2
              clear e5 e6
              go_wp2_with fail
              refine (types_IsRef.calls a1 true _ HX1.out).mono ?_
              rintro e w4 ⟨rfl, ⟨m1, rfl⟩⟩
              go_wp2_with fail
              refine (types_IsRef.calls a2 true _ HX2.out).mono ?_
              rintro e w4 ⟨rfl, hd⟩
              have n5 : Aside0 (Below w.heap.size w w4) := ⟨by obtain ⟨m2, rfl⟩ := hd; exact pw_below_drewN (pw_below_drewN n3.out m1) m2⟩
              have n6 : Aside0 (w4.heap[w.heap.size]? = some (.cells #[.slice A0 l0.length c0] 22 (0, 0))) := ⟨by obtain ⟨m2, rfl⟩ := hd; exact n4.out⟩
              have hcI := blk_cell n6.out 0
              clear hd n3 n4
              have HK1 := Aside0.mk (class_is l0 a1)
              have HK2 := Aside0.mk (class_is l0 a2)
              go_wp2_with fail
              have n7 := Aside0.mk (below_alloc n5.out (.cells #[.int .u8 5] 23))
              have n8 := Aside0.mk (blk_alloc n6.out (.cells #[.int .u8 5] 23))
              have n9 : Aside0 ((w4.alloc (.cells #[.int .u8 5] 23)).heap[w4.heap.size]? = some (.cells #[.int .u8 5] 23 (0, 0))) := ⟨blk_new _ _⟩
              have n0 := Aside0.mk n5.out.size
              generalize w4.heap.size = Bo at n9 n0 ⊢
              generalize w4.alloc (.cells #[.int .u8 5] 23) = w5 at n7 n8 n9 ⊢
              clear n5 n6 hcI
              have hS1 := blk_cell n8.out 0
              have hS2 : MergeHeld w Bo A0 c0 l0 w5 := ⟨Kd.C_below HR.out n7.out, n7.out, n8.out, n9.out⟩
              clear n7 n8 n9
              have hq1 : w.heap.size < w5.heap.size := blk_lt hS2.lies
              have hq2 : Bo ≠ w5.heap.size := Nat.ne_of_lt (blk_lt hS2.out)
              have ha1 : ∀ (m : Nat) (v : Value), ((w5.drewN m).alloc (.cells #[v] 3)).cell? ⟨w5.heap.size, 0, none⟩ = some v := fun m v => by rw [World.cell?_alloc_at _ _ _ _ (by rfl)]; rfl
              have ha2 : ∀ (m : Nat) (v : Value), ((w5.drewN m).alloc (.cells #[v] 3)).frozen? ⟨w5.heap.size, 0, none⟩ = false := fun m v => World.frozen?_alloc_at _ _ _ _ (by rfl)
              have ha3 : ∀ (v : Value), (w5.drew.alloc (.cells #[v] 3)).cell? ⟨w5.heap.size, 0, none⟩ = some v := fun v => ha1 1 v
              have ha4 : ∀ (v : Value), (w5.drew.alloc (.cells #[v] 3)).frozen? ⟨w5.heap.size, 0, none⟩ = false := fun v => ha2 1 v
              go_region_held3 (fun w' => w'.cell? ⟨w.heap.size, 0, none⟩ = some (.slice A0 l0.length c0) ∧ MergeHeld w Bo A0 c0 l0 w')
                (first | (refine MergeHeld.both ?_; (repeat (first | exact hS2 | refine MergeHeld.drew ?_ | refine MergeHeld.drewN ?_ _ | refine MergeHeld.alloc ?_ _ | refine MergeHeld.far ?_ HR.out _ hq1 hq2))))
                (first | (go_at_call 39; (with_reducible refine (types_class.calls A0 c0 l0 a1 _ _ ?hr1 HC.out HK1.out).mono ?_); (case hr1 => (refine (MergeHeld.reads (W0 := w) (Bo := Bo) (c0 := c0) ?_); (repeat (first | exact hS2 | refine MergeHeld.drew ?_ | refine MergeHeld.drewN ?_ _ | refine MergeHeld.alloc ?_ _ | refine MergeHeld.far ?_ HR.out _ hq1 hq2)))); rintro e w9 ⟨rfl, ⟨m, rfl⟩⟩) | (go_at_call 39; (with_reducible refine (types_class.calls A0 c0 l0 a2 _ _ ?hr2 HC.out HK2.out).mono ?_); (case hr2 => (refine (MergeHeld.reads (W0 := w) (Bo := Bo) (c0 := c0) ?_); (repeat (first | exact hS2 | refine MergeHeld.drew ?_ | refine MergeHeld.drewN ?_ _ | refine MergeHeld.alloc ?_ _ | refine MergeHeld.far ?_ HR.out _ hq1 hq2)))); rintro e w9 ⟨rfl, ⟨m, rfl⟩⟩))
              all_goals
                refine exit_gen (fun W => MergeHeld w Bo A0 c0 l0 W ∧ W.heap[w5.heap.size]? = some (.cells #[.int .i64 (classOf l0 a2)] 3 (0, 0))) ⟨?_, ?_⟩ (fun w6 hw6 => ?_)
              any_goals (repeat (first | exact hS2 | refine MergeHeld.drew ?_ | refine MergeHeld.drewN ?_ _ | refine MergeHeld.alloc ?_ _ | refine MergeHeld.far ?_ HR.out _ hq1 hq2))
              any_goals (first | exact blk_set (blk_new _ _) 0 _ | exact blk_set (blk_drewN (blk_new _ _) _) 0 _)
              all_goals
                obtain ⟨hm, hy⟩ := hw6
                have n1 := Aside0.mk hm
                have n2 := Aside0.mk hy
                have hc1 := blk_cell hm.lies 0
                have hc2 := blk_cell hm.out 0
                have hc3 := blk_cell hy 0
                clear hm hy ha1 ha2 ha3 ha4 hS1 hS2
                by_cases d1 : 0 ≤ classOf l0 a1
                · have d1b : decide (0 ≤ classOf l0 a1) = true := decide_eq_true d1
                  have D1 := Aside0.mk d1
                  by_cases d2 : 0 ≤ classOf l0 a2
                  · have d2b : decide (0 ≤ classOf l0 a2) = true := decide_eq_true d2
                    have D2 := Aside0.mk d2
                    clear d1 d2
                    go_wp2_with fail
                    refine (climb_any 44 _ A0 c0 l0 w HR.out (MergeInv w w.heap.size w5.heap.size Bo A0 c0 l0 (classOf l0 a2) (upOf l0 (classOf l0 a1) (classOf l0 a2))) (MergeFin w Bo (upOf l0 (classOf l0 a1) (classOf l0 a2))) (fun _ _ h => h.below) ?_ ?_ (callFunc_run Try.func44 (by kernel_rfl) (by kernel_rfl)) (classOf l0 a1) _ ?_).mono ?_
                    · rintro W ⟨g1, g2, g3, g4, g5⟩
                      exact ⟨by rw [← g5]; exact g3, g4⟩
                    · rintro x xs W ⟨g1, g2, g3, g4, g5⟩
                      refine (types_Merge_step A0 c0 l0 (classOf l0 a2) x W (Kd.C_below HR.out g4) HC.out _ _ _ g1 g2 g3).mono ?_
                      rintro e W' (⟨rfl, g6, g7⟩ | ⟨rfl, g6, W1, g7, rfl⟩)
                      · exact .inl ⟨rfl, blk_below g1 g7, blk_below g2 g7, blk_below g3 g7, below_step g4 g7, by rw [← g5]; simp [List.find?_cons, g6]⟩
                      · refine .inr ⟨rfl, ?_, (below_step g4 g7).setCell n0.out _⟩
                        rw [← g5]
                        simpa [List.find?_cons, g6] using blk_set (blk_below g3 g7) 0 (.int .u8 ((16 + x) % 256))
                    · exact ⟨n1.out.lies, n2.out, n1.out.out, n1.out.below, rfl⟩
                    · rintro e w7 ⟨rfl, g1, g2⟩
                      have hc4 := blk_cell g1 0
                      clear g1
                      go_wp2
                      go_ret
                      exact ⟨by simp [mergeUp, E5.out, E6.out, D1.out, D2.out], g2⟩
                  · have d2b : decide (0 ≤ classOf l0 a2) = false := decide_eq_false d2
                    have D2 := Aside0.mk d2
                    clear d1 d2
                    go_wp2
                    go_ret
                    exact ⟨by have q := D2.out; simp [mergeUp, E5.out, E6.out, D1.out]; intros; omega, n1.out.below⟩
                · have d1b : decide (0 ≤ classOf l0 a1) = false := decide_eq_false d1
                  have D1 := Aside0.mk d1
                  clear d1
                  go_wp2
                  go_ret
                  exact ⟨by have q := D1.out; simp [mergeUp, E5.out, E6.out]; intros; omega, n1.out.below⟩
            · replace e6 := Bool.eq_false_iff.mpr e6
              have E6 := Aside0.mk e6
              rw [e6] at HX2
              clear e5 e6
              go_wp2_with fail
              refine (types_IsRef.calls a1 true _ HX1.out).mono ?_
              rintro e w4 ⟨rfl, ⟨m1, rfl⟩⟩
              go_wp2_with fail
              refine (types_IsRef.calls a2 false _ HX2.out).mono ?_
              rintro e w4 ⟨rfl, ⟨m2, rfl⟩⟩
              go_wp2
              go_ret
              exact ⟨by simp [mergeUp, E5.out, E6.out], pw_below_drewN n3.out (m1 + m2)⟩
          · replace e5 := Bool.eq_false_iff.mpr e5
            have E5 := Aside0.mk e5
            rw [e5] at HX1
            clear e5
            go_wp2_with fail
            refine (types_IsRef.calls a1 false _ HX1.out).mono ?_
            rintro e w4 ⟨rfl, ⟨m1, rfl⟩⟩
            go_wp2
            go_ret
            exact ⟨by simp [mergeUp, E5.out], pw_below_drewN n3.out m1⟩
    · replace e2 := Bool.eq_false_iff.mpr e2
      subst e2
      rw [if_neg (by decide)] at H
      obtain rfl := Option.some.inj H
      go_enter Try.func20, Try.ntmps20
      go_wp2_with fail
      refine (types_Valid.calls A0 c0 l0 a1 true _ HR1.out HC.out HV1.out).mono ?_
      rintro e w1 ⟨rfl, ⟨m1, rfl⟩⟩
      go_wp2_with fail
      refine (types_Valid.calls A0 c0 l0 a2 false _ (Kd.C_drewN HR1.out m1) HC.out HV2.out).mono ?_
      rintro e w1 ⟨rfl, ⟨m2, rfl⟩⟩
      go_wp2
      go_ret
      exact ⟨rfl, pw_below_drewN HB0.out (m1 + m2)⟩
  · replace e1 := Bool.eq_false_iff.mpr e1
    subst e1
    rw [if_neg (by decide)] at H
    obtain rfl := Option.some.inj H
    go_enter Try.func20, Try.ntmps20
    go_wp2_with fail
    refine (types_Valid.calls A0 c0 l0 a1 false _ HR1.out HC.out HV1.out).mono ?_
    rintro e w1 ⟨rfl, ⟨m1, rfl⟩⟩
    go_wp2
    go_ret
    exact ⟨rfl, pw_below_drewN HB0.out m1⟩

end Go.Proofs.Ytghgloepameloaa.P
