/- Proved: the law TypesChecks holds for every input that the row lets in. No condition of ours. -/
import Derived.Test.YtghgloepameloaaBTypesChecksd
import Derived.Test.YtghgloepameloaaRows
import Derived.ShutString
import Derived.ChangeOld
import Derived.Lib.SmallJoins
section
namespace Go.Proofs.Ytghgloepameloaa.P
open Go.RowKit Go.Proofs.YtghgloepameloaaW.PrintWords Go.Proofs.YtghgloepameloaaW.PrintLast Go.Proofs.YtghgloepameloaaW.PrintMore
attribute [local go_sem] max2_int min2_int max_two min_two max_three min_three max_four min_four   -- for this text's walks alone
set_option linter.unusedVariables false
set_option linter.unusedSimpArgs false

set_option maxHeartbeats 6400000 in
set_option maxRecDepth 100000 in
theorem types_Check.calls (k : Nat) (A0 : Option Addr) (c0 : Nat) (l0 : List S38) (r1 : Int) (r2 : Int) (w : World) (hr0 : Kd.C k38 w A0 l0.length l0) (hc0 : l0.length ≤ c0) (h : types_Check.f k l0 = some (r1, r2)) :
    Calls Try.prog 36 #[.slice A0 l0.length c0] w fun e w' => e = .returned (.tuple #[.int .i64 r1, .int .i64 r2]) ∧ Below w.heap.size w w' := by
  have hmf : ∀ (fn : Fn) (first cap : Array Value) (w : World), (Instr.makeFunc fn first cap).run Try.prog w = .ok (.func fn first cap) w := fun _ _ _ _ => rfl
  have HR := Aside0.mk hr0
  have HC := Aside0.mk hc0
  have hlen : l0.length ≤ 9223372036854775807 := hr0.2.1
  have HRES := Aside0.mk h
  unfold types_Check.f at HRES
  clear hr0 hc0 h
  go_enter Try.func36, Try.ntmps36
  go_wp2
  go_loopw [9] (fun v9 wr => ∃ (i kq : Nat), v9 = .int .i64 (i : Int) ∧ i ≤ l0.length ∧ Aside0 (types_Check.l0 kq l0 i = some (r1, r2)) ∧ Aside0 (Below w.heap.size w wr)) (fun v9 _ => ((l0.length : Int) - intOf v9).toNat)
  case atStart => exact ⟨0, k, rfl, Nat.zero_le _, HRES, ⟨Below.refl _ _⟩⟩
  case round =>
    obtain ⟨i, kq, rfl, hi, HH, HB⟩ := hrel
    cases kq with
    | zero => exact absurd HH.out (by simp [types_Check.l0])
    | succ kq =>
    have H := HH.out
    clear HH
    unfold types_Check.l0 at H
    by_cases c1 : i < l0.length
    · rw [if_pos c1] at H
      have c1b : decide ((i : Int) < (l0.length : Int)) = true := decide_eq_true (by omega)
      obtain ⟨e0, E0, H⟩ := Option.bind_eq_some_iff.mp H
      have HE := Aside0.mk E0
      have HH := Aside0.mk H
      clear E0 H
      obtain ⟨ad, A2, c2, e1, hx0, hx1, hx2, hl2, hi2⟩ := at_T38 HR.out (i : Int) (by omega) (by omega)
      cases e1
      replace hx0 := (HB.out.cell (World.block_lt_of_cell? w _ hx0)).trans hx0
      replace hx1 := (HB.out.cell (World.block_lt_of_cell? w _ hx1)).trans hx1
      replace hx2 := (HB.out.cell (World.block_lt_of_cell? w _ hx2)).trans hx2
      simp only [Int.toNat_natCast] at hx0 hx1 hx2
      clear hl2 hi2
      have p5 : (0 ≤ (i : Int)) = True := eq_true (by omega)
      have p6 : ((i : Int) < (l0.length : Int)) = True := eq_true (by omega)
      go_upto_region 4 with (first | ((with_reducible refine gate_dst (N := 5) rfl ?_); refine box_event ?hg (N := 5) ?hd (cs := #[.string (⟨#[]⟩ : ByteArray), .int .i64 0, .slice none 0 0]) (t := 38) ?hr ?_; (case hd => rfl); (case hg => rfl); (case hr => first | (go_simp; done) | (go_simp; rfl)); intro gb hg w5 hbox hb; have n1 := Aside0.mk hbox; have n2 := Aside0.mk hb; have n3 := Aside0.mk hg; have hcz0 := blk_cell hbox 0; have hcz1 := blk_cell hbox 1; have hcz2 := blk_cell hbox 2; have hfz0 := blk_frozen hbox 0; have hfz1 := blk_frozen hbox 1; have hfz2 := blk_frozen hbox 2; clear hbox hb hg))
      have hs := HB.out.size
      have hgb := n3.out
      obtain ⟨x, hx⟩ : ∃ x, x = rd_T38 l0 (i : Int) := ⟨_, rfl⟩
      rw [← hx] at HE ⊢
      have hA : CheckAt w gb x A2 c2 (((w5.setCell ⟨gb, 0, none⟩ (.string x.f0)).setCell ⟨gb, 1, none⟩ (.int .i64 x.f1)).setCell ⟨gb, 2, none⟩ (.slice A2 x.f2.length c2)) :=
        ⟨(((below_step HB.out n2.out).setCell (p := ⟨gb, 0, none⟩) (by simp; omega) _).setCell (p := ⟨gb, 1, none⟩) (by simp; omega) _).setCell (p := ⟨gb, 2, none⟩) (by simp; omega) _, blk_set (blk_set (blk_set n1.out 0 (.string x.f0)) 1 (.int .i64 x.f1)) 2 (.slice A2 x.f2.length c2)⟩
      generalize ((w5.setCell ⟨gb, 0, none⟩ (.string x.f0)).setCell ⟨gb, 1, none⟩ (.int .i64 x.f1)).setCell ⟨gb, 2, none⟩ (.slice A2 x.f2.length c2) = w6 at hA ⊢
      have HX := Aside0.mk hx
      clear hx n1 n2 n3 hcz0 hcz1 hcz2 hfz0 hfz1 hfz2 hx0 hx1 hx2 hs hgb
      by_cases q1 : i ≥ 32
      · have q1b : decide ((32 : Int) ≤ (i : Int)) = true := decide_eq_true (by omega)
        have hE := HE.out
        rw [if_pos q1] at hE
        obtain rfl := Option.some.inj hE
        have H := HH.out
        rw [if_neg (by decide)] at H
        obtain ⟨rfl, rfl⟩ := Prod.mk.inj (Option.some.inj H)
        clear hE H HH q1
        have HA := Aside0.mk hA
        clear hA
        go_wp2
        go_ret2
        exact ⟨rfl, HA.out.below⟩
      · have q1b : decide ((32 : Int) ≤ (i : Int)) = false := decide_eq_false (by omega)
        have hE := HE.out
        rw [if_neg q1] at hE
        clear HE q1
        obtain ⟨b1, B1, hE⟩ := Option.bind_eq_some_iff.mp hE
        have HB1 := Aside0.mk B1
        clear B1
        by_cases d1 : b1 = true
        · subst d1
          rw [if_pos rfl] at hE
          obtain ⟨ws, WS, hE⟩ := Option.bind_eq_some_iff.mp hE
          obtain ⟨b2, B2, hE⟩ := Option.bind_eq_some_iff.mp hE
          have HWS := Aside0.mk WS
          have HB2 := Aside0.mk B2
          have HE := Aside0.mk hE
          clear WS B2 hE
          go_upto_region 8 with fail
          have hcb0 := blk_cell hA.box 0
          go_region_held3 (fun w' => w'.cell? ⟨gb, 0, none⟩ = some (.string x.f0) ∧ CheckAt w gb x A2 c2 w')
            (first | (refine CheckAt.both ?_; (repeat (first | exact hW | exact hA | refine CheckAt.drew ?_ | refine CheckAt.drewN ?_ _))))
            (first | (go_at_call 50; (with_reducible refine (wire_IsName.calls kq _ true _ HB1.out).mono ?_); rintro e w9 ⟨rfl, ⟨m, rfl⟩⟩) | (go_at_call 38; (with_reducible refine (types_words.calls ws _ HWS.out).mono ?_); rintro e w9 ⟨v0, rfl, hR, hb⟩; obtain ⟨Aw, cw, rfl⟩ := Kd.R_slice hR; have hW : CheckAt w gb x A2 c2 w9 := CheckAt.step (by (repeat (first | exact hA | refine CheckAt.drew ?_ | refine CheckAt.drewN ?_ _))) hb) | (go_at_call 51; (with_reducible refine (slices_Contains_string_string.calls kq Aw cw ws _ b2 _ ?hr1 (Kd.R_reads' hR).2.1 HB2.out).mono ?_); (case hr1 => (repeat (first | exact (Kd.R_reads' hR).2.2 | refine Kd.C_drew ?_ | refine Kd.C_drewN ?_ _))); rintro e w9 ⟨rfl, ⟨m, rfl⟩⟩))
          all_goals
            refine check_exit (fun W => CheckAt w gb x A2 c2 W) ?_ (fun w7 hA7 => ?_)
          any_goals (repeat (first | exact hW | exact hA | refine CheckAt.drew ?_ | refine CheckAt.drewN ?_ _))
          all_goals
            clear hA
            by_cases d2 : b2 = true
            · subst d2
              have hE := HE.out
              rw [if_pos rfl] at hE
              obtain rfl := Option.some.inj hE
              have H := HH.out
              rw [if_neg (by decide)] at H
              obtain ⟨rfl, rfl⟩ := Prod.mk.inj (Option.some.inj H)
              have HA := Aside0.mk hA7
              clear hE H HH hA7
              go_wp2
              go_ret2
              exact ⟨rfl, HA.out.below⟩
            · replace d2 := Bool.eq_false_iff.mpr d2
              subst d2
              have hE := HE.out
              rw [if_neg (by decide)] at hE
              have HE := Aside0.mk hE
              have HA := Aside0.mk hA7
              clear hE hA7
              have p7 : (i ≤ c0) = True := eq_true (by have := HC.out; omega)
              go_wp2_with fail
              have hl9 : (l0.take i).length = i := by rw [List.length_take]; omega
              have hcall := contains_class 53 #[.pointer (some ⟨gb, 0, none⟩)] (some ad) c0 (l0.take i) w (Kd.C_take HR.out (m := i) (by omega)) (CheckAt w gb x A2 c2) (fun y => y.f0.toList == x.f0.toList) (fun _ h => h.below) (fun y A3 c3 W h => types_Check_step w gb x A2 c2 y A3 c3 W h) (callFunc_run Try.func53 (by kernel_rfl) (by kernel_rfl)) w7 HA.out
              rw [hl9] at hcall
              refine hcall.mono ?_
              clear hcall hl9
              rintro e w8 ⟨rfl, hA8⟩
              have hE := HE.out
              clear HA HE
              generalize ((l0.take i).any fun y => y.f0.toList == x.f0.toList) = b3 at hE ⊢
              by_cases d3 : b3 = true
              · subst d3
                rw [if_pos rfl] at hE
                obtain rfl := Option.some.inj hE
                have H := HH.out
                rw [if_neg (by decide)] at H
                obtain ⟨rfl, rfl⟩ := Prod.mk.inj (Option.some.inj H)
                have HA := Aside0.mk hA8
                clear hE H HH hA8
                go_wp2
                go_ret2
                exact ⟨rfl, HA.out.below⟩
              · replace d3 := Bool.eq_false_iff.mpr d3
                subst d3
                rw [if_neg (by decide)] at hE
                have hcb1 := blk_cell hA8.box 1
                by_cases q2 : x.f1 < -1
                · rw [if_pos (.inl q2)] at hE
                  obtain rfl := Option.some.inj hE
                  have H := HH.out
                  rw [if_neg (by decide)] at H
                  obtain ⟨rfl, rfl⟩ := Prod.mk.inj (Option.some.inj H)
                  have q2b : decide (x.f1 < -1) = true := decide_eq_true q2
                  have HA := Aside0.mk hA8
                  clear hE H HH hA8 q2
                  go_wp2
                  go_ret2
                  exact ⟨rfl, HA.out.below⟩
                · have q2b : decide (x.f1 < -1) = false := decide_eq_false q2
                  by_cases q3 : x.f1 ≥ (i : Int)
                  · rw [if_pos (.inr q3)] at hE
                    obtain rfl := Option.some.inj hE
                    have H := HH.out
                    rw [if_neg (by decide)] at H
                    obtain ⟨rfl, rfl⟩ := Prod.mk.inj (Option.some.inj H)
                    have q3b : decide ((i : Int) ≤ x.f1) = true := decide_eq_true q3
                    have HA := Aside0.mk hA8
                    clear hE H HH hA8 q2 q3
                    go_wp2
                    go_ret2
                    exact ⟨rfl, HA.out.below⟩
                  · have q3b : decide ((i : Int) ≤ x.f1) = false := decide_eq_false q3
                    rw [if_neg (fun h => h.elim q2 q3)] at hE
                    have HE := Aside0.mk hE
                    have HA := Aside0.mk hA8
                    clear hE hA8 q2 q3
                    go_wp2_with fail
                    refine (types_fields.calls kq (some ad) c0 l0 (i : Int) e0 _ (Kd.C_below HR.out HA.out.below) HC.out HE.out).mono ?_
                    rintro e w9 ⟨rfl, hb9⟩
                    have HB9 := Aside0.mk (below_step HA.out.below hb9)
                    clear hb9 hcb1
                    by_cases q4 : e0 = 0
                    · subst q4
                      have H := HH.out
                      rw [if_pos rfl] at H
                      have HH := Aside0.mk H
                      clear H
                      go_wp2
                      go_roundw
                      case rel => exact ⟨i + 1, kq, rfl, by omega, HH, HB9⟩
                      case measure => simp [intOf]; omega
                    · have q4b : (e0 != 0) = true := bne_iff_ne.mpr q4
                      have q4c : (e0 == 0) = false := beq_eq_false_iff_ne.mpr q4
                      have H := HH.out
                      rw [if_neg q4] at H
                      obtain ⟨rfl, rfl⟩ := Prod.mk.inj (Option.some.inj H)
                      clear H HH
                      have Q4 := Aside0.mk q4
                      clear q4
                      go_wp2
                      go_ret2
                      exact ⟨rfl, HB9.out⟩
        · replace d1 := Bool.eq_false_iff.mpr d1
          subst d1
          rw [if_neg (by decide)] at hE
          obtain rfl := Option.some.inj hE
          have H := HH.out
          rw [if_neg (by decide)] at H
          obtain ⟨rfl, rfl⟩ := Prod.mk.inj (Option.some.inj H)
          clear hE H HH
          go_upto_region 8 with fail
          have hcb0 := blk_cell hA.box 0
          have HA := Aside0.mk hA
          clear hA
          go_quiet (first | (go_at_call 50; (with_reducible refine (wire_IsName.calls kq _ false _ HB1.out).mono ?_); rintro e w9 ⟨rfl, ⟨m, rfl⟩⟩; exact ⟨rfl, _, World.drewN_drewN _ _ _⟩))
          go_wp2
          go_ret2
          exact ⟨rfl, pw_below_drewN HA.out.below _⟩
    · rw [if_neg c1] at H
      have c1b : decide ((i : Int) < (l0.length : Int)) = false := decide_eq_false (by omega)
      obtain ⟨rfl, rfl⟩ := Prod.mk.inj (Option.some.inj H)
      clear H
      go_wp2
      go_ret2
      exact ⟨rfl, HB.out⟩

def provisolaw02_TypesChecks.f (k : Nat) (l0 : List (S38)) : Option (Bool) := (provisoplain_Classes.f k l0).bind fun t336 => ((types_Check.f k t336).bind fun bt339 => ((provisoref02_Check.f k l0).bind fun bt341 => (if bt339.1 = bt341.1 then (if bt339.2 = bt341.2 then ((provisoplain_SameClasses.f k t336 l0).bind fun t343 => (some t343)) else (some false)) else (some false))))
set_option maxHeartbeats 8000000 in
set_option maxRecDepth 100000 in
theorem provisolaw02_TypesChecks.calls (k : Nat) (A0 : Option Addr) (c0 : Nat) (l0 : List (S38)) (r : Bool) (w : World) (hr0 : Kd.C k38 w A0 l0.length l0) (hc0 : l0.length ≤ c0) (h : provisolaw02_TypesChecks.f k l0 = some r) :
    Calls Try.prog 10 #[.slice A0 l0.length c0] w fun e w' => e = .returned (.bool r) ∧ Below w.heap.size w w' := by
  have HR0 := Aside0.mk hr0
  have HC0 := Aside0.mk hc0
  clear hr0 hc0
  have HB := Aside0.mk (Below.refl w.heap.size w)
  have H : ((provisoplain_Classes.f k l0).bind fun t336 => ((types_Check.f k t336).bind fun bt339 => ((provisoref02_Check.f k l0).bind fun bt341 => (if bt339.1 = bt341.1 then (if bt339.2 = bt341.2 then ((provisoplain_SameClasses.f k t336 l0).bind fun t343 => (some t343)) else (some false)) else (some false))))) = some r := h
  clear h
  replace H := Option.bind_eq_some_iff.mp H
  obtain ⟨t336, A20, H⟩ := H
  replace H : ((types_Check.f k t336).bind fun bt339 => ((provisoref02_Check.f k l0).bind fun bt341 => (if bt339.1 = bt341.1 then (if bt339.2 = bt341.2 then ((provisoplain_SameClasses.f k t336 l0).bind fun t343 => (some t343)) else (some false)) else (some false)))) = some r := H
  have A2 := Aside0.mk A20
  clear A20
  replace H := Option.bind_eq_some_iff.mp H
  obtain ⟨⟨t339, t340⟩, A30, H⟩ := H
  replace H : ((provisoref02_Check.f k l0).bind fun bt341 => (if t339 = bt341.1 then (if t340 = bt341.2 then ((provisoplain_SameClasses.f k t336 l0).bind fun t343 => (some t343)) else (some false)) else (some false))) = some r := H
  have A3 := Aside0.mk A30
  clear A30
  replace H := Option.bind_eq_some_iff.mp H
  obtain ⟨⟨t341, t342⟩, A40, H⟩ := H
  replace H : (if t339 = t341 then (if t340 = t342 then ((provisoplain_SameClasses.f k t336 l0).bind fun t343 => (some t343)) else (some false)) else (some false)) = some r := H
  have A4 := Aside0.mk A40
  clear A40
  by_cases c5 : t339 = t341
  · rw [if_pos c5] at H
    have c5b0 : (t339 == t341) = true := beq_iff_eq.mpr c5
    have c5b1 : (t339 != t341) = false := bne_eq_false_iff_eq.mpr c5
    clear c5
    by_cases c6 : t340 = t342
    · rw [if_pos c6] at H
      have c6b0 : (t340 == t342) = true := beq_iff_eq.mpr c6
      have c6b1 : (t340 != t342) = false := bne_eq_false_iff_eq.mpr c6
      clear c6
      replace H := Option.bind_eq_some_iff.mp H
      obtain ⟨t343, A70, H⟩ := H
      replace H : (some t343) = some r := H
      have A7 := Aside0.mk A70
      clear A70
      obtain rfl := Option.some.inj H
      go_enter Try.func10, Try.ntmps10
      go_wp2_with (first | ((with_reducible refine gate_callee (f := 22) rfl ?_); refine goesL_ (some 9) rfl rfl Try.func22 (by kernel_rfl) rfl #[.slice A0 l0.length c0] rfl (by (try simp only [List.map_toArray, List.map_cons, List.map_nil]); first | done | rfl | (simp only [List.length_drop, List.length_take]; rfl)) ?_; (with_reducible refine (provisoplain_Classes.calls k _ _ l0 t336 _ ?side1 ?side2 A2.out).mono ?_); (case side1 => repeat (first | exact HR0.out | (with_reducible refine Kd.C_alloc ?_ _) | (with_reducible refine Kd.C_drewN ?_ _) | (with_reducible refine Kd.C_drew ?_))); (case side2 => exact HC0.out); rintro e w8 ⟨v337, rfl, ho0, hb⟩; refine ⟨_, rfl, ?_⟩; have n0_ := Aside0.mk (Kd.S_lower ho0 (below_size (by repeat (first | (with_reducible first | exact HB.out | apply below_alloc | apply pw_below_drewN | apply below_drew1) | exact HB.out)))); have n1_ := Aside0.mk (below_step (by repeat (first | (with_reducible first | exact HB.out | apply below_alloc | apply pw_below_drewN | apply below_drew1) | exact HB.out)) hb); clear HB; have HO338 := n0_; have HB := n1_; clear n0_ n1_; (try clear hb); (try clear hb2); (try clear hk); (try clear hi); (try clear ho0); obtain ⟨Ao9, co9, eo9⟩ := Kd.S_slice HO338.out; subst eo9) | ((with_reducible refine gate_callee (f := 36) rfl ?_); refine goesL_ (some 12) rfl rfl Try.func36 (by kernel_rfl) rfl #[.slice Ao9 t336.length co9] rfl (by (try simp only [List.map_toArray, List.map_cons, List.map_nil]); first | done | rfl | (simp only [List.length_drop, List.length_take]; rfl)) ?_; (with_reducible refine (types_Check.calls k _ _ t336 t339 t340 _ ?side1 ?side2 A3.out).mono ?_); (case side1 => repeat (first | exact (Kd.S_reads' HO338.out).2.2 | (with_reducible refine Kd.C_alloc ?_ _) | (with_reducible refine Kd.C_drewN ?_ _) | (with_reducible refine Kd.C_drew ?_))); (case side2 => exact (Kd.S_reads' HO338.out).2.1); rintro e w10 ⟨rfl, hb⟩; refine ⟨_, rfl, ?_⟩; have n0_ := Aside0.mk (Kd.S_below (by (with_reducible repeat (first | apply Kd.S_alloc | apply Kd.S_drewN | apply Kd.S_drew)); exact HO338.out) hb); have n1_ := Aside0.mk (below_step (by repeat (first | (with_reducible first | exact HB.out | apply below_alloc | apply pw_below_drewN | apply below_drew1) | exact HB.out)) hb); clear HO338; clear HB; have HO338 := n0_; have HB := n1_; clear n0_ n1_; (try clear hb); (try clear hb2); (try clear hk); (try clear hi)) | ((with_reducible refine gate_callee (f := 37) rfl ?_); refine goesL_ (some 17) rfl rfl Try.func37 (by kernel_rfl) rfl #[.slice A0 l0.length c0] rfl (by (try simp only [List.map_toArray, List.map_cons, List.map_nil]); first | done | rfl | (simp only [List.length_drop, List.length_take]; rfl)) ?_; (with_reducible refine (provisoref02_Check.calls k _ _ l0 t341 t342 _ ?side1 ?side2 A4.out).mono ?_); (case side1 => repeat (first | exact (Kd.C_below HR0.out HB.out) | (with_reducible refine Kd.C_alloc ?_ _) | (with_reducible refine Kd.C_drewN ?_ _) | (with_reducible refine Kd.C_drew ?_))); (case side2 => exact HC0.out); rintro e w11 ⟨rfl, hb⟩; refine ⟨_, rfl, ?_⟩; have n0_ := Aside0.mk (Kd.S_below (by (with_reducible repeat (first | apply Kd.S_alloc | apply Kd.S_drewN | apply Kd.S_drew)); exact HO338.out) hb); have n1_ := Aside0.mk (below_step (by repeat (first | (with_reducible first | exact HB.out | apply below_alloc | apply pw_below_drewN | apply below_drew1) | exact HB.out)) hb); clear HO338; clear HB; have HO338 := n0_; have HB := n1_; clear n0_ n1_; (try clear hb); (try clear hb2); (try clear hk); (try clear hi)) | (go_at_call 27; (with_reducible refine (provisoplain_SameClasses.calls k _ _ t336 _ _ l0 t343 _ ?side1 ?side2 ?side3 ?side4 A7.out).mono ?_); (case side1 => repeat (first | exact (Kd.S_reads' HO338.out).2.2 | (with_reducible refine Kd.C_alloc ?_ _) | (with_reducible refine Kd.C_drewN ?_ _) | (with_reducible refine Kd.C_drew ?_))); (case side2 => exact (Kd.S_reads' HO338.out).2.1); (case side3 => repeat (first | exact (Kd.C_below HR0.out HB.out) | (with_reducible refine Kd.C_alloc ?_ _) | (with_reducible refine Kd.C_drewN ?_ _) | (with_reducible refine Kd.C_drew ?_))); (case side4 => exact HC0.out); rintro e w12 ⟨rfl, hb⟩; have n0_ := Aside0.mk (Kd.S_below (by (with_reducible repeat (first | apply Kd.S_alloc | apply Kd.S_drewN | apply Kd.S_drew)); exact HO338.out) hb); have n1_ := Aside0.mk (below_step (by repeat (first | (with_reducible first | exact HB.out | apply below_alloc | apply pw_below_drewN | apply below_drew1) | exact HB.out)) hb); clear HO338; clear HB; have HO338 := n0_; have HB := n1_; clear n0_ n1_; (try clear hb); (try clear hb2); (try clear hk); (try clear hi)))
      go_ret
      exact ⟨by first | rfl | (simp [errW_none, errW_some] <;> rfl) | (simp [*, errW_none, errW_some] <;> rfl), by repeat (first | (with_reducible first | exact HB.out | apply below_alloc | apply pw_below_drewN | apply below_drew1) | exact HB.out)⟩
    · rw [if_neg c6] at H
      have c6b0 : (t340 == t342) = false := beq_eq_false_iff_ne.mpr c6
      have c6b1 : (t340 != t342) = true := bne_iff_ne.mpr c6
      obtain rfl := Option.some.inj H
      go_enter Try.func10, Try.ntmps10
      go_wp2_with (first | ((with_reducible refine gate_callee (f := 22) rfl ?_); refine goesL_ (some 9) rfl rfl Try.func22 (by kernel_rfl) rfl #[.slice A0 l0.length c0] rfl (by (try simp only [List.map_toArray, List.map_cons, List.map_nil]); first | done | rfl | (simp only [List.length_drop, List.length_take]; rfl)) ?_; (with_reducible refine (provisoplain_Classes.calls k _ _ l0 t336 _ ?side1 ?side2 A2.out).mono ?_); (case side1 => repeat (first | exact HR0.out | (with_reducible refine Kd.C_alloc ?_ _) | (with_reducible refine Kd.C_drewN ?_ _) | (with_reducible refine Kd.C_drew ?_))); (case side2 => exact HC0.out); rintro e w13 ⟨v337, rfl, ho0, hb⟩; refine ⟨_, rfl, ?_⟩; have n0_ := Aside0.mk (Kd.S_lower ho0 (below_size (by repeat (first | (with_reducible first | exact HB.out | apply below_alloc | apply pw_below_drewN | apply below_drew1) | exact HB.out)))); have n1_ := Aside0.mk (below_step (by repeat (first | (with_reducible first | exact HB.out | apply below_alloc | apply pw_below_drewN | apply below_drew1) | exact HB.out)) hb); clear HB; have HO338 := n0_; have HB := n1_; clear n0_ n1_; (try clear hb); (try clear hb2); (try clear hk); (try clear hi); (try clear ho0); obtain ⟨Ao14, co14, eo14⟩ := Kd.S_slice HO338.out; subst eo14) | ((with_reducible refine gate_callee (f := 36) rfl ?_); refine goesL_ (some 12) rfl rfl Try.func36 (by kernel_rfl) rfl #[.slice Ao14 t336.length co14] rfl (by (try simp only [List.map_toArray, List.map_cons, List.map_nil]); first | done | rfl | (simp only [List.length_drop, List.length_take]; rfl)) ?_; (with_reducible refine (types_Check.calls k _ _ t336 t339 t340 _ ?side1 ?side2 A3.out).mono ?_); (case side1 => repeat (first | exact (Kd.S_reads' HO338.out).2.2 | (with_reducible refine Kd.C_alloc ?_ _) | (with_reducible refine Kd.C_drewN ?_ _) | (with_reducible refine Kd.C_drew ?_))); (case side2 => exact (Kd.S_reads' HO338.out).2.1); rintro e w15 ⟨rfl, hb⟩; refine ⟨_, rfl, ?_⟩; have n0_ := Aside0.mk (Kd.S_below (by (with_reducible repeat (first | apply Kd.S_alloc | apply Kd.S_drewN | apply Kd.S_drew)); exact HO338.out) hb); have n1_ := Aside0.mk (below_step (by repeat (first | (with_reducible first | exact HB.out | apply below_alloc | apply pw_below_drewN | apply below_drew1) | exact HB.out)) hb); clear HO338; clear HB; have HO338 := n0_; have HB := n1_; clear n0_ n1_; (try clear hb); (try clear hb2); (try clear hk); (try clear hi)) | ((with_reducible refine gate_callee (f := 37) rfl ?_); refine goesL_ (some 17) rfl rfl Try.func37 (by kernel_rfl) rfl #[.slice A0 l0.length c0] rfl (by (try simp only [List.map_toArray, List.map_cons, List.map_nil]); first | done | rfl | (simp only [List.length_drop, List.length_take]; rfl)) ?_; (with_reducible refine (provisoref02_Check.calls k _ _ l0 t341 t342 _ ?side1 ?side2 A4.out).mono ?_); (case side1 => repeat (first | exact (Kd.C_below HR0.out HB.out) | (with_reducible refine Kd.C_alloc ?_ _) | (with_reducible refine Kd.C_drewN ?_ _) | (with_reducible refine Kd.C_drew ?_))); (case side2 => exact HC0.out); rintro e w16 ⟨rfl, hb⟩; refine ⟨_, rfl, ?_⟩; have n0_ := Aside0.mk (Kd.S_below (by (with_reducible repeat (first | apply Kd.S_alloc | apply Kd.S_drewN | apply Kd.S_drew)); exact HO338.out) hb); have n1_ := Aside0.mk (below_step (by repeat (first | (with_reducible first | exact HB.out | apply below_alloc | apply pw_below_drewN | apply below_drew1) | exact HB.out)) hb); clear HO338; clear HB; have HO338 := n0_; have HB := n1_; clear n0_ n1_; (try clear hb); (try clear hb2); (try clear hk); (try clear hi)))
      go_ret
      exact ⟨by first | rfl | (simp [errW_none, errW_some] <;> rfl) | (simp [*, errW_none, errW_some] <;> rfl), by repeat (first | (with_reducible first | exact HB.out | apply below_alloc | apply pw_below_drewN | apply below_drew1) | exact HB.out)⟩
  · rw [if_neg c5] at H
    have c5b0 : (t339 == t341) = false := beq_eq_false_iff_ne.mpr c5
    have c5b1 : (t339 != t341) = true := bne_iff_ne.mpr c5
    obtain rfl := Option.some.inj H
    go_enter Try.func10, Try.ntmps10
    go_wp2_with (first | ((with_reducible refine gate_callee (f := 22) rfl ?_); refine goesL_ (some 9) rfl rfl Try.func22 (by kernel_rfl) rfl #[.slice A0 l0.length c0] rfl (by (try simp only [List.map_toArray, List.map_cons, List.map_nil]); first | done | rfl | (simp only [List.length_drop, List.length_take]; rfl)) ?_; (with_reducible refine (provisoplain_Classes.calls k _ _ l0 t336 _ ?side1 ?side2 A2.out).mono ?_); (case side1 => repeat (first | exact HR0.out | (with_reducible refine Kd.C_alloc ?_ _) | (with_reducible refine Kd.C_drewN ?_ _) | (with_reducible refine Kd.C_drew ?_))); (case side2 => exact HC0.out); rintro e w17 ⟨v337, rfl, ho0, hb⟩; refine ⟨_, rfl, ?_⟩; have n0_ := Aside0.mk (Kd.S_lower ho0 (below_size (by repeat (first | (with_reducible first | exact HB.out | apply below_alloc | apply pw_below_drewN | apply below_drew1) | exact HB.out)))); have n1_ := Aside0.mk (below_step (by repeat (first | (with_reducible first | exact HB.out | apply below_alloc | apply pw_below_drewN | apply below_drew1) | exact HB.out)) hb); clear HB; have HO338 := n0_; have HB := n1_; clear n0_ n1_; (try clear hb); (try clear hb2); (try clear hk); (try clear hi); (try clear ho0); obtain ⟨Ao18, co18, eo18⟩ := Kd.S_slice HO338.out; subst eo18) | ((with_reducible refine gate_callee (f := 36) rfl ?_); refine goesL_ (some 12) rfl rfl Try.func36 (by kernel_rfl) rfl #[.slice Ao18 t336.length co18] rfl (by (try simp only [List.map_toArray, List.map_cons, List.map_nil]); first | done | rfl | (simp only [List.length_drop, List.length_take]; rfl)) ?_; (with_reducible refine (types_Check.calls k _ _ t336 t339 t340 _ ?side1 ?side2 A3.out).mono ?_); (case side1 => repeat (first | exact (Kd.S_reads' HO338.out).2.2 | (with_reducible refine Kd.C_alloc ?_ _) | (with_reducible refine Kd.C_drewN ?_ _) | (with_reducible refine Kd.C_drew ?_))); (case side2 => exact (Kd.S_reads' HO338.out).2.1); rintro e w19 ⟨rfl, hb⟩; refine ⟨_, rfl, ?_⟩; have n0_ := Aside0.mk (Kd.S_below (by (with_reducible repeat (first | apply Kd.S_alloc | apply Kd.S_drewN | apply Kd.S_drew)); exact HO338.out) hb); have n1_ := Aside0.mk (below_step (by repeat (first | (with_reducible first | exact HB.out | apply below_alloc | apply pw_below_drewN | apply below_drew1) | exact HB.out)) hb); clear HO338; clear HB; have HO338 := n0_; have HB := n1_; clear n0_ n1_; (try clear hb); (try clear hb2); (try clear hk); (try clear hi)) | ((with_reducible refine gate_callee (f := 37) rfl ?_); refine goesL_ (some 17) rfl rfl Try.func37 (by kernel_rfl) rfl #[.slice A0 l0.length c0] rfl (by (try simp only [List.map_toArray, List.map_cons, List.map_nil]); first | done | rfl | (simp only [List.length_drop, List.length_take]; rfl)) ?_; (with_reducible refine (provisoref02_Check.calls k _ _ l0 t341 t342 _ ?side1 ?side2 A4.out).mono ?_); (case side1 => repeat (first | exact (Kd.C_below HR0.out HB.out) | (with_reducible refine Kd.C_alloc ?_ _) | (with_reducible refine Kd.C_drewN ?_ _) | (with_reducible refine Kd.C_drew ?_))); (case side2 => exact HC0.out); rintro e w20 ⟨rfl, hb⟩; refine ⟨_, rfl, ?_⟩; have n0_ := Aside0.mk (Kd.S_below (by (with_reducible repeat (first | apply Kd.S_alloc | apply Kd.S_drewN | apply Kd.S_drew)); exact HO338.out) hb); have n1_ := Aside0.mk (below_step (by repeat (first | (with_reducible first | exact HB.out | apply below_alloc | apply pw_below_drewN | apply below_drew1) | exact HB.out)) hb); clear HO338; clear HB; have HO338 := n0_; have HB := n1_; clear n0_ n1_; (try clear hb); (try clear hb2); (try clear hk); (try clear hi)))
    go_ret
    exact ⟨by first | rfl | (simp [errW_none, errW_some] <;> rfl) | (simp [*, errW_none, errW_some] <;> rfl), by repeat (first | (with_reducible first | exact HB.out | apply below_alloc | apply pw_below_drewN | apply below_drew1) | exact HB.out)⟩

end Go.Proofs.Ytghgloepameloaa.P

end

section
namespace Go.Proofs.Ytghgloepameloaa.P
open Go.RowKit Go.Proofs.YtghgloepameloaaW.PrintWords
def provisolaw02_TypesChecks.Pure : Prop := ∀ (l0 : List (S38)), (fun l : List (S38) => l.length ≤ 9223372036854775807 ∧ l.length * 48 ≤ 140737488351232 ∧ ∀ x ∈ l, Ok38 x) l0 → ∃ k, provisolaw02_TypesChecks.f k l0 = some true
end Go.Proofs.Ytghgloepameloaa.P

end

section
namespace Go.Proofs.Ytghgloepameloaa.P
open Go.RowKit Go.Proofs.YtghgloepameloaaW.PrintWords Go.Proofs.YtghgloepameloaaW.PrintLast Go.Proofs.YtghgloepameloaaW.PrintMore
set_option linter.unusedVariables false
set_option linter.unusedSimpArgs false

theorem w_next {i : Int} {n : Nat} (h0 : 0 ≤ i) (h : i < (n : Int)) (hn : n ≤ 9223372036854775807) : wrap64 (i + 1) = i + 1 := by
  unfold wrap64
  omega

def sign (i c : Int) : Bool :=
  (decide (97 ≤ c) && decide (c ≤ 122)) || (decide (65 ≤ c) && decide (c ≤ 90)) || (decide (0 < i) && ((decide (48 ≤ c) && decide (c ≤ 57)) || decide (c = 95)))
def tailOk (s : ByteArray) : Nat → Bool
  | 0 => true
  | d + 1 => sign ((s.size : Int) - (d + 1)) (bt s ((s.size : Int) - (d + 1))) && tailOk s d
def nameOk (s : ByteArray) : Bool := decide (1 ≤ s.size) && decide (s.size ≤ 24) && tailOk s s.size
theorem ref_name_tail (s : ByteArray) (hn : s.size ≤ 140737488351232) (d : Nat) : ∀ (i : Int), 0 ≤ i → i ≤ s.size → (s.size : Int) - i = d → Ev (fun k => provisoref02_IsName.l0 k s i) (tailOk s d) := by
  induction d with
  | zero =>
    intro i h0 h1 hd
    exact Ev.step (f := fun _ => some true) (fun k => by simp only [provisoref02_IsName.l0]; rw [if_neg (by omega)]) (Ev.now _)
  | succ d ih =>
    intro i h0 h1 hd
    have hlt : i < (s.size : Int) := by omega
    have hi : (s.size : Int) - (d + 1) = i := by omega
    have h := ih (i + 1) (by omega) (by omega) (by omega)
    cases hs : sign i (bt s i) with
    | true =>
      refine Ev.step (fun k => ?_) (show Ev _ (tailOk s (d + 1)) from by simp only [tailOk, hi, hs, Bool.true_and]; exact h)
      simp only [provisoref02_IsName.l0]
      rw [if_pos hlt, if_pos h0, w_next h0 hlt (by omega)]
      revert hs
      generalize bt s i = c
      intro hs
      by_cases a1 : 97 ≤ c <;> by_cases a2 : c ≤ 122 <;> by_cases a3 : 65 ≤ c <;> by_cases a4 : c ≤ 90 <;> by_cases a5 : i = 0 <;> by_cases a6 : c < 48 <;> by_cases a7 : 57 < c <;> by_cases a8 : c = 95 <;> (try omega) <;> (have a9 : 0 < i ∨ i = 0 := by omega) <;> simp [sign, a1, a2, a3, a4, a5, a6, a7, a8] at hs ⊢ <;> omega
    | false =>
      refine Ev.step (f := fun _ => some false) (fun k => ?_) (show Ev _ (tailOk s (d + 1)) from by simp only [tailOk, hi, hs, Bool.false_and]; exact Ev.now _)
      simp only [provisoref02_IsName.l0]
      rw [if_pos hlt, if_pos h0, w_next h0 hlt (by omega)]
      revert hs
      generalize bt s i = c
      intro hs
      by_cases a1 : 97 ≤ c <;> by_cases a2 : c ≤ 122 <;> by_cases a3 : 65 ≤ c <;> by_cases a4 : c ≤ 90 <;> by_cases a5 : i = 0 <;> by_cases a6 : c < 48 <;> by_cases a7 : 57 < c <;> by_cases a8 : c = 95 <;> (try omega) <;> (have a9 : 0 < i ∨ i = 0 := by omega) <;> simp [sign, a1, a2, a3, a4, a5, a6, a7, a8] at hs ⊢ <;> omega
theorem ref_name (s : ByteArray) (hn : s.size ≤ 140737488351232) : Ev (fun k => provisoref02_IsName.f k s) (nameOk s) := by
  have h := ref_name_tail s hn s.size 0 (by omega) (by omega) (by omega)
  by_cases a1 : (s.size : Int) < 1
  · have e : nameOk s = false := by unfold nameOk; rw [decide_eq_false (by omega)]; simp
    rw [e]
    refine Ev.congr (f := fun k => provisoref02_IsName.j0 k s true) (fun k => by unfold provisoref02_IsName.f; rw [if_pos a1]) ?_
    exact Ev.step (f := fun _ => some false) (fun k => by simp only [provisoref02_IsName.j0]; rfl) (Ev.now _)
  · refine Ev.congr (f := fun k => provisoref02_IsName.j0 k s (decide ((s.size : Int) > 24))) (fun k => by unfold provisoref02_IsName.f; rw [if_neg a1]) ?_
    by_cases a2 : (s.size : Int) > 24
    · have e : nameOk s = false := by unfold nameOk; rw [decide_eq_false (p := s.size ≤ 24) (by omega)]; simp
      rw [e]
      exact Ev.step (f := fun _ => some false) (fun k => by simp only [provisoref02_IsName.j0]; simp [a2]) (Ev.now _)
    · have e : nameOk s = tailOk s s.size := by unfold nameOk; rw [decide_eq_true (p := s.size ≤ 24) (by omega), decide_eq_true (p := 1 ≤ s.size) (by omega)]; simp
      rw [e]
      exact Ev.step (fun k => by simp only [provisoref02_IsName.j0]; simp [a2]) h

theorem str_eq (a b : ByteArray) : a.toList = b.toList ↔ a = b :=
  ⟨fun h => by rw [ByteArray.toList_eq, ByteArray.toList_eq] at h; exact Go.WideShapes.bytes_inj h, fun h => by rw [h]⟩
def words6 : List ByteArray := [⟨#[116, 111, 112]⟩, ⟨#[105, 110, 116]⟩, ⟨#[98, 111, 111, 108]⟩, ⟨#[110, 117, 108, 108]⟩, ⟨#[105, 110, 116, 115]⟩, ⟨#[97, 110, 121]⟩]
def isWordB (s : ByteArray) : Bool := words6.any fun t => decide (t = s)
theorem ref_word (s : ByteArray) : Ev (fun k => provisoref02_isWord.f k s) (isWordB s) := by
  have step : ∀ (x : Int) (t : ByteArray) (r : Bool), 0 ≤ x → x ≤ 5 → provisoref02_word.f x = some t → Ev (fun k => provisoref02_isWord.l0 k s (x + 1)) r → Ev (fun k => provisoref02_isWord.l0 k s x) (decide (t = s) || r) := by
    intro x t r h0 h5 ht h
    by_cases e : t = s
    · rw [decide_eq_true e, Bool.true_or]
      exact Ev.step (f := fun _ => some true) (fun k => by simp only [provisoref02_isWord.l0]; rw [if_pos (by omega), ht]; simp [e]) (Ev.now _)
    · rw [decide_eq_false e, Bool.false_or]
      refine Ev.step (fun k => ?_) h
      simp only [provisoref02_isWord.l0]
      rw [if_pos (by omega), ht]
      simp only [Option.bind_some, str_eq]
      rw [if_neg e, show (x + 1) % 256 = x + 1 from by omega]
  have h6 : Ev (fun k => provisoref02_isWord.l0 k s 6) false := Ev.step (f := fun _ => some false) (fun k => by simp only [provisoref02_isWord.l0]; rw [if_neg (by omega)]) (Ev.now _)
  have h := step 0 _ _ (by omega) (by omega) rfl (step 1 _ _ (by omega) (by omega) rfl (step 2 _ _ (by omega) (by omega) rfl (step 3 _ _ (by omega) (by omega) rfl (step 4 _ _ (by omega) (by omega) rfl (step 5 _ _ (by omega) (by omega) rfl h6)))))
  exact h

abbrev Tbl := List S38
def par (l : Tbl) (c : Int) : Int := (rd_T38 l c).f1
def nam (l : Tbl) (c : Int) : ByteArray := (rd_T38 l c).f0
def own (l : Tbl) (c : Int) : List S40 := (rd_T38 l c).f2
def Dec (l : Tbl) (n : Int) : Prop := ∀ i : Int, 0 ≤ i → i < n → par l i < i
def fieldsOf (l : Tbl) (c : Int) : List S40 := (climbL l c).reverse.flatMap fun i => own l i
theorem line_tells (l : Tbl) (n : Int) (hn : n ≤ l.length) (hl : l.length * 48 ≤ 140737488351232) (hd : Dec l n) : ∀ (d : Nat) (c : Int) (acc : List Int), c < n → (c + 1).toNat ≤ d → (acc.length : Int) + c < l.length → acc.length ≤ l.length →
    Ev (fun k => provisoref02_Line.l0 k l c acc) (acc ++ climbL l c)
  | 0, c, acc, _, h, _, _ => by
    rw [climbL_out l c (by omega), List.append_nil]
    exact Ev.step (f := fun _ => some acc) (fun k => by simp only [provisoref02_Line.l0]; rw [if_neg (by omega)]) (Ev.now _)
  | d + 1, c, acc, hc, hcd, ha, ha2 => by
    by_cases h0 : 0 ≤ c
    · have hp := hd c h0 hc
      have hcl : c < (l.length : Int) := by omega
      rw [climbL_in l c h0 hcl hp]
      have hx := line_tells l n hn hl hd d (par l c) (acc ++ [c]) (by omega) (by omega) (by simp; omega) (by simp; omega)
      rw [List.append_assoc] at hx
      refine Ev.step (fun k => ?_) hx
      simp only [provisoref02_Line.l0]
      rw [if_pos h0, if_pos hcl, if_pos (by omega), if_pos (by omega), if_pos h0]
      rfl
    · rw [climbL_out l c (by omega), List.append_nil]
      exact Ev.step (f := fun _ => some acc) (fun k => by simp only [provisoref02_Line.l0]; rw [if_neg (by omega)]) (Ev.now _)
theorem ref_line (l : Tbl) (n : Int) (hn : n ≤ l.length) (hl : l.length * 48 ≤ 140737488351232) (hd : Dec l n) (c : Int) (hc : c < n) : Ev (fun k => provisoref02_Line.f k l c) (climbL l c) := by
  by_cases h0 : l.length = 0
  · rw [climbL_out l c (by omega)]
    refine Ev.congr (f := fun k => provisoref02_Line.l0 k l c []) (fun k => rfl) ?_
    exact Ev.step (f := fun _ => some []) (fun k => by simp only [provisoref02_Line.l0]; rw [if_neg (by omega)]) (Ev.now _)
  · have := line_tells l n hn hl hd (c + 1).toNat c [] hc (Nat.le_refl _) (by simp; omega) (by simp)
    rw [List.nil_append] at this
    exact this
theorem fields_tells (l : Tbl) (line : List Int) (hm : ∀ x ∈ line, 0 ≤ x ∧ x < (l.length : Int)) (hl : l.length * 48 ≤ 140737488351232) (hll : line.length ≤ l.length) (hlim : (line.reverse.flatMap fun i => own l i).length < 5864062014805) : ∀ (d : Nat), d ≤ line.length →
    Ev (fun k => provisoref02_Fields.l0 k l line ((line.drop d).reverse.flatMap fun i => own l i) ((d : Int) - 1)) (line.reverse.flatMap fun i => own l i)
  | 0, _ => by
    rw [List.drop_zero]
    exact Ev.step (f := fun _ => some _) (fun k => by simp only [provisoref02_Fields.l0]; rw [if_neg (by omega)]) (Ev.now _)
  | d + 1, hd => by
    have ih := fields_tells l line hm hl hll hlim d (by omega)
    have hrd : rd line ((d : Nat) : Int) = line[d]'(by omega) := by simp [rd, List.getD_eq_getElem?_getD, show d < line.length by omega]
    have hmd := hm (line[d]'(by omega)) (List.getElem_mem _)
    have e1 : ((line.drop d).reverse.flatMap fun i => own l i) = ((line.drop (d + 1)).reverse.flatMap fun i => own l i) ++ own l (line[d]'(by omega)) := by
      rw [List.drop_eq_getElem_cons (by omega), List.reverse_cons, List.flatMap_append]
      simp
    have hle : ((line.drop d).reverse.flatMap fun i => own l i).length ≤ (line.reverse.flatMap fun i => own l i).length := by
      have : line = line.take d ++ line.drop d := by simp
      conv => rhs; rw [this, List.reverse_append, List.flatMap_append, List.length_append]
      omega
    rw [e1] at ih hle
    rw [List.length_append] at hle
    refine Ev.step (fun k => ?_) ih
    simp only [provisoref02_Fields.l0]
    rw [show ((d + 1 : Nat) : Int) - 1 = (d : Int) by omega, hrd, if_pos (by omega), if_pos (by omega), if_pos (by omega), if_pos hmd.1, if_pos hmd.2]
    rw [if_pos (by unfold own at hle hlim ⊢; omega), show wrap64 ((d : Int) - 1) = (d : Int) - 1 by unfold wrap64; omega]
    rfl
theorem ref_fields (l : Tbl) (n : Int) (hn : n ≤ l.length) (hl : l.length * 48 ≤ 140737488351232) (hd : Dec l n) (c : Int) (hc : c < n) (hlim : (fieldsOf l c).length < 5864062014805) : Ev (fun k => provisoref02_Fields.f k l c) (fieldsOf l c) := by
  have hll := climbL_length l c
  have h := fields_tells l (climbL l c) (climbL_mem l c) hl hll hlim (climbL l c).length (Nat.le_refl _)
  rw [List.drop_length, List.reverse_nil, List.flatMap_nil] at h
  refine Ev.congr (fun k => rfl) (Ev.bind (ref_line l n hn hl hd c hc) (f := fun k t => provisoref02_Fields.l0 k l t [] (wrap64 ((t.length : Int) - 1))) ?_)
  rw [show wrap64 (((climbL l c).length : Int) - 1) = ((climbL l c).length : Int) - 1 by unfold wrap64; omega]
  exact h

def hasB (fs : List S40) (s : ByteArray) : Bool := fs.any fun f => decide (f.f0 = s)
theorem has_tells (fs : List S40) (s : ByteArray) (hl : fs.length ≤ 9223372036854775807) : ∀ (d i : Nat), fs.length - i = d → i ≤ fs.length → Ev (fun k => provisoref02_has.l0 k fs s (i : Int)) (hasB (fs.drop i) s)
  | 0, i, hd, hi => by
    rw [List.drop_of_length_le (by omega)]
    exact Ev.step (f := fun _ => some false) (fun k => by simp only [provisoref02_has.l0]; rw [if_neg (by omega)]) (Ev.now _)
  | d + 1, i, hd, hi => by
    have ih := has_tells fs s hl d (i + 1) (by omega) (by omega)
    have hlt : i < fs.length := by omega
    have hrd : rd_T40 fs ((i : Nat) : Int) = fs[i] := by simp [rd_T40, List.getD_eq_getElem?_getD, hlt]
    rw [List.drop_eq_getElem_cons hlt]
    by_cases e : fs[i].f0 = s
    · have e2 : hasB (fs[i] :: fs.drop (i + 1)) s = true := by unfold hasB; rw [List.any_cons, decide_eq_true e, Bool.true_or]
      rw [e2]
      exact Ev.step (f := fun _ => some true) (fun k => by simp only [provisoref02_has.l0]; rw [if_pos (by omega), if_pos (by omega), hrd]; simp [e]) (Ev.now _)
    · have e2 : hasB (fs[i] :: fs.drop (i + 1)) s = hasB (fs.drop (i + 1)) s := by unfold hasB; rw [List.any_cons, decide_eq_false e, Bool.false_or]
      rw [e2]
      refine Ev.step (fun k => ?_) ih
      simp only [provisoref02_has.l0]
      rw [if_pos (by omega), if_pos (by omega), hrd, if_neg (by rw [str_eq]; exact e), w_next (n := fs.length) (by omega) (by omega) hl]
      rfl
theorem ref_has (fs : List S40) (s : ByteArray) (hl : fs.length ≤ 9223372036854775807) : Ev (fun k => provisoref02_has.f k fs s) (hasB fs s) := by
  have := has_tells fs s hl fs.length 0 (by omega) (by omega)
  rw [List.drop_zero] at this
  exact this
def validB (l : Tbl) (a : Int) : Bool := decide (a ≤ 5) || (decide (16 ≤ a) && decide (a - 16 < (l.length : Int)))
theorem ref_valid (l : Tbl) (a : Int) (ha : 0 ≤ a ∧ a ≤ 255) : provisoref02_Valid.f l a = some (validB l a) := by
  unfold provisoref02_Valid.f validB
  by_cases h1 : a ≤ 5
  · simp [h1]
  · by_cases h2 : a ≥ 16
    · rw [if_neg h1, if_pos h2, show (a - 16) % 256 = a - 16 by omega]
      simp [h1, h2]
    · rw [if_neg h1, if_neg h2]
      simp [h1, h2]
def storedB (l : Tbl) (a : Int) : Bool := validB l a && decide (a ≠ 0) && decide (a ≠ 3)
theorem ref_stored (l : Tbl) (a : Int) (ha : 0 ≤ a ∧ a ≤ 255) : provisoref02_Stored.f l a = some (storedB l a) := by
  unfold provisoref02_Stored.f storedB
  rw [ref_valid l a ha]
  simp only [Option.bind_some]
  cases validB l a <;> by_cases h0 : a = 0 <;> by_cases h3 : a = 3 <;> simp [h0, h3]
end Go.Proofs.Ytghgloepameloaa.P

end

section
namespace Go.Proofs.Ytghgloepameloaa.P
open Go.RowKit Go.Proofs.YtghgloepameloaaW.PrintWords Go.Proofs.YtghgloepameloaaW.PrintLast Go.Proofs.YtghgloepameloaaW.PrintMore
set_option linter.unusedVariables false
set_option linter.unusedSimpArgs false

def Sane (l : Tbl) : Prop := l.length ≤ 9223372036854775807 ∧ l.length * 48 ≤ 140737488351232 ∧ ∀ x ∈ l, Ok38 x
theorem rd_mem (l : Tbl) (c : Int) (h0 : 0 ≤ c) (h1 : c < (l.length : Int)) : rd_T38 l c ∈ l := by
  have h : c.toNat < l.length := by omega
  simp [rd_T38, List.getD_eq_getElem?_getD, h]
theorem Sane.size {l : Tbl} (h : Sane l) : l.length ≤ 2932031007320 := by have := h.2.1; omega
theorem Sane.nam {l : Tbl} (h : Sane l) {c : Int} (h0 : 0 ≤ c) (h1 : c < (l.length : Int)) : (nam l c).size ≤ 140737488351232 := (h.2.2 _ (rd_mem l c h0 h1)).1
theorem Sane.par {l : Tbl} (h : Sane l) {c : Int} (h0 : 0 ≤ c) (h1 : c < (l.length : Int)) : -9223372036854775808 ≤ par l c ∧ par l c ≤ 9223372036854775807 := by
  have := (h.2.2 _ (rd_mem l c h0 h1)).2.1
  simp [Lit.wf, IntKind.min, IntKind.max, IntKind.signed, IntKind.bits] at this
  exact this
theorem Sane.own {l : Tbl} (h : Sane l) {c : Int} (h0 : 0 ≤ c) (h1 : c < (l.length : Int)) : (own l c).length * 24 ≤ 140737488351232 ∧ ∀ x ∈ own l c, x.f0.size ≤ 140737488351232 ∧ (0 ≤ x.f1 ∧ x.f1 ≤ 255) := by
  obtain ⟨_, h2, h3⟩ := (h.2.2 _ (rd_mem l c h0 h1)).2.2
  refine ⟨h2, fun x hx => ⟨(h3 x hx).1, ?_⟩⟩
  have := (h3 x hx).2
  simp [Lit.wf, IntKind.min, IntKind.max, IntKind.signed, IntKind.bits] at this
  exact this

theorem nam_eq (l : Tbl) (i : Int) (s : ByteArray) : (rd_T38 l i).f0.toList = s.toList ↔ nam l i = s := str_eq _ _

def fieldFaultFrom (l : Tbl) (all fs : List S40) : Nat → Nat → Int
  | 0, _ => if (fs.length : Int) > 32 - (all.length : Int) then 4 else 0
  | d + 1, i => if nameOk (rd_T40 fs i).f0 = true then (if hasB all (rd_T40 fs i).f0 = true then 20 else if hasB (fs.take i) (rd_T40 fs i).f0 = true then 20 else if storedB l (rd_T40 fs i).f1 = true then fieldFaultFrom l all fs d (i + 1) else 22) else 6
def fieldFault (l : Tbl) (all fs : List S40) : Int := fieldFaultFrom l all fs fs.length 0
def aheadFrom (l : Tbl) (c : Int) : Nat → Bool
  | 0 => false
  | d + 1 => decide (nam l (c - (d + 1)) = nam l c) || aheadFrom l c d
def aheadB (l : Tbl) (c : Int) : Bool := aheadFrom l c c.toNat
def parFault (l : Tbl) (c : Int) : Int := if par l c < -1 then 21 else if par l c ≥ c then 21 else fieldFault l (fieldsOf l (par l c)) (own l c)
def faultB (l : Tbl) (c : Int) : Int :=
  if c ≥ 32 then 4 else if nameOk (nam l c) = true then (if isWordB (nam l c) = true then 6 else if aheadB l c = true then 20 else parFault l c) else 6

theorem fields_fault (l : Tbl) (all fs : List S40) (h1 : all.length ≤ 5864062014805) (h2 : fs.length * 24 ≤ 140737488351232) (h3 : ∀ x ∈ fs, x.f0.size ≤ 140737488351232 ∧ (0 ≤ x.f1 ∧ x.f1 ≤ 255)) (nm : ByteArray) (pr : Int) : ∀ (d i : Nat), fs.length - i = d → i ≤ fs.length →
    Ev (fun k => provisoref02_fault.l1 k l all (i : Int) nm pr fs) (fieldFaultFrom l all fs d i)
  | 0, i, hd, hi => by
    unfold fieldFaultFrom
    refine Ev.step (f := fun _ => some _) (fun k => ?_) (Ev.now _)
    simp only [provisoref02_fault.l1]
    rw [if_neg (by omega), show wrap64 (32 - (all.length : Int)) = 32 - (all.length : Int) by unfold wrap64; omega]
    split <;> rfl
  | d + 1, i, hd, hi => by
    have hlt : i < fs.length := by omega
    have hrd : rd_T40 fs ((i : Nat) : Int) = fs[i] := by simp [rd_T40, List.getD_eq_getElem?_getD, hlt]
    obtain ⟨hs, ht⟩ := h3 fs[i] (List.getElem_mem _)
    have ih := fields_fault l all fs h1 h2 h3 nm pr d (i + 1) (by omega) (by omega)
    unfold fieldFaultFrom
    rw [hrd]
    refine Ev.step (fun k => by simp only [provisoref02_fault.l1]; rw [if_pos (by omega), if_pos (by omega), hrd]) ?_
    refine Ev.bind (f := fun k t => if t = true then _ else _) (ref_name _ hs) ?_
    cases nameOk fs[i].f0 with
    | false => exact Ev.now _
    | true =>
      refine Ev.bind (f := fun k t => if t = true then _ else _) (ref_has all _ (by omega)) ?_
      cases hasB all fs[i].f0 with
      | true => exact Ev.now _
      | false =>
        refine Ev.congr (f := fun k => (provisoref02_has.f k (fs.take i) fs[i].f0).bind _) (fun k => by
          show (if (i : Int) ≤ (fs.length : Int) then _ else _) = _
          rw [if_pos (by omega), Int.toNat_natCast]) ?_
        refine Ev.bind (f := fun k t => if t = true then _ else _) (ref_has (fs.take i) _ (by simp; omega)) ?_
        cases hasB (fs.take i) fs[i].f0 with
        | true => exact Ev.now _
        | false =>
          refine Ev.congr (f := fun k => if storedB l fs[i].f1 = true then _ else _) (fun k => by
            show (provisoref02_Stored.f l fs[i].f1).bind _ = _
            rw [ref_stored l _ ht]
            rfl) ?_
          cases storedB l fs[i].f1 with
          | false => exact Ev.now _
          | true =>
            refine Ev.congr (fun k => ?_) ih
            show provisoref02_fault.l1 k l all (wrap64 ((i : Int) + 1)) nm pr fs = _
            rw [w_next (n := fs.length) (by omega) (by omega) (by omega)]
            rfl
theorem par_fault (l : Tbl) (hs : Sane l) (c : Int) (h0 : 0 ≤ c) (h1 : c < (l.length : Int)) (hd : Dec l c) (hlim : ∀ p : Int, -1 ≤ p → p < c → (fieldsOf l p).length ≤ 32) :
    Ev (fun k => provisoref02_fault.l0 k l c c (nam l c) (par l c) (own l c)) (parFault l c) := by
  unfold parFault
  have hj : Ev (fun k => provisoref02_fault.j2 k l true (nam l c) (par l c) (own l c)) 21 := Ev.step (f := fun _ => some 21) (fun k => by simp only [provisoref02_fault.j2]; rfl) (Ev.now _)
  by_cases p1 : par l c < -1
  · rw [if_pos p1]
    exact Ev.step (fun k => by simp only [provisoref02_fault.l0]; rw [if_neg (by omega), if_pos p1]) hj
  · rw [if_neg p1]
    by_cases p2 : par l c ≥ c
    · rw [if_pos p2]
      exact Ev.step (fun k => by simp only [provisoref02_fault.l0]; rw [if_neg (by omega), if_neg p1, decide_eq_true p2]) hj
    · rw [if_neg p2]
      refine Ev.step (f := fun k => provisoref02_fault.j2 k l false (nam l c) (par l c) (own l c)) (fun k => by simp only [provisoref02_fault.l0]; rw [if_neg (by omega), if_neg p1, decide_eq_false p2]) ?_
      have hlp := hlim (par l c) (by omega) (by omega)
      refine Ev.step (f := fun k => (provisoref02_Fields.f k l (par l c)).bind fun t => provisoref02_fault.l1 k l t 0 (nam l c) (par l c) (own l c)) (fun k => by simp only [provisoref02_fault.j2]; rfl) ?_
      refine Ev.bind (f := fun k t => provisoref02_fault.l1 k l t 0 (nam l c) (par l c) (own l c)) (ref_fields l c (by omega) hs.2.1 hd (par l c) (by omega) (by omega)) ?_
      exact fields_fault l _ (own l c) (by omega) (hs.own h0 h1).1 (hs.own h0 h1).2 _ _ _ 0 (by omega) (by omega)
theorem ahead_fault (l : Tbl) (hs : Sane l) (c : Int) (h0 : 0 ≤ c) (h1 : c < (l.length : Int)) (hd : Dec l c) (hlim : ∀ p : Int, -1 ≤ p → p < c → (fieldsOf l p).length ≤ 32) : ∀ (d : Nat), (d : Int) ≤ c →
    Ev (fun k => provisoref02_fault.l0 k l c (c - d) (nam l c) (par l c) (own l c)) (if aheadFrom l c d = true then 20 else parFault l c)
  | 0, _ => by
    have := par_fault l hs c h0 h1 hd hlim
    simpa [aheadFrom] using this
  | d + 1, hdc => by
    have ih := ahead_fault l hs c h0 h1 hd hlim d (by omega)
    have hsz := hs.size
    have e1 : c - ((d : Int) + 1) + 1 = c - d := by omega
    by_cases e : nam l (c - ((d : Int) + 1)) = nam l c
    · have e2 : aheadFrom l c (d + 1) = true := by unfold aheadFrom; rw [decide_eq_true e, Bool.true_or]
      rw [e2, if_pos rfl]
      refine Ev.step (f := fun _ => some 20) (fun k => ?_) (Ev.now _)
      show provisoref02_fault.l0 (k + 1) l c (c - ((d : Int) + 1)) (nam l c) (par l c) (own l c) = _
      simp only [provisoref02_fault.l0]
      rw [if_pos (by omega), if_pos (by omega), if_pos (by omega), if_pos ((nam_eq l _ _).mpr e)]
    · have e2 : aheadFrom l c (d + 1) = aheadFrom l c d := by conv => lhs; unfold aheadFrom
                                                              rw [decide_eq_false e, Bool.false_or]
      rw [e2]
      refine Ev.step (fun k => ?_) ih
      show provisoref02_fault.l0 (k + 1) l c (c - ((d : Int) + 1)) (nam l c) (par l c) (own l c) = _
      simp only [provisoref02_fault.l0]
      rw [if_pos (by omega), if_pos (by omega), if_pos (by omega), if_neg (fun h9 => e ((nam_eq l _ _).mp h9)), show wrap64 (c - ((d : Int) + 1) + 1) = c - d by rw [e1]; unfold wrap64; omega]
theorem ref_fault (l : Tbl) (hs : Sane l) (c : Int) (h0 : 0 ≤ c) (h1 : c < (l.length : Int)) (hd : Dec l c) (hlim : ∀ p : Int, -1 ≤ p → p < c → (fieldsOf l p).length ≤ 32) : Ev (fun k => provisoref02_fault.f k l c) (faultB l c) := by
  unfold faultB
  have ha := ahead_fault l hs c h0 h1 hd hlim c.toNat (by omega)
  rw [show c - (c.toNat : Int) = 0 by omega] at ha
  have hj : ∀ b : Bool, Ev (fun k => provisoref02_fault.j0 k l c b (nam l c) (par l c) (own l c)) (if b = true then 6 else if aheadB l c = true then 20 else parFault l c) := by
    intro b
    cases b with
    | true => exact Ev.step (f := fun _ => some 6) (fun k => by simp only [provisoref02_fault.j0]; rfl) (Ev.now _)
    | false => exact Ev.step (fun k => by simp only [provisoref02_fault.j0]; rfl) ha
  by_cases h32 : c ≥ 32
  · rw [if_pos h32]
    exact Ev.congr (f := fun _ => some 4) (fun k => by unfold provisoref02_fault.f; rw [if_pos h0, if_pos h1, if_pos h32]) (Ev.now _)
  · rw [if_neg h32]
    refine Ev.congr (fun k => by unfold provisoref02_fault.f; rw [if_pos h0, if_pos h1, if_neg h32]; rfl) (Ev.bind (f := fun k t => if t = true then ((provisoref02_isWord.f k (nam l c)).bind fun t119 => provisoref02_fault.j0 k l c t119 (nam l c) (par l c) (own l c)) else provisoref02_fault.j0 k l c true (nam l c) (par l c) (own l c)) (ref_name _ (hs.nam h0 h1)) ?_)
    have hjt := hj true
    cases nameOk (nam l c) with
    | false => exact hjt
    | true => exact Ev.bind (f := fun k t => provisoref02_fault.j0 k l c t (nam l c) (par l c) (own l c)) (ref_word _) (hj _)

def GoodTo (l : Tbl) (n : Int) : Prop := ∀ c : Int, 0 ≤ c → c < n → faultB l c = 0
theorem field_fault_long (l : Tbl) (all fs : List S40) : ∀ (d i : Nat), fieldFaultFrom l all fs d i = 0 → (fs.length : Int) ≤ 32 - all.length
  | 0, i, h => by
    unfold fieldFaultFrom at h
    split at h <;> omega
  | d + 1, i, h => by
    unfold fieldFaultFrom at h
    split at h
    · split at h
      · omega
      · split at h
        · omega
        · split at h
          · exact field_fault_long l all fs d (i + 1) h
          · omega
    · omega
theorem fault_zero {l : Tbl} {c : Int} (h : faultB l c = 0) : c < 32 ∧ nameOk (nam l c) = true ∧ isWordB (nam l c) = false ∧ aheadB l c = false ∧ -1 ≤ par l c ∧ par l c < c ∧ fieldFault l (fieldsOf l (par l c)) (own l c) = 0 := by
  unfold faultB parFault at h
  split at h
  · omega
  · split at h
    · split at h
      · omega
      · split at h
        · omega
        · split at h
          · omega
          · split at h
            · omega
            · rename_i h1 h2 h3 h4 h5 h6
              exact ⟨by omega, h2, by simpa using h3, by simpa using h4, by omega, by omega, h⟩
    · omega
theorem GoodTo.dec {l : Tbl} {n : Int} (h : GoodTo l n) : Dec l n := fun i h0 h1 => (fault_zero (h i h0 h1)).2.2.2.2.2.1
theorem fieldsOf_in (l : Tbl) (c : Int) (h0 : 0 ≤ c) (h1 : c < (l.length : Int)) (h2 : par l c < c) : fieldsOf l c = fieldsOf l (par l c) ++ own l c := by
  unfold fieldsOf
  rw [climbL_in l c h0 h1 h2, List.reverse_cons, List.flatMap_append]
  simp [par]
theorem fieldsOf_out (l : Tbl) (c : Int) (h : ¬ (0 ≤ c ∧ c < (l.length : Int))) : fieldsOf l c = [] := by
  unfold fieldsOf
  rw [climbL_out l c h]
  rfl
theorem GoodTo.fields {l : Tbl} {n : Int} (hn : n ≤ l.length) (h : GoodTo l n) (c : Int) (hc : c < n) : (fieldsOf l c).length ≤ 32 := by
  by_cases h0 : 0 ≤ c
  · obtain ⟨_, _, _, _, h5, h6, h7⟩ := fault_zero (h c h0 hc)
    have := field_fault_long l _ _ _ _ h7
    rw [fieldsOf_in l c h0 (by omega) h6, List.length_append]
    omega
  · rw [fieldsOf_out l c (by omega)]
    simp
def checkFrom (l : Tbl) : Nat → Int → Int × Int
  | 0, _ => (0, 0)
  | d + 1, c => if faultB l c = 0 then checkFrom l d (c + 1) else (c, faultB l c)
def checkB (l : Tbl) : Int × Int := checkFrom l l.length 0
theorem check_tells (l : Tbl) (hs : Sane l) : ∀ (d : Nat) (c : Int), 0 ≤ c → (l.length : Int) - c = d → GoodTo l c → Ev (fun k => provisoref02_Check.l0 k l c) (checkFrom l d c)
  | 0, c, h0, hd, hg => by
    unfold checkFrom
    exact Ev.step (f := fun _ => some _) (fun k => by simp only [provisoref02_Check.l0]; rw [if_neg (by omega)]) (Ev.now _)
  | d + 1, c, h0, hd, hg => by
    have hf := ref_fault l hs c h0 (by omega) hg.dec (fun p hp1 hp2 => hg.fields (by omega) p hp2)
    unfold checkFrom
    refine Ev.step (fun k => by simp only [provisoref02_Check.l0]; rw [if_pos (by omega)]) (Ev.bind (f := fun k t => if t = 0 then _ else _) hf ?_)
    by_cases e : faultB l c = 0
    · rw [if_pos e]
      have hsz := hs.size
      refine Ev.congr (fun k => ?_) (check_tells l hs d (c + 1) (by omega) (by omega) (fun i hi0 hi1 => if hi : i < c then hg i hi0 hi else by rw [show i = c by omega]; exact e))
      rw [if_pos e, show wrap64 (c + 1) = c + 1 by unfold wrap64; omega]
    · rw [if_neg e]
      exact Ev.congr (f := fun _ => some _) (fun k => by rw [if_neg e]) (Ev.now _)
theorem ref_check (l : Tbl) (hs : Sane l) : Ev (fun k => provisoref02_Check.f k l) (checkB l) :=
  check_tells l hs l.length 0 (by omega) (by omega) (fun i h0 h1 => by omega)
def Good (l : Tbl) : Prop := GoodTo l l.length
theorem Good.dec {l : Tbl} (h : Good l) : Dec l l.length := GoodTo.dec h
end Go.Proofs.Ytghgloepameloaa.P

end

section
namespace Go.Proofs.Ytghgloepameloaa.P
open Go.RowKit Go.Proofs.YtghgloepameloaaW.PrintWords Go.Proofs.YtghgloepameloaaW.PrintLast Go.Proofs.YtghgloepameloaaW.PrintMore
set_option linter.unusedVariables false
set_option linter.unusedSimpArgs false

def idxFrom (ws : List ByteArray) (s : ByteArray) : Nat → Nat → Int
  | 0, _ => -1
  | d + 1, i => if s = ws.getD i ByteArray.empty then (i : Int) else idxFrom ws s d (i + 1)
theorem index_tells (ws : List ByteArray) (s : ByteArray) (hw : ws.length ≤ 9223372036854775807) : ∀ (d i : Nat), ws.length - i = d → i ≤ ws.length → Ev (fun k => slices_Index_string_string.l0 k ws s (ws.length : Int) (i : Int)) (idxFrom ws s d i)
  | 0, i, hd, hi => Ev.step (f := fun _ => some (-1)) (fun k => by simp only [slices_Index_string_string.l0]; rw [if_neg (by omega)]) (Ev.now _)
  | d + 1, i, hd, hi => by
    have ih := index_tells ws s hw d (i + 1) (by omega) (by omega)
    unfold idxFrom
    have hrd : rdOf ByteArray.empty ws ((i : Nat) : Int) = ws.getD i ByteArray.empty := by simp [rdOf]
    by_cases e : s = ws.getD i ByteArray.empty
    · rw [if_pos e]
      exact Ev.step (f := fun _ => some _) (fun k => by simp only [slices_Index_string_string.l0]; rw [if_pos (by omega), if_pos (by omega), if_pos (by omega), hrd, if_pos ((str_eq _ _).mpr e)]) (Ev.now _)
    · rw [if_neg e]
      refine Ev.step (fun k => ?_) ih
      simp only [slices_Index_string_string.l0]
      rw [if_pos (by omega), if_pos (by omega), if_pos (by omega), hrd, if_neg (fun h9 => e ((str_eq _ _).mp h9)), w_next (n := ws.length) (by omega) (by omega) (by omega)]
      rfl
theorem words_is : types_words.f = some words6 := rfl
theorem Good.nameOk {l : Tbl} (h : Good l) {c : Int} (h0 : 0 ≤ c) (h1 : c < (l.length : Int)) : nameOk (nam l c) = true ∧ isWordB (nam l c) = false :=
  ⟨(fault_zero (h c h0 h1)).2.1, (fault_zero (h c h0 h1)).2.2.1⟩
end Go.Proofs.Ytghgloepameloaa.P

end

section
namespace Go.Proofs.Ytghgloepameloaa.P
open Go.RowKit Go.Proofs.YtghgloepameloaaW.PrintWords Go.Proofs.YtghgloepameloaaW.PrintLast Go.Proofs.YtghgloepameloaaW.PrintMore
set_option linter.unusedVariables false
set_option linter.unusedSimpArgs false

theorem class_valid (l : Tbl) (a : Int) (ha : 0 ≤ a ∧ a ≤ 255) : classOf l a = if 16 ≤ a ∧ a - 16 < (l.length : Int) then a - 16 else -1 := by
  unfold classOf
  by_cases h1 : a < 16
  · rw [if_pos h1, if_neg (by omega)]
  · rw [if_neg h1, show (a - 16) % 256 = a - 16 by omega]
    by_cases h2 : a - 16 ≥ (l.length : Int)
    · rw [if_pos h2, if_neg (by omega)]
    · rw [if_neg h2, if_pos (by omega)]
end Go.Proofs.Ytghgloepameloaa.P

end

section
namespace Go.Proofs.Ytghgloepameloaa.P
open Go.RowKit Go.Proofs.YtghgloepameloaaW.PrintWords Go.Proofs.YtghgloepameloaaW.PrintLast Go.Proofs.YtghgloepameloaaW.PrintMore
set_option linter.unusedVariables false
set_option linter.unusedSimpArgs false

theorem rd_class (l : Tbl) (i : Nat) (h : i < l.length) : rd_T38 l (i : Int) = l[i] := by simp [rd_T38, List.getD_eq_getElem?_getD, h]
theorem classes_tells (l : Tbl) (hs : Sane l) : ∀ (d i : Nat), l.length - i = d → i ≤ l.length → Ev (fun k => provisoplain_Classes.l0 k (l.take i) l (l.length : Int) (i : Int)) l
  | 0, i, hd, hi => by
    have e : l.take i = l := List.take_of_length_le (by omega)
    rw [e]
    exact Ev.step (f := fun _ => some l) (fun k => by simp only [provisoplain_Classes.l0]; rw [if_neg (by omega)]) (Ev.now _)
  | d + 1, i, hd, hi => by
    have hlt : i < l.length := by omega
    have ih := classes_tells l hs d (i + 1) (by omega) (by omega)
    have hsz := hs.size
    have ho := (hs.own (c := (i : Int)) (by omega) (by omega)).1
    unfold own at ho
    refine Ev.step (fun k => ?_) ih
    simp only [provisoplain_Classes.l0]
    rw [if_pos (by omega), if_pos (by omega), if_pos (by omega)]
    unfold api_Field_46.f
    rw [if_pos (by omega)]
    simp only [Option.bind_some]
    rw [if_pos (by rw [List.length_take]; omega), rd_class l i hlt, show wrap64 ((i : Int) + 1) = ((i + 1 : Nat) : Int) by unfold wrap64; omega, List.take_succ_eq_append_getElem hlt]
theorem impl_classes (l : Tbl) (hs : Sane l) : Ev (fun k => provisoplain_Classes.f k l) l := by
  have := classes_tells l hs l.length 0 (by omega) (by omega)
  rw [List.take_zero] at this
  exact this
theorem equal_fields_self (xs : List S40) (hl : xs.length ≤ 9223372036854775807) : ∀ (d i : Nat), xs.length - i = d → i ≤ xs.length → Ev (fun k => api_Field_24.l0 k xs xs (xs.length : Int) (i : Int)) true
  | 0, i, hd, hi => Ev.step (f := fun _ => some true) (fun k => by simp only [api_Field_24.l0]; rw [if_neg (by omega)]) (Ev.now _)
  | d + 1, i, hd, hi => by
    refine Ev.step (fun k => ?_) (equal_fields_self xs hl d (i + 1) (by omega) (by omega))
    simp only [api_Field_24.l0]
    rw [if_pos (by omega), if_pos (by omega), if_pos (by omega), if_pos (by omega), if_neg (by simp), show wrap64 ((i : Int) + 1) = ((i + 1 : Nat) : Int) by unfold wrap64; omega]
theorem impl_equal_fields_self (xs : List S40) (hl : xs.length ≤ 9223372036854775807) : Ev (fun k => api_Field_24.f k xs xs) true :=
  Ev.congr (fun k => by unfold api_Field_24.f; rw [if_pos rfl]; rfl) (equal_fields_self xs hl xs.length 0 (by omega) (by omega))
theorem same_classes_self (l : Tbl) (hs : Sane l) : ∀ (d i : Nat), l.length - i = d → i ≤ l.length → Ev (fun k => provisoplain_SameClasses.l0 k l l (l.length : Int) (i : Int)) true
  | 0, i, hd, hi => Ev.step (f := fun _ => some true) (fun k => by simp only [provisoplain_SameClasses.l0]; rw [if_neg (by omega)]) (Ev.now _)
  | d + 1, i, hd, hi => by
    have hsz := hs.size
    have ho := (hs.own (c := (i : Int)) (by omega) (by omega)).1
    unfold own at ho
    refine Ev.step (fun k => by
      simp only [provisoplain_SameClasses.l0]
      rw [if_pos (by omega), if_pos (by omega), if_pos (by omega), if_pos (by omega)]
      simp only [if_true]) (Ev.bind (f := fun k t => if t = true then provisoplain_SameClasses.l0 k l l (l.length : Int) (wrap64 ((i : Int) + 1)) else some false) (impl_equal_fields_self (rd_T38 l (i : Int)).f2 (by omega)) ?_)
    refine Ev.congr (fun k => ?_) (same_classes_self l hs d (i + 1) (by omega) (by omega))
    rw [if_pos rfl, show wrap64 ((i : Int) + 1) = ((i + 1 : Nat) : Int) by unfold wrap64; omega]
theorem impl_same_classes (l : Tbl) (hs : Sane l) : Ev (fun k => provisoplain_SameClasses.f k l l) true :=
  Ev.congr (fun k => by unfold provisoplain_SameClasses.f; rw [if_pos rfl]; rfl) (same_classes_self l hs l.length 0 (by omega) (by omega))

end Go.Proofs.Ytghgloepameloaa.P

end

section
namespace Go.Proofs.Ytghgloepameloaa.P
open Go.RowKit Go.Proofs.YtghgloepameloaaW.PrintWords Go.Proofs.YtghgloepameloaaW.PrintLast Go.Proofs.YtghgloepameloaaW.PrintMore
set_option linter.unusedVariables false
set_option linter.unusedSimpArgs false

theorem impl_name_tail (s : ByteArray) (hn : s.size ≤ 140737488351232) (d : Nat) : ∀ (k : Nat) (i : Int), 0 ≤ i → i ≤ s.size → (s.size : Int) - i = d → 3 * d < k → wire_IsName.l0 k s (s.size : Int) i = some (tailOk s d) := by
  induction d with
  | zero =>
    intro k i h0 h1 hd hk
    obtain ⟨k, rfl⟩ : ∃ m, k = m + 1 := ⟨k - 1, by omega⟩
    simp only [wire_IsName.l0]; rw [if_neg (by omega)]; rfl
  | succ d ih =>
    intro k i h0 h1 hd hk
    obtain ⟨k, rfl⟩ : ∃ m, k = m + 3 := ⟨k - 3, by omega⟩
    have hlt : i < (s.size : Int) := by omega
    have hi : (s.size : Int) - (d + 1) = i := by omega
    have h := ih k (i + 1) (by omega) (by omega) (by omega) (by omega)
    simp only [wire_IsName.l0, wire_IsName.j2, wire_IsName.j3, tailOk, hi]
    rw [if_pos hlt, if_pos h0, if_pos hlt, w_next h0 hlt (by omega)]
    have h' : wire_IsName.l0 k s (s.size : Int) (i + 1) = some (tailOk s d) := h
    rw [h']
    generalize bt s i = c
    generalize tailOk s d = t
    by_cases a1 : 97 ≤ c <;> by_cases a2 : c ≤ 122 <;> by_cases a3 : 65 ≤ c <;> by_cases a4 : c ≤ 90 <;> by_cases a5 : 0 < i <;> by_cases a6 : 48 ≤ c <;> by_cases a7 : c ≤ 57 <;> by_cases a8 : c = 95 <;> (try omega) <;> simp [sign, a1, a2, a3, a4, a5, a6, a7, a8]
theorem impl_name (s : ByteArray) (hn : s.size ≤ 140737488351232) : Ev (fun k => wire_IsName.f k s) (nameOk s) := by
  refine Ev.of (fun k => wire_IsName.mono s k) (k := 3 * s.size + 2) ?_
  have h1 := impl_name_tail s hn s.size (3 * s.size + 1) 0 (by omega) (by omega) (by omega) (by omega)
  unfold wire_IsName.f nameOk
  simp only [wire_IsName.j0, h1]
  by_cases a1 : (s.size : Int) = 0
  · rw [if_pos a1, decide_eq_false (by omega)]
    simp
  · rw [if_neg a1, decide_eq_true (by omega : 1 ≤ s.size)]
    by_cases a3 : (s.size : Int) > 24
    · rw [decide_eq_true a3, decide_eq_false (by omega : ¬ s.size ≤ 24)]
      simp
    · rw [decide_eq_false a3, decide_eq_true (by omega : s.size ≤ 24)]
      simp
def memB (ws : List ByteArray) (s : ByteArray) : Bool := ws.any fun t => decide (t = s)
theorem memB_iff (ws : List ByteArray) (s : ByteArray) : memB ws s = true ↔ s ∈ ws := by
  unfold memB
  rw [List.any_eq_true]
  exact ⟨fun ⟨x, h1, h2⟩ => (of_decide_eq_true h2) ▸ h1, fun h => ⟨s, h, decide_eq_true rfl⟩⟩
theorem idx_mem (ws : List ByteArray) (s : ByteArray) : ∀ (d i : Nat), i + d = ws.length → decide (idxFrom ws s d i ≥ 0) = memB (ws.drop i) s
  | 0, i, h => by
    rw [List.drop_of_length_le (by omega)]
    rfl
  | d + 1, i, h => by
    have hi : i < ws.length := by omega
    have hg : ws.getD i ByteArray.empty = ws[i] := by simp [List.getD_eq_getElem?_getD, hi]
    rw [List.drop_eq_getElem_cons hi]
    show decide ((if s = ws.getD i ByteArray.empty then (i : Int) else idxFrom ws s d (i + 1)) ≥ 0) = _
    rw [hg]
    by_cases e : s = ws[i]
    · rw [if_pos e, decide_eq_true (by omega), (memB_iff _ _).2 (by rw [e]; exact List.mem_cons_self)]
    · rw [if_neg e, idx_mem ws s d (i + 1) (by omega), Bool.eq_iff_iff, memB_iff, memB_iff, List.mem_cons]
      exact ⟨.inr, fun h => h.resolve_left e⟩
theorem impl_contains (ws : List ByteArray) (s : ByteArray) (hw : ws.length ≤ 9223372036854775807) : Ev (fun k => slices_Contains_string_string.f k ws s) (memB ws s) := by
  have h := idx_mem ws s ws.length 0 (by omega)
  rw [List.drop_zero] at h
  rw [← h]
  unfold slices_Contains_string_string.f
  exact Ev.bind (index_tells ws s hw ws.length 0 (by omega) (by omega)) (Ev.now _)
theorem impl_stored (l : Tbl) (a : Int) (ha : 0 ≤ a ∧ a ≤ 255) : types_stored.f l a = some (storedB l a) := by
  unfold types_stored.f storedB
  rw [class_is, Option.bind_some, class_valid l a ha]
  by_cases h1 : a = 1
  · subst h1; simp [validB]
  · by_cases h2 : a = 2
    · subst h2; simp [validB]
    · by_cases h4 : a = 4
      · subst h4; simp [validB]
      · by_cases h5 : a = 5
        · subst h5; simp [validB]
        · rw [if_neg h1, if_neg h2, if_neg h4, if_neg h5]
          by_cases h6 : 16 ≤ a ∧ a - 16 < (l.length : Int)
          · rw [if_pos h6]
            have : a ≠ 0 ∧ a ≠ 3 := by omega
            simp [validB, this.1, this.2, h6.1, h6.2]
          · rw [if_neg h6]
            by_cases h7 : a ≤ 5
            · have : a = 0 ∨ a = 3 := by omega
              rcases this with rfl | rfl <;> simp
            · have : validB l a = false := by
                rw [Bool.eq_false_iff, Ne, show (validB l a = true ↔ _) from by unfold validB; simp; exact Iff.rfl]
                omega
              rw [this]
              simp

theorem hasB_mem (fs : List S40) (s : ByteArray) : hasB fs s = memB (namesOf fs) s := by
  rw [Bool.eq_iff_iff, memB_iff]
  unfold hasB namesOf
  rw [List.any_eq_true, List.mem_map]
  exact ⟨fun ⟨x, h1, h2⟩ => ⟨x, h1, of_decide_eq_true h2⟩, fun ⟨x, h1, h2⟩ => ⟨x, h1, decide_eq_true h2⟩⟩
theorem met_mem (l : Tbl) (line : List Int) (s : ByteArray) : s ∈ metOf l line ↔ s ∈ namesOf (line.reverse.flatMap fun i => own l i) := by
  unfold metOf namesOf own
  rw [List.map_flatMap, List.mem_flatMap, List.mem_flatMap]
  simp only [List.mem_reverse]
theorem met_len (l : Tbl) : ∀ (line : List Int), (metOf l line).length = (line.reverse.flatMap fun i => own l i).length
  | [] => rfl
  | x :: line => by
    have ih := met_len l line
    unfold metOf at ih ⊢
    rw [List.flatMap_cons, List.length_append, ih, List.reverse_cons, List.flatMap_append, List.length_append]
    unfold namesOf own
    simp
    omega
theorem fault_tells (l : Tbl) (all : List S40) (met : List ByteArray) (hm : ∀ s, s ∈ met ↔ s ∈ namesOf all) (hml : met.length = all.length) (h1 : all.length ≤ 32) (fs : List S40) (h2 : fs.length * 24 ≤ 140737488351232) (h3 : ∀ x ∈ fs, x.f0.size ≤ 140737488351232 ∧ (0 ≤ x.f1 ∧ x.f1 ≤ 255)) : ∀ (d i : Nat), i + d = fs.length →
    Ev (fun k => types_fields.l0 k l fs i (met ++ namesOf (fs.take i))) (fieldFaultFrom l all fs d i)
  | 0, i, hd => by
    refine Ev.step (f := fun _ => some (if (fs.length : Int) > 32 - (all.length : Int) then 4 else 0)) (fun k => ?_) (Ev.now _)
    simp only [types_fields.l0]
    rw [if_neg (by omega)]
    have hl : (met ++ namesOf (fs.take i)).length = all.length + fs.length := by
      rw [List.length_append, names_len fs i (by omega), hml]
      omega
    rw [hl]
    by_cases e : (fs.length : Int) > 32 - (all.length : Int)
    · rw [if_pos e, if_pos (by omega)]
    · rw [if_neg e, if_neg (by omega)]
  | d + 1, i, hd => by
    have hi : i < fs.length := by omega
    have ih := fault_tells l all met hm hml h1 fs h2 h3 d (i + 1) (by omega)
    rw [names_next fs i hi, ← List.append_assoc] at ih
    have hx : rd_T40 fs (i : Int) ∈ fs := by
      have : rd_T40 fs (i : Int) = fs[i] := by simp [rd_T40, List.getD_eq_getElem?_getD, hi]
      rw [this]
      exact List.getElem_mem hi
    obtain ⟨q1, q2⟩ := h3 _ hx
    have hlen : (met ++ namesOf (fs.take i)).length = all.length + i := by rw [List.length_append, names_len fs i (by omega), hml]
    unfold fieldFaultFrom
    refine Ev.step (f := fun k => (wire_IsName.f k (rd_T40 fs i).f0).bind fun a => if a = true then ((slices_Contains_string_string.f k (met ++ namesOf (fs.take i)) (rd_T40 fs i).f0).bind fun b => if b = true then some 20 else ((types_stored.f l (rd_T40 fs i).f1).bind fun c => if c = true then types_fields.l0 k l fs (i + 1) (met ++ namesOf (fs.take i) ++ [(rd_T40 fs i).f0]) else some 22)) else some 6) (fun k => ?_) ?_
    · simp only [types_fields.l0]
      rw [if_pos hi, if_pos (by omega)]
    · refine Ev.bind (impl_name _ q1) ?_
      cases nameOk (rd_T40 fs i).f0 with
      | false =>
        show Ev _ (6 : Int)
        exact Ev.congr (fun k => by rw [if_neg (by simp)]) (Ev.now _)
      | true =>
        refine Ev.congr (fun k => by rw [if_pos rfl]) (Ev.bind (impl_contains _ _ (by omega)) ?_)
        rw [if_pos rfl]
        by_cases e1 : hasB all (rd_T40 fs i).f0 = true
        · have e1' := e1
          rw [hasB_mem, memB_iff, ← hm] at e1'
          rw [if_pos e1, (memB_iff _ _).2 (List.mem_append_left _ e1')]
          exact Ev.congr (fun k => by rw [if_pos rfl]) (Ev.now _)
        · by_cases e2 : hasB (fs.take i) (rd_T40 fs i).f0 = true
          · have e2' := e2
            rw [hasB_mem, memB_iff] at e2'
            rw [if_neg e1, if_pos e2, (memB_iff _ _).2 (List.mem_append_right _ e2')]
            exact Ev.congr (fun k => by rw [if_pos rfl]) (Ev.now _)
          · have e3 : ¬ (rd_T40 fs i).f0 ∈ met ++ namesOf (fs.take i) := by
              rw [List.mem_append, hm]
              rw [hasB_mem, memB_iff] at e1 e2
              exact fun h => h.elim e1 e2
            rw [if_neg e1, if_neg e2, Bool.eq_false_iff.mpr (fun h => e3 ((memB_iff _ _).1 h))]
            refine Ev.congr (fun k => by rw [if_neg (by simp), impl_stored l _ q2, Option.bind_some]) ?_
            cases storedB l (rd_T40 fs i).f1 with
            | false =>
              show Ev _ (22 : Int)
              exact Ev.congr (fun k => by rw [if_neg (by simp)]) (Ev.now _)
            | true => exact Ev.congr (fun k => by rw [if_pos rfl]) (by rw [if_pos rfl]; exact ih)
theorem impl_fields_fault (l : Tbl) (hs : Sane l) (c : Int) (h0 : 0 ≤ c) (h1 : c < (l.length : Int)) (hp : par l c < c) (hg : GoodTo l c) : Ev (fun k => types_fields.f k l c) (fieldFault l (fieldsOf l (par l c)) (own l c)) := by
  have hall : (fieldsOf l (par l c)).length ≤ 32 := GoodTo.fields (by omega) hg _ hp
  have hml := met_len l (climbL l (par l c))
  have ho := hs.own h0 h1
  have h := fault_tells l (fieldsOf l (par l c)) (metOf l (climbL l (par l c))) (fun s => met_mem l _ s) hml hall (own l c) ho.1 ho.2 (own l c).length 0 (by omega)
  refine Ev.congr (fun k => ?_) h
  unfold types_fields.f
  have hlim : (metOf l (climbL l (rd_T38 l c).f1)).length < 8796093022208 := by
    have : (metOf l (climbL l (par l c))).length ≤ 32 := by rw [hml]; exact hall
    unfold par at this
    omega
  rw [if_pos ⟨h0, h1, hlim⟩]
  show types_fields.l0 k l (own l c) 0 (metOf l (climbL l (par l c))) = _
  congr 1
  exact (List.append_nil _).symm

theorem ahead_any (l : Tbl) (c : Nat) (hc : c < l.length) : ∀ d : Nat, d ≤ c → aheadFrom l c d = ((l.take c).drop (c - d)).any fun x => x.f0.toList == (rd_T38 l c).f0.toList
  | 0, h => by
    rw [List.drop_of_length_le (by rw [List.length_take]; omega)]
    rfl
  | d + 1, h => by
    have hi : c - (d + 1) < (l.take c).length := by rw [List.length_take]; omega
    have hr : rd_T38 l ((c : Int) - ((d : Int) + 1)) = (l.take c)[c - (d + 1)] := by
      rw [show (c : Int) - ((d : Int) + 1) = ((c - (d + 1) : Nat) : Int) by omega, List.getElem_take]
      exact rd_class l _ (by omega)
    rw [List.drop_eq_getElem_cons hi, List.any_cons, show c - (d + 1) + 1 = c - d by omega, ← ahead_any l c hc d (by omega), ← hr]
    show (decide (nam l ((c : Int) - ((d : Int) + 1)) = nam l c) || aheadFrom l c d) = _
    congr 1
    unfold nam
    rw [Bool.eq_iff_iff, decide_eq_true_iff, beq_iff_eq]
    exact (str_eq _ _).symm
theorem impl_check_tells (l : Tbl) (hs : Sane l) : ∀ (d i : Nat), i + d = l.length → GoodTo l i → Ev (fun k => types_Check.l0 k l i) (checkFrom l d (i : Int))
  | 0, i, hd, hg => by
    exact Ev.step (f := fun _ => some _) (fun k => by simp only [types_Check.l0]; rw [if_neg (by omega)]; rfl) (Ev.now _)
  | d + 1, i, hd, hg => by
    have hi : i < l.length := by omega
    have hw : (rd_T38 l i).f0.size ≤ 140737488351232 := hs.nam (c := (i : Int)) (by omega) (by omega)
    have hfault : Ev (fun k => if i ≥ 32 then some 4 else ((wire_IsName.f k (rd_T38 l i).f0).bind fun a => if a = true then (types_words.f.bind fun ws => (slices_Contains_string_string.f k ws (rd_T38 l i).f0).bind fun b => if b = true then some 6 else (if ((l.take i).any fun x => x.f0.toList == (rd_T38 l i).f0.toList) = true then some 20 else (if (rd_T38 l i).f1 < -1 ∨ (rd_T38 l i).f1 ≥ i then some 21 else types_fields.f k l i))) else some 6)) (faultB l i) := by
      unfold faultB
      by_cases e1 : (i : Int) ≥ 32
      · rw [if_pos e1]
        exact Ev.congr (fun k => by rw [if_pos (by omega)]) (Ev.now _)
      · rw [if_neg e1]
        refine Ev.congr (fun k => by rw [if_neg (by omega)]) (Ev.bind (impl_name _ hw) ?_)
        have hn : nam l i = (rd_T38 l i).f0 := rfl
        rw [hn]
        cases nameOk (rd_T38 l i).f0 with
        | false =>
          show Ev _ (6 : Int)
          exact Ev.congr (fun k => by rw [if_neg (by simp)]) (Ev.now _)
        | true =>
          rw [if_pos rfl]
          refine Ev.congr (fun k => by rw [if_pos rfl, words_is, Option.bind_some]) (Ev.bind (impl_contains words6 _ (by decide)) ?_)
          have hword : isWordB (rd_T38 l i).f0 = memB words6 (rd_T38 l i).f0 := rfl
          rw [hword]
          cases memB words6 (rd_T38 l i).f0 with
          | true =>
            show Ev _ (6 : Int)
            exact Ev.congr (fun k => by rw [if_pos rfl]) (Ev.now _)
          | false =>
            rw [if_neg (by simp)]
            have hah := ahead_any l i hi i (Nat.le_refl _)
            rw [Nat.sub_self, List.drop_zero] at hah
            have hah2 : aheadB l i = aheadFrom l i i := by unfold aheadB; rw [Int.toNat_natCast]
            rw [hah2, hah]
            refine Ev.congr (fun k => by rw [if_neg (by simp)]) ?_
            cases ((l.take i).any fun x => x.f0.toList == (rd_T38 l i).f0.toList) with
            | true =>
              show Ev _ (20 : Int)
              exact Ev.congr (fun k => by rw [if_pos rfl]) (Ev.now _)
            | false =>
              rw [if_neg (by simp)]
              refine Ev.congr (fun k => by rw [if_neg (by simp)]) ?_
              unfold parFault
              by_cases q1 : par l i < -1
              · rw [if_pos q1]
                exact Ev.congr (fun k => by rw [if_pos (.inl q1)]) (Ev.now _)
              · by_cases q2 : par l i ≥ i
                · rw [if_neg q1, if_pos q2]
                  exact Ev.congr (fun k => by rw [if_pos (.inr q2)]) (Ev.now _)
                · rw [if_neg q1, if_neg q2]
                  refine Ev.congr (fun k => by rw [if_neg (fun h => h.elim q1 q2)]) ?_
                  exact impl_fields_fault l hs i (by omega) (by omega) (by omega) hg
    refine Ev.step (fun k => ?_) (Ev.bind hfault (f := fun k e => if e = 0 then types_Check.l0 k l (i + 1) else some ((i : Int), e)) ?_)
    · simp only [types_Check.l0]
      rw [if_pos hi]
    · unfold checkFrom
      by_cases e0 : faultB l i = 0
      · rw [if_pos e0]
        have ih := impl_check_tells l hs d (i + 1) (by omega) (fun c h0 h1 => by
          by_cases e : c = (i : Int)
          · subst e; exact e0
          · exact hg c h0 (by omega))
        exact Ev.congr (fun k => by rw [if_pos e0]) ih
      · rw [if_neg e0]
        exact Ev.congr (fun k => by rw [if_neg e0]) (Ev.now _)
theorem impl_check (l : Tbl) (hs : Sane l) : Ev (fun k => types_Check.f k l) (checkB l) := impl_check_tells l hs l.length 0 (by omega) (fun c h0 h1 => by omega)
end Go.Proofs.Ytghgloepameloaa.P

end

section
namespace Go.Proofs.Ytghgloepameloaa.Pure
open Go.RowKit Go.Proofs.Ytghgloepameloaa.P Go.Proofs.YtghgloepameloaaW.PrintWords
set_option linter.unusedSimpArgs false
theorem TypesChecks : provisolaw02_TypesChecks.Pure := by
  intro l hl
  have hs : Sane l := hl
  apply Ev.rounds
  unfold provisolaw02_TypesChecks.f
  refine Ev.bind (impl_classes l hs) (Ev.bind (impl_check l hs) (Ev.bind (ref_check l hs) ?_))
  refine Ev.congr (fun k => by rw [if_pos rfl, if_pos rfl]) (Ev.bind (impl_same_classes l hs) (Ev.now _))
end Go.Proofs.Ytghgloepameloaa.Pure

end

section
namespace Go.Proofs.Ytghgloepameloaa.typesChecks
open Go.ChangeShapes Go.WideShapes Go.ChangeAt Go.RowKit Go.Proofs.YtghgloepameloaaW.PrintWords Go.Proofs.Ytghgloepameloaa.Sees Go.Proofs.Ytghgloepameloaa.P
open Go.ChangeMaps (open_string shut_string)
set_option linter.unusedVariables false
set_option linter.unusedSimpArgs false
theorem own : ownKnob Try.prog.godebug = none := by kernel_rfl
theorem laidOut : laidOutB Try.prog = true := by kernel_rfl
set_option maxRecDepth 100000 in
theorem lifted (os : Os) (started : os.Started) (H : Type) (enc : TypeId × Value → H) :
    ReturnsInHanded {} Try.checked os 10 .any (Rows.typesChecksSpec.pre6 enc Try.prog Try.f10 Rows.typesChecksRow.domain false) (Rows.typesChecksSpec.post enc Try.prog Try.f10 false true false false) := by
  refine returnsInHanded_of_change_sized (C := Try.checked) own started (by kernel_rfl) Try.func10
    (ChangeSpec.witness6 (enc := enc) (C := Try.checked) false ⟨#[], #[.slice none 0 0], []⟩ 8 (by kernel_rfl) (by kernel_rfl) (by kernel_rfl) (by kernel_rfl)) ?_
  intro W base args ds gs before hval0 hW hcnd hsz0 _
  have hsz : (DataW.weightsEach Try.prog (Try.f10.params.toList ++ Rows.typesChecksSpec.plain.varTypes Try.prog) (ds ++ gs)).all (· ≤ reachBytes) = true := hsz0
  have hval : ∀ (j : Nat) t v, Try.f10.params[j]? = some t → args[j]? = some v → Value.okWide Try.prog W .any base t v := hval0
  have hW' := hW
  obtain ⟨p, q, hA0, hV, rfl, hfz, hnd⟩ := hW
  have hA : DataW.TrodAll enc Try.prog W 0 (fun _ => true) true Try.f10.params.toList args.toList ds p := hA0
  rw [Try.params10] at hA hval hsz
  obtain ⟨v0, vs0, d0, ds0, p0, q0, hargs, rfl, rfl, h0, r0⟩ := trodAll_cons hA
  obtain ⟨rfl, rfl, rfl⟩ := trodAll_nil r0
  obtain rfl : args = #[v0] := by cases args; simp_all
  obtain ⟨rfl, rfl⟩ := trodVars_none hV
  have k0 := h0
  have lt0 : ∀ x ∈ p0, x.block < W.heap.size := by obtain ⟨m, hm⟩ := k0; exact DataW.trod_lt m _ _ _ hm
  obtain ⟨y0, hy0, oy0⟩ := see_arg (j := 0) (t := 22) (sees_slice (B := 48) Try.underlying22 (by kernel_rfl) (by kernel_rfl) sees38) hsz rfl rfl h0
  obtain ⟨a0, len0, cap0, rfl⟩ := okWide_slice Try.underlying22 (hval 0 22 v0 rfl rfl)
  obtain ⟨rfl, hc0, hr0⟩ := see_slice rfl hy0
  clear hA0 hval0 hsz0 hsz
  obtain ⟨k, hk⟩ := Pure.TypesChecks y0 oy0
  refine (provisolaw02_TypesChecks.calls k _ _ y0 true W hr0 hc0 hk).mono ?_
  rintro e W' ⟨rfl, bel0⟩
  have bel : Below W.heap.size W W' := bel0
  exact ⟨_, rfl, _, _, _, [], _, [], hW', trodAll_mk1 (shut_bool Try.underlying4 _), (trodAll_cons_mk (Below.trod laidOut (by kernel_rfl) (of_decide_eq_true (by kernel_rfl)) k0 bel lt0) trodAll_mk0), rfl, bel.frame _, fun h => by cases h⟩
theorem over : Rows.typesChecksRow.holds Try.pinned (OpenSpec.ofChange Rows.typesChecksSpec) :=
  OpenClaim.holds_of_wide 10 Try.f10 rfl rfl rfl rfl rfl rfl rfl ⟨rfl, rfl, rfl, rfl, rfl⟩ rfl rfl rfl rfl rfl (by kernel_rfl) Try.func10 (by kernel_rfl)
    (of_decide_eq_true (by kernel_rfl)) (by unfold Func.isWrapper; first | (rw [if_pos (by decide +kernel)]; kernel_rfl) | (rw [if_neg (by decide +kernel)]; exact ⟨rfl, rfl⟩))
    (fun os started H enc _ => lifted os started H enc)
theorem proved : Rows.TypesChecksSaid := over
end Go.Proofs.Ytghgloepameloaa.typesChecks
namespace Go.Proofs.Ytghgloepameloaa
theorem typesChecks_holds : Rows.TypesChecksSaid := typesChecks.proved
end Go.Proofs.Ytghgloepameloaa

end

