/- Proved: the law ModuleChecks holds for every input that the row lets in. No condition of ours. -/
import Derived.Test.YtdlmcjchnoeebaaBModuleChecksh
import Derived.Test.YtdlmcjchnoeebaaRows
import Derived.ShutString
import Derived.ChangeOld
import Derived.Lib.SmallJoins
section
namespace Go.Proofs.Ytdlmcjchnoeebaa.P
open Go.RowKit Go.Proofs.YtdlmcjchnoeebaaW.PrintWords Go.Proofs.YtdlmcjchnoeebaaW.PrintLast Go.Proofs.YtdlmcjchnoeebaaW.PrintMore
set_option linter.unusedVariables false
set_option linter.unusedSimpArgs false

theorem impl_check_tells (l : Tbl) (hs : Sane l) : ∀ (d i : Nat), i + d = l.length → GoodTo l i → Ev (fun k => types_Check.l0 k l i) (checkFrom l d (i : Int))
  | 0, i, hd, hg => by
    exact Ev.step (f := fun _ => some _) (fun k => by simp only [types_Check.l0]; rw [if_neg (by omega)]; rfl) (Ev.now _)
  | d + 1, i, hd, hg => by
    have hi : i < l.length := by omega
    have hw : (rd_T64 l i).f0.size ≤ 140737488351232 := hs.nam (c := (i : Int)) (by omega) (by omega)
    have hfault : Ev (fun k => if i ≥ 32 then some 4 else ((wire_IsName.f k (rd_T64 l i).f0).bind fun a => if a = true then (types_words.f.bind fun ws => (slices_Contains_string_string.f k ws (rd_T64 l i).f0).bind fun b => if b = true then some 6 else (if ((l.take i).any fun x => x.f0.toList == (rd_T64 l i).f0.toList) = true then some 20 else (if (rd_T64 l i).f1 < -1 ∨ (rd_T64 l i).f1 ≥ i then some 21 else types_fields.f k l i))) else some 6)) (faultB l i) := by
      unfold faultB
      by_cases e1 : (i : Int) ≥ 32
      · rw [if_pos e1]
        exact Ev.congr (fun k => by rw [if_pos (by omega)]) (Ev.now _)
      · rw [if_neg e1]
        refine Ev.congr (fun k => by rw [if_neg (by omega)]) (Ev.bind (impl_name _ hw) ?_)
        have hn : nam l i = (rd_T64 l i).f0 := rfl
        rw [hn]
        cases nameOk (rd_T64 l i).f0 with
        | false =>
          show Ev _ (6 : Int)
          exact Ev.congr (fun k => by rw [if_neg (by simp)]) (Ev.now _)
        | true =>
          rw [if_pos rfl]
          refine Ev.congr (fun k => by rw [if_pos rfl, words_is, Option.bind_some]) (Ev.bind (impl_contains words6 _ (by decide)) ?_)
          have hword : isWordB (rd_T64 l i).f0 = memB words6 (rd_T64 l i).f0 := rfl
          rw [hword]
          cases memB words6 (rd_T64 l i).f0 with
          | true =>
            show Ev _ (6 : Int)
            exact Ev.congr (fun k => by rw [if_pos rfl]) (Ev.now _)
          | false =>
            rw [if_neg (by simp)]
            have hah := ahead_any l i hi i (Nat.le_refl _)
            rw [Nat.sub_self, List.drop_zero] at hah
            have hah2 : aheadB l i = aheadFrom l i i := by unfold aheadB; rw [Int.toNat_natCast]
            rw [hah2, hah]
            refine Ev.congr (fun k => by rw [if_neg (by simp)]) ?_
            cases ((l.take i).any fun x => x.f0.toList == (rd_T64 l i).f0.toList) with
            | true =>
              show Ev _ (20 : Int)
              exact Ev.congr (fun k => by rw [if_pos rfl]) (Ev.now _)
            | false =>
              rw [if_neg (by simp)]
              refine Ev.congr (fun k => by rw [if_neg (by simp)]) ?_
              unfold parFault
              by_cases q1 : par l i < -1
              · rw [if_pos q1]
                exact Ev.congr (fun k => by rw [if_pos (.inl q1)]) (Ev.now _)
              · by_cases q2 : par l i ≥ i
                · rw [if_neg q1, if_pos q2]
                  exact Ev.congr (fun k => by rw [if_pos (.inr q2)]) (Ev.now _)
                · rw [if_neg q1, if_neg q2]
                  refine Ev.congr (fun k => by rw [if_neg (fun h => h.elim q1 q2)]) ?_
                  exact impl_fields_fault l hs i (by omega) (by omega) (by omega) hg
    refine Ev.step (fun k => ?_) (Ev.bind hfault (f := fun k e => if e = 0 then types_Check.l0 k l (i + 1) else some ((i : Int), e)) ?_)
    · simp only [types_Check.l0]
      rw [if_pos hi]
    · unfold checkFrom
      by_cases e0 : faultB l i = 0
      · rw [if_pos e0]
        have ih := impl_check_tells l hs d (i + 1) (by omega) (fun c h0 h1 => by
          by_cases e : c = (i : Int)
          · subst e; exact e0
          · exact hg c h0 (by omega))
        exact Ev.congr (fun k => by rw [if_pos e0]) ih
      · rw [if_neg e0]
        exact Ev.congr (fun k => by rw [if_neg e0]) (Ev.now _)
theorem impl_check (l : Tbl) (hs : Sane l) : Ev (fun k => types_Check.f k l) (checkB l) := impl_check_tells l hs l.length 0 (by omega) (fun c h0 h1 => by omega)
end Go.Proofs.Ytdlmcjchnoeebaa.P


end

section
namespace Go.Proofs.Ytdlmcjchnoeebaa.Pure
open Go.RowKit Go.Proofs.Ytdlmcjchnoeebaa.P Go.Proofs.YtdlmcjchnoeebaaW.PrintWords
set_option linter.unusedSimpArgs false
set_option linter.unusedVariables false
def stB (l : List S64) (t : Int) : Bool := if validB l t = true then (if t = 0 then false else t != 3) else false
theorem mod_impl_stored (l : List S64) (t : Int) (ht : 0 ≤ t ∧ t ≤ 255) : module_stored.f l t = some (stB l t) := by
  unfold module_stored.f stB
  rw [impl_valid l t ht]
  simp only [Option.bind_some]
  split
  · split <;> rfl
  · rfl
theorem mod_ref_stored (l : List S64) (t : Int) (ht : 0 ≤ t ∧ t ≤ 255) : provisoref02_Stored.f l t = some (stB l t) := by
  unfold provisoref02_Stored.f stB
  rw [ref_valid l t ht]
  simp only [Option.bind_some]
  split
  · split <;> rfl
  · rfl
theorem odd_is (l : List S64) (t : Int) (ht : 0 ≤ t ∧ t ≤ 255) : oddB l t = !stB l t := by
  unfold oddB
  rw [mod_impl_stored l t ht]
  rfl
def sigB (l : List S64) (ps : List Int) (n : Nat) (r : Int) : Bool := if ps.any (oddB l) = true then false else if n ≤ 8 then (if r = 0 then true else stB l r) else false
theorem ev_sig (l : List S64) (ps : List Int) (r : Int) (hp : ∀ t ∈ ps, 0 ≤ t ∧ t ≤ 255) (hr : 0 ≤ r ∧ r ≤ 255) (hb : ps.length ≤ 9223372036854775807) : ∀ (d i : Nat), ps.length - i = d → i ≤ ps.length → Ev (fun k => provisoref02_SigMay.l0 k l (i : Int) ps r) (sigB l (ps.drop i) ps.length r)
  | 0, i, hd, hi => by
    obtain rfl : i = ps.length := by omega
    rw [List.drop_length]
    unfold sigB
    rw [if_neg (by simp)]
    by_cases h8 : ps.length ≤ 8
    · rw [if_pos h8]
      by_cases h0 : r = 0
      · rw [if_pos h0]
        refine Ev.step (f := fun _ => some true) (fun k => ?_) (Ev.now _)
        simp only [provisoref02_SigMay.l0]
        rw [if_neg (by omega), if_pos (by omega), if_pos h0]
      · rw [if_neg h0]
        refine Ev.step (f := fun _ => some (stB l r)) (fun k => ?_) (Ev.now _)
        simp only [provisoref02_SigMay.l0]
        rw [if_neg (by omega), if_pos (by omega), if_neg h0, mod_ref_stored l r hr]
        rfl
    · rw [if_neg h8]
      refine Ev.step (f := fun _ => some false) (fun k => ?_) (Ev.now _)
      simp only [provisoref02_SigMay.l0]
      rw [if_neg (by omega), if_neg (by omega)]
  | d + 1, i, hd, hi => by
    have hlt : i < ps.length := by omega
    have ih := ev_sig l ps r hp hr hb d (i + 1) (by omega) (by omega)
    have hrd : rd ps (i : Int) = ps[i] := by simp [rd, List.getD_eq_getElem?_getD, hlt]
    have hu := hp _ (List.getElem_mem hlt)
    have ho := odd_is l ps[i] hu
    rw [List.drop_eq_getElem_cons hlt]
    unfold sigB
    rw [List.any_cons, ho]
    cases hs : stB l ps[i] with
    | true =>
      simp only [Bool.not_true, Bool.false_or]
      unfold sigB at ih
      refine Ev.step (fun k => ?_) ih
      simp only [provisoref02_SigMay.l0]
      rw [if_pos (by omega), if_pos (by omega), hrd, mod_ref_stored l _ hu, hs]
      simp only [Option.bind_some, if_true]
      rw [wrap_one hlt hb]
    | false =>
      simp only [Bool.not_false, Bool.true_or, if_true]
      refine Ev.step (f := fun _ => some false) (fun k => ?_) (Ev.now _)
      simp only [provisoref02_SigMay.l0]
      rw [if_pos (by omega), if_pos (by omega), hrd, mod_ref_stored l _ hu, hs]
      rfl
def function_rest (l1 : List S64) (x : S49) : Int := if x.f1.f0.length > 8 then 4 else if x.f1.f0.any (oddB l1) = true then 22 else if x.f1.f1 = 0 then function_tail x else if oddB l1 x.f1.f1 = true then 22 else function_tail x
theorem ev_rest (l1 : List S64) (x : S49) (hp : ∀ t ∈ x.f1.f0, 0 ≤ t ∧ t ≤ 255) (hr : 0 ≤ x.f1.f1 ∧ x.f1.f1 ≤ 255) :
    Ev (fun k => if (x.f1.f0.length : Int) > 8 then (some 4) else ((provisoref02_SigMay.f k l1 x.f1.f0 x.f1.f1).bind fun t244 => (if t244 = true then (if x.f2 < (x.f1.f0.length : Int) then (provisoref16_function.j1 k true x.f0 x.f1.f0 x.f1.f1 x.f2 x.f3) else (provisoref16_function.j1 k (decide (x.f2 > 16)) x.f0 x.f1.f0 x.f1.f1 x.f2 x.f3)) else (some 22)))) (function_rest l1 x) := by
  unfold function_rest
  by_cases h8 : x.f1.f0.length > 8
  · rw [if_pos h8]
    exact Ev.congr (f := fun _ => some 4) (fun k => by rw [if_pos (by omega)]) (Ev.now _)
  rw [if_neg h8]
  have hsig := ev_sig l1 x.f1.f0 x.f1.f1 hp hr (by omega) x.f1.f0.length 0 (by omega) (by omega)
  rw [List.drop_zero] at hsig
  refine Ev.congr (fun k => by rw [if_neg (by omega)]; rfl) (Ev.bind (f := fun k t244 => (if t244 = true then (if x.f2 < (x.f1.f0.length : Int) then (provisoref16_function.j1 k true x.f0 x.f1.f0 x.f1.f1 x.f2 x.f3) else (provisoref16_function.j1 k (decide (x.f2 > 16)) x.f0 x.f1.f0 x.f1.f1 x.f2 x.f3)) else (some 22))) (Ev.congr (fun k => rfl) hsig) ?_)
  have htail : Ev (fun k => if x.f2 < (x.f1.f0.length : Int) then (provisoref16_function.j1 k true x.f0 x.f1.f0 x.f1.f1 x.f2 x.f3) else (provisoref16_function.j1 k (decide (x.f2 > 16)) x.f0 x.f1.f0 x.f1.f1 x.f2 x.f3)) (function_tail x) := by
    unfold function_tail
    by_cases g1 : x.f2 < (x.f1.f0.length : Int)
    · rw [if_pos g1]
      refine Ev.congr (fun k => by rw [if_pos g1]) (Ev.step (f := fun _ => some 5) (fun k => ?_) (Ev.now _))
      simp only [provisoref16_function.j1, if_true]
    · rw [if_neg g1]
      refine Ev.congr (fun k => by rw [if_neg g1]) ?_
      by_cases g2 : x.f2 > 16
      · rw [if_pos g2, decide_eq_true g2]
        refine Ev.step (f := fun _ => some 5) (fun k => ?_) (Ev.now _)
        simp only [provisoref16_function.j1, if_true]
      · rw [if_neg g2, decide_eq_false g2]
        by_cases g3 : x.f3.length = 0
        · rw [if_pos g3]
          refine Ev.step (f := fun _ => some 2) (fun k => ?_) (Ev.now _)
          simp only [provisoref16_function.j1]
          rw [if_neg (by decide), if_pos (by omega)]
        · rw [if_neg g3]
          by_cases g4 : x.f3.length > 4096
          · rw [if_pos g4]
            refine Ev.step (f := fun _ => some 4) (fun k => ?_) (Ev.now _)
            simp only [provisoref16_function.j1]
            rw [if_neg (by decide), if_neg (by omega), if_pos (by omega)]
          · rw [if_neg g4]
            refine Ev.step (f := fun _ => some 0) (fun k => ?_) (Ev.now _)
            simp only [provisoref16_function.j1]
            rw [if_neg (by decide), if_neg (by omega), if_neg (by omega)]
  unfold sigB
  by_cases ha : x.f1.f0.any (oddB l1) = true
  · rw [if_pos ha, if_pos ha]
    exact Ev.congr (f := fun _ => some 22) (fun k => by rw [if_neg (by decide)]) (Ev.now _)
  · rw [if_neg ha, if_neg ha, if_pos (by omega)]
    by_cases h0 : x.f1.f1 = 0
    · rw [if_pos h0, if_pos h0]
      exact Ev.congr (fun k => by rw [if_pos rfl]) htail
    · rw [if_neg h0, if_neg h0, odd_is l1 _ hr]
      cases stB l1 x.f1.f1 with
      | true =>
        rw [if_neg (by decide)]
        exact Ev.congr (fun k => by rw [if_pos rfl]) htail
      | false =>
        rw [if_pos (by decide)]
        exact Ev.congr (f := fun _ => some 22) (fun k => by rw [if_neg (by decide)]) (Ev.now _)
theorem ev_twice (a0 : ByteArray) (l1 : List S64) (l2 : List S49) (l3 : List (List Int)) (x : S49) (hp : ∀ t ∈ x.f1.f0, 0 ≤ t ∧ t ≤ 255) (hr : 0 ≤ x.f1.f1 ∧ x.f1.f1 ≤ 255) (n : Nat) (hn : n ≤ l2.length) (hl : l2.length ≤ 1759218604390) : ∀ (d i : Nat), n - i = d → i ≤ n → Ev (fun k => provisoref16_function.l0 k (n : Int) (i : Int) a0 l1 l2 l3 x.f0 x.f1.f0 x.f1.f1 x.f2 x.f3) (if ((l2.take n).drop i).any (fun y => y.f0.toList == x.f0.toList) = true then 20 else function_rest l1 x)
  | 0, i, hd, hi => by
    obtain rfl : i = n := by omega
    rw [List.drop_of_length_le (by rw [List.length_take]; omega), if_neg (by simp)]
    refine Ev.step (fun k => ?_) (ev_rest l1 x hp hr)
    simp only [provisoref16_function.l0]
    rw [if_neg (by omega)]
  | d + 1, i, hd, hi => by
    have hlt : i < n := by omega
    have hlt2 : i < l2.length := by omega
    have hlt3 : i < (l2.take n).length := by rw [List.length_take]; omega
    have ih := ev_twice a0 l1 l2 l3 x hp hr n hn hl d (i + 1) (by omega) (by omega)
    have e : (l2.take n)[i] = l2[i] := by simp
    rw [List.drop_eq_getElem_cons hlt3, List.any_cons, e]
    by_cases h : l2[i].f0.toList = x.f0.toList
    · rw [beq_iff_eq.mpr h, Bool.true_or, if_pos rfl]
      refine Ev.step (f := fun _ => some 20) (fun k => ?_) (Ev.now _)
      simp only [provisoref16_function.l0]
      rw [if_pos (by omega), if_pos (by omega), if_pos (by omega), rd_f hlt2, if_pos h]
    · rw [beq_eq_false_iff_ne.mpr h, Bool.false_or]
      refine Ev.step (fun k => ?_) ih
      simp only [provisoref16_function.l0]
      rw [if_pos (by omega), if_pos (by omega), if_pos (by omega), rd_f hlt2, if_neg h, wrap_one hlt2 (by omega)]
structure FunOk (l2 : List S49) : Prop where
  fl : l2.length ≤ 1759218604390
  nm : ∀ x ∈ l2, x.f0.size ≤ 140737488351232
  pu : ∀ x ∈ l2, ∀ t ∈ x.f1.f0, 0 ≤ t ∧ t ≤ 255
  ru : ∀ x ∈ l2, 0 ≤ x.f1.f1 ∧ x.f1.f1 ≤ 255
def gF (l1 : List S64) (l2 : List S49) (i : Nat) : Int := function_all (nameOk (rd_T49 l2 (i : Int)).f0) l1 (l2.take i) (rd_T49 l2 (i : Int))
theorem ref_function (a0 : ByteArray) (l1 : List S64) (l2 : List S49) (l3 : List (List Int)) (h : FunOk l2) (i : Nat) (hi : i < l2.length) : Ev (fun k => provisoref16_function.f k a0 l1 l2 l3 (i : Int)) (gF l1 l2 i) := by
  have hm := List.getElem_mem hi
  have hx := rd_f hi
  have hn := ref_name l2[i].f0 (h.nm _ hm)
  have ht := ev_twice a0 l1 l2 l3 l2[i] (h.pu _ hm) (h.ru _ hm) i (by omega) h.fl i 0 (by omega) (by omega)
  rw [List.drop_zero] at ht
  unfold gF function_all
  rw [hx]
  refine Ev.congr (fun k => by unfold provisoref16_function.f; rw [if_pos (by omega), if_pos (by omega), hx]) (Ev.bind (f := fun k t242 => if t242 = true then (provisoref16_function.l0 k (i : Int) 0 a0 l1 l2 l3 (l2[i].f0) (l2[i].f1.f0) (l2[i].f1.f1) (l2[i].f2) (l2[i].f3)) else (some 6)) hn ?_)
  cases nameOk l2[i].f0 with
  | true =>
    rw [if_pos rfl]
    exact Ev.congr (fun k => by rw [if_pos rfl]; rfl) ht
  | false =>
    rw [if_neg (by decide)]
    exact Ev.congr (f := fun _ => some 6) (fun k => by rw [if_neg (by decide)]) (Ev.now _)
theorem impl_function (a0 : ByteArray) (l1 : List S64) (l2 : List S49) (l3 : List (List Int)) (h : FunOk l2) (i : Nat) (hi : i < l2.length) : Ev (fun k => module_function.f k a0 l1 l2 l3 (i : Int)) (gF l1 l2 i) := by
  have hm := List.getElem_mem hi
  have hx := rd_f hi
  have hn := impl_name l2[i].f0 (h.nm _ hm)
  unfold gF
  rw [hx]
  refine Ev.congr (fun k => by unfold module_function.f; rw [if_pos (by omega), if_pos (by omega), hx]; rfl) (Ev.bind (f := fun k nm => some (function_all nm l1 (l2.take i) l2[i])) hn (Ev.now _))
def chk (g : Nat → Int) (fin : Int × Int) : Nat → Nat → Int × Int
  | 0, _ => fin
  | d + 1, i => if g i = 0 then chk g fin d (i + 1) else ((i : Int), g i)
def certF (l3 : List (List Int)) : Nat → Nat → Int × Int
  | 0, _ => (0, 0)
  | d + 1, i => if ((rd_L8 l3 (i : Int)).length : Int) > 65535 then ((i : Int), 4) else certF l3 d (i + 1)
def finF (l2 : List S49) (l3 : List (List Int)) : Int × Int := if l3.length = 0 then (0, 0) else if l3.length = l2.length then certF l3 l3.length 0 else (0, 162)
theorem impl_certs (l3 : List (List Int)) (hl : l3.length ≤ 5864062014640) : ∀ (d i : Nat), l3.length - i = d → i ≤ l3.length → Ev (fun k => module_Check.l1 k l3 (l3.length : Int) (i : Int)) (certF l3 d i)
  | 0, i, hd, hi => Ev.step (f := fun _ => some (0, 0)) (fun k => by simp only [module_Check.l1]; rw [if_neg (by omega)]) (Ev.now _)
  | d + 1, i, hd, hi => by
    have ih := impl_certs l3 hl d (i + 1) (by omega) (by omega)
    unfold certF
    by_cases h : ((rd_L8 l3 (i : Int)).length : Int) > 65535
    · rw [if_pos h]
      refine Ev.step (f := fun _ => some ((i : Int), 4)) (fun k => ?_) (Ev.now _)
      simp only [module_Check.l1]
      rw [if_pos (by omega), if_pos (by omega), if_pos (by omega), if_pos h]
    · rw [if_neg h]
      refine Ev.step (fun k => ?_) ih
      simp only [module_Check.l1]
      rw [if_pos (by omega), if_pos (by omega), if_pos (by omega), if_neg h, wrap_one (n := l3.length) (by omega) (by omega)]
theorem ref_certs (a0 : ByteArray) (l1 : List S64) (l2 : List S49) (l3 : List (List Int)) (hl : l3.length ≤ 5864062014640) : ∀ (d i : Nat), l3.length - i = d → i ≤ l3.length → Ev (fun k => provisoref16_Check.l1 k (i : Int) a0 l1 l2 l3) (certF l3 d i)
  | 0, i, hd, hi => Ev.step (f := fun _ => some (0, 0)) (fun k => by simp only [provisoref16_Check.l1]; rw [if_neg (by omega)]) (Ev.now _)
  | d + 1, i, hd, hi => by
    have ih := ref_certs a0 l1 l2 l3 hl d (i + 1) (by omega) (by omega)
    unfold certF
    by_cases h : ((rd_L8 l3 (i : Int)).length : Int) > 65535
    · rw [if_pos h]
      refine Ev.step (f := fun _ => some ((i : Int), 4)) (fun k => ?_) (Ev.now _)
      simp only [provisoref16_Check.l1]
      rw [if_pos (by omega), if_pos (by omega), if_pos h]
    · rw [if_neg h]
      refine Ev.step (fun k => ?_) ih
      simp only [provisoref16_Check.l1]
      rw [if_pos (by omega), if_pos (by omega), if_neg h, wrap_one (n := l3.length) (by omega) (by omega)]
theorem impl_fin (a0 : ByteArray) (l1 : List S64) (l2 : List S49) (l3 : List (List Int)) (hl : l3.length ≤ 5864062014640) : Ev (fun k => if (l3.length : Int) = 0 then (module_Check.j1 k false a0 l1 l2 l3) else (module_Check.j1 k ((l3.length : Int) != (l2.length : Int)) a0 l1 l2 l3)) (finF l2 l3) := by
  have hc := impl_certs l3 hl l3.length 0 (by omega) (by omega)
  unfold finF
  by_cases h0 : l3.length = 0
  · rw [if_pos h0]
    refine Ev.congr (fun k => by rw [if_pos (by omega)]) (Ev.step (fun k => ?_) hc |> fun h => by rw [h0] at h; exact h)
    simp only [module_Check.j1]
    rw [if_neg (by decide)]
    rfl
  · rw [if_neg h0]
    by_cases h1 : l3.length = l2.length
    · rw [if_pos h1]
      refine Ev.congr (fun k => by rw [if_neg (by omega), bne_eq_false_iff_eq.mpr (show (l3.length : Int) = (l2.length : Int) by omega)]) (Ev.step (fun k => ?_) hc)
      simp only [module_Check.j1]
      rw [if_neg (by decide)]
      rfl
    · rw [if_neg h1]
      refine Ev.congr (fun k => by rw [if_neg (by omega), bne_iff_ne.mpr (show (l3.length : Int) ≠ (l2.length : Int) by omega)]) (Ev.step (f := fun _ => some (0, 162)) (fun k => ?_) (Ev.now _))
      simp only [module_Check.j1, if_true]
theorem ref_fin (a0 : ByteArray) (l1 : List S64) (l2 : List S49) (l3 : List (List Int)) (hl : l3.length ≤ 5864062014640) : Ev (fun k => if (l3.length : Int) > 0 then (provisoref16_Check.j1 k ((l3.length : Int) != (l2.length : Int)) a0 l1 l2 l3) else (provisoref16_Check.j1 k false a0 l1 l2 l3)) (finF l2 l3) := by
  have hc := ref_certs a0 l1 l2 l3 hl l3.length 0 (by omega) (by omega)
  unfold finF
  by_cases h0 : l3.length = 0
  · rw [if_pos h0]
    refine Ev.congr (fun k => by rw [if_neg (by omega)]) (Ev.step (fun k => ?_) hc |> fun h => by rw [h0] at h; exact h)
    simp only [provisoref16_Check.j1]
    rw [if_neg (by decide)]
    rfl
  · rw [if_neg h0]
    by_cases h1 : l3.length = l2.length
    · rw [if_pos h1]
      refine Ev.congr (fun k => by rw [if_pos (by omega), bne_eq_false_iff_eq.mpr (show (l3.length : Int) = (l2.length : Int) by omega)]) (Ev.step (fun k => ?_) hc)
      simp only [provisoref16_Check.j1]
      rw [if_neg (by decide)]
      rfl
    · rw [if_neg h1]
      refine Ev.congr (fun k => by rw [if_pos (by omega), bne_iff_ne.mpr (show (l3.length : Int) ≠ (l2.length : Int) by omega)]) (Ev.step (f := fun _ => some (0, 162)) (fun k => ?_) (Ev.now _))
      simp only [provisoref16_Check.j1, if_true]
theorem impl_funs (a0 : ByteArray) (l1 : List S64) (l2 : List S49) (l3 : List (List Int)) (h : FunOk l2) (hl : l3.length ≤ 5864062014640) : ∀ (d i : Nat), l2.length - i = d → i ≤ l2.length → Ev (fun k => module_Check.l0 k (l2.length : Int) (i : Int) a0 l1 l2 l3) (chk (gF l1 l2) (finF l2 l3) d i)
  | 0, i, hd, hi => Ev.step (fun k => by simp only [module_Check.l0]; rw [if_neg (by omega)]) (impl_fin a0 l1 l2 l3 hl)
  | d + 1, i, hd, hi => by
    have ih := impl_funs a0 l1 l2 l3 h hl d (i + 1) (by omega) (by omega)
    have hlt : i < l2.length := by omega
    have hfl := h.fl
    unfold chk
    refine Ev.step (fun k => by simp only [module_Check.l0]; rw [if_pos (by omega), wrap_one hlt (by omega)]) (Ev.bind (f := fun k t200 => if t200 = 0 then (module_Check.l0 k (l2.length : Int) ((i + 1 : Nat) : Int) a0 l1 l2 l3) else (some ((i : Int), t200))) (impl_function a0 l1 l2 l3 h i hlt) ?_)
    by_cases hz : gF l1 l2 i = 0
    · rw [if_pos hz]
      exact Ev.congr (fun k => by rw [if_pos hz]) ih
    · rw [if_neg hz]
      exact Ev.congr (f := fun _ => some ((i : Int), gF l1 l2 i)) (fun k => by rw [if_neg hz]) (Ev.now _)
theorem ref_funs (a0 : ByteArray) (l1 : List S64) (l2 : List S49) (l3 : List (List Int)) (h : FunOk l2) (hl : l3.length ≤ 5864062014640) : ∀ (d i : Nat), l2.length - i = d → i ≤ l2.length → Ev (fun k => provisoref16_Check.l0 k (i : Int) a0 l1 l2 l3) (chk (gF l1 l2) (finF l2 l3) d i)
  | 0, i, hd, hi => Ev.step (fun k => by simp only [provisoref16_Check.l0]; rw [if_neg (by omega)]) (ref_fin a0 l1 l2 l3 hl)
  | d + 1, i, hd, hi => by
    have ih := ref_funs a0 l1 l2 l3 h hl d (i + 1) (by omega) (by omega)
    have hlt : i < l2.length := by omega
    have hfl := h.fl
    unfold chk
    refine Ev.step (fun k => by simp only [provisoref16_Check.l0]; rw [if_pos (by omega), wrap_one hlt (by omega)]) (Ev.bind (f := fun k t200 => if t200 = 0 then (provisoref16_Check.l0 k ((i + 1 : Nat) : Int) a0 l1 l2 l3) else (some ((i : Int), t200))) (ref_function a0 l1 l2 l3 h i hlt) ?_)
    by_cases hz : gF l1 l2 i = 0
    · rw [if_pos hz]
      exact Ev.congr (fun k => by rw [if_pos hz]) ih
    · rw [if_neg hz]
      exact Ev.congr (f := fun _ => some ((i : Int), gF l1 l2 i)) (fun k => by rw [if_neg hz]) (Ev.now _)
def modB (a0 : ByteArray) (l1 : List S64) (l2 : List S49) (l3 : List (List Int)) : Int × Int :=
  if nameOk a0 = true then (if (checkB l1).2 = 0 then (if (l2.length : Int) > 64 then (64, 4) else chk (gF l1 l2) (finF l2 l3) l2.length 0) else ((checkB l1).1, (checkB l1).2)) else (0, 6)
theorem impl_mod (a0 : ByteArray) (l1 : List S64) (l2 : List S49) (l3 : List (List Int)) (ha : a0.size ≤ 140737488351232) (hs : Sane l1) (h : FunOk l2) (hl : l3.length ≤ 5864062014640) : Ev (fun k => module_Check.f k a0 l1 l2 l3) (modB a0 l1 l2 l3) := by
  unfold modB
  refine Ev.bind (f := fun k t197 => (if t197 = true then ((types_Check.f k l1).bind fun bt198 => (if bt198.2 = 0 then (if (l2.length : Int) > 64 then (some (64, 4)) else (module_Check.l0 k (l2.length : Int) 0 a0 l1 l2 l3)) else (some (bt198.1, bt198.2)))) else (some (0, 6)))) (impl_name a0 ha) ?_
  cases nameOk a0 with
  | false => exact Ev.congr (f := fun _ => some (0, 6)) (fun k => by rw [if_neg (by decide)]) (Ev.now _)
  | true =>
    rw [if_pos rfl]
    refine Ev.congr (fun k => by rw [if_pos rfl]) (Ev.bind (f := fun k bt198 => (if bt198.2 = 0 then (if (l2.length : Int) > 64 then (some (64, 4)) else (module_Check.l0 k (l2.length : Int) 0 a0 l1 l2 l3)) else (some (bt198.1, bt198.2)))) (impl_check l1 hs) ?_)
    by_cases hz : (checkB l1).2 = 0
    · rw [if_pos hz]
      by_cases h6 : (l2.length : Int) > 64
      · rw [if_pos h6]
        exact Ev.congr (f := fun _ => some (64, 4)) (fun k => by rw [if_pos hz, if_pos h6]) (Ev.now _)
      · rw [if_neg h6]
        exact Ev.congr (fun k => by rw [if_pos hz, if_neg h6]; rfl) (impl_funs a0 l1 l2 l3 h hl l2.length 0 (by omega) (by omega))
    · rw [if_neg hz]
      exact Ev.congr (f := fun _ => some ((checkB l1).1, (checkB l1).2)) (fun k => by rw [if_neg hz]) (Ev.now _)
theorem ref_mod (a0 : ByteArray) (l1 : List S64) (l2 : List S49) (l3 : List (List Int)) (ha : a0.size ≤ 140737488351232) (hs : Sane l1) (h : FunOk l2) (hl : l3.length ≤ 5864062014640) : Ev (fun k => provisoref16_Check.f k a0 l1 l2 l3) (modB a0 l1 l2 l3) := by
  unfold modB
  refine Ev.bind (f := fun k t197 => (if t197 = true then ((provisoref02_Check.f k l1).bind fun bt198 => (if bt198.2 = 0 then (if (l2.length : Int) > 64 then (some (64, 4)) else (provisoref16_Check.l0 k 0 a0 l1 l2 l3)) else (some (bt198.1, bt198.2)))) else (some (0, 6)))) (ref_name a0 ha) ?_
  cases nameOk a0 with
  | false => exact Ev.congr (f := fun _ => some (0, 6)) (fun k => by rw [if_neg (by decide)]) (Ev.now _)
  | true =>
    rw [if_pos rfl]
    refine Ev.congr (fun k => by rw [if_pos rfl]) (Ev.bind (f := fun k bt198 => (if bt198.2 = 0 then (if (l2.length : Int) > 64 then (some (64, 4)) else (provisoref16_Check.l0 k 0 a0 l1 l2 l3)) else (some (bt198.1, bt198.2)))) (ref_check l1 hs) ?_)
    by_cases hz : (checkB l1).2 = 0
    · rw [if_pos hz]
      by_cases h6 : (l2.length : Int) > 64
      · rw [if_pos h6]
        exact Ev.congr (f := fun _ => some (64, 4)) (fun k => by rw [if_pos hz, if_pos h6]) (Ev.now _)
      · rw [if_neg h6]
        exact Ev.congr (fun k => by rw [if_pos hz, if_neg h6]; rfl) (ref_funs a0 l1 l2 l3 h hl l2.length 0 (by omega) (by omega))
    · rw [if_neg hz]
      exact Ev.congr (f := fun _ => some ((checkB l1).1, (checkB l1).2)) (fun k => by rw [if_neg hz]) (Ev.now _)
theorem mod_u8 {a : Int} (h : (Lit.int .u8 a).wf = true) : 0 ≤ a ∧ a ≤ 255 := by
  simp [Lit.wf, IntKind.min, IntKind.max, IntKind.signed, IntKind.bits] at h
  exact h
theorem ModuleChecks : provisolaw16_ModuleChecks.Pure := by
  intro a0 a1 a2 a3 ha0 ha1 ha2 ha3
  have ok := mod_ok a1 a2 a3 ha1 ha2 ha3
  have fok : FunOk a2 := ⟨ok.fl, fun x hx => (ha2.2.2 x hx).1, fun x hx t ht => mod_u8 ((ha2.2.2 x hx).2.1.1.2.2 t ht), fun x hx => mod_u8 (ha2.2.2 x hx).2.1.2⟩
  have hs : Sane a1 := ha1
  apply Ev.rounds
  unfold provisolaw16_ModuleChecks.f
  refine Ev.bind (ev_module a0 a1 a2 a3 ok) (Ev.bind (impl_mod a0 a1 a2 a3 ha0 hs fok ok.bl) (Ev.bind (ref_mod a0 a1 a2 a3 ha0 hs fok ok.bl) ?_))
  refine Ev.congr (fun k => by rw [if_pos rfl, if_pos rfl]) (Ev.bind (f := fun _ t => some t) (ev_refModule a0 a1 a2 a3 a0 a1 a2 a3 ok) ?_)
  rw [mE_self]
  exact Ev.now _
end Go.Proofs.Ytdlmcjchnoeebaa.Pure

end

section
namespace Go.Proofs.Ytdlmcjchnoeebaa.moduleChecks
open Go.ChangeShapes Go.WideShapes Go.ChangeAt Go.RowKit Go.Proofs.YtdlmcjchnoeebaaW.PrintWords Go.Proofs.Ytdlmcjchnoeebaa.Sees Go.Proofs.Ytdlmcjchnoeebaa.P
open Go.ChangeMaps (open_string shut_string)
set_option linter.unusedVariables false
set_option linter.unusedSimpArgs false
theorem own : ownKnob Try.prog.godebug = none := by kernel_rfl
theorem laidOut : laidOutB Try.prog = true := by kernel_rfl
set_option maxRecDepth 100000 in
theorem lifted (os : Os) (started : os.Started) (H : Type) (enc : TypeId × Value → H) :
    ReturnsInHanded {} Try.checked os 4 .any (Rows.moduleChecksSpec.pre6 enc Try.prog Try.f4 Rows.moduleChecksRow.domain false) (Rows.moduleChecksSpec.post enc Try.prog Try.f4 false true false false) := by
  refine returnsInHanded_of_change_sized (C := Try.checked) own started (by kernel_rfl) Try.func4
    (ChangeSpec.witness6 (enc := enc) (C := Try.checked) false ⟨#[], #[.agg #[.string ByteArray.empty, .slice none 0 0, .slice none 0 0, .slice none 0 0]], []⟩ 8 (by kernel_rfl) (by kernel_rfl) (by kernel_rfl) (by kernel_rfl)) ?_
  intro W base args ds gs before hval0 hW hcnd hsz0 _
  have hsz : (DataW.weightsEach Try.prog (Try.f4.params.toList ++ Rows.moduleChecksSpec.plain.varTypes Try.prog) (ds ++ gs)).all (· ≤ reachBytes) = true := hsz0
  have hval : ∀ (j : Nat) t v, Try.f4.params[j]? = some t → args[j]? = some v → Value.okWide Try.prog W .any base t v := hval0
  have hW' := hW
  obtain ⟨p, q, hA0, hV, rfl, hfz, hnd⟩ := hW
  have hA : DataW.TrodAll enc Try.prog W 0 (fun _ => true) true Try.f4.params.toList args.toList ds p := hA0
  rw [Try.params4] at hA hval hsz
  obtain ⟨v0, vs0, d0, ds0, p0, q0, hargs, rfl, rfl, h0, r0⟩ := trodAll_cons hA
  obtain ⟨rfl, rfl, rfl⟩ := trodAll_nil r0
  obtain rfl : args = #[v0] := by cases args; simp_all
  obtain ⟨rfl, rfl⟩ := trodVars_none hV
  have k0 := h0
  have lt0 : ∀ x ∈ p0, x.block < W.heap.size := by obtain ⟨m, hm⟩ := k0; exact DataW.trod_lt m _ _ _ hm
  obtain ⟨y0, hy0, oy0⟩ := see_arg (j := 0) (t := 26) (sees_struct (fun y => y) (fun y => y) (fun _ => rfl) Try.underlying26 (by kernel_rfl) (sees_more rfl (by kernel_rfl) (sees_string Try.underlying9) (sees_more rfl (by kernel_rfl) (sees_slice (B := 48) Try.underlying22 (by kernel_rfl) (by kernel_rfl) sees64) (sees_more rfl (by kernel_rfl) (sees_slice (B := 80) Try.underlying23 (by kernel_rfl) (by kernel_rfl) sees49) (sees_last rfl (by kernel_rfl) (sees_slice (B := 24) Try.underlying24 (by kernel_rfl) (by kernel_rfl) (sees_slice (B := 1) Try.underlying36 (by kernel_rfl) (by kernel_rfl) (sees_int Try.underlying5)))))))) hsz rfl rfl h0
  obtain ⟨cs0, rfl, hcs0⟩ := okWide_struct Try.underlying26 (hval 0 26 v0 rfl rfl)
  obtain ⟨_, _, e0, rfl, ⟨_, _, rfl, ⟨AA0_0, CC0_0, rfl, HH0_0, RR0_0⟩, ⟨_, _, rfl, ⟨AA0_1, CC0_1, rfl, HH0_1, RR0_1⟩, ⟨AA0_2, CC0_2, rfl, HH0_2, RR0_2⟩⟩⟩⟩ := hy0
  obtain rfl : cs0 = #[.string (y0.1), .slice AA0_0 (y0.2.1).length CC0_0, .slice AA0_1 (y0.2.2.1).length CC0_1, .slice AA0_2 (y0.2.2.2).length CC0_2] := by have e_ := congrArg List.toArray e0; simpa [Value.cells] using e_
  clear hA0 hval0 hsz0 hsz
  obtain ⟨k, hk⟩ := Pure.ModuleChecks y0.1 y0.2.1 y0.2.2.1 y0.2.2.2 oy0.1 oy0.2.1 oy0.2.2.1 oy0.2.2.2
  refine (provisolaw16_ModuleChecks.calls k (y0.1) _ _ y0.2.1 _ _ y0.2.2.1 _ _ y0.2.2.2 true W RR0_0 HH0_0 RR0_1 HH0_1 RR0_2 HH0_2 hk).mono ?_
  rintro e W' ⟨rfl, bel0⟩
  have bel : Below W.heap.size W W' := bel0
  exact ⟨_, rfl, _, _, _, [], _, [], hW', trodAll_mk1 (shut_bool Try.underlying4 _), (trodAll_cons_mk (Below.trod laidOut (by kernel_rfl) (of_decide_eq_true (by kernel_rfl)) k0 bel lt0) trodAll_mk0), rfl, bel.frame _, fun h => by cases h⟩
theorem over : Rows.moduleChecksRow.holds Try.pinned (OpenSpec.ofChange Rows.moduleChecksSpec) :=
  OpenClaim.holds_of_wide 4 Try.f4 rfl rfl rfl rfl rfl rfl rfl ⟨rfl, rfl, rfl, rfl, rfl⟩ rfl rfl rfl rfl rfl (by kernel_rfl) Try.func4 (by kernel_rfl)
    (of_decide_eq_true (by kernel_rfl)) (by unfold Func.isWrapper; first | (rw [if_pos (by decide +kernel)]; kernel_rfl) | (rw [if_neg (by decide +kernel)]; exact ⟨rfl, rfl⟩))
    (fun os started H enc _ => lifted os started H enc)
theorem proved : Rows.ModuleChecksSaid := over
end Go.Proofs.Ytdlmcjchnoeebaa.moduleChecks
namespace Go.Proofs.Ytdlmcjchnoeebaa
theorem moduleChecks_holds : Rows.ModuleChecksSaid := moduleChecks.proved
end Go.Proofs.Ytdlmcjchnoeebaa

end

