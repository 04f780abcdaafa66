/- The plain theory of tables of classes: what provisoref02.fault, Check and Made tell of any table; what is known of a table that may be. No Go and no memory. -/
import Derived.Test.YtghgloepameloaaTypesTh
namespace Go.Proofs.Ytghgloepameloaa.P
open Go.RowKit Go.Proofs.YtghgloepameloaaW.PrintWords Go.Proofs.YtghgloepameloaaW.PrintLast Go.Proofs.YtghgloepameloaaW.PrintMore
set_option linter.unusedVariables false
set_option linter.unusedSimpArgs false

/-- What a reading tells of a table. -/
def Sane (l : Tbl) : Prop := l.length ≤ 9223372036854775807 ∧ l.length * 48 ≤ 140737488351232 ∧ ∀ x ∈ l, Ok38 x
theorem rd_mem (l : Tbl) (c : Int) (h0 : 0 ≤ c) (h1 : c < (l.length : Int)) : rd_T38 l c ∈ l := by
  have h : c.toNat < l.length := by omega
  simp [rd_T38, List.getD_eq_getElem?_getD, h]
theorem Sane.size {l : Tbl} (h : Sane l) : l.length ≤ 2932031007320 := by have := h.2.1; omega
theorem Sane.nam {l : Tbl} (h : Sane l) {c : Int} (h0 : 0 ≤ c) (h1 : c < (l.length : Int)) : (nam l c).size ≤ 140737488351232 := (h.2.2 _ (rd_mem l c h0 h1)).1
theorem Sane.par {l : Tbl} (h : Sane l) {c : Int} (h0 : 0 ≤ c) (h1 : c < (l.length : Int)) : -9223372036854775808 ≤ par l c ∧ par l c ≤ 9223372036854775807 := by
  have := (h.2.2 _ (rd_mem l c h0 h1)).2.1
  simp [Lit.wf, IntKind.min, IntKind.max, IntKind.signed, IntKind.bits] at this
  exact this
theorem Sane.own {l : Tbl} (h : Sane l) {c : Int} (h0 : 0 ≤ c) (h1 : c < (l.length : Int)) : (own l c).length * 24 ≤ 140737488351232 ∧ ∀ x ∈ own l c, x.f0.size ≤ 140737488351232 ∧ (0 ≤ x.f1 ∧ x.f1 ≤ 255) := by
  obtain ⟨_, h2, h3⟩ := (h.2.2 _ (rd_mem l c h0 h1)).2.2
  refine ⟨h2, fun x hx => ⟨(h3 x hx).1, ?_⟩⟩
  have := (h3 x hx).2
  simp [Lit.wf, IntKind.min, IntKind.max, IntKind.signed, IntKind.bits] at this
  exact this

theorem nam_eq (l : Tbl) (i : Int) (s : ByteArray) : (rd_T38 l i).f0.toList = s.toList ↔ nam l i = s := str_eq _ _

/-! one class -/
def fieldFaultFrom (l : Tbl) (all fs : List S40) : Nat → Nat → Int
  | 0, _ => if (fs.length : Int) > 32 - (all.length : Int) then 4 else 0
  | d + 1, i => if nameOk (rd_T40 fs i).f0 = true then (if hasB all (rd_T40 fs i).f0 = true then 20 else if hasB (fs.take i) (rd_T40 fs i).f0 = true then 20 else if storedB l (rd_T40 fs i).f1 = true then fieldFaultFrom l all fs d (i + 1) else 22) else 6
def fieldFault (l : Tbl) (all fs : List S40) : Int := fieldFaultFrom l all fs fs.length 0
def aheadFrom (l : Tbl) (c : Int) : Nat → Bool
  | 0 => false
  | d + 1 => decide (nam l (c - (d + 1)) = nam l c) || aheadFrom l c d
def aheadB (l : Tbl) (c : Int) : Bool := aheadFrom l c c.toNat
def parFault (l : Tbl) (c : Int) : Int := if par l c < -1 then 21 else if par l c ≥ c then 21 else fieldFault l (fieldsOf l (par l c)) (own l c)
def faultB (l : Tbl) (c : Int) : Int :=
  if c ≥ 32 then 4 else if nameOk (nam l c) = true then (if isWordB (nam l c) = true then 6 else if aheadB l c = true then 20 else parFault l c) else 6

theorem fields_fault (l : Tbl) (all fs : List S40) (h1 : all.length ≤ 5864062014805) (h2 : fs.length * 24 ≤ 140737488351232) (h3 : ∀ x ∈ fs, x.f0.size ≤ 140737488351232 ∧ (0 ≤ x.f1 ∧ x.f1 ≤ 255)) (nm : ByteArray) (pr : Int) : ∀ (d i : Nat), fs.length - i = d → i ≤ fs.length →
    Ev (fun k => provisoref02_fault.l1 k l all (i : Int) nm pr fs) (fieldFaultFrom l all fs d i)
  | 0, i, hd, hi => by
    unfold fieldFaultFrom
    refine Ev.step (f := fun _ => some _) (fun k => ?_) (Ev.now _)
    simp only [provisoref02_fault.l1]
    rw [if_neg (by omega), show wrap64 (32 - (all.length : Int)) = 32 - (all.length : Int) by unfold wrap64; omega]
    split <;> rfl
  | d + 1, i, hd, hi => by
    have hlt : i < fs.length := by omega
    have hrd : rd_T40 fs ((i : Nat) : Int) = fs[i] := by simp [rd_T40, List.getD_eq_getElem?_getD, hlt]
    obtain ⟨hs, ht⟩ := h3 fs[i] (List.getElem_mem _)
    have ih := fields_fault l all fs h1 h2 h3 nm pr d (i + 1) (by omega) (by omega)
    unfold fieldFaultFrom
    rw [hrd]
    refine Ev.step (fun k => by simp only [provisoref02_fault.l1]; rw [if_pos (by omega), if_pos (by omega), hrd]) ?_
    refine Ev.bind (f := fun k t => if t = true then _ else _) (ref_name _ hs) ?_
    cases nameOk fs[i].f0 with
    | false => exact Ev.now _
    | true =>
      refine Ev.bind (f := fun k t => if t = true then _ else _) (ref_has all _ (by omega)) ?_
      cases hasB all fs[i].f0 with
      | true => exact Ev.now _
      | false =>
        refine Ev.congr (f := fun k => (provisoref02_has.f k (fs.take i) fs[i].f0).bind _) (fun k => by
          show (if (i : Int) ≤ (fs.length : Int) then _ else _) = _
          rw [if_pos (by omega), Int.toNat_natCast]) ?_
        refine Ev.bind (f := fun k t => if t = true then _ else _) (ref_has (fs.take i) _ (by simp; omega)) ?_
        cases hasB (fs.take i) fs[i].f0 with
        | true => exact Ev.now _
        | false =>
          refine Ev.congr (f := fun k => if storedB l fs[i].f1 = true then _ else _) (fun k => by
            show (provisoref02_Stored.f l fs[i].f1).bind _ = _
            rw [ref_stored l _ ht]
            rfl) ?_
          cases storedB l fs[i].f1 with
          | false => exact Ev.now _
          | true =>
            refine Ev.congr (fun k => ?_) ih
            show provisoref02_fault.l1 k l all (wrap64 ((i : Int) + 1)) nm pr fs = _
            rw [w_next (n := fs.length) (by omega) (by omega) (by omega)]
            rfl
theorem par_fault (l : Tbl) (hs : Sane l) (c : Int) (h0 : 0 ≤ c) (h1 : c < (l.length : Int)) (hd : Dec l c) (hlim : ∀ p : Int, -1 ≤ p → p < c → (fieldsOf l p).length ≤ 32) :
    Ev (fun k => provisoref02_fault.l0 k l c c (nam l c) (par l c) (own l c)) (parFault l c) := by
  unfold parFault
  have hj : Ev (fun k => provisoref02_fault.j2 k l true (nam l c) (par l c) (own l c)) 21 := Ev.step (f := fun _ => some 21) (fun k => by simp only [provisoref02_fault.j2]; rfl) (Ev.now _)
  by_cases p1 : par l c < -1
  · rw [if_pos p1]
    exact Ev.step (fun k => by simp only [provisoref02_fault.l0]; rw [if_neg (by omega), if_pos p1]) hj
  · rw [if_neg p1]
    by_cases p2 : par l c ≥ c
    · rw [if_pos p2]
      exact Ev.step (fun k => by simp only [provisoref02_fault.l0]; rw [if_neg (by omega), if_neg p1, decide_eq_true p2]) hj
    · rw [if_neg p2]
      refine Ev.step (f := fun k => provisoref02_fault.j2 k l false (nam l c) (par l c) (own l c)) (fun k => by simp only [provisoref02_fault.l0]; rw [if_neg (by omega), if_neg p1, decide_eq_false p2]) ?_
      have hlp := hlim (par l c) (by omega) (by omega)
      refine Ev.step (f := fun k => (provisoref02_Fields.f k l (par l c)).bind fun t => provisoref02_fault.l1 k l t 0 (nam l c) (par l c) (own l c)) (fun k => by simp only [provisoref02_fault.j2]; rfl) ?_
      refine Ev.bind (f := fun k t => provisoref02_fault.l1 k l t 0 (nam l c) (par l c) (own l c)) (ref_fields l c (by omega) hs.2.1 hd (par l c) (by omega) (by omega)) ?_
      exact fields_fault l _ (own l c) (by omega) (hs.own h0 h1).1 (hs.own h0 h1).2 _ _ _ 0 (by omega) (by omega)
theorem ahead_fault (l : Tbl) (hs : Sane l) (c : Int) (h0 : 0 ≤ c) (h1 : c < (l.length : Int)) (hd : Dec l c) (hlim : ∀ p : Int, -1 ≤ p → p < c → (fieldsOf l p).length ≤ 32) : ∀ (d : Nat), (d : Int) ≤ c →
    Ev (fun k => provisoref02_fault.l0 k l c (c - d) (nam l c) (par l c) (own l c)) (if aheadFrom l c d = true then 20 else parFault l c)
  | 0, _ => by
    have := par_fault l hs c h0 h1 hd hlim
    simpa [aheadFrom] using this
  | d + 1, hdc => by
    have ih := ahead_fault l hs c h0 h1 hd hlim d (by omega)
    have hsz := hs.size
    have e1 : c - ((d : Int) + 1) + 1 = c - d := by omega
    by_cases e : nam l (c - ((d : Int) + 1)) = nam l c
    · have e2 : aheadFrom l c (d + 1) = true := by unfold aheadFrom; rw [decide_eq_true e, Bool.true_or]
      rw [e2, if_pos rfl]
      refine Ev.step (f := fun _ => some 20) (fun k => ?_) (Ev.now _)
      show provisoref02_fault.l0 (k + 1) l c (c - ((d : Int) + 1)) (nam l c) (par l c) (own l c) = _
      simp only [provisoref02_fault.l0]
      rw [if_pos (by omega), if_pos (by omega), if_pos (by omega), if_pos ((nam_eq l _ _).mpr e)]
    · have e2 : aheadFrom l c (d + 1) = aheadFrom l c d := by conv => lhs; unfold aheadFrom
                                                              rw [decide_eq_false e, Bool.false_or]
      rw [e2]
      refine Ev.step (fun k => ?_) ih
      show provisoref02_fault.l0 (k + 1) l c (c - ((d : Int) + 1)) (nam l c) (par l c) (own l c) = _
      simp only [provisoref02_fault.l0]
      rw [if_pos (by omega), if_pos (by omega), if_pos (by omega), if_neg (fun h9 => e ((nam_eq l _ _).mp h9)), show wrap64 (c - ((d : Int) + 1) + 1) = c - d by rw [e1]; unfold wrap64; omega]
theorem ref_fault (l : Tbl) (hs : Sane l) (c : Int) (h0 : 0 ≤ c) (h1 : c < (l.length : Int)) (hd : Dec l c) (hlim : ∀ p : Int, -1 ≤ p → p < c → (fieldsOf l p).length ≤ 32) : Ev (fun k => provisoref02_fault.f k l c) (faultB l c) := by
  unfold faultB
  have ha := ahead_fault l hs c h0 h1 hd hlim c.toNat (by omega)
  rw [show c - (c.toNat : Int) = 0 by omega] at ha
  have hj : ∀ b : Bool, Ev (fun k => provisoref02_fault.j0 k l c b (nam l c) (par l c) (own l c)) (if b = true then 6 else if aheadB l c = true then 20 else parFault l c) := by
    intro b
    cases b with
    | true => exact Ev.step (f := fun _ => some 6) (fun k => by simp only [provisoref02_fault.j0]; rfl) (Ev.now _)
    | false => exact Ev.step (fun k => by simp only [provisoref02_fault.j0]; rfl) ha
  by_cases h32 : c ≥ 32
  · rw [if_pos h32]
    exact Ev.congr (f := fun _ => some 4) (fun k => by unfold provisoref02_fault.f; rw [if_pos h0, if_pos h1, if_pos h32]) (Ev.now _)
  · rw [if_neg h32]
    refine Ev.congr (fun k => by unfold provisoref02_fault.f; rw [if_pos h0, if_pos h1, if_neg h32]; rfl) (Ev.bind (f := fun k t => if t = true then ((provisoref02_isWord.f k (nam l c)).bind fun t119 => provisoref02_fault.j0 k l c t119 (nam l c) (par l c) (own l c)) else provisoref02_fault.j0 k l c true (nam l c) (par l c) (own l c)) (ref_name _ (hs.nam h0 h1)) ?_)
    have hjt := hj true
    cases nameOk (nam l c) with
    | false => exact hjt
    | true => exact Ev.bind (f := fun k t => provisoref02_fault.j0 k l c t (nam l c) (par l c) (own l c)) (ref_word _) (hj _)

/-! tables -/
/-- The classes below n are right. -/
def GoodTo (l : Tbl) (n : Int) : Prop := ∀ c : Int, 0 ≤ c → c < n → faultB l c = 0
theorem field_fault_long (l : Tbl) (all fs : List S40) : ∀ (d i : Nat), fieldFaultFrom l all fs d i = 0 → (fs.length : Int) ≤ 32 - all.length
  | 0, i, h => by
    unfold fieldFaultFrom at h
    split at h <;> omega
  | d + 1, i, h => by
    unfold fieldFaultFrom at h
    split at h
    · split at h
      · omega
      · split at h
        · omega
        · split at h
          · exact field_fault_long l all fs d (i + 1) h
          · omega
    · omega
theorem fault_zero {l : Tbl} {c : Int} (h : faultB l c = 0) : c < 32 ∧ nameOk (nam l c) = true ∧ isWordB (nam l c) = false ∧ aheadB l c = false ∧ -1 ≤ par l c ∧ par l c < c ∧ fieldFault l (fieldsOf l (par l c)) (own l c) = 0 := by
  unfold faultB parFault at h
  split at h
  · omega
  · split at h
    · split at h
      · omega
      · split at h
        · omega
        · split at h
          · omega
          · split at h
            · omega
            · rename_i h1 h2 h3 h4 h5 h6
              exact ⟨by omega, h2, by simpa using h3, by simpa using h4, by omega, by omega, h⟩
    · omega
theorem GoodTo.dec {l : Tbl} {n : Int} (h : GoodTo l n) : Dec l n := fun i h0 h1 => (fault_zero (h i h0 h1)).2.2.2.2.2.1
theorem fieldsOf_in (l : Tbl) (c : Int) (h0 : 0 ≤ c) (h1 : c < (l.length : Int)) (h2 : par l c < c) : fieldsOf l c = fieldsOf l (par l c) ++ own l c := by
  unfold fieldsOf
  rw [climbL_in l c h0 h1 h2, List.reverse_cons, List.flatMap_append]
  simp [par]
theorem fieldsOf_out (l : Tbl) (c : Int) (h : ¬ (0 ≤ c ∧ c < (l.length : Int))) : fieldsOf l c = [] := by
  unfold fieldsOf
  rw [climbL_out l c h]
  rfl
theorem GoodTo.fields {l : Tbl} {n : Int} (hn : n ≤ l.length) (h : GoodTo l n) (c : Int) (hc : c < n) : (fieldsOf l c).length ≤ 32 := by
  by_cases h0 : 0 ≤ c
  · obtain ⟨_, _, _, _, h5, h6, h7⟩ := fault_zero (h c h0 hc)
    have := field_fault_long l _ _ _ _ h7
    rw [fieldsOf_in l c h0 (by omega) h6, List.length_append]
    omega
  · rw [fieldsOf_out l c (by omega)]
    simp
def checkFrom (l : Tbl) : Nat → Int → Int × Int
  | 0, _ => (0, 0)
  | d + 1, c => if faultB l c = 0 then checkFrom l d (c + 1) else (c, faultB l c)
def checkB (l : Tbl) : Int × Int := checkFrom l l.length 0
theorem check_tells (l : Tbl) (hs : Sane l) : ∀ (d : Nat) (c : Int), 0 ≤ c → (l.length : Int) - c = d → GoodTo l c → Ev (fun k => provisoref02_Check.l0 k l c) (checkFrom l d c)
  | 0, c, h0, hd, hg => by
    unfold checkFrom
    exact Ev.step (f := fun _ => some _) (fun k => by simp only [provisoref02_Check.l0]; rw [if_neg (by omega)]) (Ev.now _)
  | d + 1, c, h0, hd, hg => by
    have hf := ref_fault l hs c h0 (by omega) hg.dec (fun p hp1 hp2 => hg.fields (by omega) p hp2)
    unfold checkFrom
    refine Ev.step (fun k => by simp only [provisoref02_Check.l0]; rw [if_pos (by omega)]) (Ev.bind (f := fun k t => if t = 0 then _ else _) hf ?_)
    by_cases e : faultB l c = 0
    · rw [if_pos e]
      have hsz := hs.size
      refine Ev.congr (fun k => ?_) (check_tells l hs d (c + 1) (by omega) (by omega) (fun i hi0 hi1 => if hi : i < c then hg i hi0 hi else by rw [show i = c by omega]; exact e))
      rw [if_pos e, show wrap64 (c + 1) = c + 1 by unfold wrap64; omega]
    · rw [if_neg e]
      exact Ev.congr (f := fun _ => some _) (fun k => by rw [if_neg e]) (Ev.now _)
theorem ref_check (l : Tbl) (hs : Sane l) : Ev (fun k => provisoref02_Check.f k l) (checkB l) :=
  check_tells l hs l.length 0 (by omega) (by omega) (fun i h0 h1 => by omega)
theorem checkFrom_zero (l : Tbl) : ∀ (d : Nat) (c : Int), (checkFrom l d c).2 = 0 ↔ ∀ i : Int, c ≤ i → i < c + d → faultB l i = 0
  | 0, c => by
    constructor
    · intro _ i h1 h2; omega
    · intro _; rfl
  | d + 1, c => by
    unfold checkFrom
    split
    · rename_i e
      rw [checkFrom_zero l d (c + 1)]
      constructor
      · intro h i h1 h2
        by_cases hi : i = c
        · rw [hi]; exact e
        · exact h i (by omega) (by omega)
      · intro h i h1 h2
        exact h i (by omega) (by omega)
    · rename_i e
      constructor
      · intro h; exact absurd h e
      · intro h; exact h c (by omega) (by omega)
def Good (l : Tbl) : Prop := GoodTo l l.length
theorem good_iff (l : Tbl) : (checkB l).2 = 0 ↔ Good l := by
  unfold checkB
  rw [checkFrom_zero l l.length 0]
  unfold Good GoodTo
  simp
def madeB (l : Tbl) : Bool := (checkB l).2 == 0
theorem madeB_iff (l : Tbl) : madeB l = true ↔ Good l := by unfold madeB; rw [beq_iff_eq]; exact good_iff l
theorem ref_made (l : Tbl) (hs : Sane l) : Ev (fun k => provisoref02_Made.f k l) (madeB l) :=
  Ev.congr (fun k => rfl) (Ev.bind (f := fun k (b : Int × Int) => some (b.2 == 0)) (ref_check l hs) (Ev.now _))
theorem Good.short {l : Tbl} (h : Good l) : l.length ≤ 32 := by
  rcases Nat.lt_or_ge 32 l.length with h1 | h1
  · have := (fault_zero (h 32 (by omega) (by omega))).1
    omega
  · exact h1
theorem Good.dec {l : Tbl} (h : Good l) : Dec l l.length := GoodTo.dec h
theorem ahead_false (l : Tbl) (c : Int) : ∀ (d : Nat), aheadFrom l c d = false → ∀ i : Int, c - d ≤ i → i < c → nam l i ≠ nam l c
  | 0, _, i, h1, h2 => by omega
  | d + 1, h, i, h1, h2 => by
    simp only [aheadFrom, Bool.or_eq_false_iff, decide_eq_false_iff_not] at h
    by_cases e : i = c - (d + 1)
    · rw [e]; exact h.1
    · exact ahead_false l c d h.2 i (by omega) h2
theorem Good.names {l : Tbl} (h : Good l) {i j : Int} (hi : 0 ≤ i) (hij : i < j) (hj : j < (l.length : Int)) : nam l i ≠ nam l j := by
  have := (fault_zero (h j (by omega) hj)).2.2.2.1
  exact ahead_false l j j.toNat this i (by omega) hij
end Go.Proofs.Ytghgloepameloaa.P
