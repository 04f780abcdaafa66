/- Proved: the law TypesFields holds for every input that the row lets in. No condition of ours. -/
import Derived.Test.YtghgloepameloaaBTypesFieldse
import Derived.Test.YtghgloepameloaaRows
import Derived.ShutString
import Derived.ChangeOld
import Derived.Lib.SmallJoins
section
namespace Go.Proofs.Ytghgloepameloaa.P
open Go.RowKit Go.Proofs.YtghgloepameloaaW.PrintWords Go.Proofs.YtghgloepameloaaW.PrintLast Go.Proofs.YtghgloepameloaaW.PrintMore
set_option linter.unusedVariables false
set_option linter.unusedSimpArgs false

theorem ref_line (l : Tbl) (n : Int) (hn : n ≤ l.length) (hl : l.length * 48 ≤ 140737488351232) (hd : Dec l n) (c : Int) (hc : c < n) : Ev (fun k => provisoref02_Line.f k l c) (climbL l c) := by
  by_cases h0 : l.length = 0
  · rw [climbL_out l c (by omega)]
    refine Ev.congr (f := fun k => provisoref02_Line.l0 k l c []) (fun k => rfl) ?_
    exact Ev.step (f := fun _ => some []) (fun k => by simp only [provisoref02_Line.l0]; rw [if_neg (by omega)]) (Ev.now _)
  · have := line_tells l n hn hl hd (c + 1).toNat c [] hc (Nat.le_refl _) (by simp; omega) (by simp)
    rw [List.nil_append] at this
    exact this
theorem fields_tells (l : Tbl) (line : List Int) (hm : ∀ x ∈ line, 0 ≤ x ∧ x < (l.length : Int)) (hl : l.length * 48 ≤ 140737488351232) (hll : line.length ≤ l.length) (hlim : (line.reverse.flatMap fun i => own l i).length < 5864062014805) : ∀ (d : Nat), d ≤ line.length →
    Ev (fun k => provisoref02_Fields.l0 k l line ((line.drop d).reverse.flatMap fun i => own l i) ((d : Int) - 1)) (line.reverse.flatMap fun i => own l i)
  | 0, _ => by
    rw [List.drop_zero]
    exact Ev.step (f := fun _ => some _) (fun k => by simp only [provisoref02_Fields.l0]; rw [if_neg (by omega)]) (Ev.now _)
  | d + 1, hd => by
    have ih := fields_tells l line hm hl hll hlim d (by omega)
    have hrd : rd line ((d : Nat) : Int) = line[d]'(by omega) := by simp [rd, List.getD_eq_getElem?_getD, show d < line.length by omega]
    have hmd := hm (line[d]'(by omega)) (List.getElem_mem _)
    have e1 : ((line.drop d).reverse.flatMap fun i => own l i) = ((line.drop (d + 1)).reverse.flatMap fun i => own l i) ++ own l (line[d]'(by omega)) := by
      rw [List.drop_eq_getElem_cons (by omega), List.reverse_cons, List.flatMap_append]
      simp
    have hle : ((line.drop d).reverse.flatMap fun i => own l i).length ≤ (line.reverse.flatMap fun i => own l i).length := by
      have : line = line.take d ++ line.drop d := by simp
      conv => rhs; rw [this, List.reverse_append, List.flatMap_append, List.length_append]
      omega
    rw [e1] at ih hle
    rw [List.length_append] at hle
    refine Ev.step (fun k => ?_) ih
    simp only [provisoref02_Fields.l0]
    rw [show ((d + 1 : Nat) : Int) - 1 = (d : Int) by omega, hrd, if_pos (by omega), if_pos (by omega), if_pos (by omega), if_pos hmd.1, if_pos hmd.2]
    rw [if_pos (by unfold own at hle hlim ⊢; omega), show wrap64 ((d : Int) - 1) = (d : Int) - 1 by unfold wrap64; omega]
    rfl
theorem ref_fields (l : Tbl) (n : Int) (hn : n ≤ l.length) (hl : l.length * 48 ≤ 140737488351232) (hd : Dec l n) (c : Int) (hc : c < n) (hlim : (fieldsOf l c).length < 5864062014805) : Ev (fun k => provisoref02_Fields.f k l c) (fieldsOf l c) := by
  have hll := climbL_length l c
  have h := fields_tells l (climbL l c) (climbL_mem l c) hl hll hlim (climbL l c).length (Nat.le_refl _)
  rw [List.drop_length, List.reverse_nil, List.flatMap_nil] at h
  refine Ev.congr (fun k => rfl) (Ev.bind (ref_line l n hn hl hd c hc) (f := fun k t => provisoref02_Fields.l0 k l t [] (wrap64 ((t.length : Int) - 1))) ?_)
  rw [show wrap64 (((climbL l c).length : Int) - 1) = ((climbL l c).length : Int) - 1 by unfold wrap64; omega]
  exact h

def hasB (fs : List S40) (s : ByteArray) : Bool := fs.any fun f => decide (f.f0 = s)
theorem has_tells (fs : List S40) (s : ByteArray) (hl : fs.length ≤ 9223372036854775807) : ∀ (d i : Nat), fs.length - i = d → i ≤ fs.length → Ev (fun k => provisoref02_has.l0 k fs s (i : Int)) (hasB (fs.drop i) s)
  | 0, i, hd, hi => by
    rw [List.drop_of_length_le (by omega)]
    exact Ev.step (f := fun _ => some false) (fun k => by simp only [provisoref02_has.l0]; rw [if_neg (by omega)]) (Ev.now _)
  | d + 1, i, hd, hi => by
    have ih := has_tells fs s hl d (i + 1) (by omega) (by omega)
    have hlt : i < fs.length := by omega
    have hrd : rd_T40 fs ((i : Nat) : Int) = fs[i] := by simp [rd_T40, List.getD_eq_getElem?_getD, hlt]
    rw [List.drop_eq_getElem_cons hlt]
    by_cases e : fs[i].f0 = s
    · have e2 : hasB (fs[i] :: fs.drop (i + 1)) s = true := by unfold hasB; rw [List.any_cons, decide_eq_true e, Bool.true_or]
      rw [e2]
      exact Ev.step (f := fun _ => some true) (fun k => by simp only [provisoref02_has.l0]; rw [if_pos (by omega), if_pos (by omega), hrd]; simp [e]) (Ev.now _)
    · have e2 : hasB (fs[i] :: fs.drop (i + 1)) s = hasB (fs.drop (i + 1)) s := by unfold hasB; rw [List.any_cons, decide_eq_false e, Bool.false_or]
      rw [e2]
      refine Ev.step (fun k => ?_) ih
      simp only [provisoref02_has.l0]
      rw [if_pos (by omega), if_pos (by omega), hrd, if_neg (by rw [str_eq]; exact e), w_next (n := fs.length) (by omega) (by omega) hl]
      rfl
theorem ref_has (fs : List S40) (s : ByteArray) (hl : fs.length ≤ 9223372036854775807) : Ev (fun k => provisoref02_has.f k fs s) (hasB fs s) := by
  have := has_tells fs s hl fs.length 0 (by omega) (by omega)
  rw [List.drop_zero] at this
  exact this
def validB (l : Tbl) (a : Int) : Bool := decide (a ≤ 5) || (decide (16 ≤ a) && decide (a - 16 < (l.length : Int)))
theorem ref_valid (l : Tbl) (a : Int) (ha : 0 ≤ a ∧ a ≤ 255) : provisoref02_Valid.f l a = some (validB l a) := by
  unfold provisoref02_Valid.f validB
  by_cases h1 : a ≤ 5
  · simp [h1]
  · by_cases h2 : a ≥ 16
    · rw [if_neg h1, if_pos h2, show (a - 16) % 256 = a - 16 by omega]
      simp [h1, h2]
    · rw [if_neg h1, if_neg h2]
      simp [h1, h2]
def storedB (l : Tbl) (a : Int) : Bool := validB l a && decide (a ≠ 0) && decide (a ≠ 3)
theorem ref_stored (l : Tbl) (a : Int) (ha : 0 ≤ a ∧ a ≤ 255) : provisoref02_Stored.f l a = some (storedB l a) := by
  unfold provisoref02_Stored.f storedB
  rw [ref_valid l a ha]
  simp only [Option.bind_some]
  cases validB l a <;> by_cases h0 : a = 0 <;> by_cases h3 : a = 3 <;> simp [h0, h3]
end Go.Proofs.Ytghgloepameloaa.P

end

section
namespace Go.Proofs.Ytghgloepameloaa.P
open Go.RowKit Go.Proofs.YtghgloepameloaaW.PrintWords Go.Proofs.YtghgloepameloaaW.PrintLast Go.Proofs.YtghgloepameloaaW.PrintMore
set_option linter.unusedVariables false
set_option linter.unusedSimpArgs false

def Sane (l : Tbl) : Prop := l.length ≤ 9223372036854775807 ∧ l.length * 48 ≤ 140737488351232 ∧ ∀ x ∈ l, Ok38 x
theorem rd_mem (l : Tbl) (c : Int) (h0 : 0 ≤ c) (h1 : c < (l.length : Int)) : rd_T38 l c ∈ l := by
  have h : c.toNat < l.length := by omega
  simp [rd_T38, List.getD_eq_getElem?_getD, h]
theorem Sane.size {l : Tbl} (h : Sane l) : l.length ≤ 2932031007320 := by have := h.2.1; omega
theorem Sane.nam {l : Tbl} (h : Sane l) {c : Int} (h0 : 0 ≤ c) (h1 : c < (l.length : Int)) : (nam l c).size ≤ 140737488351232 := (h.2.2 _ (rd_mem l c h0 h1)).1
theorem Sane.par {l : Tbl} (h : Sane l) {c : Int} (h0 : 0 ≤ c) (h1 : c < (l.length : Int)) : -9223372036854775808 ≤ par l c ∧ par l c ≤ 9223372036854775807 := by
  have := (h.2.2 _ (rd_mem l c h0 h1)).2.1
  simp [Lit.wf, IntKind.min, IntKind.max, IntKind.signed, IntKind.bits] at this
  exact this
theorem Sane.own {l : Tbl} (h : Sane l) {c : Int} (h0 : 0 ≤ c) (h1 : c < (l.length : Int)) : (own l c).length * 24 ≤ 140737488351232 ∧ ∀ x ∈ own l c, x.f0.size ≤ 140737488351232 ∧ (0 ≤ x.f1 ∧ x.f1 ≤ 255) := by
  obtain ⟨_, h2, h3⟩ := (h.2.2 _ (rd_mem l c h0 h1)).2.2
  refine ⟨h2, fun x hx => ⟨(h3 x hx).1, ?_⟩⟩
  have := (h3 x hx).2
  simp [Lit.wf, IntKind.min, IntKind.max, IntKind.signed, IntKind.bits] at this
  exact this

theorem nam_eq (l : Tbl) (i : Int) (s : ByteArray) : (rd_T38 l i).f0.toList = s.toList ↔ nam l i = s := str_eq _ _

def fieldFaultFrom (l : Tbl) (all fs : List S40) : Nat → Nat → Int
  | 0, _ => if (fs.length : Int) > 32 - (all.length : Int) then 4 else 0
  | d + 1, i => if nameOk (rd_T40 fs i).f0 = true then (if hasB all (rd_T40 fs i).f0 = true then 20 else if hasB (fs.take i) (rd_T40 fs i).f0 = true then 20 else if storedB l (rd_T40 fs i).f1 = true then fieldFaultFrom l all fs d (i + 1) else 22) else 6
def fieldFault (l : Tbl) (all fs : List S40) : Int := fieldFaultFrom l all fs fs.length 0
def aheadFrom (l : Tbl) (c : Int) : Nat → Bool
  | 0 => false
  | d + 1 => decide (nam l (c - (d + 1)) = nam l c) || aheadFrom l c d
def aheadB (l : Tbl) (c : Int) : Bool := aheadFrom l c c.toNat
def parFault (l : Tbl) (c : Int) : Int := if par l c < -1 then 21 else if par l c ≥ c then 21 else fieldFault l (fieldsOf l (par l c)) (own l c)
def faultB (l : Tbl) (c : Int) : Int :=
  if c ≥ 32 then 4 else if nameOk (nam l c) = true then (if isWordB (nam l c) = true then 6 else if aheadB l c = true then 20 else parFault l c) else 6

theorem fields_fault (l : Tbl) (all fs : List S40) (h1 : all.length ≤ 5864062014805) (h2 : fs.length * 24 ≤ 140737488351232) (h3 : ∀ x ∈ fs, x.f0.size ≤ 140737488351232 ∧ (0 ≤ x.f1 ∧ x.f1 ≤ 255)) (nm : ByteArray) (pr : Int) : ∀ (d i : Nat), fs.length - i = d → i ≤ fs.length →
    Ev (fun k => provisoref02_fault.l1 k l all (i : Int) nm pr fs) (fieldFaultFrom l all fs d i)
  | 0, i, hd, hi => by
    unfold fieldFaultFrom
    refine Ev.step (f := fun _ => some _) (fun k => ?_) (Ev.now _)
    simp only [provisoref02_fault.l1]
    rw [if_neg (by omega), show wrap64 (32 - (all.length : Int)) = 32 - (all.length : Int) by unfold wrap64; omega]
    split <;> rfl
  | d + 1, i, hd, hi => by
    have hlt : i < fs.length := by omega
    have hrd : rd_T40 fs ((i : Nat) : Int) = fs[i] := by simp [rd_T40, List.getD_eq_getElem?_getD, hlt]
    obtain ⟨hs, ht⟩ := h3 fs[i] (List.getElem_mem _)
    have ih := fields_fault l all fs h1 h2 h3 nm pr d (i + 1) (by omega) (by omega)
    unfold fieldFaultFrom
    rw [hrd]
    refine Ev.step (fun k => by simp only [provisoref02_fault.l1]; rw [if_pos (by omega), if_pos (by omega), hrd]) ?_
    refine Ev.bind (f := fun k t => if t = true then _ else _) (ref_name _ hs) ?_
    cases nameOk fs[i].f0 with
    | false => exact Ev.now _
    | true =>
      refine Ev.bind (f := fun k t => if t = true then _ else _) (ref_has all _ (by omega)) ?_
      cases hasB all fs[i].f0 with
      | true => exact Ev.now _
      | false =>
        refine Ev.congr (f := fun k => (provisoref02_has.f k (fs.take i) fs[i].f0).bind _) (fun k => by
          show (if (i : Int) ≤ (fs.length : Int) then _ else _) = _
          rw [if_pos (by omega), Int.toNat_natCast]) ?_
        refine Ev.bind (f := fun k t => if t = true then _ else _) (ref_has (fs.take i) _ (by simp; omega)) ?_
        cases hasB (fs.take i) fs[i].f0 with
        | true => exact Ev.now _
        | false =>
          refine Ev.congr (f := fun k => if storedB l fs[i].f1 = true then _ else _) (fun k => by
            show (provisoref02_Stored.f l fs[i].f1).bind _ = _
            rw [ref_stored l _ ht]
            rfl) ?_
          cases storedB l fs[i].f1 with
          | false => exact Ev.now _
          | true =>
            refine Ev.congr (fun k => ?_) ih
            show provisoref02_fault.l1 k l all (wrap64 ((i : Int) + 1)) nm pr fs = _
            rw [w_next (n := fs.length) (by omega) (by omega) (by omega)]
            rfl
theorem par_fault (l : Tbl) (hs : Sane l) (c : Int) (h0 : 0 ≤ c) (h1 : c < (l.length : Int)) (hd : Dec l c) (hlim : ∀ p : Int, -1 ≤ p → p < c → (fieldsOf l p).length ≤ 32) :
    Ev (fun k => provisoref02_fault.l0 k l c c (nam l c) (par l c) (own l c)) (parFault l c) := by
  unfold parFault
  have hj : Ev (fun k => provisoref02_fault.j2 k l true (nam l c) (par l c) (own l c)) 21 := Ev.step (f := fun _ => some 21) (fun k => by simp only [provisoref02_fault.j2]; rfl) (Ev.now _)
  by_cases p1 : par l c < -1
  · rw [if_pos p1]
    exact Ev.step (fun k => by simp only [provisoref02_fault.l0]; rw [if_neg (by omega), if_pos p1]) hj
  · rw [if_neg p1]
    by_cases p2 : par l c ≥ c
    · rw [if_pos p2]
      exact Ev.step (fun k => by simp only [provisoref02_fault.l0]; rw [if_neg (by omega), if_neg p1, decide_eq_true p2]) hj
    · rw [if_neg p2]
      refine Ev.step (f := fun k => provisoref02_fault.j2 k l false (nam l c) (par l c) (own l c)) (fun k => by simp only [provisoref02_fault.l0]; rw [if_neg (by omega), if_neg p1, decide_eq_false p2]) ?_
      have hlp := hlim (par l c) (by omega) (by omega)
      refine Ev.step (f := fun k => (provisoref02_Fields.f k l (par l c)).bind fun t => provisoref02_fault.l1 k l t 0 (nam l c) (par l c) (own l c)) (fun k => by simp only [provisoref02_fault.j2]; rfl) ?_
      refine Ev.bind (f := fun k t => provisoref02_fault.l1 k l t 0 (nam l c) (par l c) (own l c)) (ref_fields l c (by omega) hs.2.1 hd (par l c) (by omega) (by omega)) ?_
      exact fields_fault l _ (own l c) (by omega) (hs.own h0 h1).1 (hs.own h0 h1).2 _ _ _ 0 (by omega) (by omega)
theorem ahead_fault (l : Tbl) (hs : Sane l) (c : Int) (h0 : 0 ≤ c) (h1 : c < (l.length : Int)) (hd : Dec l c) (hlim : ∀ p : Int, -1 ≤ p → p < c → (fieldsOf l p).length ≤ 32) : ∀ (d : Nat), (d : Int) ≤ c →
    Ev (fun k => provisoref02_fault.l0 k l c (c - d) (nam l c) (par l c) (own l c)) (if aheadFrom l c d = true then 20 else parFault l c)
  | 0, _ => by
    have := par_fault l hs c h0 h1 hd hlim
    simpa [aheadFrom] using this
  | d + 1, hdc => by
    have ih := ahead_fault l hs c h0 h1 hd hlim d (by omega)
    have hsz := hs.size
    have e1 : c - ((d : Int) + 1) + 1 = c - d := by omega
    by_cases e : nam l (c - ((d : Int) + 1)) = nam l c
    · have e2 : aheadFrom l c (d + 1) = true := by unfold aheadFrom; rw [decide_eq_true e, Bool.true_or]
      rw [e2, if_pos rfl]
      refine Ev.step (f := fun _ => some 20) (fun k => ?_) (Ev.now _)
      show provisoref02_fault.l0 (k + 1) l c (c - ((d : Int) + 1)) (nam l c) (par l c) (own l c) = _
      simp only [provisoref02_fault.l0]
      rw [if_pos (by omega), if_pos (by omega), if_pos (by omega), if_pos ((nam_eq l _ _).mpr e)]
    · have e2 : aheadFrom l c (d + 1) = aheadFrom l c d := by conv => lhs; unfold aheadFrom
                                                              rw [decide_eq_false e, Bool.false_or]
      rw [e2]
      refine Ev.step (fun k => ?_) ih
      show provisoref02_fault.l0 (k + 1) l c (c - ((d : Int) + 1)) (nam l c) (par l c) (own l c) = _
      simp only [provisoref02_fault.l0]
      rw [if_pos (by omega), if_pos (by omega), if_pos (by omega), if_neg (fun h9 => e ((nam_eq l _ _).mp h9)), show wrap64 (c - ((d : Int) + 1) + 1) = c - d by rw [e1]; unfold wrap64; omega]
theorem ref_fault (l : Tbl) (hs : Sane l) (c : Int) (h0 : 0 ≤ c) (h1 : c < (l.length : Int)) (hd : Dec l c) (hlim : ∀ p : Int, -1 ≤ p → p < c → (fieldsOf l p).length ≤ 32) : Ev (fun k => provisoref02_fault.f k l c) (faultB l c) := by
  unfold faultB
  have ha := ahead_fault l hs c h0 h1 hd hlim c.toNat (by omega)
  rw [show c - (c.toNat : Int) = 0 by omega] at ha
  have hj : ∀ b : Bool, Ev (fun k => provisoref02_fault.j0 k l c b (nam l c) (par l c) (own l c)) (if b = true then 6 else if aheadB l c = true then 20 else parFault l c) := by
    intro b
    cases b with
    | true => exact Ev.step (f := fun _ => some 6) (fun k => by simp only [provisoref02_fault.j0]; rfl) (Ev.now _)
    | false => exact Ev.step (fun k => by simp only [provisoref02_fault.j0]; rfl) ha
  by_cases h32 : c ≥ 32
  · rw [if_pos h32]
    exact Ev.congr (f := fun _ => some 4) (fun k => by unfold provisoref02_fault.f; rw [if_pos h0, if_pos h1, if_pos h32]) (Ev.now _)
  · rw [if_neg h32]
    refine Ev.congr (fun k => by unfold provisoref02_fault.f; rw [if_pos h0, if_pos h1, if_neg h32]; rfl) (Ev.bind (f := fun k t => if t = true then ((provisoref02_isWord.f k (nam l c)).bind fun t119 => provisoref02_fault.j0 k l c t119 (nam l c) (par l c) (own l c)) else provisoref02_fault.j0 k l c true (nam l c) (par l c) (own l c)) (ref_name _ (hs.nam h0 h1)) ?_)
    have hjt := hj true
    cases nameOk (nam l c) with
    | false => exact hjt
    | true => exact Ev.bind (f := fun k t => provisoref02_fault.j0 k l c t (nam l c) (par l c) (own l c)) (ref_word _) (hj _)

def GoodTo (l : Tbl) (n : Int) : Prop := ∀ c : Int, 0 ≤ c → c < n → faultB l c = 0
theorem field_fault_long (l : Tbl) (all fs : List S40) : ∀ (d i : Nat), fieldFaultFrom l all fs d i = 0 → (fs.length : Int) ≤ 32 - all.length
  | 0, i, h => by
    unfold fieldFaultFrom at h
    split at h <;> omega
  | d + 1, i, h => by
    unfold fieldFaultFrom at h
    split at h
    · split at h
      · omega
      · split at h
        · omega
        · split at h
          · exact field_fault_long l all fs d (i + 1) h
          · omega
    · omega
theorem fault_zero {l : Tbl} {c : Int} (h : faultB l c = 0) : c < 32 ∧ nameOk (nam l c) = true ∧ isWordB (nam l c) = false ∧ aheadB l c = false ∧ -1 ≤ par l c ∧ par l c < c ∧ fieldFault l (fieldsOf l (par l c)) (own l c) = 0 := by
  unfold faultB parFault at h
  split at h
  · omega
  · split at h
    · split at h
      · omega
      · split at h
        · omega
        · split at h
          · omega
          · split at h
            · omega
            · rename_i h1 h2 h3 h4 h5 h6
              exact ⟨by omega, h2, by simpa using h3, by simpa using h4, by omega, by omega, h⟩
    · omega
theorem GoodTo.dec {l : Tbl} {n : Int} (h : GoodTo l n) : Dec l n := fun i h0 h1 => (fault_zero (h i h0 h1)).2.2.2.2.2.1
theorem fieldsOf_in (l : Tbl) (c : Int) (h0 : 0 ≤ c) (h1 : c < (l.length : Int)) (h2 : par l c < c) : fieldsOf l c = fieldsOf l (par l c) ++ own l c := by
  unfold fieldsOf
  rw [climbL_in l c h0 h1 h2, List.reverse_cons, List.flatMap_append]
  simp [par]
theorem fieldsOf_out (l : Tbl) (c : Int) (h : ¬ (0 ≤ c ∧ c < (l.length : Int))) : fieldsOf l c = [] := by
  unfold fieldsOf
  rw [climbL_out l c h]
  rfl
theorem GoodTo.fields {l : Tbl} {n : Int} (hn : n ≤ l.length) (h : GoodTo l n) (c : Int) (hc : c < n) : (fieldsOf l c).length ≤ 32 := by
  by_cases h0 : 0 ≤ c
  · obtain ⟨_, _, _, _, h5, h6, h7⟩ := fault_zero (h c h0 hc)
    have := field_fault_long l _ _ _ _ h7
    rw [fieldsOf_in l c h0 (by omega) h6, List.length_append]
    omega
  · rw [fieldsOf_out l c (by omega)]
    simp
def checkFrom (l : Tbl) : Nat → Int → Int × Int
  | 0, _ => (0, 0)
  | d + 1, c => if faultB l c = 0 then checkFrom l d (c + 1) else (c, faultB l c)
def checkB (l : Tbl) : Int × Int := checkFrom l l.length 0
theorem check_tells (l : Tbl) (hs : Sane l) : ∀ (d : Nat) (c : Int), 0 ≤ c → (l.length : Int) - c = d → GoodTo l c → Ev (fun k => provisoref02_Check.l0 k l c) (checkFrom l d c)
  | 0, c, h0, hd, hg => by
    unfold checkFrom
    exact Ev.step (f := fun _ => some _) (fun k => by simp only [provisoref02_Check.l0]; rw [if_neg (by omega)]) (Ev.now _)
  | d + 1, c, h0, hd, hg => by
    have hf := ref_fault l hs c h0 (by omega) hg.dec (fun p hp1 hp2 => hg.fields (by omega) p hp2)
    unfold checkFrom
    refine Ev.step (fun k => by simp only [provisoref02_Check.l0]; rw [if_pos (by omega)]) (Ev.bind (f := fun k t => if t = 0 then _ else _) hf ?_)
    by_cases e : faultB l c = 0
    · rw [if_pos e]
      have hsz := hs.size
      refine Ev.congr (fun k => ?_) (check_tells l hs d (c + 1) (by omega) (by omega) (fun i hi0 hi1 => if hi : i < c then hg i hi0 hi else by rw [show i = c by omega]; exact e))
      rw [if_pos e, show wrap64 (c + 1) = c + 1 by unfold wrap64; omega]
    · rw [if_neg e]
      exact Ev.congr (f := fun _ => some _) (fun k => by rw [if_neg e]) (Ev.now _)
theorem ref_check (l : Tbl) (hs : Sane l) : Ev (fun k => provisoref02_Check.f k l) (checkB l) :=
  check_tells l hs l.length 0 (by omega) (by omega) (fun i h0 h1 => by omega)
theorem checkFrom_zero (l : Tbl) : ∀ (d : Nat) (c : Int), (checkFrom l d c).2 = 0 ↔ ∀ i : Int, c ≤ i → i < c + d → faultB l i = 0
  | 0, c => by
    constructor
    · intro _ i h1 h2; omega
    · intro _; rfl
  | d + 1, c => by
    unfold checkFrom
    split
    · rename_i e
      rw [checkFrom_zero l d (c + 1)]
      constructor
      · intro h i h1 h2
        by_cases hi : i = c
        · rw [hi]; exact e
        · exact h i (by omega) (by omega)
      · intro h i h1 h2
        exact h i (by omega) (by omega)
    · rename_i e
      constructor
      · intro h; exact absurd h e
      · intro h; exact h c (by omega) (by omega)
def Good (l : Tbl) : Prop := GoodTo l l.length
theorem good_iff (l : Tbl) : (checkB l).2 = 0 ↔ Good l := by
  unfold checkB
  rw [checkFrom_zero l l.length 0]
  unfold Good GoodTo
  simp
def madeB (l : Tbl) : Bool := (checkB l).2 == 0
theorem madeB_iff (l : Tbl) : madeB l = true ↔ Good l := by unfold madeB; rw [beq_iff_eq]; exact good_iff l
theorem ref_made (l : Tbl) (hs : Sane l) : Ev (fun k => provisoref02_Made.f k l) (madeB l) :=
  Ev.congr (fun k => rfl) (Ev.bind (f := fun k (b : Int × Int) => some (b.2 == 0)) (ref_check l hs) (Ev.now _))
theorem Good.short {l : Tbl} (h : Good l) : l.length ≤ 32 := by
  rcases Nat.lt_or_ge 32 l.length with h1 | h1
  · have := (fault_zero (h 32 (by omega) (by omega))).1
    omega
  · exact h1
theorem Good.dec {l : Tbl} (h : Good l) : Dec l l.length := GoodTo.dec h
theorem ahead_false (l : Tbl) (c : Int) : ∀ (d : Nat), aheadFrom l c d = false → ∀ i : Int, c - d ≤ i → i < c → nam l i ≠ nam l c
  | 0, _, i, h1, h2 => by omega
  | d + 1, h, i, h1, h2 => by
    simp only [aheadFrom, Bool.or_eq_false_iff, decide_eq_false_iff_not] at h
    by_cases e : i = c - (d + 1)
    · rw [e]; exact h.1
    · exact ahead_false l c d h.2 i (by omega) h2
theorem Good.names {l : Tbl} (h : Good l) {i j : Int} (hi : 0 ≤ i) (hij : i < j) (hj : j < (l.length : Int)) : nam l i ≠ nam l j := by
  have := (fault_zero (h j (by omega) hj)).2.2.2.1
  exact ahead_false l j j.toNat this i (by omega) hij
end Go.Proofs.Ytghgloepameloaa.P

end

section
namespace Go.Proofs.Ytghgloepameloaa.P
open Go.RowKit Go.Proofs.YtghgloepameloaaW.PrintWords Go.Proofs.YtghgloepameloaaW.PrintLast Go.Proofs.YtghgloepameloaaW.PrintMore
set_option linter.unusedVariables false
set_option linter.unusedSimpArgs false

def idxFrom (ws : List ByteArray) (s : ByteArray) : Nat → Nat → Int
  | 0, _ => -1
  | d + 1, i => if s = ws.getD i ByteArray.empty then (i : Int) else idxFrom ws s d (i + 1)
theorem index_tells (ws : List ByteArray) (s : ByteArray) (hw : ws.length ≤ 1000) : ∀ (d i : Nat), ws.length - i = d → i ≤ ws.length → Ev (fun k => slices_Index_string_string.l0 k ws s (ws.length : Int) (i : Int)) (idxFrom ws s d i)
  | 0, i, hd, hi => Ev.step (f := fun _ => some (-1)) (fun k => by simp only [slices_Index_string_string.l0]; rw [if_neg (by omega)]) (Ev.now _)
  | d + 1, i, hd, hi => by
    have ih := index_tells ws s hw d (i + 1) (by omega) (by omega)
    unfold idxFrom
    have hrd : rdOf ByteArray.empty ws ((i : Nat) : Int) = ws.getD i ByteArray.empty := by simp [rdOf]
    by_cases e : s = ws.getD i ByteArray.empty
    · rw [if_pos e]
      exact Ev.step (f := fun _ => some _) (fun k => by simp only [slices_Index_string_string.l0]; rw [if_pos (by omega), if_pos (by omega), if_pos (by omega), hrd, if_pos ((str_eq _ _).mpr e)]) (Ev.now _)
    · rw [if_neg e]
      refine Ev.step (fun k => ?_) ih
      simp only [slices_Index_string_string.l0]
      rw [if_pos (by omega), if_pos (by omega), if_pos (by omega), hrd, if_neg (fun h9 => e ((str_eq _ _).mp h9)), w_next (n := ws.length) (by omega) (by omega) (by omega)]
      rfl
theorem index_words (s : ByteArray) : Ev (fun k => slices_Index_string_string.f k words6 s) (idxFrom words6 s 6 0) := index_tells words6 s (by decide) 6 0 (by decide) (by decide)
theorem idx_not (s : ByteArray) (h : isWordB s = false) : idxFrom words6 s 6 0 = -1 := by
  unfold isWordB at h
  rw [List.any_eq_false] at h
  have g : ∀ t ∈ words6, ¬ s = t := fun t ht e => by
    have := h t ht
    simp [e] at this
  have g0 := g _ (List.getElem_mem (l := words6) (n := 0) (by decide))
  have g1 := g _ (List.getElem_mem (l := words6) (n := 1) (by decide))
  have g2 := g _ (List.getElem_mem (l := words6) (n := 2) (by decide))
  have g3 := g _ (List.getElem_mem (l := words6) (n := 3) (by decide))
  have g4 := g _ (List.getElem_mem (l := words6) (n := 4) (by decide))
  have g5 := g _ (List.getElem_mem (l := words6) (n := 5) (by decide))
  simp only [idxFrom]
  rw [if_neg (show ¬ s = words6.getD 0 ByteArray.empty from g0), if_neg (show ¬ s = words6.getD (0 + 1) ByteArray.empty from g1), if_neg (show ¬ s = words6.getD (0 + 1 + 1) ByteArray.empty from g2), if_neg (show ¬ s = words6.getD (0 + 1 + 1 + 1) ByteArray.empty from g3), if_neg (show ¬ s = words6.getD (0 + 1 + 1 + 1 + 1) ByteArray.empty from g4), if_neg (show ¬ s = words6.getD (0 + 1 + 1 + 1 + 1 + 1) ByteArray.empty from g5)]
theorem idx_word : ∀ i : Nat, i < 6 → idxFrom words6 (words6.getD i ByteArray.empty) 6 0 = i := by decide
def classFrom (l : Tbl) (s : ByteArray) : Nat → Int → Int × Bool
  | 0, _ => (0, false)
  | d + 1, i => if nam l i = s ∧ i < 240 then ((16 + i) % 256, true) else classFrom l s d (i + 1)
theorem parse_tells (l : Tbl) (hl : l.length ≤ 9223372036854775807) (s : ByteArray) : ∀ (d : Nat) (i : Int), 0 ≤ i → (l.length : Int) - i = d → Ev (fun k => types_Parse.l0 k l s (l.length : Int) i) (classFrom l s d i)
  | 0, i, h0, hd => Ev.step (f := fun _ => some _) (fun k => by simp only [types_Parse.l0]; rw [if_neg (by omega)]; rfl) (Ev.now _)
  | d + 1, i, h0, hd => by
    have ih := parse_tells l hl s d (i + 1) (by omega) (by omega)
    have hw : wrap64 (i + 1) = i + 1 := by unfold wrap64; omega
    unfold classFrom
    by_cases e : nam l i = s
    · by_cases h240 : i < 240
      · rw [if_pos ⟨e, h240⟩]
        exact Ev.step (f := fun _ => some _) (fun k => by simp only [types_Parse.l0]; rw [if_pos (by omega), if_pos (by omega), if_pos (by omega), if_pos ((nam_eq l _ _).mpr e), if_pos h240]) (Ev.now _)
      · rw [if_neg (fun h => h240 h.2)]
        refine Ev.step (fun k => ?_) ih
        simp only [types_Parse.l0]
        rw [if_pos (by omega), if_pos (by omega), if_pos (by omega), if_pos ((nam_eq l _ _).mpr e), if_neg h240, hw]
    · rw [if_neg (fun h => e h.1)]
      refine Ev.step (fun k => ?_) ih
      simp only [types_Parse.l0]
      rw [if_pos (by omega), if_pos (by omega), if_pos (by omega), if_neg (fun h9 => e ((nam_eq l _ _).mp h9)), hw]
def parseB (l : Tbl) (s : ByteArray) : Int × Bool := if idxFrom words6 s 6 0 ≥ 0 then (idxFrom words6 s 6 0 % 256, true) else classFrom l s l.length 0
theorem impl_parse (l : Tbl) (hl : l.length ≤ 9223372036854775807) (s : ByteArray) : Ev (fun k => types_Parse.f k l s) (parseB l s) := by
  refine Ev.congr (f := fun k => (slices_Index_string_string.f k words6 s).bind fun t150 => (if t150 ≥ 0 then (some ((t150) % 256, true)) else (types_Parse.l0 k l s (l.length : Int) 0))) (fun k => rfl) ?_
  refine Ev.bind (f := fun k t150 => (if t150 ≥ 0 then (some ((t150) % 256, true)) else (types_Parse.l0 k l s (l.length : Int) 0))) (index_words s) ?_
  unfold parseB
  by_cases h : idxFrom words6 s 6 0 ≥ 0
  · rw [if_pos h]
    exact Ev.congr (f := fun _ => some _) (fun k => by rw [if_pos h]) (Ev.now _)
  · rw [if_neg h]
    exact Ev.congr (fun k => by rw [if_neg h]) (parse_tells l hl s l.length 0 (by omega) (by omega))
theorem classFrom_at (l : Tbl) (s : ByteArray) (c : Int) (hc : c < 240) (hn : nam l c = s) : ∀ (d : Nat) (i : Int), 0 ≤ i → i ≤ c → c < i + d → (∀ j : Int, i ≤ j → j < c → nam l j ≠ s) → classFrom l s d i = (16 + c, true)
  | 0, i, _, h1, h2, _ => by omega
  | d + 1, i, h0, h1, h2, h3 => by
    unfold classFrom
    by_cases e : i = c
    · rw [if_pos ⟨by rw [e]; exact hn, by omega⟩, e]
      congr 1
      omega
    · rw [if_neg (fun h => h3 i (by omega) (by omega) h.1)]
      exact classFrom_at l s c hc hn d (i + 1) (by omega) (by omega) (by omega) (fun j hj => h3 j (by omega))
def printB (l : Tbl) (a : Int) : ByteArray := if a ≤ 5 then words6.getD a.toNat ByteArray.empty else if validB l a = true then nam l (a - 16) else ⟨#[]⟩
theorem Good.nameOk {l : Tbl} (h : Good l) {c : Int} (h0 : 0 ≤ c) (h1 : c < (l.length : Int)) : nameOk (nam l c) = true ∧ isWordB (nam l c) = false :=
  ⟨(fault_zero (h c h0 h1)).2.1, (fault_zero (h c h0 h1)).2.2.1⟩
theorem parse_print {l : Tbl} (h : Good l) (a : Int) (ha : 0 ≤ a ∧ a ≤ 255) (hv : validB l a = true) : parseB l (printB l a) = (a, true) ∧ printB l a ≠ ⟨#[]⟩ := by
  unfold printB
  by_cases h1 : a ≤ 5
  · rw [if_pos h1]
    have hi := idx_word a.toNat (by omega)
    unfold parseB
    rw [hi, if_pos (by omega)]
    refine ⟨by congr 1; omega, ?_⟩
    have : ∀ i : Nat, i < 6 → words6.getD i ByteArray.empty ≠ ⟨#[]⟩ := by decide
    exact this a.toNat (by omega)
  · rw [if_neg h1, if_pos hv]
    have hr : 0 ≤ a - 16 ∧ a - 16 < (l.length : Int) := by
      unfold validB at hv
      simp [h1] at hv
      omega
    have hs := h.short
    obtain ⟨hn, hw⟩ := h.nameOk hr.1 hr.2
    unfold parseB
    rw [idx_not _ hw, if_neg (by omega)]
    constructor
    · rw [classFrom_at l _ (a - 16) (by omega) rfl l.length 0 (by omega) (by omega) (by omega) (fun j h0 h2 => h.names h0 h2 hr.2)]
      congr 1
      omega
    · intro e
      rw [e] at hn
      revert hn
      decide
end Go.Proofs.Ytghgloepameloaa.P

end

section
namespace Go.Proofs.Ytghgloepameloaa.P
open Go.RowKit Go.Proofs.YtghgloepameloaaW.PrintWords Go.Proofs.YtghgloepameloaaW.PrintLast Go.Proofs.YtghgloepameloaaW.PrintMore
set_option linter.unusedVariables false
set_option linter.unusedSimpArgs false

theorem class_valid (l : Tbl) (a : Int) (ha : 0 ≤ a ∧ a ≤ 255) : classOf l a = if 16 ≤ a ∧ a - 16 < (l.length : Int) then a - 16 else -1 := by
  unfold classOf
  by_cases h1 : a < 16
  · rw [if_pos h1, if_neg (by omega)]
  · rw [if_neg h1, show (a - 16) % 256 = a - 16 by omega]
    by_cases h2 : a - 16 ≥ (l.length : Int)
    · rw [if_pos h2, if_neg (by omega)]
    · rw [if_neg h2, if_pos (by omega)]
theorem valid_cases {l : Tbl} {a : Int} (ha : 0 ≤ a ∧ a ≤ 255) (h : validB l a = true) : (a ≤ 5 ∧ classOf l a = -1) ∨ (16 ≤ a ∧ a - 16 < (l.length : Int) ∧ classOf l a = a - 16) := by
  unfold validB at h
  rw [class_valid l a ha]
  simp at h
  rcases h with h | ⟨h1, h2⟩
  · exact .inl ⟨h, by rw [if_neg (by omega)]⟩
  · exact .inr ⟨h1, by omega, by rw [if_pos (by omega)]⟩
end Go.Proofs.Ytghgloepameloaa.P

end

section
namespace Go.Proofs.Ytghgloepameloaa.P
open Go.RowKit Go.Proofs.YtghgloepameloaaW.PrintWords Go.Proofs.YtghgloepameloaaW.PrintLast Go.Proofs.YtghgloepameloaaW.PrintMore
set_option linter.unusedVariables false
set_option linter.unusedSimpArgs false

theorem class_type {l : Tbl} (hg : Good l) {c : Int} (h0 : 0 ≤ c) (h1 : c < (l.length : Int)) : (16 + c) % 256 = 16 + c ∧ validB l (16 + c) = true ∧ classOf l (16 + c) = c ∧ 0 ≤ 16 + c ∧ 16 + c ≤ 255 := by
  have := hg.short
  refine ⟨by omega, by simp [validB]; omega, ?_, by omega, by omega⟩
  rw [class_valid l (16 + c) (by omega), if_pos (by omega)]
  omega
end Go.Proofs.Ytghgloepameloaa.P

end

section
namespace Go.Proofs.Ytghgloepameloaa.P
open Go.RowKit Go.Proofs.YtghgloepameloaaW.PrintWords Go.Proofs.YtghgloepameloaaW.PrintLast Go.Proofs.YtghgloepameloaaW.PrintMore
set_option linter.unusedVariables false
set_option linter.unusedSimpArgs false

def deepOf (l : Tbl) (c : Int) : Int := 1 + ((climbL l c).length : Int)
theorem deepOf_le (l : Tbl) (c : Int) : 1 ≤ deepOf l c ∧ deepOf l c ≤ 1 + l.length := by
  have := climbL_length l c
  unfold deepOf
  omega
end Go.Proofs.Ytghgloepameloaa.P

end

section
namespace Go.Proofs.Ytghgloepameloaa.P
open Go.RowKit Go.Proofs.YtghgloepameloaaW.PrintWords Go.Proofs.YtghgloepameloaaW.PrintLast Go.Proofs.YtghgloepameloaaW.PrintMore
set_option linter.unusedVariables false
set_option linter.unusedSimpArgs false

theorem rd_class (l : Tbl) (i : Nat) (h : i < l.length) : rd_T38 l (i : Int) = l[i] := by simp [rd_T38, List.getD_eq_getElem?_getD, h]
theorem classes_tells (l : Tbl) (hs : Sane l) : ∀ (d i : Nat), l.length - i = d → i ≤ l.length → Ev (fun k => provisoplain_Classes.l0 k (l.take i) l (l.length : Int) (i : Int)) l
  | 0, i, hd, hi => by
    have e : l.take i = l := List.take_of_length_le (by omega)
    rw [e]
    exact Ev.step (f := fun _ => some l) (fun k => by simp only [provisoplain_Classes.l0]; rw [if_neg (by omega)]) (Ev.now _)
  | d + 1, i, hd, hi => by
    have hlt : i < l.length := by omega
    have ih := classes_tells l hs d (i + 1) (by omega) (by omega)
    have hsz := hs.size
    have ho := (hs.own (c := (i : Int)) (by omega) (by omega)).1
    unfold own at ho
    refine Ev.step (fun k => ?_) ih
    simp only [provisoplain_Classes.l0]
    rw [if_pos (by omega), if_pos (by omega), if_pos (by omega)]
    unfold api_Field_46.f
    rw [if_pos (by omega)]
    simp only [Option.bind_some]
    rw [if_pos (by rw [List.length_take]; omega), rd_class l i hlt, show wrap64 ((i : Int) + 1) = ((i + 1 : Nat) : Int) by unfold wrap64; omega, List.take_succ_eq_append_getElem hlt]
theorem impl_classes (l : Tbl) (hs : Sane l) : Ev (fun k => provisoplain_Classes.f k l) l := by
  have := classes_tells l hs l.length 0 (by omega) (by omega)
  rw [List.take_zero] at this
  exact this
theorem equal_fields_self (xs : List S40) (hl : xs.length ≤ 9223372036854775807) : ∀ (d i : Nat), xs.length - i = d → i ≤ xs.length → Ev (fun k => api_Field_24.l0 k xs xs (xs.length : Int) (i : Int)) true
  | 0, i, hd, hi => Ev.step (f := fun _ => some true) (fun k => by simp only [api_Field_24.l0]; rw [if_neg (by omega)]) (Ev.now _)
  | d + 1, i, hd, hi => by
    refine Ev.step (fun k => ?_) (equal_fields_self xs hl d (i + 1) (by omega) (by omega))
    simp only [api_Field_24.l0]
    rw [if_pos (by omega), if_pos (by omega), if_pos (by omega), if_pos (by omega), if_neg (by simp), show wrap64 ((i : Int) + 1) = ((i + 1 : Nat) : Int) by unfold wrap64; omega]
theorem impl_equal_fields_self (xs : List S40) (hl : xs.length ≤ 9223372036854775807) : Ev (fun k => api_Field_24.f k xs xs) true :=
  Ev.congr (fun k => by unfold api_Field_24.f; rw [if_pos rfl]; rfl) (equal_fields_self xs hl xs.length 0 (by omega) (by omega))
theorem same_classes_self (l : Tbl) (hs : Sane l) : ∀ (d i : Nat), l.length - i = d → i ≤ l.length → Ev (fun k => provisoplain_SameClasses.l0 k l l (l.length : Int) (i : Int)) true
  | 0, i, hd, hi => Ev.step (f := fun _ => some true) (fun k => by simp only [provisoplain_SameClasses.l0]; rw [if_neg (by omega)]) (Ev.now _)
  | d + 1, i, hd, hi => by
    have hsz := hs.size
    have ho := (hs.own (c := (i : Int)) (by omega) (by omega)).1
    unfold own at ho
    refine Ev.step (fun k => by
      simp only [provisoplain_SameClasses.l0]
      rw [if_pos (by omega), if_pos (by omega), if_pos (by omega), if_pos (by omega)]
      simp only [if_true]) (Ev.bind (f := fun k t => if t = true then provisoplain_SameClasses.l0 k l l (l.length : Int) (wrap64 ((i : Int) + 1)) else some false) (impl_equal_fields_self (rd_T38 l (i : Int)).f2 (by omega)) ?_)
    refine Ev.congr (fun k => ?_) (same_classes_self l hs d (i + 1) (by omega) (by omega))
    rw [if_pos rfl, show wrap64 ((i : Int) + 1) = ((i + 1 : Nat) : Int) by unfold wrap64; omega]
theorem impl_same_classes (l : Tbl) (hs : Sane l) : Ev (fun k => provisoplain_SameClasses.f k l l) true :=
  Ev.congr (fun k => by unfold provisoplain_SameClasses.f; rw [if_pos rfl]; rfl) (same_classes_self l hs l.length 0 (by omega) (by omega))

def allTo (l : Tbl) (n : Nat) : List Int := ((List.range n).map (fun i : Nat => (i : Int))).filter (validB l)
theorem all_tells (l : Tbl) : ∀ (d i : Nat), 256 - i = d → i ≤ 256 → Ev (fun k => provisoref02_all.l0 k l (allTo l i) (i : Int)) (allTo l 256)
  | 0, i, hd, hi => by
    have e : i = 256 := by omega
    rw [e]
    exact Ev.step (f := fun _ => some _) (fun k => by simp only [provisoref02_all.l0]; rw [if_neg (by decide)]) (Ev.now _)
  | d + 1, i, hd, hi => by
    have ih := all_tells l d (i + 1) (by omega) (by omega)
    have hln : (allTo l i).length ≤ i := by
      unfold allTo
      exact Nat.le_trans (List.length_filter_le _ _) (by simp)
    have e1 : allTo l (i + 1) = allTo l i ++ (if validB l (i : Int) = true then [(i : Int)] else []) := by
      unfold allTo
      rw [List.range_succ, List.map_append, List.filter_append]
      congr 1
      simp only [List.map_cons, List.map_nil, List.filter_cons, List.filter_nil]
    refine Ev.step (f := fun k => if validB l (i : Int) = true then provisoref02_all.l0 k l (allTo l i ++ [(i : Int)]) ((i + 1 : Nat) : Int) else provisoref02_all.l0 k l (allTo l i) ((i + 1 : Nat) : Int)) (fun k => ?_) ?_
    · simp only [provisoref02_all.l0]
      rw [if_pos (by omega), show (i : Int) % 256 = i by omega, ref_valid l i (by omega)]
      simp only [Option.bind_some]
      rw [if_pos (show (allTo l i).length < 140737488355328 by omega), show wrap64 ((i : Int) + 1) = ((i + 1 : Nat) : Int) by unfold wrap64; omega]
    · cases hv : validB l (i : Int) with
      | true =>
        rw [hv, if_pos rfl] at e1
        rw [e1] at ih
        exact ih
      | false =>
        rw [hv, if_neg (by simp), List.append_nil] at e1
        rw [e1] at ih
        exact ih
theorem ref_all (l : Tbl) : Ev (fun k => provisoref02_all.f k l) (allTo l 256) := all_tells l 256 0 (by omega) (by omega)
theorem mem_all (l : Tbl) (t : Int) : t ∈ allTo l 256 ↔ (0 ≤ t ∧ t ≤ 255) ∧ validB l t = true := by
  unfold allTo
  rw [List.mem_filter, List.mem_map]
  constructor
  · rintro ⟨⟨i, hi, rfl⟩, h2⟩
    have := List.mem_range.1 hi
    exact ⟨by omega, h2⟩
  · rintro ⟨h1, h2⟩
    exact ⟨⟨t.toNat, List.mem_range.2 (by omega), by omega⟩, h2⟩
theorem ref_print (l : Tbl) (a : Int) (ha : 0 ≤ a ∧ a ≤ 255) : provisoref02_Print.f l a = some (printB l a) := by
  have hw : ∀ a : Int, 0 ≤ a → a ≤ 5 → provisoref02_word.f a = some (words6.getD a.toNat ByteArray.empty) := by
    intro a h0 h5
    have : a = 0 ∨ a = 1 ∨ a = 2 ∨ a = 3 ∨ a = 4 ∨ a = 5 := by omega
    rcases this with rfl | rfl | rfl | rfl | rfl | rfl <;> rfl
  have hw2 : ∀ a : Int, 5 < a → provisoref02_word.f a = some ⟨#[]⟩ := by
    intro a h
    unfold provisoref02_word.f
    rw [if_neg (by omega), if_neg (by omega), if_neg (by omega), if_neg (by omega), if_neg (by omega), if_neg (by omega)]
  unfold provisoref02_Print.f printB
  by_cases h5 : a ≤ 5
  · rw [if_neg (by omega), if_pos h5, hw a ha.1 h5]
    rfl
  · rw [if_neg h5, ref_valid l a ha]
    by_cases h16 : a ≥ 16
    · rw [if_pos h16, show (a - 16) % 256 = a - 16 by omega]
      simp only [Option.bind_some]
      cases hv : validB l a with
      | false =>
        rw [if_neg (by simp), if_neg (by simp), hw2 a (by omega)]
        rfl
      | true =>
        have ka := valid_cases ha hv
        rw [if_pos rfl, if_pos rfl, if_pos (by omega), if_pos (by omega)]
        rfl
    · have hv : validB l a = false := by unfold validB; simp; omega
      rw [if_neg h16, hw2 a (by omega), hv]
      rfl
end Go.Proofs.Ytghgloepameloaa.P

end

section
namespace Go.Proofs.Ytghgloepameloaa.P
open Go.RowKit Go.Proofs.YtghgloepameloaaW.PrintWords Go.Proofs.YtghgloepameloaaW.PrintLast Go.Proofs.YtghgloepameloaaW.PrintMore
set_option linter.unusedVariables false
set_option linter.unusedSimpArgs false

theorem own_le {l : Tbl} (hg : Good l) {c : Int} (h0 : 0 ≤ c) (h1 : c < (l.length : Int)) : (own l c).length ≤ (fieldsOf l c).length := by
  rw [fieldsOf_in l c h0 h1 (hg.dec c h0 h1), List.length_append]
  omega
theorem climb_short {l : Tbl} : ∀ c : Int, (climbL l c).length ≤ l.length := fun c => by
  have := (deepOf_le l c).2
  unfold deepOf at this
  omega
def findFrom (fs : List S40) (s : ByteArray) : Nat → Nat → Int × Int × Bool
  | 0, _ => (0, 0, false)
  | d + 1, i => if (rd_T40 fs i).f0 = s then (i, (rd_T40 fs i).f1, true) else findFrom fs s d (i + 1)
theorem find_tells (fs : List S40) (hl : fs.length ≤ 9223372036854775807) (s : ByteArray) : ∀ (d i : Nat), i + d = fs.length → Ev (fun k => types_Find.l0 k s fs (fs.length : Int) (i : Int)) (findFrom fs s d i)
  | 0, i, hd => Ev.step (f := fun _ => some _) (fun k => by simp only [types_Find.l0]; rw [if_neg (by omega)]; rfl) (Ev.now _)
  | d + 1, i, hd => by
    have ih := find_tells fs hl s d (i + 1) (by omega)
    have hw : wrap64 ((i : Int) + 1) = ((i + 1 : Nat) : Int) := by unfold wrap64; omega
    unfold findFrom
    by_cases e : (rd_T40 fs i).f0 = s
    · rw [if_pos e]
      exact Ev.step (f := fun _ => some _) (fun k => by simp only [types_Find.l0]; rw [if_pos (by omega), if_pos (by omega), if_pos (by omega), if_pos ((str_eq _ _).mpr e)]) (Ev.now _)
    · rw [if_neg e]
      refine Ev.step (fun k => ?_) ih
      simp only [types_Find.l0]
      rw [if_pos (by omega), if_pos (by omega), if_pos (by omega), if_neg (fun h => e ((str_eq _ _).mp h)), hw]
def findB (l : Tbl) (c : Int) (s : ByteArray) : Int × Int × Bool := findFrom (fieldsOf l c) s (fieldsOf l c).length 0
end Go.Proofs.Ytghgloepameloaa.P

end

section
namespace Go.Proofs.Ytghgloepameloaa.P
open Go.RowKit Go.Proofs.YtghgloepameloaaW.PrintWords Go.Proofs.YtghgloepameloaaW.PrintLast Go.Proofs.YtghgloepameloaaW.PrintMore
set_option linter.unusedVariables false
set_option linter.unusedSimpArgs false

theorem fields_len {l : Tbl} (hg : Good l) (c : Int) : (fieldsOf l c).length ≤ 32 := by
  by_cases h : c < (l.length : Int)
  · exact GoodTo.fields (Int.le_refl _) hg c h
  · rw [fieldsOf_out l c (by omega)]
    exact Nat.zero_le _
theorem impl_fields' {l : Tbl} (hg : Good l) (c : Int) : types_Fields.f l c = some (fieldsOf l c) := by
  have := hg.short
  have h2 := climb_short (l := l) c
  have h3 := fields_len hg c
  unfold types_Fields.f
  rw [if_pos ⟨by omega, by unfold fieldsOf own at h3; omega⟩]
  rfl
theorem ref_fields' {l : Tbl} (hs : Sane l) (hg : Good l) (c : Int) : Ev (fun k => provisoref02_Fields.f k l c) (fieldsOf l c) := by
  by_cases h : c < (l.length : Int)
  · have := fields_len hg c
    exact ref_fields l l.length (Int.le_refl _) hs.2.1 hg.dec c h (by omega)
  · rw [fieldsOf_out l c (by omega)]
    unfold provisoref02_Fields.f provisoref02_Line.f
    refine Ev.bind (Ev.step (g := fun k => provisoref02_Line.l0 k l c []) (f := fun _ => some []) (fun k => by simp only [provisoref02_Line.l0]; rw [if_pos (by omega), if_neg (by omega)]) (Ev.now _)) ?_
    exact Ev.step (f := fun _ => some []) (fun k => by simp only [provisoref02_Fields.l0]; rw [if_neg (show ¬ (wrap64 ((([] : List Int).length : Int) - 1) ≥ 0) from by unfold wrap64; simp)]) (Ev.now _)
theorem ref_find_tells (fs : List S40) (hl : fs.length ≤ 9223372036854775807) (s : ByteArray) : ∀ (d i : Nat), i + d = fs.length → Ev (fun k => provisoref02_Find.l0 k s fs (i : Int)) (findFrom fs s d i)
  | 0, i, hd => Ev.step (f := fun _ => some _) (fun k => by simp only [provisoref02_Find.l0]; rw [if_neg (by omega)]; rfl) (Ev.now _)
  | d + 1, i, hd => by
    have ih := ref_find_tells fs hl s d (i + 1) (by omega)
    have hw : wrap64 ((i : Int) + 1) = ((i + 1 : Nat) : Int) := by unfold wrap64; omega
    unfold findFrom
    by_cases e : (rd_T40 fs i).f0 = s
    · rw [if_pos e]
      exact Ev.step (f := fun _ => some _) (fun k => by simp only [provisoref02_Find.l0]; rw [if_pos (by omega), if_pos (by omega), if_pos ((str_eq _ _).mpr e)]) (Ev.now _)
    · rw [if_neg e]
      refine Ev.step (fun k => ?_) ih
      simp only [provisoref02_Find.l0]
      rw [if_pos (by omega), if_pos (by omega), if_neg (fun h => e ((str_eq _ _).mp h)), hw]
theorem ref_find {l : Tbl} (hs : Sane l) (hg : Good l) (c : Int) (s : ByteArray) : Ev (fun k => provisoref02_Find.f k l c s) (findB l c s) := by
  have h3 := fields_len hg c
  unfold provisoref02_Find.f
  exact Ev.bind (ref_fields' hs hg c) (ref_find_tells (fieldsOf l c) (by omega) s (fieldsOf l c).length 0 (by omega))
theorem impl_find' {l : Tbl} (hg : Good l) (c : Int) (s : ByteArray) : Ev (fun k => types_Find.f k l c s) (findB l c s) := by
  have h3 := fields_len hg c
  refine Ev.congr (fun k => ?_) (find_tells (fieldsOf l c) (by omega) s (fieldsOf l c).length 0 (by omega))
  unfold types_Find.f
  rw [impl_fields' hg c]
  rfl

def searchB (l : Tbl) (s : ByteArray) : List Int → Int × Bool
  | [] => (0, false)
  | t :: ts => if printB l t = s then (t, true) else searchB l s ts
theorem search_tells (l : Tbl) (s : ByteArray) (ts : List Int) (ht : ∀ t ∈ ts, 0 ≤ t ∧ t ≤ 255) (hl : ts.length ≤ 256) : ∀ (d i : Nat), i + d = ts.length → Ev (fun k => provisoref02_Parse.l0 k l s ts (i : Int)) (searchB l s (ts.drop i))
  | 0, i, hd => by
    rw [List.drop_of_length_le (by omega)]
    exact Ev.step (f := fun _ => some _) (fun k => by simp only [provisoref02_Parse.l0]; rw [if_neg (by omega)]; rfl) (Ev.now _)
  | d + 1, i, hd => by
    have ih := search_tells l s ts ht hl d (i + 1) (by omega)
    have hi : i < ts.length := by omega
    have hw : wrap64 ((i : Int) + 1) = ((i + 1 : Nat) : Int) := by unfold wrap64; omega
    have hr : rd ts (i : Int) = ts[i] := by simp [rd, List.getD_eq_getElem?_getD, hi]
    have hp := ref_print l (ts[i]) (ht _ (List.getElem_mem hi))
    rw [List.drop_eq_getElem_cons hi]
    unfold searchB
    by_cases e : printB l ts[i] = s
    · rw [if_pos e]
      refine Ev.step (f := fun _ => some _) (fun k => ?_) (Ev.now _)
      simp only [provisoref02_Parse.l0]
      rw [if_pos (by omega), if_pos (by omega), hr, hp]
      simp only [Option.bind_some]
      rw [if_pos ((str_eq _ _).mpr e)]
    · rw [if_neg e]
      refine Ev.step (fun k => ?_) ih
      simp only [provisoref02_Parse.l0]
      rw [if_pos (by omega), if_pos (by omega), hr, hp]
      simp only [Option.bind_some]
      rw [if_neg (fun h => e ((str_eq _ _).mp h)), hw]
theorem search_none (l : Tbl) (s : ByteArray) : ∀ ts : List Int, (∀ t ∈ ts, printB l t ≠ s) → searchB l s ts = (0, false)
  | [], _ => rfl
  | t :: ts, h => by
    unfold searchB
    rw [if_neg (h t List.mem_cons_self)]
    exact search_none l s ts fun t ht => h t (List.mem_cons_of_mem _ ht)
theorem search_found (l : Tbl) (s : ByteArray) (a : Int) (ha : printB l a = s) : ∀ ts : List Int, a ∈ ts → (∀ t ∈ ts, printB l t = s → t = a) → searchB l s ts = (a, true)
  | [], h, _ => by cases h
  | t :: ts, h, hu => by
    unfold searchB
    by_cases e : printB l t = s
    · rw [if_pos e, hu t List.mem_cons_self e]
    · rw [if_neg e]
      rcases List.mem_cons.1 h with rfl | h
      · exact absurd ha e
      · exact search_found l s a ha ts h fun t ht => hu t (List.mem_cons_of_mem _ ht)
theorem idx_cases (s : ByteArray) : ∀ (d i : Nat), i + d = 6 → (idxFrom words6 s d i = -1 ∧ ∀ j, i ≤ j → j < 6 → words6.getD j ByteArray.empty ≠ s) ∨ ∃ j : Nat, i ≤ j ∧ j < 6 ∧ words6.getD j ByteArray.empty = s ∧ idxFrom words6 s d i = j
  | 0, i, h => .inl ⟨rfl, fun j h1 h2 => by omega⟩
  | d + 1, i, h => by
    unfold idxFrom
    by_cases e : words6.getD i ByteArray.empty = s
    · exact .inr ⟨i, Nat.le_refl _, by omega, e, by rw [if_pos e.symm]⟩
    · rw [if_neg (fun h => e h.symm)]
      rcases idx_cases s d (i + 1) (by omega) with ⟨h1, h2⟩ | ⟨j, h1, h2, h3, h4⟩
      · exact .inl ⟨h1, fun j hj1 hj2 => by
          by_cases e2 : i = j
          · subst e2; exact e
          · exact h2 j (by omega) hj2⟩
      · exact .inr ⟨j, by omega, h2, h3, h4⟩
theorem class_cases (l : Tbl) (s : ByteArray) (hl : l.length ≤ 32) : ∀ (d : Nat) (i : Int), 0 ≤ i → i + d = l.length → (classFrom l s d i = (0, false) ∧ ∀ j, i ≤ j → j < (l.length : Int) → nam l j ≠ s) ∨ ∃ j : Int, i ≤ j ∧ j < (l.length : Int) ∧ nam l j = s ∧ classFrom l s d i = (16 + j, true)
  | 0, i, h0, h => .inl ⟨rfl, fun j h1 h2 => by omega⟩
  | d + 1, i, h0, h => by
    unfold classFrom
    by_cases e : nam l i = s
    · exact .inr ⟨i, Int.le_refl _, by omega, e, by rw [if_pos ⟨e, by omega⟩, show (16 + i) % 256 = 16 + i by omega]⟩
    · rw [if_neg (fun h => e h.1)]
      rcases class_cases l s hl d (i + 1) (by omega) (by omega) with ⟨h1, h2⟩ | ⟨j, h1, h2, h3, h4⟩
      · exact .inl ⟨h1, fun j hj1 hj2 => by
          by_cases e2 : i = j
          · subst e2; exact e
          · exact h2 j (by omega) hj2⟩
      · exact .inr ⟨j, by omega, h2, h3, h4⟩
theorem valid_iff (l : Tbl) (t : Int) : validB l t = true ↔ t ≤ 5 ∨ (16 ≤ t ∧ t - 16 < (l.length : Int)) := by
  unfold validB
  simp
theorem parse_is {l : Tbl} (hg : Good l) (s : ByteArray) : searchB l s (allTo l 256) = parseB l s := by
  have hsh := hg.short
  -- what is told by a valid type is told by it alone
  have huniq : ∀ t ∈ allTo l 256, ∀ u ∈ allTo l 256, printB l t = printB l u → t = u := by
    intro t ht u hu he
    obtain ⟨h1, h2⟩ := (mem_all l t).1 ht
    obtain ⟨h3, h4⟩ := (mem_all l u).1 hu
    have a := (parse_print hg t h1 h2).1
    have b := (parse_print hg u h3 h4).1
    rw [he, b] at a
    exact (Prod.mk.inj a).1.symm
  unfold parseB
  rcases idx_cases s 6 0 (by omega) with ⟨h1, h2⟩ | ⟨j, h1, h2, h3, h4⟩
  · rw [h1, if_neg (by omega)]
    rcases class_cases l s hsh l.length 0 (by omega) (by omega) with ⟨h3, h4⟩ | ⟨j, h3, h4, h5, h6⟩
    · rw [h3]
      refine search_none l s _ fun t ht => ?_
      obtain ⟨q1, q2⟩ := (mem_all l t).1 ht
      unfold printB
      by_cases e : t ≤ 5
      · rw [if_pos e]
        exact h2 t.toNat (by omega) (by omega)
      · rw [if_neg e, if_pos q2]
        rcases (valid_iff l t).1 q2 with h | h
        · omega
        · exact h4 _ (by omega) h.2
    · rw [h6]
      obtain ⟨_, v, _, b0, b1⟩ := class_type hg (by omega : 0 ≤ j) h4
      have hp : printB l (16 + j) = s := by
        unfold printB
        rw [if_neg (by omega), if_pos v, show 16 + j - 16 = j by omega, h5]
      have hm : 16 + j ∈ allTo l 256 := (mem_all l _).2 ⟨⟨b0, b1⟩, v⟩
      exact search_found l s _ hp _ hm fun t ht e => huniq t ht _ hm (e.trans hp.symm)
  · rw [h4, if_pos (by omega), show (j : Int) % 256 = j by omega]
    have hp : printB l (j : Int) = s := by
      unfold printB
      rw [if_pos (by omega), show ((j : Int)).toNat = j by omega, h3]
    have hm : (j : Int) ∈ allTo l 256 := (mem_all l _).2 ⟨by omega, (valid_iff l _).2 (.inl (by omega))⟩
    exact search_found l s _ hp _ hm fun t ht e => huniq t ht _ hm (e.trans hp.symm)
theorem ref_parse {l : Tbl} (hg : Good l) (s : ByteArray) : Ev (fun k => provisoref02_Parse.f k l s) (parseB l s) := by
  rw [← parse_is hg s]
  have hl : (allTo l 256).length ≤ 256 := by
    unfold allTo
    exact Nat.le_trans (List.length_filter_le _ _) (by simp)
  unfold provisoref02_Parse.f
  exact Ev.bind (ref_all l) (search_tells l s (allTo l 256) (fun t ht => ((mem_all l t).1 ht).1) hl (allTo l 256).length 0 (by omega))
end Go.Proofs.Ytghgloepameloaa.P

end

section
namespace Go.Proofs.Ytghgloepameloaa.Pure
open Go.RowKit Go.Proofs.Ytghgloepameloaa.P Go.Proofs.YtghgloepameloaaW.PrintWords
set_option linter.unusedSimpArgs false
variable (l : Tbl) (hs : Sane l) (hg : Go.Proofs.Ytghgloepameloaa.P.Good l) (c : Int) (s : ByteArray)
include hs hg
theorem more_tells : ∀ (d i : Nat) (f : List S40), i + d = 40 → f.length ≤ 32 + i → Ev (fun k => provisolaw02_TypesFields.l1 k l c s l (fieldsOf l c) f (fieldsOf l c) (i : Int)) true
  | 0, i, f, hd, hf => by
    have h3 := fields_len hg c
    refine Ev.step (f := fun k => (types_Find.f k l c s).bind fun x => (provisoref02_Find.f k l c s).bind fun y => (types_Parse.f k l s).bind fun z => (provisoref02_Parse.f k l s).bind fun u => (api_Field_24.f k (fieldsOf l c) (fieldsOf l c)).bind fun t => (if t = true then (if x.1 = y.1 then (if x.2.1 = y.2.1 then (if (x.2.2 == y.2.2) = true then (if z.1 = u.1 then (if (z.2 == u.2) = true then ((provisoplain_SameClasses.f k l l).bind fun t => (some t)) else (some false)) else (some false)) else (some false)) else (some false)) else (some false)) else (some false))) (fun k => ?_) ?_
    · simp only [provisolaw02_TypesFields.l1]
      rw [if_neg (by omega)]
    · refine Ev.bind (impl_find' hg c s) (Ev.bind (ref_find hs hg c s) (Ev.bind (impl_parse l hs.1 s) (Ev.bind (ref_parse hg s) (Ev.bind (impl_equal_fields_self (fieldsOf l c) (by omega)) ?_))))
      refine Ev.congr (fun k => ?_) (Ev.bind (impl_same_classes l hs) (Ev.now _))
      simp
  | d + 1, i, f, hd, hf => by
    have ih := more_tells d (i + 1) (f ++ [⟨⟨#[109, 111, 114, 101]⟩, 0⟩]) (by omega) (by rw [List.length_append]; simp; omega)
    have hw : wrap64 ((i : Int) + 1) = ((i + 1 : Nat) : Int) := by unfold wrap64; omega
    refine Ev.step (fun k => ?_) ih
    simp only [provisolaw02_TypesFields.l1]
    rw [if_pos (by omega), if_pos (by omega), hw]
theorem spoil_tells : ∀ (d i : Nat) (f : List S40), i + d = (fieldsOf l c).length → f.length = (fieldsOf l c).length → Ev (fun k => provisolaw02_TypesFields.l0 k l c s l (fieldsOf l c) f (fieldsOf l c) ((fieldsOf l c).length : Int) (i : Int)) true
  | 0, i, f, hd, hf => by
    have h3 := fields_len hg c
    refine Ev.step (fun k => ?_) (more_tells l hs hg c s 40 0 f (by omega) (by omega))
    simp only [provisolaw02_TypesFields.l0]
    rw [if_neg (by omega)]
    rfl
  | d + 1, i, f, hd, hf => by
    have h3 := fields_len hg c
    have ih := spoil_tells d (i + 1) (f.set (i : Int).toNat ⟨⟨#[115, 112, 111, 105, 108, 116]⟩, (rd_T40 f i).f1⟩) (by omega) (by rw [List.length_set]; exact hf)
    have hw : wrap64 ((i : Int) + 1) = ((i + 1 : Nat) : Int) := by unfold wrap64; omega
    refine Ev.step (fun k => ?_) ih
    simp only [provisolaw02_TypesFields.l0]
    rw [if_pos (by omega), if_pos (by omega), if_pos (by omega), hw]
omit hs hg in
theorem TypesFields : provisolaw02_TypesFields.Pure := by
  intro l c s hl _ _
  have hs : Sane l := hl
  apply Ev.rounds
  unfold provisolaw02_TypesFields.f
  refine Ev.bind (ref_made l hs) ?_
  cases hmd : madeB l with
  | false => exact Ev.congr (fun k => by rw [if_neg (by simp)]) (Ev.now _)
  | true =>
    have hg := (madeB_iff l).mp hmd
    have h3 := fields_len hg c
    refine Ev.congr (fun k => by rw [if_pos rfl]) (Ev.bind (impl_classes l hs) (Ev.bind (ref_fields' hs hg c) ?_))
    refine Ev.congr (fun k => by rw [impl_fields' hg c, Option.bind_some, Option.bind_some]) (Ev.bind (impl_equal_fields_self (fieldsOf l c) (by omega)) ?_)
    refine Ev.congr (fun k => by rw [if_pos rfl]) (Ev.bind (impl_equal_fields_self (fieldsOf l c) (by omega)) ?_)
    refine Ev.step (fun k => ?_) (spoil_tells l hs hg c s (fieldsOf l c).length 0 (fieldsOf l c) (by omega) rfl)
    simp only [provisolaw02_TypesFields.j0]
    rw [if_neg (by simp)]
    rfl
end Go.Proofs.Ytghgloepameloaa.Pure

end

section
namespace Go.Proofs.Ytghgloepameloaa.typesFields
open Go.ChangeShapes Go.WideShapes Go.ChangeAt Go.RowKit Go.Proofs.YtghgloepameloaaW.PrintWords Go.Proofs.Ytghgloepameloaa.Sees Go.Proofs.Ytghgloepameloaa.P
open Go.ChangeMaps (open_string shut_string)
set_option linter.unusedVariables false
set_option linter.unusedSimpArgs false
theorem own : ownKnob Try.prog.godebug = none := by kernel_rfl
theorem laidOut : laidOutB Try.prog = true := by kernel_rfl
set_option maxRecDepth 100000 in
theorem lifted (os : Os) (started : os.Started) (H : Type) (enc : TypeId × Value → H) :
    ReturnsInHanded {} Try.checked os 8 .any (Rows.typesFieldsSpec.pre6 enc Try.prog Try.f8 Rows.typesFieldsRow.domain false) (Rows.typesFieldsSpec.post enc Try.prog Try.f8 false true false false) := by
  refine returnsInHanded_of_change_sized (C := Try.checked) own started (by kernel_rfl) Try.func8
    (ChangeSpec.witness6 (enc := enc) (C := Try.checked) false ⟨#[], #[.slice none 0 0, .int .i64 0, .string ByteArray.empty], []⟩ 8 (by kernel_rfl) (by kernel_rfl) (by kernel_rfl) (by kernel_rfl)) ?_
  intro W base args ds gs before hval0 hW hcnd hsz0 _
  have hsz : (DataW.weightsEach Try.prog (Try.f8.params.toList ++ Rows.typesFieldsSpec.plain.varTypes Try.prog) (ds ++ gs)).all (· ≤ reachBytes) = true := hsz0
  have hval : ∀ (j : Nat) t v, Try.f8.params[j]? = some t → args[j]? = some v → Value.okWide Try.prog W .any base t v := hval0
  have hW' := hW
  obtain ⟨p, q, hA0, hV, rfl, hfz, hnd⟩ := hW
  have hA : DataW.TrodAll enc Try.prog W 0 (fun _ => true) true Try.f8.params.toList args.toList ds p := hA0
  rw [Try.params8] at hA hval hsz
  obtain ⟨v0, vs0, d0, ds0, p0, q0, hargs, rfl, rfl, h0, r0⟩ := trodAll_cons hA
  obtain ⟨v1, vs1, d1, ds1, p1, q1, rfl, rfl, rfl, h1, r1⟩ := trodAll_cons r0
  obtain ⟨v2, vs2, d2, ds2, p2, q2, rfl, rfl, rfl, h2, r2⟩ := trodAll_cons r1
  obtain ⟨rfl, rfl, rfl⟩ := trodAll_nil r2
  obtain rfl : args = #[v0, v1, v2] := by cases args; simp_all
  obtain ⟨rfl, rfl⟩ := trodVars_none hV
  have k0 := h0
  have lt0 : ∀ x ∈ p0, x.block < W.heap.size := by obtain ⟨m, hm⟩ := k0; exact DataW.trod_lt m _ _ _ hm
  obtain ⟨y0, hy0, oy0⟩ := see_arg (j := 0) (t := 22) (sees_slice (B := 48) Try.underlying22 (by kernel_rfl) (by kernel_rfl) sees38) hsz rfl rfl h0
  obtain ⟨a0, len0, cap0, rfl⟩ := okWide_slice Try.underlying22 (hval 0 22 v0 rfl rfl)
  obtain ⟨rfl, hc0, hr0⟩ := see_slice rfl hy0
  have k1 := h1
  have lt1 : ∀ x ∈ p1, x.block < W.heap.size := by obtain ⟨m, hm⟩ := k1; exact DataW.trod_lt m _ _ _ hm
  obtain ⟨y1, hy1, oy1⟩ := see_arg (j := 1) (t := 3) (sees_int Try.underlying3) hsz rfl rfl h1
  obtain ⟨z1, rfl, rfl, rfl, _⟩ := open_int Try.underlying3 (hval 1 3 v1 rfl rfl) h1
  obtain rfl : z1 = y1 := by have e_ := hy1; simp [Kd.int, Kd.bool, Kd.string, Kd.scalar, Value.cells] at e_; exact e_
  have k2 := h2
  have lt2 : ∀ x ∈ p2, x.block < W.heap.size := by obtain ⟨m, hm⟩ := k2; exact DataW.trod_lt m _ _ _ hm
  obtain ⟨y2, hy2, oy2⟩ := see_arg (j := 2) (t := 9) (sees_string Try.underlying9) hsz rfl rfl h2
  obtain ⟨z2, rfl, rfl, rfl, _⟩ := open_string Try.underlying9 (hval 2 9 v2 rfl rfl) h2
  obtain rfl : z2 = y2 := by have e_ := hy2; simp [Kd.int, Kd.bool, Kd.string, Kd.scalar, Value.cells] at e_; exact e_
  clear hA0 hval0 hsz0 hsz
  obtain ⟨k, hk⟩ := Pure.TypesFields y0 z1 z2 oy0 oy1 oy2
  refine (provisolaw02_TypesFields.calls k _ _ y0 z1 z2 true W hr0 hc0 hk).mono ?_
  rintro e W' ⟨rfl, bel0⟩
  have bel : Below W.heap.size W W' := bel0
  exact ⟨_, rfl, _, _, _, [], _, [], hW', trodAll_mk1 (shut_bool Try.underlying4 _), (trodAll_cons_mk (Below.trod laidOut (by kernel_rfl) (of_decide_eq_true (by kernel_rfl)) k0 bel lt0) (trodAll_cons_mk (Below.trod laidOut (by kernel_rfl) (of_decide_eq_true (by kernel_rfl)) k1 bel lt1) (trodAll_cons_mk (Below.trod laidOut (by kernel_rfl) (of_decide_eq_true (by kernel_rfl)) k2 bel lt2) trodAll_mk0))), rfl, bel.frame _, fun h => by cases h⟩
theorem over : Rows.typesFieldsRow.holds Try.pinned (OpenSpec.ofChange Rows.typesFieldsSpec) :=
  OpenClaim.holds_of_wide 8 Try.f8 rfl rfl rfl rfl rfl rfl rfl ⟨rfl, rfl, rfl, rfl, rfl⟩ rfl rfl rfl rfl rfl (by kernel_rfl) Try.func8 (by kernel_rfl)
    (of_decide_eq_true (by kernel_rfl)) (by unfold Func.isWrapper; first | (rw [if_pos (by decide +kernel)]; kernel_rfl) | (rw [if_neg (by decide +kernel)]; exact ⟨rfl, rfl⟩))
    (fun os started H enc _ => lifted os started H enc)
theorem proved : Rows.TypesFieldsSaid := over
end Go.Proofs.Ytghgloepameloaa.typesFields
namespace Go.Proofs.Ytghgloepameloaa
theorem typesFields_holds : Rows.TypesFieldsSaid := typesFields.proved
end Go.Proofs.Ytghgloepameloaa

end

