/- The plain theory of tables of classes, over the printed functions: names, lines, fields, and what provisoref02.Check tells. No Go and no memory. -/
import Derived.Test.YtghgloepameloaaPx5
import Derived.Test.YtghgloepameloaaPx4
import Derived.Test.YtghgloepameloaaPx2
import Derived.Test.YtghgloepameloaaPx6
import Derived.Test.YtghgloepameloaaOkayP
namespace Go.Proofs.Ytghgloepameloaa.P
open Go.RowKit Go.Proofs.YtghgloepameloaaW.PrintWords Go.Proofs.YtghgloepameloaaW.PrintLast Go.Proofs.YtghgloepameloaaW.PrintMore
set_option linter.unusedVariables false
set_option linter.unusedSimpArgs false

theorem w_next {i : Int} {n : Nat} (h0 : 0 ≤ i) (h : i < (n : Int)) (hn : n ≤ 9223372036854775807) : wrap64 (i + 1) = i + 1 := by
  unfold wrap64
  omega

/-! names -/
/-- May the sign c stand at the place i of a name? -/
def sign (i c : Int) : Bool :=
  (decide (97 ≤ c) && decide (c ≤ 122)) || (decide (65 ≤ c) && decide (c ≤ 90)) || (decide (0 < i) && ((decide (48 ≤ c) && decide (c ≤ 57)) || decide (c = 95)))
/-- The last d signs of s may stand there. -/
def tailOk (s : ByteArray) : Nat → Bool
  | 0 => true
  | d + 1 => sign ((s.size : Int) - (d + 1)) (bt s ((s.size : Int) - (d + 1))) && tailOk s d
def nameOk (s : ByteArray) : Bool := decide (1 ≤ s.size) && decide (s.size ≤ 24) && tailOk s s.size
theorem ref_name_tail (s : ByteArray) (hn : s.size ≤ 140737488351232) (d : Nat) : ∀ (i : Int), 0 ≤ i → i ≤ s.size → (s.size : Int) - i = d → Ev (fun k => provisoref02_IsName.l0 k s i) (tailOk s d) := by
  induction d with
  | zero =>
    intro i h0 h1 hd
    exact Ev.step (f := fun _ => some true) (fun k => by simp only [provisoref02_IsName.l0]; rw [if_neg (by omega)]) (Ev.now _)
  | succ d ih =>
    intro i h0 h1 hd
    have hlt : i < (s.size : Int) := by omega
    have hi : (s.size : Int) - (d + 1) = i := by omega
    have h := ih (i + 1) (by omega) (by omega) (by omega)
    cases hs : sign i (bt s i) with
    | true =>
      refine Ev.step (fun k => ?_) (show Ev _ (tailOk s (d + 1)) from by simp only [tailOk, hi, hs, Bool.true_and]; exact h)
      simp only [provisoref02_IsName.l0]
      rw [if_pos hlt, if_pos h0, w_next h0 hlt (by omega)]
      revert hs
      generalize bt s i = c
      intro hs
      by_cases a1 : 97 ≤ c <;> by_cases a2 : c ≤ 122 <;> by_cases a3 : 65 ≤ c <;> by_cases a4 : c ≤ 90 <;> by_cases a5 : i = 0 <;> by_cases a6 : c < 48 <;> by_cases a7 : 57 < c <;> by_cases a8 : c = 95 <;> (try omega) <;> (have a9 : 0 < i ∨ i = 0 := by omega) <;> simp [sign, a1, a2, a3, a4, a5, a6, a7, a8] at hs ⊢ <;> omega
    | false =>
      refine Ev.step (f := fun _ => some false) (fun k => ?_) (show Ev _ (tailOk s (d + 1)) from by simp only [tailOk, hi, hs, Bool.false_and]; exact Ev.now _)
      simp only [provisoref02_IsName.l0]
      rw [if_pos hlt, if_pos h0, w_next h0 hlt (by omega)]
      revert hs
      generalize bt s i = c
      intro hs
      by_cases a1 : 97 ≤ c <;> by_cases a2 : c ≤ 122 <;> by_cases a3 : 65 ≤ c <;> by_cases a4 : c ≤ 90 <;> by_cases a5 : i = 0 <;> by_cases a6 : c < 48 <;> by_cases a7 : 57 < c <;> by_cases a8 : c = 95 <;> (try omega) <;> (have a9 : 0 < i ∨ i = 0 := by omega) <;> simp [sign, a1, a2, a3, a4, a5, a6, a7, a8] at hs ⊢ <;> omega
theorem ref_name (s : ByteArray) (hn : s.size ≤ 140737488351232) : Ev (fun k => provisoref02_IsName.f k s) (nameOk s) := by
  have h := ref_name_tail s hn s.size 0 (by omega) (by omega) (by omega)
  by_cases a1 : (s.size : Int) < 1
  · have e : nameOk s = false := by unfold nameOk; rw [decide_eq_false (by omega)]; simp
    rw [e]
    refine Ev.congr (f := fun k => provisoref02_IsName.j0 k s true) (fun k => by unfold provisoref02_IsName.f; rw [if_pos a1]) ?_
    exact Ev.step (f := fun _ => some false) (fun k => by simp only [provisoref02_IsName.j0]; rfl) (Ev.now _)
  · refine Ev.congr (f := fun k => provisoref02_IsName.j0 k s (decide ((s.size : Int) > 24))) (fun k => by unfold provisoref02_IsName.f; rw [if_neg a1]) ?_
    by_cases a2 : (s.size : Int) > 24
    · have e : nameOk s = false := by unfold nameOk; rw [decide_eq_false (p := s.size ≤ 24) (by omega)]; simp
      rw [e]
      exact Ev.step (f := fun _ => some false) (fun k => by simp only [provisoref02_IsName.j0]; simp [a2]) (Ev.now _)
    · have e : nameOk s = tailOk s s.size := by unfold nameOk; rw [decide_eq_true (p := s.size ≤ 24) (by omega), decide_eq_true (p := 1 ≤ s.size) (by omega)]; simp
      rw [e]
      exact Ev.step (fun k => by simp only [provisoref02_IsName.j0]; simp [a2]) h

/-! words -/
theorem str_eq (a b : ByteArray) : a.toList = b.toList ↔ a = b :=
  ⟨fun h => by rw [ByteArray.toList_eq, ByteArray.toList_eq] at h; exact Go.WideShapes.bytes_inj h, fun h => by rw [h]⟩
def words6 : List ByteArray := [⟨#[116, 111, 112]⟩, ⟨#[105, 110, 116]⟩, ⟨#[98, 111, 111, 108]⟩, ⟨#[110, 117, 108, 108]⟩, ⟨#[105, 110, 116, 115]⟩, ⟨#[97, 110, 121]⟩]
def isWordB (s : ByteArray) : Bool := words6.any fun t => decide (t = s)
theorem ref_word (s : ByteArray) : Ev (fun k => provisoref02_isWord.f k s) (isWordB s) := by
  have step : ∀ (x : Int) (t : ByteArray) (r : Bool), 0 ≤ x → x ≤ 5 → provisoref02_word.f x = some t → Ev (fun k => provisoref02_isWord.l0 k s (x + 1)) r → Ev (fun k => provisoref02_isWord.l0 k s x) (decide (t = s) || r) := by
    intro x t r h0 h5 ht h
    by_cases e : t = s
    · rw [decide_eq_true e, Bool.true_or]
      exact Ev.step (f := fun _ => some true) (fun k => by simp only [provisoref02_isWord.l0]; rw [if_pos (by omega), ht]; simp [e]) (Ev.now _)
    · rw [decide_eq_false e, Bool.false_or]
      refine Ev.step (fun k => ?_) h
      simp only [provisoref02_isWord.l0]
      rw [if_pos (by omega), ht]
      simp only [Option.bind_some, str_eq]
      rw [if_neg e, show (x + 1) % 256 = x + 1 from by omega]
  have h6 : Ev (fun k => provisoref02_isWord.l0 k s 6) false := Ev.step (f := fun _ => some false) (fun k => by simp only [provisoref02_isWord.l0]; rw [if_neg (by omega)]) (Ev.now _)
  have h := step 0 _ _ (by omega) (by omega) rfl (step 1 _ _ (by omega) (by omega) rfl (step 2 _ _ (by omega) (by omega) rfl (step 3 _ _ (by omega) (by omega) rfl (step 4 _ _ (by omega) (by omega) rfl (step 5 _ _ (by omega) (by omega) rfl h6)))))
  exact h

/-! lines and fields -/
abbrev Tbl := List S38
def par (l : Tbl) (c : Int) : Int := (rd_T38 l c).f1
def nam (l : Tbl) (c : Int) : ByteArray := (rd_T38 l c).f0
def own (l : Tbl) (c : Int) : List S40 := (rd_T38 l c).f2
/-- Parents stand ahead, of all classes below n. -/
def Dec (l : Tbl) (n : Int) : Prop := ∀ i : Int, 0 ≤ i → i < n → par l i < i
def fieldsOf (l : Tbl) (c : Int) : List S40 := (climbL l c).reverse.flatMap fun i => own l i
theorem line_tells (l : Tbl) (n : Int) (hn : n ≤ l.length) (hl : l.length * 48 ≤ 140737488351232) (hd : Dec l n) : ∀ (d : Nat) (c : Int) (acc : List Int), c < n → (c + 1).toNat ≤ d → (acc.length : Int) + c < l.length → acc.length ≤ l.length →
    Ev (fun k => provisoref02_Line.l0 k l c acc) (acc ++ climbL l c)
  | 0, c, acc, _, h, _, _ => by
    rw [climbL_out l c (by omega), List.append_nil]
    exact Ev.step (f := fun _ => some acc) (fun k => by simp only [provisoref02_Line.l0]; rw [if_neg (by omega)]) (Ev.now _)
  | d + 1, c, acc, hc, hcd, ha, ha2 => by
    by_cases h0 : 0 ≤ c
    · have hp := hd c h0 hc
      have hcl : c < (l.length : Int) := by omega
      rw [climbL_in l c h0 hcl hp]
      have hx := line_tells l n hn hl hd d (par l c) (acc ++ [c]) (by omega) (by omega) (by simp; omega) (by simp; omega)
      rw [List.append_assoc] at hx
      refine Ev.step (fun k => ?_) hx
      simp only [provisoref02_Line.l0]
      rw [if_pos h0, if_pos hcl, if_pos (by omega), if_pos (by omega), if_pos h0]
      rfl
    · rw [climbL_out l c (by omega), List.append_nil]
      exact Ev.step (f := fun _ => some acc) (fun k => by simp only [provisoref02_Line.l0]; rw [if_neg (by omega)]) (Ev.now _)
theorem ref_line (l : Tbl) (n : Int) (hn : n ≤ l.length) (hl : l.length * 48 ≤ 140737488351232) (hd : Dec l n) (c : Int) (hc : c < n) : Ev (fun k => provisoref02_Line.f k l c) (climbL l c) := by
  by_cases h0 : l.length = 0
  · rw [climbL_out l c (by omega)]
    refine Ev.congr (f := fun k => provisoref02_Line.l0 k l c []) (fun k => rfl) ?_
    exact Ev.step (f := fun _ => some []) (fun k => by simp only [provisoref02_Line.l0]; rw [if_neg (by omega)]) (Ev.now _)
  · have := line_tells l n hn hl hd (c + 1).toNat c [] hc (Nat.le_refl _) (by simp; omega) (by simp)
    rw [List.nil_append] at this
    exact this
/-- The fields of a line's last ones, from its end on: d are left to lay. -/
theorem fields_tells (l : Tbl) (line : List Int) (hm : ∀ x ∈ line, 0 ≤ x ∧ x < (l.length : Int)) (hl : l.length * 48 ≤ 140737488351232) (hll : line.length ≤ l.length) (hlim : (line.reverse.flatMap fun i => own l i).length < 5864062014805) : ∀ (d : Nat), d ≤ line.length →
    Ev (fun k => provisoref02_Fields.l0 k l line ((line.drop d).reverse.flatMap fun i => own l i) ((d : Int) - 1)) (line.reverse.flatMap fun i => own l i)
  | 0, _ => by
    rw [List.drop_zero]
    exact Ev.step (f := fun _ => some _) (fun k => by simp only [provisoref02_Fields.l0]; rw [if_neg (by omega)]) (Ev.now _)
  | d + 1, hd => by
    have ih := fields_tells l line hm hl hll hlim d (by omega)
    have hrd : rd line ((d : Nat) : Int) = line[d]'(by omega) := by simp [rd, List.getD_eq_getElem?_getD, show d < line.length by omega]
    have hmd := hm (line[d]'(by omega)) (List.getElem_mem _)
    have e1 : ((line.drop d).reverse.flatMap fun i => own l i) = ((line.drop (d + 1)).reverse.flatMap fun i => own l i) ++ own l (line[d]'(by omega)) := by
      rw [List.drop_eq_getElem_cons (by omega), List.reverse_cons, List.flatMap_append]
      simp
    have hle : ((line.drop d).reverse.flatMap fun i => own l i).length ≤ (line.reverse.flatMap fun i => own l i).length := by
      have : line = line.take d ++ line.drop d := by simp
      conv => rhs; rw [this, List.reverse_append, List.flatMap_append, List.length_append]
      omega
    rw [e1] at ih hle
    rw [List.length_append] at hle
    refine Ev.step (fun k => ?_) ih
    simp only [provisoref02_Fields.l0]
    rw [show ((d + 1 : Nat) : Int) - 1 = (d : Int) by omega, hrd, if_pos (by omega), if_pos (by omega), if_pos (by omega), if_pos hmd.1, if_pos hmd.2]
    rw [if_pos (by unfold own at hle hlim ⊢; omega), show wrap64 ((d : Int) - 1) = (d : Int) - 1 by unfold wrap64; omega]
    rfl
theorem ref_fields (l : Tbl) (n : Int) (hn : n ≤ l.length) (hl : l.length * 48 ≤ 140737488351232) (hd : Dec l n) (c : Int) (hc : c < n) (hlim : (fieldsOf l c).length < 5864062014805) : Ev (fun k => provisoref02_Fields.f k l c) (fieldsOf l c) := by
  have hll := climbL_length l c
  have h := fields_tells l (climbL l c) (climbL_mem l c) hl hll hlim (climbL l c).length (Nat.le_refl _)
  rw [List.drop_length, List.reverse_nil, List.flatMap_nil] at h
  refine Ev.congr (fun k => rfl) (Ev.bind (ref_line l n hn hl hd c hc) (f := fun k t => provisoref02_Fields.l0 k l t [] (wrap64 ((t.length : Int) - 1))) ?_)
  rw [show wrap64 (((climbL l c).length : Int) - 1) = ((climbL l c).length : Int) - 1 by unfold wrap64; omega]
  exact h

/-! names among fields; what may be stored -/
def hasB (fs : List S40) (s : ByteArray) : Bool := fs.any fun f => decide (f.f0 = s)
theorem has_tells (fs : List S40) (s : ByteArray) (hl : fs.length ≤ 9223372036854775807) : ∀ (d i : Nat), fs.length - i = d → i ≤ fs.length → Ev (fun k => provisoref02_has.l0 k fs s (i : Int)) (hasB (fs.drop i) s)
  | 0, i, hd, hi => by
    rw [List.drop_of_length_le (by omega)]
    exact Ev.step (f := fun _ => some false) (fun k => by simp only [provisoref02_has.l0]; rw [if_neg (by omega)]) (Ev.now _)
  | d + 1, i, hd, hi => by
    have ih := has_tells fs s hl d (i + 1) (by omega) (by omega)
    have hlt : i < fs.length := by omega
    have hrd : rd_T40 fs ((i : Nat) : Int) = fs[i] := by simp [rd_T40, List.getD_eq_getElem?_getD, hlt]
    rw [List.drop_eq_getElem_cons hlt]
    by_cases e : fs[i].f0 = s
    · have e2 : hasB (fs[i] :: fs.drop (i + 1)) s = true := by unfold hasB; rw [List.any_cons, decide_eq_true e, Bool.true_or]
      rw [e2]
      exact Ev.step (f := fun _ => some true) (fun k => by simp only [provisoref02_has.l0]; rw [if_pos (by omega), if_pos (by omega), hrd]; simp [e]) (Ev.now _)
    · have e2 : hasB (fs[i] :: fs.drop (i + 1)) s = hasB (fs.drop (i + 1)) s := by unfold hasB; rw [List.any_cons, decide_eq_false e, Bool.false_or]
      rw [e2]
      refine Ev.step (fun k => ?_) ih
      simp only [provisoref02_has.l0]
      rw [if_pos (by omega), if_pos (by omega), hrd, if_neg (by rw [str_eq]; exact e), w_next (n := fs.length) (by omega) (by omega) hl]
      rfl
theorem ref_has (fs : List S40) (s : ByteArray) (hl : fs.length ≤ 9223372036854775807) : Ev (fun k => provisoref02_has.f k fs s) (hasB fs s) := by
  have := has_tells fs s hl fs.length 0 (by omega) (by omega)
  rw [List.drop_zero] at this
  exact this
def validB (l : Tbl) (a : Int) : Bool := decide (a ≤ 5) || (decide (16 ≤ a) && decide (a - 16 < (l.length : Int)))
theorem ref_valid (l : Tbl) (a : Int) (ha : 0 ≤ a ∧ a ≤ 255) : provisoref02_Valid.f l a = some (validB l a) := by
  unfold provisoref02_Valid.f validB
  by_cases h1 : a ≤ 5
  · simp [h1]
  · by_cases h2 : a ≥ 16
    · rw [if_neg h1, if_pos h2, show (a - 16) % 256 = a - 16 by omega]
      simp [h1, h2]
    · rw [if_neg h1, if_neg h2]
      simp [h1, h2]
def storedB (l : Tbl) (a : Int) : Bool := validB l a && decide (a ≠ 0) && decide (a ≠ 3)
theorem ref_stored (l : Tbl) (a : Int) (ha : 0 ≤ a ∧ a ≤ 255) : provisoref02_Stored.f l a = some (storedB l a) := by
  unfold provisoref02_Stored.f storedB
  rw [ref_valid l a ha]
  simp only [Option.bind_some]
  cases validB l a <;> by_cases h0 : a = 0 <;> by_cases h3 : a = 3 <;> simp [h0, h3]
end Go.Proofs.Ytghgloepameloaa.P
