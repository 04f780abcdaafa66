/- The plain theory of tables of classes: words and names of types, there and back. No Go and no memory. -/
import Derived.Test.YtghgloepameloaaTypesTh2
import Derived.Test.YtghgloepameloaaPx5
namespace Go.Proofs.Ytghgloepameloaa.P
open Go.RowKit Go.Proofs.YtghgloepameloaaW.PrintWords Go.Proofs.YtghgloepameloaaW.PrintLast Go.Proofs.YtghgloepameloaaW.PrintMore
set_option linter.unusedVariables false
set_option linter.unusedSimpArgs false

theorem u8_of {a : Int} (h : (Lit.int .u8 a).wf = true) : 0 ≤ a ∧ a ≤ 255 := by
  simp [Lit.wf, IntKind.min, IntKind.max, IntKind.signed, IntKind.bits] at h
  exact h
theorem i64_of {a : Int} (h : (Lit.int .i64 a).wf = true) : -9223372036854775808 ≤ a ∧ a ≤ 9223372036854775807 := by
  simp [Lit.wf, IntKind.min, IntKind.max, IntKind.signed, IntKind.bits] at h
  exact h
theorem law_valid (l : Tbl) (a : Int) (ha : 0 ≤ a ∧ a ≤ 255) : provisolaw02_valid.f l a = some (validB l a) := by
  unfold provisolaw02_valid.f validB
  by_cases h1 : a ≤ 5
  · simp [h1]
  · by_cases h2 : a ≥ 16
    · rw [if_neg h1, if_pos h2, show wrap64 (wrap64 a - 16) = a - 16 by unfold wrap64; omega]
      simp [h1, h2]
    · rw [if_neg h1, if_neg h2]
      simp [h1, h2]
def idxFrom (ws : List ByteArray) (s : ByteArray) : Nat → Nat → Int
  | 0, _ => -1
  | d + 1, i => if s = ws.getD i ByteArray.empty then (i : Int) else idxFrom ws s d (i + 1)
theorem index_tells (ws : List ByteArray) (s : ByteArray) (hw : ws.length ≤ 1000) : ∀ (d i : Nat), ws.length - i = d → i ≤ ws.length → Ev (fun k => slices_Index_string_string.l0 k ws s (ws.length : Int) (i : Int)) (idxFrom ws s d i)
  | 0, i, hd, hi => Ev.step (f := fun _ => some (-1)) (fun k => by simp only [slices_Index_string_string.l0]; rw [if_neg (by omega)]) (Ev.now _)
  | d + 1, i, hd, hi => by
    have ih := index_tells ws s hw d (i + 1) (by omega) (by omega)
    unfold idxFrom
    have hrd : rdOf ByteArray.empty ws ((i : Nat) : Int) = ws.getD i ByteArray.empty := by simp [rdOf]
    by_cases e : s = ws.getD i ByteArray.empty
    · rw [if_pos e]
      exact Ev.step (f := fun _ => some _) (fun k => by simp only [slices_Index_string_string.l0]; rw [if_pos (by omega), if_pos (by omega), if_pos (by omega), hrd, if_pos ((str_eq _ _).mpr e)]) (Ev.now _)
    · rw [if_neg e]
      refine Ev.step (fun k => ?_) ih
      simp only [slices_Index_string_string.l0]
      rw [if_pos (by omega), if_pos (by omega), if_pos (by omega), hrd, if_neg (fun h9 => e ((str_eq _ _).mp h9)), w_next (n := ws.length) (by omega) (by omega) (by omega)]
      rfl
theorem words_is : types_words.f = some words6 := rfl
theorem index_words (s : ByteArray) : Ev (fun k => slices_Index_string_string.f k words6 s) (idxFrom words6 s 6 0) := index_tells words6 s (by decide) 6 0 (by decide) (by decide)
theorem idx_not (s : ByteArray) (h : isWordB s = false) : idxFrom words6 s 6 0 = -1 := by
  unfold isWordB at h
  rw [List.any_eq_false] at h
  have g : ∀ t ∈ words6, ¬ s = t := fun t ht e => by
    have := h t ht
    simp [e] at this
  have g0 := g _ (List.getElem_mem (l := words6) (n := 0) (by decide))
  have g1 := g _ (List.getElem_mem (l := words6) (n := 1) (by decide))
  have g2 := g _ (List.getElem_mem (l := words6) (n := 2) (by decide))
  have g3 := g _ (List.getElem_mem (l := words6) (n := 3) (by decide))
  have g4 := g _ (List.getElem_mem (l := words6) (n := 4) (by decide))
  have g5 := g _ (List.getElem_mem (l := words6) (n := 5) (by decide))
  simp only [idxFrom]
  rw [if_neg (show ¬ s = words6.getD 0 ByteArray.empty from g0), if_neg (show ¬ s = words6.getD (0 + 1) ByteArray.empty from g1), if_neg (show ¬ s = words6.getD (0 + 1 + 1) ByteArray.empty from g2), if_neg (show ¬ s = words6.getD (0 + 1 + 1 + 1) ByteArray.empty from g3), if_neg (show ¬ s = words6.getD (0 + 1 + 1 + 1 + 1) ByteArray.empty from g4), if_neg (show ¬ s = words6.getD (0 + 1 + 1 + 1 + 1 + 1) ByteArray.empty from g5)]
theorem idx_word : ∀ i : Nat, i < 6 → idxFrom words6 (words6.getD i ByteArray.empty) 6 0 = i := by decide
/-- The first class of a name, from i on. -/
def classFrom (l : Tbl) (s : ByteArray) : Nat → Int → Int × Bool
  | 0, _ => (0, false)
  | d + 1, i => if nam l i = s ∧ i < 240 then ((16 + i % 256) % 256, true) else classFrom l s d (i + 1)
theorem parse_tells (l : Tbl) (hl : l.length ≤ 9223372036854775807) (s : ByteArray) : ∀ (d : Nat) (i : Int), 0 ≤ i → (l.length : Int) - i = d → Ev (fun k => types_Parse.l0 k l s (l.length : Int) i) (classFrom l s d i)
  | 0, i, h0, hd => Ev.step (f := fun _ => some _) (fun k => by simp only [types_Parse.l0]; rw [if_neg (by omega)]; rfl) (Ev.now _)
  | d + 1, i, h0, hd => by
    have ih := parse_tells l hl s d (i + 1) (by omega) (by omega)
    have hw : wrap64 (i + 1) = i + 1 := by unfold wrap64; omega
    unfold classFrom
    by_cases e : nam l i = s
    · by_cases h240 : i < 240
      · rw [if_pos ⟨e, h240⟩]
        exact Ev.step (f := fun _ => some _) (fun k => by simp only [types_Parse.l0]; rw [if_pos (by omega), if_pos (by omega), if_pos (by omega), if_pos ((nam_eq l _ _).mpr e), if_pos h240]) (Ev.now _)
      · rw [if_neg (fun h => h240 h.2)]
        refine Ev.step (fun k => ?_) ih
        simp only [types_Parse.l0]
        rw [if_pos (by omega), if_pos (by omega), if_pos (by omega), if_pos ((nam_eq l _ _).mpr e), if_neg h240, hw]
    · rw [if_neg (fun h => e h.1)]
      refine Ev.step (fun k => ?_) ih
      simp only [types_Parse.l0]
      rw [if_pos (by omega), if_pos (by omega), if_pos (by omega), if_neg (fun h9 => e ((nam_eq l _ _).mp h9)), hw]
def parseB (l : Tbl) (s : ByteArray) : Int × Bool := if idxFrom words6 s 6 0 ≥ 0 then (idxFrom words6 s 6 0 % 256, true) else classFrom l s l.length 0
theorem impl_parse (l : Tbl) (hl : l.length ≤ 9223372036854775807) (s : ByteArray) : Ev (fun k => types_Parse.f k l s) (parseB l s) := by
  refine Ev.congr (f := fun k => (slices_Index_string_string.f k words6 s).bind fun t150 => (if t150 ≥ 0 then (some ((t150) % 256, true)) else (types_Parse.l0 k l s (l.length : Int) 0))) (fun k => rfl) ?_
  refine Ev.bind (f := fun k t150 => (if t150 ≥ 0 then (some ((t150) % 256, true)) else (types_Parse.l0 k l s (l.length : Int) 0))) (index_words s) ?_
  unfold parseB
  by_cases h : idxFrom words6 s 6 0 ≥ 0
  · rw [if_pos h]
    exact Ev.congr (f := fun _ => some _) (fun k => by rw [if_pos h]) (Ev.now _)
  · rw [if_neg h]
    exact Ev.congr (fun k => by rw [if_neg h]) (parse_tells l hl s l.length 0 (by omega) (by omega))
theorem classFrom_at (l : Tbl) (s : ByteArray) (c : Int) (hc : c < 240) (hn : nam l c = s) : ∀ (d : Nat) (i : Int), 0 ≤ i → i ≤ c → c < i + d → (∀ j : Int, i ≤ j → j < c → nam l j ≠ s) → classFrom l s d i = (16 + c, true)
  | 0, i, _, h1, h2, _ => by omega
  | d + 1, i, h0, h1, h2, h3 => by
    unfold classFrom
    by_cases e : i = c
    · rw [if_pos ⟨by rw [e]; exact hn, by omega⟩, e]
      congr 1
      omega
    · rw [if_neg (fun h => h3 i (by omega) (by omega) h.1)]
      exact classFrom_at l s c hc hn d (i + 1) (by omega) (by omega) (by omega) (fun j hj => h3 j (by omega))
/-- The word of a valid type. -/
def printB (l : Tbl) (a : Int) : ByteArray := if a ≤ 5 then words6.getD a.toNat ByteArray.empty else if validB l a = true then nam l (a - 16) else ⟨#[]⟩
theorem impl_print (l : Tbl) (a : Int) (ha : 0 ≤ a ∧ a ≤ 255) : types_Print.f l a = some (printB l a) := by
  unfold types_Print.f printB
  by_cases h1 : a ≤ 5
  · rw [if_pos h1, if_pos h1, words_is]
    show (if 0 ≤ a then (if a < (6 : Int) then some (rdOf ByteArray.empty words6 a) else none) else none) = _
    rw [if_pos ha.1, if_pos (by omega)]
    rfl
  · rw [if_neg h1, if_neg h1]
    unfold types_class.f validB
    by_cases h2 : a < 16
    · rw [if_pos h2]
      simp [h1, show ¬ 16 ≤ a by omega]
    · rw [if_neg h2, show (a - 16) % 256 = a - 16 by omega]
      by_cases h3 : a - 16 ≥ (l.length : Int)
      · rw [if_pos h3]
        simp [h1, show ¬ a - 16 < (l.length : Int) by omega]
      · rw [if_neg h3]
        simp only [Option.bind_some]
        rw [if_pos (by omega), if_pos (by omega), if_pos (by omega)]
        simp [h1, show 16 ≤ a by omega, show a - 16 < (l.length : Int) by omega]
        rfl
theorem Good.nameOk {l : Tbl} (h : Good l) {c : Int} (h0 : 0 ≤ c) (h1 : c < (l.length : Int)) : nameOk (nam l c) = true ∧ isWordB (nam l c) = false :=
  ⟨(fault_zero (h c h0 h1)).2.1, (fault_zero (h c h0 h1)).2.2.1⟩
theorem parse_print {l : Tbl} (h : Good l) (a : Int) (ha : 0 ≤ a ∧ a ≤ 255) (hv : validB l a = true) : parseB l (printB l a) = (a, true) ∧ printB l a ≠ ⟨#[]⟩ := by
  unfold printB
  by_cases h1 : a ≤ 5
  · rw [if_pos h1]
    have hi := idx_word a.toNat (by omega)
    unfold parseB
    rw [hi, if_pos (by omega)]
    refine ⟨by congr 1; omega, ?_⟩
    have : ∀ i : Nat, i < 6 → words6.getD i ByteArray.empty ≠ ⟨#[]⟩ := by decide
    exact this a.toNat (by omega)
  · rw [if_neg h1, if_pos hv]
    have hr : 0 ≤ a - 16 ∧ a - 16 < (l.length : Int) := by
      unfold validB at hv
      simp [h1] at hv
      omega
    have hs := h.short
    obtain ⟨hn, hw⟩ := h.nameOk hr.1 hr.2
    unfold parseB
    rw [idx_not _ hw, if_neg (by omega)]
    constructor
    · rw [classFrom_at l _ (a - 16) (by omega) rfl l.length 0 (by omega) (by omega) (by omega) (fun j h0 h2 => h.names h0 h2 hr.2)]
      congr 1
      omega
    · intro e
      rw [e] at hn
      revert hn
      decide
end Go.Proofs.Ytghgloepameloaa.P
