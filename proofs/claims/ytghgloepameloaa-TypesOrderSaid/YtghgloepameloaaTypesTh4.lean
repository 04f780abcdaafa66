/- The plain theory of tables of classes: the order, merging and ranks of types over a table that may be. No Go and no memory. -/
import Derived.Test.YtghgloepameloaaTypesTh3
import Derived.Test.YtghgloepameloaaPx6
import Derived.Test.YtghgloepameloaaPx8
import Derived.Test.YtghgloepameloaaPx10
namespace Go.Proofs.Ytghgloepameloaa.P
open Go.RowKit Go.Proofs.YtghgloepameloaaW.PrintWords Go.Proofs.YtghgloepameloaaW.PrintLast Go.Proofs.YtghgloepameloaaW.PrintMore
set_option linter.unusedVariables false
set_option linter.unusedSimpArgs false

/-! lines, of a table whose parents stand ahead -/
theorem climb_self (l : Tbl) (x : Int) (h0 : 0 ≤ x) (h1 : x < (l.length : Int)) : x ∈ climbL l x := by
  unfold climbL
  rw [climbF, if_pos ⟨h0, h1⟩]
  exact List.mem_cons_self
/-- What is of x's line lies behind something in it. -/
theorem climb_suffix {l : Tbl} (hd : Dec l l.length) : ∀ (d : Nat) (x y : Int), (x + 1).toNat ≤ d → y ∈ climbL l x → ∃ pre, climbL l x = pre ++ climbL l y
  | 0, x, y, h, hm => by
    rw [climbL_out l x (by omega)] at hm
    cases hm
  | d + 1, x, y, h, hm => by
    by_cases hx : 0 ≤ x ∧ x < (l.length : Int)
    · have hp := hd x hx.1 hx.2
      rw [climbL_in l x hx.1 hx.2 hp] at hm ⊢
      rcases List.mem_cons.1 hm with rfl | hm
      · exact ⟨[], by rw [climbL_in l y hx.1 hx.2 hp]; rfl⟩
      · obtain ⟨pre, e⟩ := climb_suffix hd d _ y (by unfold par at hp; omega) hm
        exact ⟨x :: pre, by rw [e]; rfl⟩
    · rw [climbL_out l x hx] at hm
      cases hm
theorem climb_trans {l : Tbl} (hd : Dec l l.length) {x y z : Int} (h1 : y ∈ climbL l x) (h2 : z ∈ climbL l y) : z ∈ climbL l x := by
  obtain ⟨pre, e⟩ := climb_suffix hd _ x y (Nat.le_refl _) h1
  rw [e]
  exact List.mem_append_right _ h2
theorem climb_le {l : Tbl} (hd : Dec l l.length) : ∀ (d : Nat) (x y : Int), (x + 1).toNat ≤ d → y ∈ climbL l x → y ≤ x
  | 0, x, y, h, hm => by
    rw [climbL_out l x (by omega)] at hm
    cases hm
  | d + 1, x, y, h, hm => by
    by_cases hx : 0 ≤ x ∧ x < (l.length : Int)
    · have hp := hd x hx.1 hx.2
      rw [climbL_in l x hx.1 hx.2 hp] at hm
      rcases List.mem_cons.1 hm with rfl | hm
      · exact Int.le_refl _
      · have := climb_le hd d _ y (by unfold par at hp; omega) hm
        unfold par at hp
        omega
    · rw [climbL_out l x hx] at hm
      cases hm
theorem climb_antisymm {l : Tbl} (hd : Dec l l.length) {x y : Int} (h1 : y ∈ climbL l x) (h2 : x ∈ climbL l y) : x = y := by
  have a := climb_le hd _ x y (Nat.le_refl _) h1
  have b := climb_le hd _ y x (Nat.le_refl _) h2
  omega
theorem climb_shorter {l : Tbl} (hd : Dec l l.length) {x y : Int} (h1 : y ∈ climbL l x) (hne : x ≠ y) : (climbL l y).length < (climbL l x).length := by
  obtain ⟨pre, e⟩ := climb_suffix hd _ x y (Nat.le_refl _) h1
  have hx := climbL_mem l x
  cases pre with
  | nil =>
    exfalso
    rw [List.nil_append] at e
    have hy := climbL_mem l x y h1
    have hxx : x ∈ climbL l x := by
      by_cases h : 0 ≤ x ∧ x < (l.length : Int)
      · exact climb_self l x h.1 h.2
      · rw [climbL_out l x h] at h1; cases h1
    rw [e] at hxx
    exact hne (climb_antisymm hd h1 hxx)
  | cons a pre =>
    rw [e]
    simp
    omega

/-! Valid, Sub -/
theorem class_valid (l : Tbl) (a : Int) (ha : 0 ≤ a ∧ a ≤ 255) : classOf l a = if 16 ≤ a ∧ a - 16 < (l.length : Int) then a - 16 else -1 := by
  unfold classOf
  by_cases h1 : a < 16
  · rw [if_pos h1, if_neg (by omega)]
  · rw [if_neg h1, show (a - 16) % 256 = a - 16 by omega]
    by_cases h2 : a - 16 ≥ (l.length : Int)
    · rw [if_pos h2, if_neg (by omega)]
    · rw [if_neg h2, if_pos (by omega)]
theorem impl_valid (l : Tbl) (a : Int) (ha : 0 ≤ a ∧ a ≤ 255) : types_Valid.f l a = some (validB l a) := by
  unfold types_Valid.f validB
  by_cases h1 : a ≤ 5
  · simp [h1]
  · rw [if_neg h1, class_is, class_valid l a ha]
    by_cases h2 : 16 ≤ a ∧ a - 16 < (l.length : Int)
    · rw [if_pos h2]
      simp [h1, h2.1, h2.2]
    · rw [if_neg h2]
      simp [h1]
      omega
def subB (l : Tbl) (a b : Int) : Bool :=
  if validB l a = true ∧ validB l b = true then (if a = b then true else if b = 0 then true else if a = 3 ∨ b = 5 then isRefB a && isRefB b else if 0 ≤ classOf l a ∧ 0 ≤ classOf l b then decide (classOf l b ∈ climbL l (classOf l a)) else false) else false
theorem impl_sub (l : Tbl) (a b : Int) (ha : 0 ≤ a ∧ a ≤ 255) (hb : 0 ≤ b ∧ b ≤ 255) (k : Nat) : types_Sub.f (k + 3) l a b = some (subB l a b) := by
  unfold types_Sub.f subB
  rw [impl_valid l a ha, impl_valid l b hb]
  simp only [Option.bind_some, types_Sub.j0, types_Sub.j1, types_Sub.j2, isRef_is, class_is, types_above.f]
  cases validB l a with
  | false => simp
  | true =>
    cases validB l b with
    | false => simp
    | true =>
      by_cases e1 : a = b
      · simp [e1]
      · by_cases e2 : b = 0
        · simp [e1, e2]
        · by_cases e3 : a = 3
          · cases hra : isRefB a <;> cases hrb : isRefB b <;> simp [e1, e2, e3, hra, hrb] <;> simp_all
          · by_cases e5 : b = 5
            · cases hra : isRefB a <;> cases hrb : isRefB b <;> simp [e1, e2, e3, e5, hra, hrb] <;> simp_all
            · by_cases g1 : 0 ≤ classOf l a <;> by_cases g2 : 0 ≤ classOf l b <;> simp [e1, e2, e3, e5, g1, g2] <;> omega

/-! the order -/
/-- The kinds of valid types: not a class, or one. -/
theorem valid_cases {l : Tbl} {a : Int} (ha : 0 ≤ a ∧ a ≤ 255) (h : validB l a = true) : (a ≤ 5 ∧ classOf l a = -1) ∨ (16 ≤ a ∧ a - 16 < (l.length : Int) ∧ classOf l a = a - 16) := by
  unfold validB at h
  rw [class_valid l a ha]
  simp at h
  rcases h with h | ⟨h1, h2⟩
  · exact .inl ⟨h, by rw [if_neg (by omega)]⟩
  · exact .inr ⟨h1, by omega, by rw [if_pos (by omega)]⟩
theorem sub_iff (l : Tbl) (a b : Int) : subB l a b = true ↔ validB l a = true ∧ validB l b = true ∧ (a = b ∨ b = 0 ∨ ((a = 3 ∨ b = 5) ∧ isRefB a = true ∧ isRefB b = true) ∨ (¬ (a = 3 ∨ b = 5) ∧ 0 ≤ classOf l a ∧ 0 ≤ classOf l b ∧ classOf l b ∈ climbL l (classOf l a))) := by
  unfold subB
  by_cases h : validB l a = true ∧ validB l b = true
  · rw [if_pos h]
    by_cases e1 : a = b
    · simp [e1, h.2]
    · rw [if_neg e1]
      by_cases e2 : b = 0
      · simp [e2, h.1]
        rw [← e2]; exact h.2
      · rw [if_neg e2]
        by_cases e3 : a = 3 ∨ b = 5
        · rw [if_pos e3]
          simp [h.1, h.2, e1, e2, e3]
        · rw [if_neg e3]
          by_cases g : 0 ≤ classOf l a ∧ 0 ≤ classOf l b
          · rw [if_pos g]
            simp [h.1, h.2, e1, e2, e3, g.1, g.2]
          · rw [if_neg g]
            simp [h.1, h.2, e1, e2, e3]
            intro g1 g2
            exact absurd ⟨g1, g2⟩ g
  · rw [if_neg h]
    simp
    intro h1 h2
    exact absurd ⟨h1, h2⟩ h
theorem isRef_iff (a : Int) : isRefB a = true ↔ a = 3 ∨ a = 4 ∨ a = 5 ∨ a ≥ 16 := by unfold isRefB; simp [or_assoc]
theorem sub_refl (l : Tbl) (a : Int) (h : validB l a = true) : subB l a a = true := (sub_iff l a a).2 ⟨h, h, .inl rfl⟩
theorem sub_trans {l : Tbl} (hg : Good l) {a b c : Int} (ha : 0 ≤ a ∧ a ≤ 255) (hb : 0 ≤ b ∧ b ≤ 255) (hc : 0 ≤ c ∧ c ≤ 255) (h1 : subB l a b = true) (h2 : subB l b c = true) : subB l a c = true := by
  rw [sub_iff] at h1 h2 ⊢
  obtain ⟨va, vb, h1⟩ := h1
  obtain ⟨_, vc, h2⟩ := h2
  refine ⟨va, vc, ?_⟩
  have ka := valid_cases ha va
  have kb := valid_cases hb vb
  have kc := valid_cases hc vc
  rw [isRef_iff, isRef_iff] at h1 h2 ⊢
  rcases h1 with rfl | rfl | ⟨p1, p2, p3⟩ | ⟨p1, p2, p3, p4⟩
  · exact h2
  · rcases h2 with rfl | rfl | ⟨q1, q2, q3⟩ | ⟨q1, q2, q3, q4⟩
    · exact .inr (.inl rfl)
    · exact .inr (.inl rfl)
    · omega
    · omega
  · rcases h2 with rfl | rfl | ⟨q1, q2, q3⟩ | ⟨q1, q2, q3, q4⟩
    · exact .inr (.inr (.inl ⟨p1, p2, p3⟩))
    · exact .inr (.inl rfl)
    · omega
    · omega
  · rcases h2 with rfl | rfl | ⟨q1, q2, q3⟩ | ⟨q1, q2, q3, q4⟩
    · exact .inr (.inr (.inr ⟨p1, p2, p3, p4⟩))
    · exact .inr (.inl rfl)
    · omega
    · exact .inr (.inr (.inr ⟨by omega, p2, q3, climb_trans hg.dec p4 q4⟩))
theorem sub_antisymm {l : Tbl} (hg : Good l) {a b : Int} (ha : 0 ≤ a ∧ a ≤ 255) (hb : 0 ≤ b ∧ b ≤ 255) (h1 : subB l a b = true) (h2 : subB l b a = true) : a = b := by
  rw [sub_iff] at h1 h2
  obtain ⟨va, vb, h1⟩ := h1
  obtain ⟨_, _, h2⟩ := h2
  have ka := valid_cases ha va
  have kb := valid_cases hb vb
  rw [isRef_iff, isRef_iff] at h1 h2
  rcases h1 with rfl | rfl | ⟨p1, p2, p3⟩ | ⟨p1, p2, p3, p4⟩
  · rfl
  · rcases h2 with rfl | rfl | ⟨q1, q2, q3⟩ | ⟨q1, q2, q3, q4⟩ <;> omega
  · rcases h2 with rfl | rfl | ⟨q1, q2, q3⟩ | ⟨q1, q2, q3, q4⟩ <;> omega
  · rcases h2 with rfl | rfl | ⟨q1, q2, q3⟩ | ⟨q1, q2, q3, q4⟩
    · rfl
    · omega
    · omega
    · have := climb_antisymm hg.dec p4 q4
      omega
/-- awake, of any table. -/
theorem law_awake (l : Tbl) (k : Nat) (hf : ∀ k, provisolaw02_awake.f k l = (types_Sub.f k l 3 5).bind fun t165 => (if t165 = true then ((types_Valid.f l 1).bind fun t166 => (some t166)) else (some false))) : provisolaw02_awake.f (k + 3) l = some true := by
  rw [hf, impl_sub l 3 5 (by omega) (by omega), impl_valid l 1 (by omega)]
  have : subB l 3 5 = true := (sub_iff l 3 5).2 ⟨by unfold validB; simp, by unfold validB; simp, .inr (.inr (.inl ⟨.inl rfl, by decide, by decide⟩))⟩
  rw [this]
  simp [validB]
end Go.Proofs.Ytghgloepameloaa.P
