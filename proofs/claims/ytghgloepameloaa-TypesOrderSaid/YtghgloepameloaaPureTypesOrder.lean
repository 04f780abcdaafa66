/- Proved: over every table that may be, Sub is an order of the valid types (P2.8), for every table and every three type bytes. -/
import Derived.Test.YtghgloepameloaaStmtTypesOrder
import Derived.Test.YtghgloepameloaaTypesTh4
namespace Go.Proofs.Ytghgloepameloaa.Pure
open Go.RowKit Go.Proofs.Ytghgloepameloaa.P Go.Proofs.YtghgloepameloaaW.PrintWords
set_option linter.unusedSimpArgs false
theorem TypesOrder : provisolaw02_TypesOrder.Pure := by
  intro l a b c hl ha hb hc
  have ha := u8_of ha
  have hb := u8_of hb
  have hc := u8_of hc
  have hs : Sane l := hl
  obtain ⟨K, hK⟩ := ref_made l hs
  refine ⟨K + 9, ?_⟩
  have hm : provisoref02_Made.f (K + 9) l = some (madeB l) := hK (K + 9) (by omega)
  have haw : provisolaw02_awake.f (K + 9) l = some true := law_awake l (K + 6) (fun k => rfl)
  have s : ∀ (k : Nat) (x y : Int), (0 ≤ x ∧ x ≤ 255) → (0 ≤ y ∧ y ≤ 255) → types_Sub.f (k + 3) l x y = some (subB l x y) := fun k x y hx hy => impl_sub l x y hx hy k
  unfold provisolaw02_TypesOrder.f
  rw [hm]
  simp only [Option.bind_some]
  cases hmd : madeB l with
  | false => simp
  | true =>
    have hg := (madeB_iff l).mp hmd
    rw [if_pos rfl, haw]
    simp only [Option.bind_some, if_true]
    rw [law_valid l a ha, show types_Sub.f (K + 9) l a a = some (subB l a a) from s (K + 6) a a ha ha]
    have hj : provisolaw02_TypesOrder.j0 (K + 9) l false l a b c = some true := by
      simp only [provisolaw02_TypesOrder.j0, provisolaw02_TypesOrder.j1]
      rw [show types_Sub.f (K + 8) l a b = _ from s (K + 5) a b ha hb, show types_Sub.f (K + 8) l b c = _ from s (K + 5) b c hb hc, show types_Sub.f (K + 8) l a c = _ from s (K + 5) a c ha hc, show types_Sub.f (K + 7) l a b = _ from s (K + 4) a b ha hb, show types_Sub.f (K + 7) l b a = _ from s (K + 4) b a hb ha]
      simp only [Option.bind_some]
      have t1 := fun h1 h2 => sub_trans hg (a := a) (b := b) (c := c) ha hb hc h1 h2
      have t2 := fun h1 h2 => sub_antisymm hg (a := a) (b := b) ha hb h1 h2
      cases e1 : subB l a b <;> cases e2 : subB l b c <;> cases e3 : subB l a c <;> cases e4 : subB l b a <;> simp_all
    simp only [Option.bind_some]
    cases hv : validB l a with
    | false => rw [if_neg (by simp)]; exact hj
    | true =>
      rw [if_pos rfl, sub_refl l a hv]
      exact hj
end Go.Proofs.Ytghgloepameloaa.Pure
