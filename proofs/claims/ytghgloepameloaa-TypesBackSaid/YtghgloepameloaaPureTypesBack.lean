/- Proved: of any table and any type byte, if the table may be and the type is valid over it, Parse of Print is the type, and Print is not empty. -/
import Derived.Test.YtghgloepameloaaStmtTypesBack
import Derived.Test.YtghgloepameloaaTypesTh3
namespace Go.Proofs.Ytghgloepameloaa.Pure
open Go.RowKit Go.Proofs.Ytghgloepameloaa.P Go.Proofs.YtghgloepameloaaW.PrintWords
theorem TypesBack : provisolaw02_TypesBack.Pure := by
  intro l a hl ha
  have ha := u8_of ha
  have hs : Sane l := hl
  refine Ev.rounds (r := true) ?_
  have hj : Ev (fun k => provisolaw02_TypesBack.j0 k l a true) true := Ev.step (f := fun _ => some true) (fun k => by simp only [provisolaw02_TypesBack.j0]; rfl) (Ev.now _)
  refine Ev.bind (f := fun k t152 => (if t152 = true then ((provisolaw02_valid.f l a).bind fun t153 => (provisolaw02_TypesBack.j0 k l a (!t153))) else (provisolaw02_TypesBack.j0 k l a true))) (ref_made l hs) ?_
  cases hm : madeB l with
  | false => exact hj
  | true =>
    have hg := (madeB_iff l).mp hm
    refine Ev.congr (f := fun k => provisolaw02_TypesBack.j0 k l a (!validB l a)) (fun k => by rw [law_valid l a ha]; rfl) ?_
    cases hv : validB l a with
    | false => exact hj
    | true =>
      obtain ⟨hp, hne⟩ := parse_print hg a ha hv
      refine Ev.step (f := fun k => (types_Parse.f k l (printB l a)).bind fun bt155 => (if (printB l a).toList = ([] : List UInt8) then (some false) else (if bt155.2 = true then (some (bt155.1 == a)) else (some false)))) (fun k => by simp only [provisolaw02_TypesBack.j0]; rw [impl_print l a ha]; rfl) ?_
      refine Ev.bind (f := fun k bt155 => (if (printB l a).toList = ([] : List UInt8) then (some false) else (if bt155.2 = true then (some (bt155.1 == a)) else (some false)))) (impl_parse l hl.1 _) ?_
      rw [hp]
      refine Ev.congr (f := fun _ => some true) (fun k => ?_) (Ev.now _)
      rw [if_neg (fun h => hne ((str_eq _ _).mp (h.trans (by rw [ByteArray.toList_eq]))))]
      simp
end Go.Proofs.Ytghgloepameloaa.Pure
