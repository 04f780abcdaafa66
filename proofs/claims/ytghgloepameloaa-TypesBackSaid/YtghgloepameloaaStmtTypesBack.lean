/- The plain statement of the law TypesBack: what is left to prove of it. -/
import Derived.Test.YtghgloepameloaaOkayP
import Derived.Test.YtghgloepameloaaPx5
namespace Go.Proofs.Ytghgloepameloaa.P
open Go.RowKit Go.Proofs.YtghgloepameloaaW.PrintWords
def provisolaw02_TypesBack.Pure : Prop := ∀ (l0 : List (S38)) (a1 : Int), (fun l : List (S38) => l.length ≤ 9223372036854775807 ∧ l.length * 48 ≤ 140737488351232 ∧ ∀ x ∈ l, Ok38 x) l0 → (fun n : Int => (Lit.int .u8 n).wf = true) a1 → ∃ k, provisolaw02_TypesBack.f k l0 a1 = some true
end Go.Proofs.Ytghgloepameloaa.P
