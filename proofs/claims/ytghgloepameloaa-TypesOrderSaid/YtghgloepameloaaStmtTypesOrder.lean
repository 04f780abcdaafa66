/- The plain statement of the law TypesOrder: what is left to prove of it. -/
import Derived.Test.YtghgloepameloaaOkayP
import Derived.Test.YtghgloepameloaaPx7
namespace Go.Proofs.Ytghgloepameloaa.P
open Go.RowKit Go.Proofs.YtghgloepameloaaW.PrintWords
def provisolaw02_TypesOrder.Pure : Prop := ∀ (a0_0 : List (S38)) (a0_1 : Int) (a0_2 : Int) (a0_3 : Int), (fun l : List (S38) => l.length ≤ 9223372036854775807 ∧ l.length * 48 ≤ 140737488351232 ∧ ∀ x ∈ l, Ok38 x) a0_0 → (fun n : Int => (Lit.int .u8 n).wf = true) a0_1 → (fun n : Int => (Lit.int .u8 n).wf = true) a0_2 → (fun n : Int => (Lit.int .u8 n).wf = true) a0_3 → ∃ k, provisolaw02_TypesOrder.f k a0_0 a0_1 a0_2 a0_3 = some true
end Go.Proofs.Ytghgloepameloaa.P
