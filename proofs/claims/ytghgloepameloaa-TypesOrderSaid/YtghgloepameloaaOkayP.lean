/- What a reading tells of each kind of argument of this seat's laws: its cells are of the kind, its numbers and sizes within bounds. No condition. -/
import Derived.Test.YtghgloepameloaaSees
import Derived.Test.YtghgloepameloaaPx0
namespace Go.Proofs.Ytghgloepameloaa.P
open Go.RowKit Go.Proofs.YtghgloepameloaaW.PrintWords Go.Proofs.Ytghgloepameloaa.Sees

def Ok40 (x : S40) : Prop := (fun s : ByteArray => s.size ≤ 140737488351232) x.f0 ∧ (fun n : Int => (Lit.int .u8 n).wf = true) x.f1
theorem sees40 : Sees Try.prog 40 k40 Ok40 := sees_struct (fun x : S40 => (x.f0, x.f1)) (fun y => ⟨y.1, y.2⟩) (fun _ => rfl) Try.underlying40 (by kernel_rfl) (sees_more rfl (by kernel_rfl) (sees_string Try.underlying9) (sees_last rfl (by kernel_rfl) (sees_int Try.underlying23)))
def Ok38 (x : S38) : Prop := (fun s : ByteArray => s.size ≤ 140737488351232) x.f0 ∧ (fun n : Int => (Lit.int .i64 n).wf = true) x.f1 ∧ (fun l : List (S40) => l.length ≤ 9223372036854775807 ∧ l.length * 24 ≤ 140737488351232 ∧ ∀ x ∈ l, Ok40 x) x.f2
theorem sees38 : Sees Try.prog 38 k38 Ok38 := sees_struct (fun x : S38 => (x.f0, x.f1, x.f2)) (fun y => ⟨y.1, y.2.1, y.2.2⟩) (fun _ => rfl) Try.underlying38 (by kernel_rfl) (sees_more rfl (by kernel_rfl) (sees_string Try.underlying9) (sees_more rfl (by kernel_rfl) (sees_int Try.underlying3) (sees_last rfl (by kernel_rfl) (sees_slice (B := 24) Try.underlying35 (by kernel_rfl) (by kernel_rfl) sees40))))
end Go.Proofs.Ytghgloepameloaa.P
