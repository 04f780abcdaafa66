/-
  No cell of these rows narrows 'for every input' (looked for: loops, veiled, ifaces, maps, wideKeys, modest, calm, conditions, laid).
  DERIVED. THE GIVEN ROWS OF THIS SEAT. 8 by the template 'for every input the law returns true; each argument reads behind the call as it read before'; 0 by the template 'total and deterministic' (their statements: YtghgloepameloaaTotals.lean).
  GIVEN WITH THE SEED: the statements are not yours to turn. If you find one false, say at which input.
  Laid BY PROGRAM, IN A SANDBOX (cutbox-rows.mjs): the forced cells as the released guide's own fill.sh prints them over the translation 20530856a045737e… (all of the seat's roots in one cut). By AI agents, Wed Nov 11 2026. No macro, syntax, notation, axiom, sorry.
-/
import Derived.Test.YtghgloepameloaaChecked
import GoSem.Claim
import GoSem.ClaimJoined
import GoSem.ClaimMapViews
import Derived.JoinedTies
import Derived.KernelRfl
namespace Go.Proofs.Ytghgloepameloaa
/- THE CELL 'sum', in the pinned program and in every row, IS THE sha256 OF THE DUMP (.gsa) THAT YtghgloepameloaaProg.lean LOADS. Nothing in Lean hashes anything: it is a label: what it is worth is what the hold of that sum in a sandbox is worth. -/
noncomputable def Try.pinned : Pinned := { name := "ytghgloepameloaa", sum := "20530856a045737e139fdc1cf7f88ad6ec7fc97f12c18efb73f0b7a158d68c72", checked := Try.checked }
namespace Rows
def none {H : Type} : Left H := { results := [], args := [] }

/-- 'provisolaw02.TypesBack': WHATEVER THE INPUT: true; the input reads as it did. -/
def typesBackSpec : ChangeSpec := { name := "typesBack", fn := fun _ => fun
  | [d1, d2] => { results := [.lit (.bool true)], args := [d1, d2] }
  | _ => none }
def typesBackRow : OpenClaim := { program := "ytghgloepameloaa", sum := "20530856a045737e139fdc1cf7f88ad6ec7fc97f12c18efb73f0b7a158d68c72", func := "proviso/provisolaw02.TypesBack", spec := "typesBack", apart := false }
def TypesBackSaid : Prop := typesBackRow.holds Try.pinned (OpenSpec.ofChange typesBackSpec)

/-- ITS FALSE NEIGHBOUR: 'it returns false'. Refute it at one input. -/
def typesBackWrong : ChangeSpec := { name := "typesBack", fn := fun _ => fun
  | [d1, d2] => { results := [.lit (.bool false)], args := [d1, d2] }
  | _ => none }
def TypesBackWrongFalsely : Prop := typesBackRow.holds Try.pinned (OpenSpec.ofChange typesBackWrong)

/-- 'provisolaw02.TypesOrder': WHATEVER THE INPUT: true; the input reads as it did. -/
def typesOrderSpec : ChangeSpec := { name := "typesOrder", fn := fun _ => fun
  | [d] => { results := [.lit (.bool true)], args := [d] }
  | _ => none }
def typesOrderRow : OpenClaim := { program := "ytghgloepameloaa", sum := "20530856a045737e139fdc1cf7f88ad6ec7fc97f12c18efb73f0b7a158d68c72", func := "proviso/provisolaw02.TypesOrder", spec := "typesOrder", unfollowed := true, recurses := true, apart := false }
def TypesOrderSaid : Prop := typesOrderRow.holds Try.pinned (OpenSpec.ofChange typesOrderSpec)

/-- ITS FALSE NEIGHBOUR: 'it returns false'. Refute it at one input. -/
def typesOrderWrong : ChangeSpec := { name := "typesOrder", fn := fun _ => fun
  | [d] => { results := [.lit (.bool false)], args := [d] }
  | _ => none }
def TypesOrderWrongFalsely : Prop := typesOrderRow.holds Try.pinned (OpenSpec.ofChange typesOrderWrong)

/-- 'provisolaw02.TypesStays': WHATEVER THE INPUT: true; the input reads as it did. -/
def typesStaysSpec : ChangeSpec := { name := "typesStays", fn := fun _ => fun
  | [d1, d2, d3] => { results := [.lit (.bool true)], args := [d1, d2, d3] }
  | _ => none }
def typesStaysRow : OpenClaim := { program := "ytghgloepameloaa", sum := "20530856a045737e139fdc1cf7f88ad6ec7fc97f12c18efb73f0b7a158d68c72", func := "proviso/provisolaw02.TypesStays", spec := "typesStays", unfollowed := true, recurses := true, apart := false }
def TypesStaysSaid : Prop := typesStaysRow.holds Try.pinned (OpenSpec.ofChange typesStaysSpec)

/-- ITS FALSE NEIGHBOUR: 'it returns false'. Refute it at one input. -/
def typesStaysWrong : ChangeSpec := { name := "typesStays", fn := fun _ => fun
  | [d1, d2, d3] => { results := [.lit (.bool false)], args := [d1, d2, d3] }
  | _ => none }
def TypesStaysWrongFalsely : Prop := typesStaysRow.holds Try.pinned (OpenSpec.ofChange typesStaysWrong)

/-- 'provisolaw02.TypesLeast': WHATEVER THE INPUT: true; the input reads as it did. -/
def typesLeastSpec : ChangeSpec := { name := "typesLeast", fn := fun _ => fun
  | [d] => { results := [.lit (.bool true)], args := [d] }
  | _ => none }
def typesLeastRow : OpenClaim := { program := "ytghgloepameloaa", sum := "20530856a045737e139fdc1cf7f88ad6ec7fc97f12c18efb73f0b7a158d68c72", func := "proviso/provisolaw02.TypesLeast", spec := "typesLeast", unfollowed := true, recurses := true, apart := false }
def TypesLeastSaid : Prop := typesLeastRow.holds Try.pinned (OpenSpec.ofChange typesLeastSpec)

/-- ITS FALSE NEIGHBOUR: 'it returns false'. Refute it at one input. -/
def typesLeastWrong : ChangeSpec := { name := "typesLeast", fn := fun _ => fun
  | [d] => { results := [.lit (.bool false)], args := [d] }
  | _ => none }
def TypesLeastWrongFalsely : Prop := typesLeastRow.holds Try.pinned (OpenSpec.ofChange typesLeastWrong)

/-- 'provisolaw02.TypesSteps': WHATEVER THE INPUT: true; the input reads as it did. -/
def typesStepsSpec : ChangeSpec := { name := "typesSteps", fn := fun _ => fun
  | [d1, d2, d3] => { results := [.lit (.bool true)], args := [d1, d2, d3] }
  | _ => none }
def typesStepsRow : OpenClaim := { program := "ytghgloepameloaa", sum := "20530856a045737e139fdc1cf7f88ad6ec7fc97f12c18efb73f0b7a158d68c72", func := "proviso/provisolaw02.TypesSteps", spec := "typesSteps", unfollowed := true, recurses := true, apart := false }
def TypesStepsSaid : Prop := typesStepsRow.holds Try.pinned (OpenSpec.ofChange typesStepsSpec)

/-- ITS FALSE NEIGHBOUR: 'it returns false'. Refute it at one input. -/
def typesStepsWrong : ChangeSpec := { name := "typesSteps", fn := fun _ => fun
  | [d1, d2, d3] => { results := [.lit (.bool false)], args := [d1, d2, d3] }
  | _ => none }
def TypesStepsWrongFalsely : Prop := typesStepsRow.holds Try.pinned (OpenSpec.ofChange typesStepsWrong)

/-- 'provisolaw02.TypesFields': WHATEVER THE INPUT: true; the input reads as it did. -/
def typesFieldsSpec : ChangeSpec := { name := "typesFields", fn := fun _ => fun
  | [d1, d2, d3] => { results := [.lit (.bool true)], args := [d1, d2, d3] }
  | _ => none }
def typesFieldsRow : OpenClaim := { program := "ytghgloepameloaa", sum := "20530856a045737e139fdc1cf7f88ad6ec7fc97f12c18efb73f0b7a158d68c72", func := "proviso/provisolaw02.TypesFields", spec := "typesFields", unfollowed := true, recurses := true, apart := false }
def TypesFieldsSaid : Prop := typesFieldsRow.holds Try.pinned (OpenSpec.ofChange typesFieldsSpec)

/-- ITS FALSE NEIGHBOUR: 'it returns false'. Refute it at one input. -/
def typesFieldsWrong : ChangeSpec := { name := "typesFields", fn := fun _ => fun
  | [d1, d2, d3] => { results := [.lit (.bool false)], args := [d1, d2, d3] }
  | _ => none }
def TypesFieldsWrongFalsely : Prop := typesFieldsRow.holds Try.pinned (OpenSpec.ofChange typesFieldsWrong)

/-- 'provisolaw02.TypesAsks': WHATEVER THE INPUT: true; the input reads as it did. -/
def typesAsksSpec : ChangeSpec := { name := "typesAsks", fn := fun _ => fun
  | [d1, d2, d3] => { results := [.lit (.bool true)], args := [d1, d2, d3] }
  | _ => none }
def typesAsksRow : OpenClaim := { program := "ytghgloepameloaa", sum := "20530856a045737e139fdc1cf7f88ad6ec7fc97f12c18efb73f0b7a158d68c72", func := "proviso/provisolaw02.TypesAsks", spec := "typesAsks", unfollowed := true, recurses := true, apart := false }
def TypesAsksSaid : Prop := typesAsksRow.holds Try.pinned (OpenSpec.ofChange typesAsksSpec)

/-- ITS FALSE NEIGHBOUR: 'it returns false'. Refute it at one input. -/
def typesAsksWrong : ChangeSpec := { name := "typesAsks", fn := fun _ => fun
  | [d1, d2, d3] => { results := [.lit (.bool false)], args := [d1, d2, d3] }
  | _ => none }
def TypesAsksWrongFalsely : Prop := typesAsksRow.holds Try.pinned (OpenSpec.ofChange typesAsksWrong)

/-- 'provisolaw02.TypesChecks': WHATEVER THE INPUT: true; the input reads as it did. -/
def typesChecksSpec : ChangeSpec := { name := "typesChecks", fn := fun _ => fun
  | [d] => { results := [.lit (.bool true)], args := [d] }
  | _ => none }
def typesChecksRow : OpenClaim := { program := "ytghgloepameloaa", sum := "20530856a045737e139fdc1cf7f88ad6ec7fc97f12c18efb73f0b7a158d68c72", func := "proviso/provisolaw02.TypesChecks", spec := "typesChecks", unfollowed := true, recurses := true, apart := false }
def TypesChecksSaid : Prop := typesChecksRow.holds Try.pinned (OpenSpec.ofChange typesChecksSpec)

/-- ITS FALSE NEIGHBOUR: 'it returns false'. Refute it at one input. -/
def typesChecksWrong : ChangeSpec := { name := "typesChecks", fn := fun _ => fun
  | [d] => { results := [.lit (.bool false)], args := [d] }
  | _ => none }
def TypesChecksWrongFalsely : Prop := typesChecksRow.holds Try.pinned (OpenSpec.ofChange typesChecksWrong)

/- THE SECOND FORM. 'bulk': how many values and letters a reading holds, each counted each time it is reached (what is shared counts as often as it is met; a slice's spare places count too). A statement '..UptoSaid' is the law's where the arguments, and the package variables that the reading takes, are together of bulk at most 1048576: NARROWER than '..Said'. Prove '..Said' where nothing that the law and all that it calls make is longer than what came in: it says more and counts as full. Else prove '..UptoSaid'. A law counts once. -/
mutual
def uptoBulk {H : Type} : DataW H → Nat
  | .lit (.string bytes) => bytes.length + 1
  | .lit _ => 1
  | .nil => 1
  | .ptr d => uptoBulk d + 1
  | .slice elems spare => uptoBulkAll elems + uptoBulkAll spare + 1
  | .agg parts => uptoBulkAll parts + 1
  | .iface _ d => uptoBulk d + 1
  | .map entries => uptoBulkEntries entries + 1
  | .held _ => 1
def uptoBulkAll {H : Type} : List (DataW H) → Nat
  | [] => 0
  | d :: r => uptoBulk d + uptoBulkAll r
def uptoBulkEntries {H : Type} : List (Lit × DataW H) → Nat
  | [] => 0
  | x :: r => uptoBulkEntry x + uptoBulkEntries r
def uptoBulkEntry {H : Type} : Lit × DataW H → Nat
  | (.string bytes, d) => bytes.length + uptoBulk d + 1
  | (_, d) => uptoBulk d + 1
 end
def uptoSmall : (H : Type) → List (DataW H) → Bool := fun _ ds => decide (uptoBulkAll ds ≤ 1048576)
def OpenSpec.upto (s : _root_.Go.ChangeSpec) : _root_.Go.OpenSpec := { _root_.Go.OpenSpec.ofChange s with cond := some uptoSmall }

/-- 'provisolaw02.TypesBack', WHERE WHAT IT READS IS OF BULK AT MOST 1048576: true; the input reads as it did. -/
def typesBackUptoRow : OpenClaim := { program := "ytghgloepameloaa", sum := "20530856a045737e139fdc1cf7f88ad6ec7fc97f12c18efb73f0b7a158d68c72", func := "proviso/provisolaw02.TypesBack", spec := "typesBack", apart := false, narrowed := true }
def TypesBackUptoSaid : Prop := typesBackUptoRow.holds Try.pinned (OpenSpec.upto typesBackSpec)

/-- 'provisolaw02.TypesOrder', WHERE WHAT IT READS IS OF BULK AT MOST 1048576: true; the input reads as it did. -/
def typesOrderUptoRow : OpenClaim := { program := "ytghgloepameloaa", sum := "20530856a045737e139fdc1cf7f88ad6ec7fc97f12c18efb73f0b7a158d68c72", func := "proviso/provisolaw02.TypesOrder", spec := "typesOrder", unfollowed := true, recurses := true, apart := false, narrowed := true }
def TypesOrderUptoSaid : Prop := typesOrderUptoRow.holds Try.pinned (OpenSpec.upto typesOrderSpec)

/-- 'provisolaw02.TypesStays', WHERE WHAT IT READS IS OF BULK AT MOST 1048576: true; the input reads as it did. -/
def typesStaysUptoRow : OpenClaim := { program := "ytghgloepameloaa", sum := "20530856a045737e139fdc1cf7f88ad6ec7fc97f12c18efb73f0b7a158d68c72", func := "proviso/provisolaw02.TypesStays", spec := "typesStays", unfollowed := true, recurses := true, apart := false, narrowed := true }
def TypesStaysUptoSaid : Prop := typesStaysUptoRow.holds Try.pinned (OpenSpec.upto typesStaysSpec)

/-- 'provisolaw02.TypesLeast', WHERE WHAT IT READS IS OF BULK AT MOST 1048576: true; the input reads as it did. -/
def typesLeastUptoRow : OpenClaim := { program := "ytghgloepameloaa", sum := "20530856a045737e139fdc1cf7f88ad6ec7fc97f12c18efb73f0b7a158d68c72", func := "proviso/provisolaw02.TypesLeast", spec := "typesLeast", unfollowed := true, recurses := true, apart := false, narrowed := true }
def TypesLeastUptoSaid : Prop := typesLeastUptoRow.holds Try.pinned (OpenSpec.upto typesLeastSpec)

/-- 'provisolaw02.TypesSteps', WHERE WHAT IT READS IS OF BULK AT MOST 1048576: true; the input reads as it did. -/
def typesStepsUptoRow : OpenClaim := { program := "ytghgloepameloaa", sum := "20530856a045737e139fdc1cf7f88ad6ec7fc97f12c18efb73f0b7a158d68c72", func := "proviso/provisolaw02.TypesSteps", spec := "typesSteps", unfollowed := true, recurses := true, apart := false, narrowed := true }
def TypesStepsUptoSaid : Prop := typesStepsUptoRow.holds Try.pinned (OpenSpec.upto typesStepsSpec)

/-- 'provisolaw02.TypesFields', WHERE WHAT IT READS IS OF BULK AT MOST 1048576: true; the input reads as it did. -/
def typesFieldsUptoRow : OpenClaim := { program := "ytghgloepameloaa", sum := "20530856a045737e139fdc1cf7f88ad6ec7fc97f12c18efb73f0b7a158d68c72", func := "proviso/provisolaw02.TypesFields", spec := "typesFields", unfollowed := true, recurses := true, apart := false, narrowed := true }
def TypesFieldsUptoSaid : Prop := typesFieldsUptoRow.holds Try.pinned (OpenSpec.upto typesFieldsSpec)

/-- 'provisolaw02.TypesAsks', WHERE WHAT IT READS IS OF BULK AT MOST 1048576: true; the input reads as it did. -/
def typesAsksUptoRow : OpenClaim := { program := "ytghgloepameloaa", sum := "20530856a045737e139fdc1cf7f88ad6ec7fc97f12c18efb73f0b7a158d68c72", func := "proviso/provisolaw02.TypesAsks", spec := "typesAsks", unfollowed := true, recurses := true, apart := false, narrowed := true }
def TypesAsksUptoSaid : Prop := typesAsksUptoRow.holds Try.pinned (OpenSpec.upto typesAsksSpec)

/-- 'provisolaw02.TypesChecks', WHERE WHAT IT READS IS OF BULK AT MOST 1048576: true; the input reads as it did. -/
def typesChecksUptoRow : OpenClaim := { program := "ytghgloepameloaa", sum := "20530856a045737e139fdc1cf7f88ad6ec7fc97f12c18efb73f0b7a158d68c72", func := "proviso/provisolaw02.TypesChecks", spec := "typesChecks", unfollowed := true, recurses := true, apart := false, narrowed := true }
def TypesChecksUptoSaid : Prop := typesChecksUptoRow.holds Try.pinned (OpenSpec.upto typesChecksSpec)

end Rows
end Go.Proofs.Ytghgloepameloaa
