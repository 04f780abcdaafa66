/-
  No cell of these rows narrows 'for every input' (looked for: loops, veiled, ifaces, maps, wideKeys, modest, calm, conditions, laid).
  DERIVED. THE GIVEN ROWS OF THIS SEAT. 6 by the template 'for every input the law returns true; each argument reads behind the call as it read before'; 0 by the template 'total and deterministic' (their statements: YtkjagcamikkjkaaTotals.lean).
  GIVEN WITH THE SEED: the statements are not yours to turn. If you find one false, say at which input.
  Laid BY PROGRAM, IN A SANDBOX (cutbox-rows.mjs): the forced cells as the released guide's own fill.sh prints them over the translation 1a4cf757e065f057… (all of the seat's roots in one cut). By AI agents, Wed Nov 11 2026. No macro, syntax, notation, axiom, sorry.
-/
import Derived.Test.YtkjagcamikkjkaaChecked
import GoSem.Claim
import GoSem.ClaimJoined
import GoSem.ClaimMapViews
import Derived.JoinedTies
import Derived.KernelRfl
namespace Go.Proofs.Ytkjagcamikkjkaa
/- THE CELL 'sum', in the pinned program and in every row, IS THE sha256 OF THE DUMP (.gsa) THAT YtkjagcamikkjkaaProg.lean LOADS. Nothing in Lean hashes anything: it is a label: what it is worth is what the hold of that sum in a sandbox is worth. -/
noncomputable def Try.pinned : Pinned := { name := "ytkjagcamikkjkaa", sum := "1a4cf757e065f057e8bb095a3a401c59144273deff21eccdb3c505e6004beff6", checked := Try.checked }
namespace Rows
def none {H : Type} : Left H := { results := [], args := [] }

/-- 'provisolaw14.HeapRings': WHATEVER THE INPUT: true; the input reads as it did. -/
def heapRingsSpec : ChangeSpec := { name := "heapRings", fn := fun _ => fun
  | [d1, d2] => { results := [.lit (.bool true)], args := [d1, d2] }
  | _ => none }
def heapRingsRow : OpenClaim := { program := "ytkjagcamikkjkaa", sum := "1a4cf757e065f057e8bb095a3a401c59144273deff21eccdb3c505e6004beff6", func := "proviso/provisolaw14.HeapRings", spec := "heapRings", inPlace := ["internal/reflectlite.TypeOf"], unfollowed := true, recurses := true, apart := false }
def HeapRingsSaid : Prop := heapRingsRow.holds Try.pinned (OpenSpec.ofChange heapRingsSpec)

/-- ITS FALSE NEIGHBOUR: 'it returns false'. Refute it at one input. -/
def heapRingsWrong : ChangeSpec := { name := "heapRings", fn := fun _ => fun
  | [d1, d2] => { results := [.lit (.bool false)], args := [d1, d2] }
  | _ => none }
def HeapRingsWrongFalsely : Prop := heapRingsRow.holds Try.pinned (OpenSpec.ofChange heapRingsWrong)

/-- 'provisolaw14.HeapCells': WHATEVER THE INPUT: true; the input reads as it did. -/
def heapCellsSpec : ChangeSpec := { name := "heapCells", fn := fun _ => fun
  | [d] => { results := [.lit (.bool true)], args := [d] }
  | _ => none }
def heapCellsRow : OpenClaim := { program := "ytkjagcamikkjkaa", sum := "1a4cf757e065f057e8bb095a3a401c59144273deff21eccdb3c505e6004beff6", func := "proviso/provisolaw14.HeapCells", spec := "heapCells", inPlace := ["internal/reflectlite.TypeOf"], unfollowed := true, recurses := true, apart := false }
def HeapCellsSaid : Prop := heapCellsRow.holds Try.pinned (OpenSpec.ofChange heapCellsSpec)

/-- ITS FALSE NEIGHBOUR: 'it returns false'. Refute it at one input. -/
def heapCellsWrong : ChangeSpec := { name := "heapCells", fn := fun _ => fun
  | [d] => { results := [.lit (.bool false)], args := [d] }
  | _ => none }
def HeapCellsWrongFalsely : Prop := heapCellsRow.holds Try.pinned (OpenSpec.ofChange heapCellsWrong)

/-- 'provisolaw14.HeapNone': WHATEVER THE INPUT: true; the input reads as it did. -/
def heapNoneSpec : ChangeSpec := { name := "heapNone", fn := fun _ => fun
  | [d1, d2] => { results := [.lit (.bool true)], args := [d1, d2] }
  | _ => none }
def heapNoneRow : OpenClaim := { program := "ytkjagcamikkjkaa", sum := "1a4cf757e065f057e8bb095a3a401c59144273deff21eccdb3c505e6004beff6", func := "proviso/provisolaw14.HeapNone", spec := "heapNone", inPlace := ["internal/reflectlite.TypeOf"], unfollowed := true, recurses := true, apart := false }
def HeapNoneSaid : Prop := heapNoneRow.holds Try.pinned (OpenSpec.ofChange heapNoneSpec)

/-- ITS FALSE NEIGHBOUR: 'it returns false'. Refute it at one input. -/
def heapNoneWrong : ChangeSpec := { name := "heapNone", fn := fun _ => fun
  | [d1, d2] => { results := [.lit (.bool false)], args := [d1, d2] }
  | _ => none }
def HeapNoneWrongFalsely : Prop := heapNoneRow.holds Try.pinned (OpenSpec.ofChange heapNoneWrong)

/-- 'provisolaw14.HeapCome': WHATEVER THE INPUT: true; the input reads as it did. -/
def heapComeSpec : ChangeSpec := { name := "heapCome", fn := fun _ => fun
  | [d1, d2] => { results := [.lit (.bool true)], args := [d1, d2] }
  | _ => none }
def heapComeRow : OpenClaim := { program := "ytkjagcamikkjkaa", sum := "1a4cf757e065f057e8bb095a3a401c59144273deff21eccdb3c505e6004beff6", func := "proviso/provisolaw14.HeapCome", spec := "heapCome", inPlace := ["internal/reflectlite.TypeOf"], unfollowed := true, recurses := true, apart := false }
def HeapComeSaid : Prop := heapComeRow.holds Try.pinned (OpenSpec.ofChange heapComeSpec)

/-- ITS FALSE NEIGHBOUR: 'it returns false'. Refute it at one input. -/
def heapComeWrong : ChangeSpec := { name := "heapCome", fn := fun _ => fun
  | [d1, d2] => { results := [.lit (.bool false)], args := [d1, d2] }
  | _ => none }
def HeapComeWrongFalsely : Prop := heapComeRow.holds Try.pinned (OpenSpec.ofChange heapComeWrong)

/-- 'provisolaw14.HeapMore': WHATEVER THE INPUT: true; the input reads as it did. -/
def heapMoreSpec : ChangeSpec := { name := "heapMore", fn := fun _ => fun
  | [d1, d2, d3] => { results := [.lit (.bool true)], args := [d1, d2, d3] }
  | _ => none }
def heapMoreRow : OpenClaim := { program := "ytkjagcamikkjkaa", sum := "1a4cf757e065f057e8bb095a3a401c59144273deff21eccdb3c505e6004beff6", func := "proviso/provisolaw14.HeapMore", spec := "heapMore", inPlace := ["internal/reflectlite.TypeOf"], unfollowed := true, recurses := true, apart := false }
def HeapMoreSaid : Prop := heapMoreRow.holds Try.pinned (OpenSpec.ofChange heapMoreSpec)

/-- ITS FALSE NEIGHBOUR: 'it returns false'. Refute it at one input. -/
def heapMoreWrong : ChangeSpec := { name := "heapMore", fn := fun _ => fun
  | [d1, d2, d3] => { results := [.lit (.bool false)], args := [d1, d2, d3] }
  | _ => none }
def HeapMoreWrongFalsely : Prop := heapMoreRow.holds Try.pinned (OpenSpec.ofChange heapMoreWrong)

/-- 'provisolaw14.HeapStays': WHATEVER THE INPUT: true; the input reads as it did. -/
def heapStaysSpec : ChangeSpec := { name := "heapStays", fn := fun _ => fun
  | [d1, d2] => { results := [.lit (.bool true)], args := [d1, d2] }
  | _ => none }
def heapStaysRow : OpenClaim := { program := "ytkjagcamikkjkaa", sum := "1a4cf757e065f057e8bb095a3a401c59144273deff21eccdb3c505e6004beff6", func := "proviso/provisolaw14.HeapStays", spec := "heapStays", inPlace := ["internal/reflectlite.TypeOf"], unfollowed := true, recurses := true, apart := false }
def HeapStaysSaid : Prop := heapStaysRow.holds Try.pinned (OpenSpec.ofChange heapStaysSpec)

/-- ITS FALSE NEIGHBOUR: 'it returns false'. Refute it at one input. -/
def heapStaysWrong : ChangeSpec := { name := "heapStays", fn := fun _ => fun
  | [d1, d2] => { results := [.lit (.bool false)], args := [d1, d2] }
  | _ => none }
def HeapStaysWrongFalsely : Prop := heapStaysRow.holds Try.pinned (OpenSpec.ofChange heapStaysWrong)

/- THE SECOND FORM. 'bulk': how many values and letters a reading holds, each counted each time it is reached (what is shared counts as often as it is met; a slice's spare places count too). A statement '..UptoSaid' is the law's where the arguments, and the package variables that the reading takes, are together of bulk at most 1048576: NARROWER than '..Said'. Prove '..Said' where nothing that the law and all that it calls make is longer than what came in: it says more and counts as full. Else prove '..UptoSaid'. A law counts once. -/
mutual
def uptoBulk {H : Type} : DataW H → Nat
  | .lit (.string bytes) => bytes.length + 1
  | .lit _ => 1
  | .nil => 1
  | .ptr d => uptoBulk d + 1
  | .slice elems spare => uptoBulkAll elems + uptoBulkAll spare + 1
  | .agg parts => uptoBulkAll parts + 1
  | .iface _ d => uptoBulk d + 1
  | .map entries => uptoBulkEntries entries + 1
  | .held _ => 1
def uptoBulkAll {H : Type} : List (DataW H) → Nat
  | [] => 0
  | d :: r => uptoBulk d + uptoBulkAll r
def uptoBulkEntries {H : Type} : List (Lit × DataW H) → Nat
  | [] => 0
  | x :: r => uptoBulkEntry x + uptoBulkEntries r
def uptoBulkEntry {H : Type} : Lit × DataW H → Nat
  | (.string bytes, d) => bytes.length + uptoBulk d + 1
  | (_, d) => uptoBulk d + 1
 end
def uptoSmall : (H : Type) → List (DataW H) → Bool := fun _ ds => decide (uptoBulkAll ds ≤ 1048576)
def OpenSpec.upto (s : _root_.Go.ChangeSpec) : _root_.Go.OpenSpec := { _root_.Go.OpenSpec.ofChange s with cond := some uptoSmall }

/-- 'provisolaw14.HeapRings', WHERE WHAT IT READS IS OF BULK AT MOST 1048576: true; the input reads as it did. -/
def heapRingsUptoRow : OpenClaim := { program := "ytkjagcamikkjkaa", sum := "1a4cf757e065f057e8bb095a3a401c59144273deff21eccdb3c505e6004beff6", func := "proviso/provisolaw14.HeapRings", spec := "heapRings", inPlace := ["internal/reflectlite.TypeOf"], unfollowed := true, recurses := true, apart := false, narrowed := true }
def HeapRingsUptoSaid : Prop := heapRingsUptoRow.holds Try.pinned (OpenSpec.upto heapRingsSpec)

/-- 'provisolaw14.HeapCells', WHERE WHAT IT READS IS OF BULK AT MOST 1048576: true; the input reads as it did. -/
def heapCellsUptoRow : OpenClaim := { program := "ytkjagcamikkjkaa", sum := "1a4cf757e065f057e8bb095a3a401c59144273deff21eccdb3c505e6004beff6", func := "proviso/provisolaw14.HeapCells", spec := "heapCells", inPlace := ["internal/reflectlite.TypeOf"], unfollowed := true, recurses := true, apart := false, narrowed := true }
def HeapCellsUptoSaid : Prop := heapCellsUptoRow.holds Try.pinned (OpenSpec.upto heapCellsSpec)

/-- 'provisolaw14.HeapNone', WHERE WHAT IT READS IS OF BULK AT MOST 1048576: true; the input reads as it did. -/
def heapNoneUptoRow : OpenClaim := { program := "ytkjagcamikkjkaa", sum := "1a4cf757e065f057e8bb095a3a401c59144273deff21eccdb3c505e6004beff6", func := "proviso/provisolaw14.HeapNone", spec := "heapNone", inPlace := ["internal/reflectlite.TypeOf"], unfollowed := true, recurses := true, apart := false, narrowed := true }
def HeapNoneUptoSaid : Prop := heapNoneUptoRow.holds Try.pinned (OpenSpec.upto heapNoneSpec)

/-- 'provisolaw14.HeapCome', WHERE WHAT IT READS IS OF BULK AT MOST 1048576: true; the input reads as it did. -/
def heapComeUptoRow : OpenClaim := { program := "ytkjagcamikkjkaa", sum := "1a4cf757e065f057e8bb095a3a401c59144273deff21eccdb3c505e6004beff6", func := "proviso/provisolaw14.HeapCome", spec := "heapCome", inPlace := ["internal/reflectlite.TypeOf"], unfollowed := true, recurses := true, apart := false, narrowed := true }
def HeapComeUptoSaid : Prop := heapComeUptoRow.holds Try.pinned (OpenSpec.upto heapComeSpec)

/-- 'provisolaw14.HeapMore', WHERE WHAT IT READS IS OF BULK AT MOST 1048576: true; the input reads as it did. -/
def heapMoreUptoRow : OpenClaim := { program := "ytkjagcamikkjkaa", sum := "1a4cf757e065f057e8bb095a3a401c59144273deff21eccdb3c505e6004beff6", func := "proviso/provisolaw14.HeapMore", spec := "heapMore", inPlace := ["internal/reflectlite.TypeOf"], unfollowed := true, recurses := true, apart := false, narrowed := true }
def HeapMoreUptoSaid : Prop := heapMoreUptoRow.holds Try.pinned (OpenSpec.upto heapMoreSpec)

/-- 'provisolaw14.HeapStays', WHERE WHAT IT READS IS OF BULK AT MOST 1048576: true; the input reads as it did. -/
def heapStaysUptoRow : OpenClaim := { program := "ytkjagcamikkjkaa", sum := "1a4cf757e065f057e8bb095a3a401c59144273deff21eccdb3c505e6004beff6", func := "proviso/provisolaw14.HeapStays", spec := "heapStays", inPlace := ["internal/reflectlite.TypeOf"], unfollowed := true, recurses := true, apart := false, narrowed := true }
def HeapStaysUptoSaid : Prop := heapStaysUptoRow.holds Try.pinned (OpenSpec.upto heapStaysSpec)

end Rows
end Go.Proofs.Ytkjagcamikkjkaa
