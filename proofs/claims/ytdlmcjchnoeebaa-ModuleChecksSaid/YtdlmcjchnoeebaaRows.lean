/-
  No cell of these rows narrows 'for every input' (looked for: loops, veiled, ifaces, maps, wideKeys, modest, calm, conditions, laid).
  DERIVED. THE GIVEN ROWS OF THIS SEAT. 7 by the template 'for every input the law returns true; each argument reads behind the call as it read before'; 0 by the template 'total and deterministic' (their statements: YtdlmcjchnoeebaaTotals.lean).
  GIVEN WITH THE SEED: the statements are not yours to turn. If you find one false, say at which input.
  Laid BY PROGRAM, IN A SANDBOX (cutbox-rows.mjs): the forced cells as the released guide's own fill.sh prints them over the translation 48c2410ada870bf0… (all of the seat's roots in one cut). By AI agents, Wed Nov 11 2026. No macro, syntax, notation, axiom, sorry.
-/
import Derived.Test.YtdlmcjchnoeebaaChecked
import GoSem.Claim
import GoSem.ClaimJoined
import GoSem.ClaimMapViews
import Derived.JoinedTies
import Derived.KernelRfl
namespace Go.Proofs.Ytdlmcjchnoeebaa
/- THE CELL 'sum', in the pinned program and in every row, IS THE sha256 OF THE DUMP (.gsa) THAT YtdlmcjchnoeebaaProg.lean LOADS. Nothing in Lean hashes anything: it is a label: what it is worth is what the hold of that sum in a sandbox is worth. -/
noncomputable def Try.pinned : Pinned := { name := "ytdlmcjchnoeebaa", sum := "48c2410ada870bf03fb373bc419d96208809b33f3fbe60abdecf4d5e7b6db9ce", checked := Try.checked }
namespace Rows
def none {H : Type} : Left H := { results := [], args := [] }

/-- 'provisolaw16.ModuleAsks': WHATEVER THE INPUT: true; the input reads as it did. -/
def moduleAsksSpec : ChangeSpec := { name := "moduleAsks", fn := fun _ => fun
  | [d1, d2, d3] => { results := [.lit (.bool true)], args := [d1, d2, d3] }
  | _ => none }
def moduleAsksRow : OpenClaim := { program := "ytdlmcjchnoeebaa", sum := "48c2410ada870bf03fb373bc419d96208809b33f3fbe60abdecf4d5e7b6db9ce", func := "proviso/provisolaw16.ModuleAsks", spec := "moduleAsks", unfollowed := true, recurses := true, apart := false }
def ModuleAsksSaid : Prop := moduleAsksRow.holds Try.pinned (OpenSpec.ofChange moduleAsksSpec)

/-- ITS FALSE NEIGHBOUR: 'it returns false'. Refute it at one input. -/
def moduleAsksWrong : ChangeSpec := { name := "moduleAsks", fn := fun _ => fun
  | [d1, d2, d3] => { results := [.lit (.bool false)], args := [d1, d2, d3] }
  | _ => none }
def ModuleAsksWrongFalsely : Prop := moduleAsksRow.holds Try.pinned (OpenSpec.ofChange moduleAsksWrong)

/-- 'provisolaw16.ModuleChecks': WHATEVER THE INPUT: true; the input reads as it did. -/
def moduleChecksSpec : ChangeSpec := { name := "moduleChecks", fn := fun _ => fun
  | [d] => { results := [.lit (.bool true)], args := [d] }
  | _ => none }
def moduleChecksRow : OpenClaim := { program := "ytdlmcjchnoeebaa", sum := "48c2410ada870bf03fb373bc419d96208809b33f3fbe60abdecf4d5e7b6db9ce", func := "proviso/provisolaw16.ModuleChecks", spec := "moduleChecks", unfollowed := true, recurses := true, apart := false }
def ModuleChecksSaid : Prop := moduleChecksRow.holds Try.pinned (OpenSpec.ofChange moduleChecksSpec)

/-- ITS FALSE NEIGHBOUR: 'it returns false'. Refute it at one input. -/
def moduleChecksWrong : ChangeSpec := { name := "moduleChecks", fn := fun _ => fun
  | [d] => { results := [.lit (.bool false)], args := [d] }
  | _ => none }
def ModuleChecksWrongFalsely : Prop := moduleChecksRow.holds Try.pinned (OpenSpec.ofChange moduleChecksWrong)

/-- 'provisolaw16.ModuleEncodes': WHATEVER THE INPUT: true; the input reads as it did. -/
def moduleEncodesSpec : ChangeSpec := { name := "moduleEncodes", fn := fun _ => fun
  | [d] => { results := [.lit (.bool true)], args := [d] }
  | _ => none }
def moduleEncodesRow : OpenClaim := { program := "ytdlmcjchnoeebaa", sum := "48c2410ada870bf03fb373bc419d96208809b33f3fbe60abdecf4d5e7b6db9ce", func := "proviso/provisolaw16.ModuleEncodes", spec := "moduleEncodes", unfollowed := true, recurses := true, apart := false }
def ModuleEncodesSaid : Prop := moduleEncodesRow.holds Try.pinned (OpenSpec.ofChange moduleEncodesSpec)

/-- ITS FALSE NEIGHBOUR: 'it returns false'. Refute it at one input. -/
def moduleEncodesWrong : ChangeSpec := { name := "moduleEncodes", fn := fun _ => fun
  | [d] => { results := [.lit (.bool false)], args := [d] }
  | _ => none }
def ModuleEncodesWrongFalsely : Prop := moduleEncodesRow.holds Try.pinned (OpenSpec.ofChange moduleEncodesWrong)

/-- 'provisolaw16.ModuleDecodes': WHATEVER THE INPUT: true; the input reads as it did. -/
def moduleDecodesSpec : ChangeSpec := { name := "moduleDecodes", fn := fun _ => fun
  | [d] => { results := [.lit (.bool true)], args := [d] }
  | _ => none }
def moduleDecodesRow : OpenClaim := { program := "ytdlmcjchnoeebaa", sum := "48c2410ada870bf03fb373bc419d96208809b33f3fbe60abdecf4d5e7b6db9ce", func := "proviso/provisolaw16.ModuleDecodes", spec := "moduleDecodes", unfollowed := true, recurses := true, apart := false }
def ModuleDecodesSaid : Prop := moduleDecodesRow.holds Try.pinned (OpenSpec.ofChange moduleDecodesSpec)

/-- ITS FALSE NEIGHBOUR: 'it returns false'. Refute it at one input. -/
def moduleDecodesWrong : ChangeSpec := { name := "moduleDecodes", fn := fun _ => fun
  | [d] => { results := [.lit (.bool false)], args := [d] }
  | _ => none }
def ModuleDecodesWrongFalsely : Prop := moduleDecodesRow.holds Try.pinned (OpenSpec.ofChange moduleDecodesWrong)

/-- 'provisolaw16.ModuleTurned': WHATEVER THE INPUT: true; the input reads as it did. -/
def moduleTurnedSpec : ChangeSpec := { name := "moduleTurned", fn := fun _ => fun
  | [d1, d2, d3] => { results := [.lit (.bool true)], args := [d1, d2, d3] }
  | _ => none }
def moduleTurnedRow : OpenClaim := { program := "ytdlmcjchnoeebaa", sum := "48c2410ada870bf03fb373bc419d96208809b33f3fbe60abdecf4d5e7b6db9ce", func := "proviso/provisolaw16.ModuleTurned", spec := "moduleTurned", unfollowed := true, recurses := true, apart := false }
def ModuleTurnedSaid : Prop := moduleTurnedRow.holds Try.pinned (OpenSpec.ofChange moduleTurnedSpec)

/-- ITS FALSE NEIGHBOUR: 'it returns false'. Refute it at one input. -/
def moduleTurnedWrong : ChangeSpec := { name := "moduleTurned", fn := fun _ => fun
  | [d1, d2, d3] => { results := [.lit (.bool false)], args := [d1, d2, d3] }
  | _ => none }
def ModuleTurnedWrongFalsely : Prop := moduleTurnedRow.holds Try.pinned (OpenSpec.ofChange moduleTurnedWrong)

/-- 'provisolaw16.ModuleBegins': WHATEVER THE INPUT: true; the input reads as it did. -/
def moduleBeginsSpec : ChangeSpec := { name := "moduleBegins", fn := fun _ => fun
  | [d1, d2, d3] => { results := [.lit (.bool true)], args := [d1, d2, d3] }
  | _ => none }
def moduleBeginsRow : OpenClaim := { program := "ytdlmcjchnoeebaa", sum := "48c2410ada870bf03fb373bc419d96208809b33f3fbe60abdecf4d5e7b6db9ce", func := "proviso/provisolaw16.ModuleBegins", spec := "moduleBegins", unfollowed := true, recurses := true, apart := false }
def ModuleBeginsSaid : Prop := moduleBeginsRow.holds Try.pinned (OpenSpec.ofChange moduleBeginsSpec)

/-- ITS FALSE NEIGHBOUR: 'it returns false'. Refute it at one input. -/
def moduleBeginsWrong : ChangeSpec := { name := "moduleBegins", fn := fun _ => fun
  | [d1, d2, d3] => { results := [.lit (.bool false)], args := [d1, d2, d3] }
  | _ => none }
def ModuleBeginsWrongFalsely : Prop := moduleBeginsRow.holds Try.pinned (OpenSpec.ofChange moduleBeginsWrong)

/-- 'provisolaw16.ModuleForm': WHATEVER THE INPUT: true; the input reads as it did. -/
def moduleFormSpec : ChangeSpec := { name := "moduleForm", fn := fun _ => fun
  | [d] => { results := [.lit (.bool true)], args := [d] }
  | _ => none }
def moduleFormRow : OpenClaim := { program := "ytdlmcjchnoeebaa", sum := "48c2410ada870bf03fb373bc419d96208809b33f3fbe60abdecf4d5e7b6db9ce", func := "proviso/provisolaw16.ModuleForm", spec := "moduleForm", unfollowed := true, recurses := true, apart := false }
def ModuleFormSaid : Prop := moduleFormRow.holds Try.pinned (OpenSpec.ofChange moduleFormSpec)

/-- ITS FALSE NEIGHBOUR: 'it returns false'. Refute it at one input. -/
def moduleFormWrong : ChangeSpec := { name := "moduleForm", fn := fun _ => fun
  | [d] => { results := [.lit (.bool false)], args := [d] }
  | _ => none }
def ModuleFormWrongFalsely : Prop := moduleFormRow.holds Try.pinned (OpenSpec.ofChange moduleFormWrong)

/- THE SECOND FORM. 'bulk': how many values and letters a reading holds, each counted each time it is reached (what is shared counts as often as it is met; a slice's spare places count too). A statement '..UptoSaid' is the law's where the arguments, and the package variables that the reading takes, are together of bulk at most 1048576: NARROWER than '..Said'. Prove '..Said' where nothing that the law and all that it calls make is longer than what came in: it says more and counts as full. Else prove '..UptoSaid'. A law counts once. -/
mutual
def uptoBulk {H : Type} : DataW H → Nat
  | .lit (.string bytes) => bytes.length + 1
  | .lit _ => 1
  | .nil => 1
  | .ptr d => uptoBulk d + 1
  | .slice elems spare => uptoBulkAll elems + uptoBulkAll spare + 1
  | .agg parts => uptoBulkAll parts + 1
  | .iface _ d => uptoBulk d + 1
  | .map entries => uptoBulkEntries entries + 1
  | .held _ => 1
def uptoBulkAll {H : Type} : List (DataW H) → Nat
  | [] => 0
  | d :: r => uptoBulk d + uptoBulkAll r
def uptoBulkEntries {H : Type} : List (Lit × DataW H) → Nat
  | [] => 0
  | x :: r => uptoBulkEntry x + uptoBulkEntries r
def uptoBulkEntry {H : Type} : Lit × DataW H → Nat
  | (.string bytes, d) => bytes.length + uptoBulk d + 1
  | (_, d) => uptoBulk d + 1
 end
def uptoSmall : (H : Type) → List (DataW H) → Bool := fun _ ds => decide (uptoBulkAll ds ≤ 1048576)
def OpenSpec.upto (s : _root_.Go.ChangeSpec) : _root_.Go.OpenSpec := { _root_.Go.OpenSpec.ofChange s with cond := some uptoSmall }

/-- 'provisolaw16.ModuleAsks', WHERE WHAT IT READS IS OF BULK AT MOST 1048576: true; the input reads as it did. -/
def moduleAsksUptoRow : OpenClaim := { program := "ytdlmcjchnoeebaa", sum := "48c2410ada870bf03fb373bc419d96208809b33f3fbe60abdecf4d5e7b6db9ce", func := "proviso/provisolaw16.ModuleAsks", spec := "moduleAsks", unfollowed := true, recurses := true, apart := false, narrowed := true }
def ModuleAsksUptoSaid : Prop := moduleAsksUptoRow.holds Try.pinned (OpenSpec.upto moduleAsksSpec)

/-- 'provisolaw16.ModuleChecks', WHERE WHAT IT READS IS OF BULK AT MOST 1048576: true; the input reads as it did. -/
def moduleChecksUptoRow : OpenClaim := { program := "ytdlmcjchnoeebaa", sum := "48c2410ada870bf03fb373bc419d96208809b33f3fbe60abdecf4d5e7b6db9ce", func := "proviso/provisolaw16.ModuleChecks", spec := "moduleChecks", unfollowed := true, recurses := true, apart := false, narrowed := true }
def ModuleChecksUptoSaid : Prop := moduleChecksUptoRow.holds Try.pinned (OpenSpec.upto moduleChecksSpec)

/-- 'provisolaw16.ModuleEncodes', WHERE WHAT IT READS IS OF BULK AT MOST 1048576: true; the input reads as it did. -/
def moduleEncodesUptoRow : OpenClaim := { program := "ytdlmcjchnoeebaa", sum := "48c2410ada870bf03fb373bc419d96208809b33f3fbe60abdecf4d5e7b6db9ce", func := "proviso/provisolaw16.ModuleEncodes", spec := "moduleEncodes", unfollowed := true, recurses := true, apart := false, narrowed := true }
def ModuleEncodesUptoSaid : Prop := moduleEncodesUptoRow.holds Try.pinned (OpenSpec.upto moduleEncodesSpec)

/-- 'provisolaw16.ModuleDecodes', WHERE WHAT IT READS IS OF BULK AT MOST 1048576: true; the input reads as it did. -/
def moduleDecodesUptoRow : OpenClaim := { program := "ytdlmcjchnoeebaa", sum := "48c2410ada870bf03fb373bc419d96208809b33f3fbe60abdecf4d5e7b6db9ce", func := "proviso/provisolaw16.ModuleDecodes", spec := "moduleDecodes", unfollowed := true, recurses := true, apart := false, narrowed := true }
def ModuleDecodesUptoSaid : Prop := moduleDecodesUptoRow.holds Try.pinned (OpenSpec.upto moduleDecodesSpec)

/-- 'provisolaw16.ModuleTurned', WHERE WHAT IT READS IS OF BULK AT MOST 1048576: true; the input reads as it did. -/
def moduleTurnedUptoRow : OpenClaim := { program := "ytdlmcjchnoeebaa", sum := "48c2410ada870bf03fb373bc419d96208809b33f3fbe60abdecf4d5e7b6db9ce", func := "proviso/provisolaw16.ModuleTurned", spec := "moduleTurned", unfollowed := true, recurses := true, apart := false, narrowed := true }
def ModuleTurnedUptoSaid : Prop := moduleTurnedUptoRow.holds Try.pinned (OpenSpec.upto moduleTurnedSpec)

/-- 'provisolaw16.ModuleBegins', WHERE WHAT IT READS IS OF BULK AT MOST 1048576: true; the input reads as it did. -/
def moduleBeginsUptoRow : OpenClaim := { program := "ytdlmcjchnoeebaa", sum := "48c2410ada870bf03fb373bc419d96208809b33f3fbe60abdecf4d5e7b6db9ce", func := "proviso/provisolaw16.ModuleBegins", spec := "moduleBegins", unfollowed := true, recurses := true, apart := false, narrowed := true }
def ModuleBeginsUptoSaid : Prop := moduleBeginsUptoRow.holds Try.pinned (OpenSpec.upto moduleBeginsSpec)

/-- 'provisolaw16.ModuleForm', WHERE WHAT IT READS IS OF BULK AT MOST 1048576: true; the input reads as it did. -/
def moduleFormUptoRow : OpenClaim := { program := "ytdlmcjchnoeebaa", sum := "48c2410ada870bf03fb373bc419d96208809b33f3fbe60abdecf4d5e7b6db9ce", func := "proviso/provisolaw16.ModuleForm", spec := "moduleForm", unfollowed := true, recurses := true, apart := false, narrowed := true }
def ModuleFormUptoSaid : Prop := moduleFormUptoRow.holds Try.pinned (OpenSpec.upto moduleFormSpec)

end Rows
end Go.Proofs.Ytdlmcjchnoeebaa
