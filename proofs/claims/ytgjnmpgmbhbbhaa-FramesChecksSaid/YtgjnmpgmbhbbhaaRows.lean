/-
  No cell of these rows narrows 'for every input' (looked for: loops, veiled, ifaces, maps, wideKeys, modest, calm, conditions, laid).
  DERIVED. THE GIVEN ROWS OF THIS SEAT. 8 by the template 'for every input the law returns true; each argument reads behind the call as it read before'; 0 by the template 'total and deterministic' (their statements: YtgjnmpgmbhbbhaaTotals.lean).
  GIVEN WITH THE SEED: the statements are not yours to turn. If you find one false, say at which input.
  Laid BY PROGRAM, IN A SANDBOX (cutbox-rows.mjs): the forced cells as the released guide's own fill.sh prints them over the translation 8346fee32cb854ab… (all of the seat's roots in one cut). By AI agents, Wed Nov 11 2026. No macro, syntax, notation, axiom, sorry.
-/
import Derived.Test.YtgjnmpgmbhbbhaaChecked
import GoSem.Claim
import GoSem.ClaimJoined
import GoSem.ClaimMapViews
import Derived.JoinedTies
import Derived.KernelRfl
namespace Go.Proofs.Ytgjnmpgmbhbbhaa
/- THE CELL 'sum', in the pinned program and in every row, IS THE sha256 OF THE DUMP (.gsa) THAT YtgjnmpgmbhbbhaaProg.lean LOADS. Nothing in Lean hashes anything: it is a label: what it is worth is what the hold of that sum in a sandbox is worth. -/
noncomputable def Try.pinned : Pinned := { name := "ytgjnmpgmbhbbhaa", sum := "8346fee32cb854ab42376f4e179fe1068935869e0acde7a11438b6580e6d0899", checked := Try.checked }
namespace Rows
def none {H : Type} : Left H := { results := [], args := [] }

/-- 'provisolaw03.FramesStarts': WHATEVER THE INPUT: true; the input reads as it did. -/
def framesStartsSpec : ChangeSpec := { name := "framesStarts", fn := fun _ => fun
  | [d1, d2, d3] => { results := [.lit (.bool true)], args := [d1, d2, d3] }
  | _ => none }
def framesStartsRow : OpenClaim := { program := "ytgjnmpgmbhbbhaa", sum := "8346fee32cb854ab42376f4e179fe1068935869e0acde7a11438b6580e6d0899", func := "proviso/provisolaw03.FramesStarts", spec := "framesStarts", apart := false }
def FramesStartsSaid : Prop := framesStartsRow.holds Try.pinned (OpenSpec.ofChange framesStartsSpec)

/-- ITS FALSE NEIGHBOUR: 'it returns false'. Refute it at one input. -/
def framesStartsWrong : ChangeSpec := { name := "framesStarts", fn := fun _ => fun
  | [d1, d2, d3] => { results := [.lit (.bool false)], args := [d1, d2, d3] }
  | _ => none }
def FramesStartsWrongFalsely : Prop := framesStartsRow.holds Try.pinned (OpenSpec.ofChange framesStartsWrong)

/-- 'provisolaw03.FramesMoves': WHATEVER THE INPUT: true; the input reads as it did. -/
def framesMovesSpec : ChangeSpec := { name := "framesMoves", fn := fun _ => fun
  | [d1, d2, d3] => { results := [.lit (.bool true)], args := [d1, d2, d3] }
  | _ => none }
def framesMovesRow : OpenClaim := { program := "ytgjnmpgmbhbbhaa", sum := "8346fee32cb854ab42376f4e179fe1068935869e0acde7a11438b6580e6d0899", func := "proviso/provisolaw03.FramesMoves", spec := "framesMoves", apart := false }
def FramesMovesSaid : Prop := framesMovesRow.holds Try.pinned (OpenSpec.ofChange framesMovesSpec)

/-- ITS FALSE NEIGHBOUR: 'it returns false'. Refute it at one input. -/
def framesMovesWrong : ChangeSpec := { name := "framesMoves", fn := fun _ => fun
  | [d1, d2, d3] => { results := [.lit (.bool false)], args := [d1, d2, d3] }
  | _ => none }
def FramesMovesWrongFalsely : Prop := framesMovesRow.holds Try.pinned (OpenSpec.ofChange framesMovesWrong)

/-- 'provisolaw03.FramesBack': WHATEVER THE INPUT: true; the input reads as it did. -/
def framesBackSpec : ChangeSpec := { name := "framesBack", fn := fun _ => fun
  | [d1, d2, d3] => { results := [.lit (.bool true)], args := [d1, d2, d3] }
  | _ => none }
def framesBackRow : OpenClaim := { program := "ytgjnmpgmbhbbhaa", sum := "8346fee32cb854ab42376f4e179fe1068935869e0acde7a11438b6580e6d0899", func := "proviso/provisolaw03.FramesBack", spec := "framesBack", apart := false }
def FramesBackSaid : Prop := framesBackRow.holds Try.pinned (OpenSpec.ofChange framesBackSpec)

/-- ITS FALSE NEIGHBOUR: 'it returns false'. Refute it at one input. -/
def framesBackWrong : ChangeSpec := { name := "framesBack", fn := fun _ => fun
  | [d1, d2, d3] => { results := [.lit (.bool false)], args := [d1, d2, d3] }
  | _ => none }
def FramesBackWrongFalsely : Prop := framesBackRow.holds Try.pinned (OpenSpec.ofChange framesBackWrong)

/-- 'provisolaw03.FramesOrder': WHATEVER THE INPUT: true; the input reads as it did. -/
def framesOrderSpec : ChangeSpec := { name := "framesOrder", fn := fun _ => fun
  | [d1, d2, d3, d4] => { results := [.lit (.bool true)], args := [d1, d2, d3, d4] }
  | _ => none }
def framesOrderRow : OpenClaim := { program := "ytgjnmpgmbhbbhaa", sum := "8346fee32cb854ab42376f4e179fe1068935869e0acde7a11438b6580e6d0899", func := "proviso/provisolaw03.FramesOrder", spec := "framesOrder", unfollowed := true, recurses := true, apart := false }
def FramesOrderSaid : Prop := framesOrderRow.holds Try.pinned (OpenSpec.ofChange framesOrderSpec)

/-- ITS FALSE NEIGHBOUR: 'it returns false'. Refute it at one input. -/
def framesOrderWrong : ChangeSpec := { name := "framesOrder", fn := fun _ => fun
  | [d1, d2, d3, d4] => { results := [.lit (.bool false)], args := [d1, d2, d3, d4] }
  | _ => none }
def FramesOrderWrongFalsely : Prop := framesOrderRow.holds Try.pinned (OpenSpec.ofChange framesOrderWrong)

/-- 'provisolaw03.FramesLeast': WHATEVER THE INPUT: true; the input reads as it did. -/
def framesLeastSpec : ChangeSpec := { name := "framesLeast", fn := fun _ => fun
  | [d1, d2, d3, d4] => { results := [.lit (.bool true)], args := [d1, d2, d3, d4] }
  | _ => none }
def framesLeastRow : OpenClaim := { program := "ytgjnmpgmbhbbhaa", sum := "8346fee32cb854ab42376f4e179fe1068935869e0acde7a11438b6580e6d0899", func := "proviso/provisolaw03.FramesLeast", spec := "framesLeast", unfollowed := true, recurses := true, apart := false }
def FramesLeastSaid : Prop := framesLeastRow.holds Try.pinned (OpenSpec.ofChange framesLeastSpec)

/-- ITS FALSE NEIGHBOUR: 'it returns false'. Refute it at one input. -/
def framesLeastWrong : ChangeSpec := { name := "framesLeast", fn := fun _ => fun
  | [d1, d2, d3, d4] => { results := [.lit (.bool false)], args := [d1, d2, d3, d4] }
  | _ => none }
def FramesLeastWrongFalsely : Prop := framesLeastRow.holds Try.pinned (OpenSpec.ofChange framesLeastWrong)

/-- 'provisolaw03.FramesRanks': WHATEVER THE INPUT: true; the input reads as it did. -/
def framesRanksSpec : ChangeSpec := { name := "framesRanks", fn := fun _ => fun
  | [d1, d2, d3] => { results := [.lit (.bool true)], args := [d1, d2, d3] }
  | _ => none }
def framesRanksRow : OpenClaim := { program := "ytgjnmpgmbhbbhaa", sum := "8346fee32cb854ab42376f4e179fe1068935869e0acde7a11438b6580e6d0899", func := "proviso/provisolaw03.FramesRanks", spec := "framesRanks", unfollowed := true, recurses := true, apart := false }
def FramesRanksSaid : Prop := framesRanksRow.holds Try.pinned (OpenSpec.ofChange framesRanksSpec)

/-- ITS FALSE NEIGHBOUR: 'it returns false'. Refute it at one input. -/
def framesRanksWrong : ChangeSpec := { name := "framesRanks", fn := fun _ => fun
  | [d1, d2, d3] => { results := [.lit (.bool false)], args := [d1, d2, d3] }
  | _ => none }
def FramesRanksWrongFalsely : Prop := framesRanksRow.holds Try.pinned (OpenSpec.ofChange framesRanksWrong)

/-- 'provisolaw03.FramesMeets': WHATEVER THE INPUT: true; the input reads as it did. -/
def framesMeetsSpec : ChangeSpec := { name := "framesMeets", fn := fun _ => fun
  | [d1, d2, d3] => { results := [.lit (.bool true)], args := [d1, d2, d3] }
  | _ => none }
def framesMeetsRow : OpenClaim := { program := "ytgjnmpgmbhbbhaa", sum := "8346fee32cb854ab42376f4e179fe1068935869e0acde7a11438b6580e6d0899", func := "proviso/provisolaw03.FramesMeets", spec := "framesMeets", unfollowed := true, recurses := true, apart := false }
def FramesMeetsSaid : Prop := framesMeetsRow.holds Try.pinned (OpenSpec.ofChange framesMeetsSpec)

/-- ITS FALSE NEIGHBOUR: 'it returns false'. Refute it at one input. -/
def framesMeetsWrong : ChangeSpec := { name := "framesMeets", fn := fun _ => fun
  | [d1, d2, d3] => { results := [.lit (.bool false)], args := [d1, d2, d3] }
  | _ => none }
def FramesMeetsWrongFalsely : Prop := framesMeetsRow.holds Try.pinned (OpenSpec.ofChange framesMeetsWrong)

/-- 'provisolaw03.FramesChecks': WHATEVER THE INPUT: true; the input reads as it did. -/
def framesChecksSpec : ChangeSpec := { name := "framesChecks", fn := fun _ => fun
  | [d1, d2] => { results := [.lit (.bool true)], args := [d1, d2] }
  | _ => none }
def framesChecksRow : OpenClaim := { program := "ytgjnmpgmbhbbhaa", sum := "8346fee32cb854ab42376f4e179fe1068935869e0acde7a11438b6580e6d0899", func := "proviso/provisolaw03.FramesChecks", spec := "framesChecks", inPlace := ["internal/abi.NoEscape", "internal/bytealg.MakeNoZero"], unfollowed := true, recurses := true, apart := false }
def FramesChecksSaid : Prop := framesChecksRow.holds Try.pinned (OpenSpec.ofChange framesChecksSpec)

/-- ITS FALSE NEIGHBOUR: 'it returns false'. Refute it at one input. -/
def framesChecksWrong : ChangeSpec := { name := "framesChecks", fn := fun _ => fun
  | [d1, d2] => { results := [.lit (.bool false)], args := [d1, d2] }
  | _ => none }
def FramesChecksWrongFalsely : Prop := framesChecksRow.holds Try.pinned (OpenSpec.ofChange framesChecksWrong)

/- THE SECOND FORM. 'bulk': how many values and letters a reading holds, each counted each time it is reached (what is shared counts as often as it is met; a slice's spare places count too). A statement '..UptoSaid' is the law's where the arguments, and the package variables that the reading takes, are together of bulk at most 1048576: NARROWER than '..Said'. Prove '..Said' where nothing that the law and all that it calls make is longer than what came in: it says more and counts as full. Else prove '..UptoSaid'. A law counts once. -/
mutual
def uptoBulk {H : Type} : DataW H → Nat
  | .lit (.string bytes) => bytes.length + 1
  | .lit _ => 1
  | .nil => 1
  | .ptr d => uptoBulk d + 1
  | .slice elems spare => uptoBulkAll elems + uptoBulkAll spare + 1
  | .agg parts => uptoBulkAll parts + 1
  | .iface _ d => uptoBulk d + 1
  | .map entries => uptoBulkEntries entries + 1
  | .held _ => 1
def uptoBulkAll {H : Type} : List (DataW H) → Nat
  | [] => 0
  | d :: r => uptoBulk d + uptoBulkAll r
def uptoBulkEntries {H : Type} : List (Lit × DataW H) → Nat
  | [] => 0
  | x :: r => uptoBulkEntry x + uptoBulkEntries r
def uptoBulkEntry {H : Type} : Lit × DataW H → Nat
  | (.string bytes, d) => bytes.length + uptoBulk d + 1
  | (_, d) => uptoBulk d + 1
 end
def uptoSmall : (H : Type) → List (DataW H) → Bool := fun _ ds => decide (uptoBulkAll ds ≤ 1048576)
def OpenSpec.upto (s : _root_.Go.ChangeSpec) : _root_.Go.OpenSpec := { _root_.Go.OpenSpec.ofChange s with cond := some uptoSmall }

/-- 'provisolaw03.FramesStarts', WHERE WHAT IT READS IS OF BULK AT MOST 1048576: true; the input reads as it did. -/
def framesStartsUptoRow : OpenClaim := { program := "ytgjnmpgmbhbbhaa", sum := "8346fee32cb854ab42376f4e179fe1068935869e0acde7a11438b6580e6d0899", func := "proviso/provisolaw03.FramesStarts", spec := "framesStarts", apart := false, narrowed := true }
def FramesStartsUptoSaid : Prop := framesStartsUptoRow.holds Try.pinned (OpenSpec.upto framesStartsSpec)

/-- 'provisolaw03.FramesMoves', WHERE WHAT IT READS IS OF BULK AT MOST 1048576: true; the input reads as it did. -/
def framesMovesUptoRow : OpenClaim := { program := "ytgjnmpgmbhbbhaa", sum := "8346fee32cb854ab42376f4e179fe1068935869e0acde7a11438b6580e6d0899", func := "proviso/provisolaw03.FramesMoves", spec := "framesMoves", apart := false, narrowed := true }
def FramesMovesUptoSaid : Prop := framesMovesUptoRow.holds Try.pinned (OpenSpec.upto framesMovesSpec)

/-- 'provisolaw03.FramesBack', WHERE WHAT IT READS IS OF BULK AT MOST 1048576: true; the input reads as it did. -/
def framesBackUptoRow : OpenClaim := { program := "ytgjnmpgmbhbbhaa", sum := "8346fee32cb854ab42376f4e179fe1068935869e0acde7a11438b6580e6d0899", func := "proviso/provisolaw03.FramesBack", spec := "framesBack", apart := false, narrowed := true }
def FramesBackUptoSaid : Prop := framesBackUptoRow.holds Try.pinned (OpenSpec.upto framesBackSpec)

/-- 'provisolaw03.FramesOrder', WHERE WHAT IT READS IS OF BULK AT MOST 1048576: true; the input reads as it did. -/
def framesOrderUptoRow : OpenClaim := { program := "ytgjnmpgmbhbbhaa", sum := "8346fee32cb854ab42376f4e179fe1068935869e0acde7a11438b6580e6d0899", func := "proviso/provisolaw03.FramesOrder", spec := "framesOrder", unfollowed := true, recurses := true, apart := false, narrowed := true }
def FramesOrderUptoSaid : Prop := framesOrderUptoRow.holds Try.pinned (OpenSpec.upto framesOrderSpec)

/-- 'provisolaw03.FramesLeast', WHERE WHAT IT READS IS OF BULK AT MOST 1048576: true; the input reads as it did. -/
def framesLeastUptoRow : OpenClaim := { program := "ytgjnmpgmbhbbhaa", sum := "8346fee32cb854ab42376f4e179fe1068935869e0acde7a11438b6580e6d0899", func := "proviso/provisolaw03.FramesLeast", spec := "framesLeast", unfollowed := true, recurses := true, apart := false, narrowed := true }
def FramesLeastUptoSaid : Prop := framesLeastUptoRow.holds Try.pinned (OpenSpec.upto framesLeastSpec)

/-- 'provisolaw03.FramesRanks', WHERE WHAT IT READS IS OF BULK AT MOST 1048576: true; the input reads as it did. -/
def framesRanksUptoRow : OpenClaim := { program := "ytgjnmpgmbhbbhaa", sum := "8346fee32cb854ab42376f4e179fe1068935869e0acde7a11438b6580e6d0899", func := "proviso/provisolaw03.FramesRanks", spec := "framesRanks", unfollowed := true, recurses := true, apart := false, narrowed := true }
def FramesRanksUptoSaid : Prop := framesRanksUptoRow.holds Try.pinned (OpenSpec.upto framesRanksSpec)

/-- 'provisolaw03.FramesMeets', WHERE WHAT IT READS IS OF BULK AT MOST 1048576: true; the input reads as it did. -/
def framesMeetsUptoRow : OpenClaim := { program := "ytgjnmpgmbhbbhaa", sum := "8346fee32cb854ab42376f4e179fe1068935869e0acde7a11438b6580e6d0899", func := "proviso/provisolaw03.FramesMeets", spec := "framesMeets", unfollowed := true, recurses := true, apart := false, narrowed := true }
def FramesMeetsUptoSaid : Prop := framesMeetsUptoRow.holds Try.pinned (OpenSpec.upto framesMeetsSpec)

/-- 'provisolaw03.FramesChecks', WHERE WHAT IT READS IS OF BULK AT MOST 1048576: true; the input reads as it did. -/
def framesChecksUptoRow : OpenClaim := { program := "ytgjnmpgmbhbbhaa", sum := "8346fee32cb854ab42376f4e179fe1068935869e0acde7a11438b6580e6d0899", func := "proviso/provisolaw03.FramesChecks", spec := "framesChecks", inPlace := ["internal/abi.NoEscape", "internal/bytealg.MakeNoZero"], unfollowed := true, recurses := true, apart := false, narrowed := true }
def FramesChecksUptoSaid : Prop := framesChecksUptoRow.holds Try.pinned (OpenSpec.upto framesChecksSpec)

end Rows
end Go.Proofs.Ytgjnmpgmbhbbhaa
