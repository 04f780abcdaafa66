/-
  No cell of these rows narrows 'for every input' (looked for: loops, veiled, ifaces, maps, wideKeys, modest, calm, conditions, laid).
  DERIVED. THE GIVEN ROWS OF THIS SEAT. 10 by the template 'for every input the law returns true; each argument reads behind the call as it read before'; 0 by the template 'total and deterministic' (their statements: YtcffniaieegbgaaTotals.lean).
  GIVEN WITH THE SEED: the statements are not yours to turn. If you find one false, say at which input.
  Laid BY PROGRAM, IN A SANDBOX (cutbox-rows.mjs): the forced cells as the released guide's own fill.sh prints them over the translation 0043d8df247e1cb9… (all of the seat's roots in one cut). By AI agents, Wed Nov 11 2026. No macro, syntax, notation, axiom, sorry.
-/
import Derived.Test.YtcffniaieegbgaaChecked
import GoSem.Claim
import GoSem.ClaimJoined
import GoSem.ClaimMapViews
import Derived.JoinedTies
import Derived.KernelRfl
namespace Go.Proofs.Ytcffniaieegbgaa
/- THE CELL 'sum', in the pinned program and in every row, IS THE sha256 OF THE DUMP (.gsa) THAT YtcffniaieegbgaaProg.lean LOADS. Nothing in Lean hashes anything: it is a label: what it is worth is what the hold of that sum in a sandbox is worth. -/
noncomputable def Try.pinned : Pinned := { name := "ytcffniaieegbgaa", sum := "0043d8df247e1cb90589913b5609a2927476347b0195c8462e796d034cccf545", checked := Try.checked }
namespace Rows
def none {H : Type} : Left H := { results := [], args := [] }

/-- 'provisolaw05.FlowAhead': WHATEVER THE INPUT: true; the input reads as it did. -/
def flowAheadSpec : ChangeSpec := { name := "flowAhead", fn := fun _ => fun
  | [d] => { results := [.lit (.bool true)], args := [d] }
  | _ => none }
def flowAheadRow : OpenClaim := { program := "ytcffniaieegbgaa", sum := "0043d8df247e1cb90589913b5609a2927476347b0195c8462e796d034cccf545", func := "proviso/provisolaw05.FlowAhead", spec := "flowAhead", unfollowed := true, recurses := true, apart := false }
def FlowAheadSaid : Prop := flowAheadRow.holds Try.pinned (OpenSpec.ofChange flowAheadSpec)

/-- ITS FALSE NEIGHBOUR: 'it returns false'. Refute it at one input. -/
def flowAheadWrong : ChangeSpec := { name := "flowAhead", fn := fun _ => fun
  | [d] => { results := [.lit (.bool false)], args := [d] }
  | _ => none }
def FlowAheadWrongFalsely : Prop := flowAheadRow.holds Try.pinned (OpenSpec.ofChange flowAheadWrong)

/-- 'provisolaw05.FlowOrders': WHATEVER THE INPUT: true; the input reads as it did. -/
def flowOrdersSpec : ChangeSpec := { name := "flowOrders", fn := fun _ => fun
  | [d] => { results := [.lit (.bool true)], args := [d] }
  | _ => none }
def flowOrdersRow : OpenClaim := { program := "ytcffniaieegbgaa", sum := "0043d8df247e1cb90589913b5609a2927476347b0195c8462e796d034cccf545", func := "proviso/provisolaw05.FlowOrders", spec := "flowOrders", unfollowed := true, recurses := true, apart := false }
def FlowOrdersSaid : Prop := flowOrdersRow.holds Try.pinned (OpenSpec.ofChange flowOrdersSpec)

/-- ITS FALSE NEIGHBOUR: 'it returns false'. Refute it at one input. -/
def flowOrdersWrong : ChangeSpec := { name := "flowOrders", fn := fun _ => fun
  | [d] => { results := [.lit (.bool false)], args := [d] }
  | _ => none }
def FlowOrdersWrongFalsely : Prop := flowOrdersRow.holds Try.pinned (OpenSpec.ofChange flowOrdersWrong)

/-- 'provisolaw05.FlowScans': WHATEVER THE INPUT: true; the input reads as it did. -/
def flowScansSpec : ChangeSpec := { name := "flowScans", fn := fun _ => fun
  | [d] => { results := [.lit (.bool true)], args := [d] }
  | _ => none }
def flowScansRow : OpenClaim := { program := "ytcffniaieegbgaa", sum := "0043d8df247e1cb90589913b5609a2927476347b0195c8462e796d034cccf545", func := "proviso/provisolaw05.FlowScans", spec := "flowScans", unfollowed := true, recurses := true, apart := false }
def FlowScansSaid : Prop := flowScansRow.holds Try.pinned (OpenSpec.ofChange flowScansSpec)

/-- ITS FALSE NEIGHBOUR: 'it returns false'. Refute it at one input. -/
def flowScansWrong : ChangeSpec := { name := "flowScans", fn := fun _ => fun
  | [d] => { results := [.lit (.bool false)], args := [d] }
  | _ => none }
def FlowScansWrongFalsely : Prop := flowScansRow.holds Try.pinned (OpenSpec.ofChange flowScansWrong)

/-- 'provisolaw05.FlowNexts': WHATEVER THE INPUT: true; the input reads as it did. -/
def flowNextsSpec : ChangeSpec := { name := "flowNexts", fn := fun _ => fun
  | [d] => { results := [.lit (.bool true)], args := [d] }
  | _ => none }
def flowNextsRow : OpenClaim := { program := "ytcffniaieegbgaa", sum := "0043d8df247e1cb90589913b5609a2927476347b0195c8462e796d034cccf545", func := "proviso/provisolaw05.FlowNexts", spec := "flowNexts", recurses := true, apart := false }
def FlowNextsSaid : Prop := flowNextsRow.holds Try.pinned (OpenSpec.ofChange flowNextsSpec)

/-- ITS FALSE NEIGHBOUR: 'it returns false'. Refute it at one input. -/
def flowNextsWrong : ChangeSpec := { name := "flowNexts", fn := fun _ => fun
  | [d] => { results := [.lit (.bool false)], args := [d] }
  | _ => none }
def FlowNextsWrongFalsely : Prop := flowNextsRow.holds Try.pinned (OpenSpec.ofChange flowNextsWrong)

/-- 'provisolaw05.FlowLists': WHATEVER THE INPUT: true; the input reads as it did. -/
def flowListsSpec : ChangeSpec := { name := "flowLists", fn := fun _ => fun
  | [d] => { results := [.lit (.bool true)], args := [d] }
  | _ => none }
def flowListsRow : OpenClaim := { program := "ytcffniaieegbgaa", sum := "0043d8df247e1cb90589913b5609a2927476347b0195c8462e796d034cccf545", func := "proviso/provisolaw05.FlowLists", spec := "flowLists", recurses := true, apart := false }
def FlowListsSaid : Prop := flowListsRow.holds Try.pinned (OpenSpec.ofChange flowListsSpec)

/-- ITS FALSE NEIGHBOUR: 'it returns false'. Refute it at one input. -/
def flowListsWrong : ChangeSpec := { name := "flowLists", fn := fun _ => fun
  | [d] => { results := [.lit (.bool false)], args := [d] }
  | _ => none }
def FlowListsWrongFalsely : Prop := flowListsRow.holds Try.pinned (OpenSpec.ofChange flowListsWrong)

/-- 'provisolaw05.FlowReaches': WHATEVER THE INPUT: true; the input reads as it did. -/
def flowReachesSpec : ChangeSpec := { name := "flowReaches", fn := fun _ => fun
  | [d1, d2] => { results := [.lit (.bool true)], args := [d1, d2] }
  | _ => none }
def flowReachesRow : OpenClaim := { program := "ytcffniaieegbgaa", sum := "0043d8df247e1cb90589913b5609a2927476347b0195c8462e796d034cccf545", func := "proviso/provisolaw05.FlowReaches", spec := "flowReaches", recurses := true, apart := false }
def FlowReachesSaid : Prop := flowReachesRow.holds Try.pinned (OpenSpec.ofChange flowReachesSpec)

/-- ITS FALSE NEIGHBOUR: 'it returns false'. Refute it at one input. -/
def flowReachesWrong : ChangeSpec := { name := "flowReaches", fn := fun _ => fun
  | [d1, d2] => { results := [.lit (.bool false)], args := [d1, d2] }
  | _ => none }
def FlowReachesWrongFalsely : Prop := flowReachesRow.holds Try.pinned (OpenSpec.ofChange flowReachesWrong)

/-- 'provisolaw05.FlowParts': WHATEVER THE INPUT: true; the input reads as it did. -/
def flowPartsSpec : ChangeSpec := { name := "flowParts", fn := fun _ => fun
  | [d] => { results := [.lit (.bool true)], args := [d] }
  | _ => none }
def flowPartsRow : OpenClaim := { program := "ytcffniaieegbgaa", sum := "0043d8df247e1cb90589913b5609a2927476347b0195c8462e796d034cccf545", func := "proviso/provisolaw05.FlowParts", spec := "flowParts", recurses := true, apart := false }
def FlowPartsSaid : Prop := flowPartsRow.holds Try.pinned (OpenSpec.ofChange flowPartsSpec)

/-- ITS FALSE NEIGHBOUR: 'it returns false'. Refute it at one input. -/
def flowPartsWrong : ChangeSpec := { name := "flowParts", fn := fun _ => fun
  | [d] => { results := [.lit (.bool false)], args := [d] }
  | _ => none }
def FlowPartsWrongFalsely : Prop := flowPartsRow.holds Try.pinned (OpenSpec.ofChange flowPartsWrong)

/-- 'provisolaw05.FlowBlocks': WHATEVER THE INPUT: true; the input reads as it did. -/
def flowBlocksSpec : ChangeSpec := { name := "flowBlocks", fn := fun _ => fun
  | [d] => { results := [.lit (.bool true)], args := [d] }
  | _ => none }
def flowBlocksRow : OpenClaim := { program := "ytcffniaieegbgaa", sum := "0043d8df247e1cb90589913b5609a2927476347b0195c8462e796d034cccf545", func := "proviso/provisolaw05.FlowBlocks", spec := "flowBlocks", recurses := true, apart := false }
def FlowBlocksSaid : Prop := flowBlocksRow.holds Try.pinned (OpenSpec.ofChange flowBlocksSpec)

/-- ITS FALSE NEIGHBOUR: 'it returns false'. Refute it at one input. -/
def flowBlocksWrong : ChangeSpec := { name := "flowBlocks", fn := fun _ => fun
  | [d] => { results := [.lit (.bool false)], args := [d] }
  | _ => none }
def FlowBlocksWrongFalsely : Prop := flowBlocksRow.holds Try.pinned (OpenSpec.ofChange flowBlocksWrong)

/-- 'provisolaw05.FlowInside': WHATEVER THE INPUT: true; the input reads as it did. -/
def flowInsideSpec : ChangeSpec := { name := "flowInside", fn := fun _ => fun
  | [d] => { results := [.lit (.bool true)], args := [d] }
  | _ => none }
def flowInsideRow : OpenClaim := { program := "ytcffniaieegbgaa", sum := "0043d8df247e1cb90589913b5609a2927476347b0195c8462e796d034cccf545", func := "proviso/provisolaw05.FlowInside", spec := "flowInside", unfollowed := true, recurses := true, apart := false }
def FlowInsideSaid : Prop := flowInsideRow.holds Try.pinned (OpenSpec.ofChange flowInsideSpec)

/-- ITS FALSE NEIGHBOUR: 'it returns false'. Refute it at one input. -/
def flowInsideWrong : ChangeSpec := { name := "flowInside", fn := fun _ => fun
  | [d] => { results := [.lit (.bool false)], args := [d] }
  | _ => none }
def FlowInsideWrongFalsely : Prop := flowInsideRow.holds Try.pinned (OpenSpec.ofChange flowInsideWrong)

/-- 'provisolaw05.FlowOwn': WHATEVER THE INPUT: true; the input reads as it did. -/
def flowOwnSpec : ChangeSpec := { name := "flowOwn", fn := fun _ => fun
  | [d1, d2] => { results := [.lit (.bool true)], args := [d1, d2] }
  | _ => none }
def flowOwnRow : OpenClaim := { program := "ytcffniaieegbgaa", sum := "0043d8df247e1cb90589913b5609a2927476347b0195c8462e796d034cccf545", func := "proviso/provisolaw05.FlowOwn", spec := "flowOwn", unfollowed := true, recurses := true, apart := false }
def FlowOwnSaid : Prop := flowOwnRow.holds Try.pinned (OpenSpec.ofChange flowOwnSpec)

/-- ITS FALSE NEIGHBOUR: 'it returns false'. Refute it at one input. -/
def flowOwnWrong : ChangeSpec := { name := "flowOwn", fn := fun _ => fun
  | [d1, d2] => { results := [.lit (.bool false)], args := [d1, d2] }
  | _ => none }
def FlowOwnWrongFalsely : Prop := flowOwnRow.holds Try.pinned (OpenSpec.ofChange flowOwnWrong)

/- THE SECOND FORM. 'bulk': how many values and letters a reading holds, each counted each time it is reached (what is shared counts as often as it is met; a slice's spare places count too). A statement '..UptoSaid' is the law's where the arguments, and the package variables that the reading takes, are together of bulk at most 1048576: NARROWER than '..Said'. Prove '..Said' where nothing that the law and all that it calls make is longer than what came in: it says more and counts as full. Else prove '..UptoSaid'. A law counts once. -/
mutual
def uptoBulk {H : Type} : DataW H → Nat
  | .lit (.string bytes) => bytes.length + 1
  | .lit _ => 1
  | .nil => 1
  | .ptr d => uptoBulk d + 1
  | .slice elems spare => uptoBulkAll elems + uptoBulkAll spare + 1
  | .agg parts => uptoBulkAll parts + 1
  | .iface _ d => uptoBulk d + 1
  | .map entries => uptoBulkEntries entries + 1
  | .held _ => 1
def uptoBulkAll {H : Type} : List (DataW H) → Nat
  | [] => 0
  | d :: r => uptoBulk d + uptoBulkAll r
def uptoBulkEntries {H : Type} : List (Lit × DataW H) → Nat
  | [] => 0
  | x :: r => uptoBulkEntry x + uptoBulkEntries r
def uptoBulkEntry {H : Type} : Lit × DataW H → Nat
  | (.string bytes, d) => bytes.length + uptoBulk d + 1
  | (_, d) => uptoBulk d + 1
 end
def uptoSmall : (H : Type) → List (DataW H) → Bool := fun _ ds => decide (uptoBulkAll ds ≤ 1048576)
def OpenSpec.upto (s : _root_.Go.ChangeSpec) : _root_.Go.OpenSpec := { _root_.Go.OpenSpec.ofChange s with cond := some uptoSmall }

/-- 'provisolaw05.FlowAhead', WHERE WHAT IT READS IS OF BULK AT MOST 1048576: true; the input reads as it did. -/
def flowAheadUptoRow : OpenClaim := { program := "ytcffniaieegbgaa", sum := "0043d8df247e1cb90589913b5609a2927476347b0195c8462e796d034cccf545", func := "proviso/provisolaw05.FlowAhead", spec := "flowAhead", unfollowed := true, recurses := true, apart := false, narrowed := true }
def FlowAheadUptoSaid : Prop := flowAheadUptoRow.holds Try.pinned (OpenSpec.upto flowAheadSpec)

/-- 'provisolaw05.FlowOrders', WHERE WHAT IT READS IS OF BULK AT MOST 1048576: true; the input reads as it did. -/
def flowOrdersUptoRow : OpenClaim := { program := "ytcffniaieegbgaa", sum := "0043d8df247e1cb90589913b5609a2927476347b0195c8462e796d034cccf545", func := "proviso/provisolaw05.FlowOrders", spec := "flowOrders", unfollowed := true, recurses := true, apart := false, narrowed := true }
def FlowOrdersUptoSaid : Prop := flowOrdersUptoRow.holds Try.pinned (OpenSpec.upto flowOrdersSpec)

/-- 'provisolaw05.FlowScans', WHERE WHAT IT READS IS OF BULK AT MOST 1048576: true; the input reads as it did. -/
def flowScansUptoRow : OpenClaim := { program := "ytcffniaieegbgaa", sum := "0043d8df247e1cb90589913b5609a2927476347b0195c8462e796d034cccf545", func := "proviso/provisolaw05.FlowScans", spec := "flowScans", unfollowed := true, recurses := true, apart := false, narrowed := true }
def FlowScansUptoSaid : Prop := flowScansUptoRow.holds Try.pinned (OpenSpec.upto flowScansSpec)

/-- 'provisolaw05.FlowNexts', WHERE WHAT IT READS IS OF BULK AT MOST 1048576: true; the input reads as it did. -/
def flowNextsUptoRow : OpenClaim := { program := "ytcffniaieegbgaa", sum := "0043d8df247e1cb90589913b5609a2927476347b0195c8462e796d034cccf545", func := "proviso/provisolaw05.FlowNexts", spec := "flowNexts", recurses := true, apart := false, narrowed := true }
def FlowNextsUptoSaid : Prop := flowNextsUptoRow.holds Try.pinned (OpenSpec.upto flowNextsSpec)

/-- 'provisolaw05.FlowLists', WHERE WHAT IT READS IS OF BULK AT MOST 1048576: true; the input reads as it did. -/
def flowListsUptoRow : OpenClaim := { program := "ytcffniaieegbgaa", sum := "0043d8df247e1cb90589913b5609a2927476347b0195c8462e796d034cccf545", func := "proviso/provisolaw05.FlowLists", spec := "flowLists", recurses := true, apart := false, narrowed := true }
def FlowListsUptoSaid : Prop := flowListsUptoRow.holds Try.pinned (OpenSpec.upto flowListsSpec)

/-- 'provisolaw05.FlowReaches', WHERE WHAT IT READS IS OF BULK AT MOST 1048576: true; the input reads as it did. -/
def flowReachesUptoRow : OpenClaim := { program := "ytcffniaieegbgaa", sum := "0043d8df247e1cb90589913b5609a2927476347b0195c8462e796d034cccf545", func := "proviso/provisolaw05.FlowReaches", spec := "flowReaches", recurses := true, apart := false, narrowed := true }
def FlowReachesUptoSaid : Prop := flowReachesUptoRow.holds Try.pinned (OpenSpec.upto flowReachesSpec)

/-- 'provisolaw05.FlowParts', WHERE WHAT IT READS IS OF BULK AT MOST 1048576: true; the input reads as it did. -/
def flowPartsUptoRow : OpenClaim := { program := "ytcffniaieegbgaa", sum := "0043d8df247e1cb90589913b5609a2927476347b0195c8462e796d034cccf545", func := "proviso/provisolaw05.FlowParts", spec := "flowParts", recurses := true, apart := false, narrowed := true }
def FlowPartsUptoSaid : Prop := flowPartsUptoRow.holds Try.pinned (OpenSpec.upto flowPartsSpec)

/-- 'provisolaw05.FlowBlocks', WHERE WHAT IT READS IS OF BULK AT MOST 1048576: true; the input reads as it did. -/
def flowBlocksUptoRow : OpenClaim := { program := "ytcffniaieegbgaa", sum := "0043d8df247e1cb90589913b5609a2927476347b0195c8462e796d034cccf545", func := "proviso/provisolaw05.FlowBlocks", spec := "flowBlocks", recurses := true, apart := false, narrowed := true }
def FlowBlocksUptoSaid : Prop := flowBlocksUptoRow.holds Try.pinned (OpenSpec.upto flowBlocksSpec)

/-- 'provisolaw05.FlowInside', WHERE WHAT IT READS IS OF BULK AT MOST 1048576: true; the input reads as it did. -/
def flowInsideUptoRow : OpenClaim := { program := "ytcffniaieegbgaa", sum := "0043d8df247e1cb90589913b5609a2927476347b0195c8462e796d034cccf545", func := "proviso/provisolaw05.FlowInside", spec := "flowInside", unfollowed := true, recurses := true, apart := false, narrowed := true }
def FlowInsideUptoSaid : Prop := flowInsideUptoRow.holds Try.pinned (OpenSpec.upto flowInsideSpec)

/-- 'provisolaw05.FlowOwn', WHERE WHAT IT READS IS OF BULK AT MOST 1048576: true; the input reads as it did. -/
def flowOwnUptoRow : OpenClaim := { program := "ytcffniaieegbgaa", sum := "0043d8df247e1cb90589913b5609a2927476347b0195c8462e796d034cccf545", func := "proviso/provisolaw05.FlowOwn", spec := "flowOwn", unfollowed := true, recurses := true, apart := false, narrowed := true }
def FlowOwnUptoSaid : Prop := flowOwnUptoRow.holds Try.pinned (OpenSpec.upto flowOwnSpec)

end Rows
end Go.Proofs.Ytcffniaieegbgaa
