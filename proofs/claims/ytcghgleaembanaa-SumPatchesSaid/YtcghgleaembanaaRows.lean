/-
  No cell of these rows narrows 'for every input' (looked for: loops, veiled, ifaces, maps, wideKeys, modest, calm, conditions, laid).
  DERIVED. THE GIVEN ROWS OF THIS SEAT. 5 by the template 'for every input the law returns true; each argument reads behind the call as it read before'; 0 by the template 'total and deterministic' (their statements: YtcghgleaembanaaTotals.lean).
  GIVEN WITH THE SEED: the statements are not yours to turn. If you find one false, say at which input.
  Laid BY PROGRAM, IN A SANDBOX (cutbox-rows.mjs): the forced cells as the released guide's own fill.sh prints them over the translation e7b5cb8c0569f6bb… (all of the seat's roots in one cut). By AI agents, Wed Nov 11 2026. No macro, syntax, notation, axiom, sorry.
-/
import Derived.Test.YtcghgleaembanaaChecked
import GoSem.Claim
import GoSem.ClaimJoined
import GoSem.ClaimMapViews
import Derived.JoinedTies
import Derived.KernelRfl
namespace Go.Proofs.Ytcghgleaembanaa
/- THE CELL 'sum', in the pinned program and in every row, IS THE sha256 OF THE DUMP (.gsa) THAT YtcghgleaembanaaProg.lean LOADS. Nothing in Lean hashes anything: it is a label: what it is worth is what the hold of that sum in a sandbox is worth. -/
noncomputable def Try.pinned : Pinned := { name := "ytcghgleaembanaa", sum := "e7b5cb8c0569f6bb3ff828ddf03230b6d19054fb846a0fa2383e76f3dd2d4909", checked := Try.checked }
namespace Rows
def none {H : Type} : Left H := { results := [], args := [] }

/-- 'rampartlaw02.SumTells': WHATEVER THE INPUT: true; the input reads as it did. -/
def sumTellsSpec : ChangeSpec := { name := "sumTells", fn := fun _ => fun
  | [d1, d2] => { results := [.lit (.bool true)], args := [d1, d2] }
  | _ => none }
def sumTellsRow : OpenClaim := { program := "ytcghgleaembanaa", sum := "e7b5cb8c0569f6bb3ff828ddf03230b6d19054fb846a0fa2383e76f3dd2d4909", func := "rampart/rampartlaw02.SumTells", spec := "sumTells", unfollowed := true, recurses := true, apart := false }
def SumTellsSaid : Prop := sumTellsRow.holds Try.pinned (OpenSpec.ofChange sumTellsSpec)

/-- ITS FALSE NEIGHBOUR: 'it returns false'. Refute it at one input. -/
def sumTellsWrong : ChangeSpec := { name := "sumTells", fn := fun _ => fun
  | [d1, d2] => { results := [.lit (.bool false)], args := [d1, d2] }
  | _ => none }
def SumTellsWrongFalsely : Prop := sumTellsRow.holds Try.pinned (OpenSpec.ofChange sumTellsWrong)

/-- 'rampartlaw02.SumPatches': WHATEVER THE INPUT: true; the input reads as it did. -/
def sumPatchesSpec : ChangeSpec := { name := "sumPatches", fn := fun _ => fun
  | [d1, d2, d3] => { results := [.lit (.bool true)], args := [d1, d2, d3] }
  | _ => none }
def sumPatchesRow : OpenClaim := { program := "ytcghgleaembanaa", sum := "e7b5cb8c0569f6bb3ff828ddf03230b6d19054fb846a0fa2383e76f3dd2d4909", func := "rampart/rampartlaw02.SumPatches", spec := "sumPatches", unfollowed := true, recurses := true, apart := false }
def SumPatchesSaid : Prop := sumPatchesRow.holds Try.pinned (OpenSpec.ofChange sumPatchesSpec)

/-- ITS FALSE NEIGHBOUR: 'it returns false'. Refute it at one input. -/
def sumPatchesWrong : ChangeSpec := { name := "sumPatches", fn := fun _ => fun
  | [d1, d2, d3] => { results := [.lit (.bool false)], args := [d1, d2, d3] }
  | _ => none }
def SumPatchesWrongFalsely : Prop := sumPatchesRow.holds Try.pinned (OpenSpec.ofChange sumPatchesWrong)

/-- 'rampartlaw02.SumInside': WHATEVER THE INPUT: true; the input reads as it did. -/
def sumInsideSpec : ChangeSpec := { name := "sumInside", fn := fun _ => fun
  | [d1, d2] => { results := [.lit (.bool true)], args := [d1, d2] }
  | _ => none }
def sumInsideRow : OpenClaim := { program := "ytcghgleaembanaa", sum := "e7b5cb8c0569f6bb3ff828ddf03230b6d19054fb846a0fa2383e76f3dd2d4909", func := "rampart/rampartlaw02.SumInside", spec := "sumInside", unfollowed := true, recurses := true, apart := false }
def SumInsideSaid : Prop := sumInsideRow.holds Try.pinned (OpenSpec.ofChange sumInsideSpec)

/-- ITS FALSE NEIGHBOUR: 'it returns false'. Refute it at one input. -/
def sumInsideWrong : ChangeSpec := { name := "sumInside", fn := fun _ => fun
  | [d1, d2] => { results := [.lit (.bool false)], args := [d1, d2] }
  | _ => none }
def SumInsideWrongFalsely : Prop := sumInsideRow.holds Try.pinned (OpenSpec.ofChange sumInsideWrong)

/-- 'rampartlaw02.SumOrder': WHATEVER THE INPUT: true; the input reads as it did. -/
def sumOrderSpec : ChangeSpec := { name := "sumOrder", fn := fun _ => fun
  | [d1, d2, d3] => { results := [.lit (.bool true)], args := [d1, d2, d3] }
  | _ => none }
def sumOrderRow : OpenClaim := { program := "ytcghgleaembanaa", sum := "e7b5cb8c0569f6bb3ff828ddf03230b6d19054fb846a0fa2383e76f3dd2d4909", func := "rampart/rampartlaw02.SumOrder", spec := "sumOrder", unfollowed := true, recurses := true, apart := false }
def SumOrderSaid : Prop := sumOrderRow.holds Try.pinned (OpenSpec.ofChange sumOrderSpec)

/-- ITS FALSE NEIGHBOUR: 'it returns false'. Refute it at one input. -/
def sumOrderWrong : ChangeSpec := { name := "sumOrder", fn := fun _ => fun
  | [d1, d2, d3] => { results := [.lit (.bool false)], args := [d1, d2, d3] }
  | _ => none }
def SumOrderWrongFalsely : Prop := sumOrderRow.holds Try.pinned (OpenSpec.ofChange sumOrderWrong)

/-- 'rampartlaw02.SumNoughts': WHATEVER THE INPUT: true; the input reads as it did. -/
def sumNoughtsSpec : ChangeSpec := { name := "sumNoughts", fn := fun _ => fun
  | [d1, d2, d3] => { results := [.lit (.bool true)], args := [d1, d2, d3] }
  | _ => none }
def sumNoughtsRow : OpenClaim := { program := "ytcghgleaembanaa", sum := "e7b5cb8c0569f6bb3ff828ddf03230b6d19054fb846a0fa2383e76f3dd2d4909", func := "rampart/rampartlaw02.SumNoughts", spec := "sumNoughts", unfollowed := true, recurses := true, apart := false }
def SumNoughtsSaid : Prop := sumNoughtsRow.holds Try.pinned (OpenSpec.ofChange sumNoughtsSpec)

/-- ITS FALSE NEIGHBOUR: 'it returns false'. Refute it at one input. -/
def sumNoughtsWrong : ChangeSpec := { name := "sumNoughts", fn := fun _ => fun
  | [d1, d2, d3] => { results := [.lit (.bool false)], args := [d1, d2, d3] }
  | _ => none }
def SumNoughtsWrongFalsely : Prop := sumNoughtsRow.holds Try.pinned (OpenSpec.ofChange sumNoughtsWrong)

/- THE SECOND FORM. 'bulk': how many values and letters a reading holds, each counted each time it is reached (what is shared counts as often as it is met; a slice's spare places count too). A statement '..UptoSaid' is the law's where the arguments, and the package variables that the reading takes, are together of bulk at most 1048576: NARROWER than '..Said'. Prove '..Said' where nothing that the law and all that it calls make is longer than what came in: it says more and counts as full. Else prove '..UptoSaid'. A law counts once. -/
mutual
def uptoBulk {H : Type} : DataW H → Nat
  | .lit (.string bytes) => bytes.length + 1
  | .lit _ => 1
  | .nil => 1
  | .ptr d => uptoBulk d + 1
  | .slice elems spare => uptoBulkAll elems + uptoBulkAll spare + 1
  | .agg parts => uptoBulkAll parts + 1
  | .iface _ d => uptoBulk d + 1
  | .map entries => uptoBulkEntries entries + 1
  | .held _ => 1
def uptoBulkAll {H : Type} : List (DataW H) → Nat
  | [] => 0
  | d :: r => uptoBulk d + uptoBulkAll r
def uptoBulkEntries {H : Type} : List (Lit × DataW H) → Nat
  | [] => 0
  | x :: r => uptoBulkEntry x + uptoBulkEntries r
def uptoBulkEntry {H : Type} : Lit × DataW H → Nat
  | (.string bytes, d) => bytes.length + uptoBulk d + 1
  | (_, d) => uptoBulk d + 1
 end
def uptoSmall : (H : Type) → List (DataW H) → Bool := fun _ ds => decide (uptoBulkAll ds ≤ 1048576)
def OpenSpec.upto (s : _root_.Go.ChangeSpec) : _root_.Go.OpenSpec := { _root_.Go.OpenSpec.ofChange s with cond := some uptoSmall }

/-- 'rampartlaw02.SumTells', WHERE WHAT IT READS IS OF BULK AT MOST 1048576: true; the input reads as it did. -/
def sumTellsUptoRow : OpenClaim := { program := "ytcghgleaembanaa", sum := "e7b5cb8c0569f6bb3ff828ddf03230b6d19054fb846a0fa2383e76f3dd2d4909", func := "rampart/rampartlaw02.SumTells", spec := "sumTells", unfollowed := true, recurses := true, apart := false, narrowed := true }
def SumTellsUptoSaid : Prop := sumTellsUptoRow.holds Try.pinned (OpenSpec.upto sumTellsSpec)

/-- 'rampartlaw02.SumPatches', WHERE WHAT IT READS IS OF BULK AT MOST 1048576: true; the input reads as it did. -/
def sumPatchesUptoRow : OpenClaim := { program := "ytcghgleaembanaa", sum := "e7b5cb8c0569f6bb3ff828ddf03230b6d19054fb846a0fa2383e76f3dd2d4909", func := "rampart/rampartlaw02.SumPatches", spec := "sumPatches", unfollowed := true, recurses := true, apart := false, narrowed := true }
def SumPatchesUptoSaid : Prop := sumPatchesUptoRow.holds Try.pinned (OpenSpec.upto sumPatchesSpec)

/-- 'rampartlaw02.SumInside', WHERE WHAT IT READS IS OF BULK AT MOST 1048576: true; the input reads as it did. -/
def sumInsideUptoRow : OpenClaim := { program := "ytcghgleaembanaa", sum := "e7b5cb8c0569f6bb3ff828ddf03230b6d19054fb846a0fa2383e76f3dd2d4909", func := "rampart/rampartlaw02.SumInside", spec := "sumInside", unfollowed := true, recurses := true, apart := false, narrowed := true }
def SumInsideUptoSaid : Prop := sumInsideUptoRow.holds Try.pinned (OpenSpec.upto sumInsideSpec)

/-- 'rampartlaw02.SumOrder', WHERE WHAT IT READS IS OF BULK AT MOST 1048576: true; the input reads as it did. -/
def sumOrderUptoRow : OpenClaim := { program := "ytcghgleaembanaa", sum := "e7b5cb8c0569f6bb3ff828ddf03230b6d19054fb846a0fa2383e76f3dd2d4909", func := "rampart/rampartlaw02.SumOrder", spec := "sumOrder", unfollowed := true, recurses := true, apart := false, narrowed := true }
def SumOrderUptoSaid : Prop := sumOrderUptoRow.holds Try.pinned (OpenSpec.upto sumOrderSpec)

/-- 'rampartlaw02.SumNoughts', WHERE WHAT IT READS IS OF BULK AT MOST 1048576: true; the input reads as it did. -/
def sumNoughtsUptoRow : OpenClaim := { program := "ytcghgleaembanaa", sum := "e7b5cb8c0569f6bb3ff828ddf03230b6d19054fb846a0fa2383e76f3dd2d4909", func := "rampart/rampartlaw02.SumNoughts", spec := "sumNoughts", unfollowed := true, recurses := true, apart := false, narrowed := true }
def SumNoughtsUptoSaid : Prop := sumNoughtsUptoRow.holds Try.pinned (OpenSpec.upto sumNoughtsSpec)

end Rows
end Go.Proofs.Ytcghgleaembanaa
