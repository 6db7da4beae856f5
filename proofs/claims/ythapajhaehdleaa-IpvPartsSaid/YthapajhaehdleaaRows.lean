/-
  No cell of these rows narrows 'for every input' (looked for: loops, veiled, ifaces, maps, wideKeys, modest, calm, conditions, laid).
  DERIVED. THE GIVEN ROWS OF THIS SEAT. 5 by the template 'for every input the law returns true; each argument reads behind the call as it read before'; 0 by the template 'total and deterministic' (their statements: YthapajhaehdleaaTotals.lean).
  GIVEN WITH THE SEED: the statements are not yours to turn. If you find one false, say at which input.
  Laid BY PROGRAM, IN A SANDBOX (cutbox-rows.mjs): the forced cells as the released guide's own fill.sh prints them over the translation cf93dfea81cad11f… (all of the seat's roots in one cut). By AI agents, Wed Nov 11 2026. No macro, syntax, notation, axiom, sorry.
-/
import Derived.Test.YthapajhaehdleaaChecked
import GoSem.Claim
import GoSem.ClaimJoined
import GoSem.ClaimMapViews
import Derived.JoinedTies
import Derived.KernelRfl
namespace Go.Proofs.Ythapajhaehdleaa
/- THE CELL 'sum', in the pinned program and in every row, IS THE sha256 OF THE DUMP (.gsa) THAT YthapajhaehdleaaProg.lean LOADS. Nothing in Lean hashes anything: it is a label: what it is worth is what the hold of that sum in a sandbox is worth. -/
noncomputable def Try.pinned : Pinned := { name := "ythapajhaehdleaa", sum := "cf93dfea81cad11fbe648b09ffc54e303e735466e82803013870f8ff6a851034", checked := Try.checked }
namespace Rows
def none {H : Type} : Left H := { results := [], args := [] }

/-- 'rampartlaw05.IpvReads': WHATEVER THE INPUT: true; the input reads as it did. -/
def ipvReadsSpec : ChangeSpec := { name := "ipvReads", fn := fun _ => fun
  | [d] => { results := [.lit (.bool true)], args := [d] }
  | _ => none }
def ipvReadsRow : OpenClaim := { program := "ythapajhaehdleaa", sum := "cf93dfea81cad11fbe648b09ffc54e303e735466e82803013870f8ff6a851034", func := "rampart/rampartlaw05.IpvReads", spec := "ipvReads", unfollowed := true, recurses := true, apart := false }
def IpvReadsSaid : Prop := ipvReadsRow.holds Try.pinned (OpenSpec.ofChange ipvReadsSpec)

/-- ITS FALSE NEIGHBOUR: 'it returns false'. Refute it at one input. -/
def ipvReadsWrong : ChangeSpec := { name := "ipvReads", fn := fun _ => fun
  | [d] => { results := [.lit (.bool false)], args := [d] }
  | _ => none }
def IpvReadsWrongFalsely : Prop := ipvReadsRow.holds Try.pinned (OpenSpec.ofChange ipvReadsWrong)

/-- 'rampartlaw05.IpvMakes': WHATEVER THE INPUT: true; the input reads as it did. -/
def ipvMakesSpec : ChangeSpec := { name := "ipvMakes", fn := fun _ => fun
  | [d] => { results := [.lit (.bool true)], args := [d] }
  | _ => none }
def ipvMakesRow : OpenClaim := { program := "ythapajhaehdleaa", sum := "cf93dfea81cad11fbe648b09ffc54e303e735466e82803013870f8ff6a851034", func := "rampart/rampartlaw05.IpvMakes", spec := "ipvMakes", unfollowed := true, recurses := true, apart := false }
def IpvMakesSaid : Prop := ipvMakesRow.holds Try.pinned (OpenSpec.ofChange ipvMakesSpec)

/-- ITS FALSE NEIGHBOUR: 'it returns false'. Refute it at one input. -/
def ipvMakesWrong : ChangeSpec := { name := "ipvMakes", fn := fun _ => fun
  | [d] => { results := [.lit (.bool false)], args := [d] }
  | _ => none }
def IpvMakesWrongFalsely : Prop := ipvMakesRow.holds Try.pinned (OpenSpec.ofChange ipvMakesWrong)

/-- 'rampartlaw05.IpvBack': WHATEVER THE INPUT: true; the input reads as it did. -/
def ipvBackSpec : ChangeSpec := { name := "ipvBack", fn := fun _ => fun
  | [d1, d2, d3] => { results := [.lit (.bool true)], args := [d1, d2, d3] }
  | _ => none }
def ipvBackRow : OpenClaim := { program := "ythapajhaehdleaa", sum := "cf93dfea81cad11fbe648b09ffc54e303e735466e82803013870f8ff6a851034", func := "rampart/rampartlaw05.IpvBack", spec := "ipvBack", unfollowed := true, recurses := true, apart := false }
def IpvBackSaid : Prop := ipvBackRow.holds Try.pinned (OpenSpec.ofChange ipvBackSpec)

/-- ITS FALSE NEIGHBOUR: 'it returns false'. Refute it at one input. -/
def ipvBackWrong : ChangeSpec := { name := "ipvBack", fn := fun _ => fun
  | [d1, d2, d3] => { results := [.lit (.bool false)], args := [d1, d2, d3] }
  | _ => none }
def IpvBackWrongFalsely : Prop := ipvBackRow.holds Try.pinned (OpenSpec.ofChange ipvBackWrong)

/-- 'rampartlaw05.IpvSpoils': WHATEVER THE INPUT: true; the input reads as it did. -/
def ipvSpoilsSpec : ChangeSpec := { name := "ipvSpoils", fn := fun _ => fun
  | [d1, d2, d3] => { results := [.lit (.bool true)], args := [d1, d2, d3] }
  | _ => none }
def ipvSpoilsRow : OpenClaim := { program := "ythapajhaehdleaa", sum := "cf93dfea81cad11fbe648b09ffc54e303e735466e82803013870f8ff6a851034", func := "rampart/rampartlaw05.IpvSpoils", spec := "ipvSpoils", unfollowed := true, recurses := true, apart := false }
def IpvSpoilsSaid : Prop := ipvSpoilsRow.holds Try.pinned (OpenSpec.ofChange ipvSpoilsSpec)

/-- ITS FALSE NEIGHBOUR: 'it returns false'. Refute it at one input. -/
def ipvSpoilsWrong : ChangeSpec := { name := "ipvSpoils", fn := fun _ => fun
  | [d1, d2, d3] => { results := [.lit (.bool false)], args := [d1, d2, d3] }
  | _ => none }
def IpvSpoilsWrongFalsely : Prop := ipvSpoilsRow.holds Try.pinned (OpenSpec.ofChange ipvSpoilsWrong)

/-- 'rampartlaw05.IpvParts': WHATEVER THE INPUT: true; the input reads as it did. -/
def ipvPartsSpec : ChangeSpec := { name := "ipvParts", fn := fun _ => fun
  | [d1, d2] => { results := [.lit (.bool true)], args := [d1, d2] }
  | _ => none }
def ipvPartsRow : OpenClaim := { program := "ythapajhaehdleaa", sum := "cf93dfea81cad11fbe648b09ffc54e303e735466e82803013870f8ff6a851034", func := "rampart/rampartlaw05.IpvParts", spec := "ipvParts", unfollowed := true, recurses := true, apart := false }
def IpvPartsSaid : Prop := ipvPartsRow.holds Try.pinned (OpenSpec.ofChange ipvPartsSpec)

/-- ITS FALSE NEIGHBOUR: 'it returns false'. Refute it at one input. -/
def ipvPartsWrong : ChangeSpec := { name := "ipvParts", fn := fun _ => fun
  | [d1, d2] => { results := [.lit (.bool false)], args := [d1, d2] }
  | _ => none }
def IpvPartsWrongFalsely : Prop := ipvPartsRow.holds Try.pinned (OpenSpec.ofChange ipvPartsWrong)

/- THE SECOND FORM. 'bulk': how many values and letters a reading holds, each counted each time it is reached (what is shared counts as often as it is met; a slice's spare places count too). A statement '..UptoSaid' is the law's where the arguments, and the package variables that the reading takes, are together of bulk at most 1048576: NARROWER than '..Said'. Prove '..Said' where nothing that the law and all that it calls make is longer than what came in: it says more and counts as full. Else prove '..UptoSaid'. A law counts once. -/
mutual
def uptoBulk {H : Type} : DataW H → Nat
  | .lit (.string bytes) => bytes.length + 1
  | .lit _ => 1
  | .nil => 1
  | .ptr d => uptoBulk d + 1
  | .slice elems spare => uptoBulkAll elems + uptoBulkAll spare + 1
  | .agg parts => uptoBulkAll parts + 1
  | .iface _ d => uptoBulk d + 1
  | .map entries => uptoBulkEntries entries + 1
  | .held _ => 1
def uptoBulkAll {H : Type} : List (DataW H) → Nat
  | [] => 0
  | d :: r => uptoBulk d + uptoBulkAll r
def uptoBulkEntries {H : Type} : List (Lit × DataW H) → Nat
  | [] => 0
  | x :: r => uptoBulkEntry x + uptoBulkEntries r
def uptoBulkEntry {H : Type} : Lit × DataW H → Nat
  | (.string bytes, d) => bytes.length + uptoBulk d + 1
  | (_, d) => uptoBulk d + 1
 end
def uptoSmall : (H : Type) → List (DataW H) → Bool := fun _ ds => decide (uptoBulkAll ds ≤ 1048576)
def OpenSpec.upto (s : _root_.Go.ChangeSpec) : _root_.Go.OpenSpec := { _root_.Go.OpenSpec.ofChange s with cond := some uptoSmall }

/-- 'rampartlaw05.IpvReads', WHERE WHAT IT READS IS OF BULK AT MOST 1048576: true; the input reads as it did. -/
def ipvReadsUptoRow : OpenClaim := { program := "ythapajhaehdleaa", sum := "cf93dfea81cad11fbe648b09ffc54e303e735466e82803013870f8ff6a851034", func := "rampart/rampartlaw05.IpvReads", spec := "ipvReads", unfollowed := true, recurses := true, apart := false, narrowed := true }
def IpvReadsUptoSaid : Prop := ipvReadsUptoRow.holds Try.pinned (OpenSpec.upto ipvReadsSpec)

/-- 'rampartlaw05.IpvMakes', WHERE WHAT IT READS IS OF BULK AT MOST 1048576: true; the input reads as it did. -/
def ipvMakesUptoRow : OpenClaim := { program := "ythapajhaehdleaa", sum := "cf93dfea81cad11fbe648b09ffc54e303e735466e82803013870f8ff6a851034", func := "rampart/rampartlaw05.IpvMakes", spec := "ipvMakes", unfollowed := true, recurses := true, apart := false, narrowed := true }
def IpvMakesUptoSaid : Prop := ipvMakesUptoRow.holds Try.pinned (OpenSpec.upto ipvMakesSpec)

/-- 'rampartlaw05.IpvBack', WHERE WHAT IT READS IS OF BULK AT MOST 1048576: true; the input reads as it did. -/
def ipvBackUptoRow : OpenClaim := { program := "ythapajhaehdleaa", sum := "cf93dfea81cad11fbe648b09ffc54e303e735466e82803013870f8ff6a851034", func := "rampart/rampartlaw05.IpvBack", spec := "ipvBack", unfollowed := true, recurses := true, apart := false, narrowed := true }
def IpvBackUptoSaid : Prop := ipvBackUptoRow.holds Try.pinned (OpenSpec.upto ipvBackSpec)

/-- 'rampartlaw05.IpvSpoils', WHERE WHAT IT READS IS OF BULK AT MOST 1048576: true; the input reads as it did. -/
def ipvSpoilsUptoRow : OpenClaim := { program := "ythapajhaehdleaa", sum := "cf93dfea81cad11fbe648b09ffc54e303e735466e82803013870f8ff6a851034", func := "rampart/rampartlaw05.IpvSpoils", spec := "ipvSpoils", unfollowed := true, recurses := true, apart := false, narrowed := true }
def IpvSpoilsUptoSaid : Prop := ipvSpoilsUptoRow.holds Try.pinned (OpenSpec.upto ipvSpoilsSpec)

/-- 'rampartlaw05.IpvParts', WHERE WHAT IT READS IS OF BULK AT MOST 1048576: true; the input reads as it did. -/
def ipvPartsUptoRow : OpenClaim := { program := "ythapajhaehdleaa", sum := "cf93dfea81cad11fbe648b09ffc54e303e735466e82803013870f8ff6a851034", func := "rampart/rampartlaw05.IpvParts", spec := "ipvParts", unfollowed := true, recurses := true, apart := false, narrowed := true }
def IpvPartsUptoSaid : Prop := ipvPartsUptoRow.holds Try.pinned (OpenSpec.upto ipvPartsSpec)

end Rows
end Go.Proofs.Ythapajhaehdleaa
