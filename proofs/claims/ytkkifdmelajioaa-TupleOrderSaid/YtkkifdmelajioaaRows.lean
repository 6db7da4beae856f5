/-
  No cell of these rows narrows 'for every input' (looked for: loops, veiled, ifaces, maps, wideKeys, modest, calm, conditions, laid).
  DERIVED. THE GIVEN ROWS OF THIS SEAT. 5 by the template 'for every input the law returns true; each argument reads behind the call as it read before'; 0 by the template 'total and deterministic' (their statements: YtkkifdmelajioaaTotals.lean).
  GIVEN WITH THE SEED: the statements are not yours to turn. If you find one false, say at which input.
  Laid BY PROGRAM, IN A SANDBOX (cutbox-rows.mjs): the forced cells as the released guide's own fill.sh prints them over the translation 0529d4fb150957cc… (all of the seat's roots in one cut). By AI agents, Wed Nov 11 2026. No macro, syntax, notation, axiom, sorry.
-/
import Derived.Test.YtkkifdmelajioaaChecked
import GoSem.Claim
import GoSem.ClaimJoined
import GoSem.ClaimMapViews
import Derived.JoinedTies
import Derived.KernelRfl
namespace Go.Proofs.Ytkkifdmelajioaa
/- THE CELL 'sum', in the pinned program and in every row, IS THE sha256 OF THE DUMP (.gsa) THAT YtkkifdmelajioaaProg.lean LOADS. Nothing in Lean hashes anything: it is a label: what it is worth is what the hold of that sum in a sandbox is worth. -/
noncomputable def Try.pinned : Pinned := { name := "ytkkifdmelajioaa", sum := "0529d4fb150957ccfe3771bf11835f65396de9878e13080ea213378edf4c934f", checked := Try.checked }
namespace Rows
def none {H : Type} : Left H := { results := [], args := [] }

/-- 'rampartlaw11.TupleTells': WHATEVER THE INPUT: true; the input reads as it did. -/
def tupleTellsSpec : ChangeSpec := { name := "tupleTells", fn := fun _ => fun
  | [d1, d2, d3] => { results := [.lit (.bool true)], args := [d1, d2, d3] }
  | _ => none }
def tupleTellsRow : OpenClaim := { program := "ytkkifdmelajioaa", sum := "0529d4fb150957ccfe3771bf11835f65396de9878e13080ea213378edf4c934f", func := "rampart/rampartlaw11.TupleTells", spec := "tupleTells", recurses := true, apart := false }
def TupleTellsSaid : Prop := tupleTellsRow.holds Try.pinned (OpenSpec.ofChange tupleTellsSpec)

/-- ITS FALSE NEIGHBOUR: 'it returns false'. Refute it at one input. -/
def tupleTellsWrong : ChangeSpec := { name := "tupleTells", fn := fun _ => fun
  | [d1, d2, d3] => { results := [.lit (.bool false)], args := [d1, d2, d3] }
  | _ => none }
def TupleTellsWrongFalsely : Prop := tupleTellsRow.holds Try.pinned (OpenSpec.ofChange tupleTellsWrong)

/-- 'rampartlaw11.TupleWays': WHATEVER THE INPUT: true; the input reads as it did. -/
def tupleWaysSpec : ChangeSpec := { name := "tupleWays", fn := fun _ => fun
  | [d1, d2] => { results := [.lit (.bool true)], args := [d1, d2] }
  | _ => none }
def tupleWaysRow : OpenClaim := { program := "ytkkifdmelajioaa", sum := "0529d4fb150957ccfe3771bf11835f65396de9878e13080ea213378edf4c934f", func := "rampart/rampartlaw11.TupleWays", spec := "tupleWays", recurses := true, apart := false }
def TupleWaysSaid : Prop := tupleWaysRow.holds Try.pinned (OpenSpec.ofChange tupleWaysSpec)

/-- ITS FALSE NEIGHBOUR: 'it returns false'. Refute it at one input. -/
def tupleWaysWrong : ChangeSpec := { name := "tupleWays", fn := fun _ => fun
  | [d1, d2] => { results := [.lit (.bool false)], args := [d1, d2] }
  | _ => none }
def TupleWaysWrongFalsely : Prop := tupleWaysRow.holds Try.pinned (OpenSpec.ofChange tupleWaysWrong)

/-- 'rampartlaw11.TupleOrder': WHATEVER THE INPUT: true; the input reads as it did. -/
def tupleOrderSpec : ChangeSpec := { name := "tupleOrder", fn := fun _ => fun
  | [d1, d2, d3] => { results := [.lit (.bool true)], args := [d1, d2, d3] }
  | _ => none }
def tupleOrderRow : OpenClaim := { program := "ytkkifdmelajioaa", sum := "0529d4fb150957ccfe3771bf11835f65396de9878e13080ea213378edf4c934f", func := "rampart/rampartlaw11.TupleOrder", spec := "tupleOrder", recurses := true, apart := false }
def TupleOrderSaid : Prop := tupleOrderRow.holds Try.pinned (OpenSpec.ofChange tupleOrderSpec)

/-- ITS FALSE NEIGHBOUR: 'it returns false'. Refute it at one input. -/
def tupleOrderWrong : ChangeSpec := { name := "tupleOrder", fn := fun _ => fun
  | [d1, d2, d3] => { results := [.lit (.bool false)], args := [d1, d2, d3] }
  | _ => none }
def TupleOrderWrongFalsely : Prop := tupleOrderRow.holds Try.pinned (OpenSpec.ofChange tupleOrderWrong)

/-- 'rampartlaw11.TupleText': WHATEVER THE INPUT: true; the input reads as it did. -/
def tupleTextSpec : ChangeSpec := { name := "tupleText", fn := fun _ => fun
  | [d1, d2] => { results := [.lit (.bool true)], args := [d1, d2] }
  | _ => none }
def tupleTextRow : OpenClaim := { program := "ytkkifdmelajioaa", sum := "0529d4fb150957ccfe3771bf11835f65396de9878e13080ea213378edf4c934f", func := "rampart/rampartlaw11.TupleText", spec := "tupleText", recurses := true, apart := false }
def TupleTextSaid : Prop := tupleTextRow.holds Try.pinned (OpenSpec.ofChange tupleTextSpec)

/-- ITS FALSE NEIGHBOUR: 'it returns false'. Refute it at one input. -/
def tupleTextWrong : ChangeSpec := { name := "tupleText", fn := fun _ => fun
  | [d1, d2] => { results := [.lit (.bool false)], args := [d1, d2] }
  | _ => none }
def TupleTextWrongFalsely : Prop := tupleTextRow.holds Try.pinned (OpenSpec.ofChange tupleTextWrong)

/-- 'rampartlaw11.TupleHashes': WHATEVER THE INPUT: true; the input reads as it did. -/
def tupleHashesSpec : ChangeSpec := { name := "tupleHashes", fn := fun _ => fun
  | [d1, d2, d3] => { results := [.lit (.bool true)], args := [d1, d2, d3] }
  | _ => none }
def tupleHashesRow : OpenClaim := { program := "ytkkifdmelajioaa", sum := "0529d4fb150957ccfe3771bf11835f65396de9878e13080ea213378edf4c934f", func := "rampart/rampartlaw11.TupleHashes", spec := "tupleHashes", recurses := true, apart := false }
def TupleHashesSaid : Prop := tupleHashesRow.holds Try.pinned (OpenSpec.ofChange tupleHashesSpec)

/-- ITS FALSE NEIGHBOUR: 'it returns false'. Refute it at one input. -/
def tupleHashesWrong : ChangeSpec := { name := "tupleHashes", fn := fun _ => fun
  | [d1, d2, d3] => { results := [.lit (.bool false)], args := [d1, d2, d3] }
  | _ => none }
def TupleHashesWrongFalsely : Prop := tupleHashesRow.holds Try.pinned (OpenSpec.ofChange tupleHashesWrong)

/- THE SECOND FORM. 'bulk': how many values and letters a reading holds, each counted each time it is reached (what is shared counts as often as it is met; a slice's spare places count too). A statement '..UptoSaid' is the law's where the arguments, and the package variables that the reading takes, are together of bulk at most 1048576: NARROWER than '..Said'. Prove '..Said' where nothing that the law and all that it calls make is longer than what came in: it says more and counts as full. Else prove '..UptoSaid'. A law counts once. -/
mutual
def uptoBulk {H : Type} : DataW H → Nat
  | .lit (.string bytes) => bytes.length + 1
  | .lit _ => 1
  | .nil => 1
  | .ptr d => uptoBulk d + 1
  | .slice elems spare => uptoBulkAll elems + uptoBulkAll spare + 1
  | .agg parts => uptoBulkAll parts + 1
  | .iface _ d => uptoBulk d + 1
  | .map entries => uptoBulkEntries entries + 1
  | .held _ => 1
def uptoBulkAll {H : Type} : List (DataW H) → Nat
  | [] => 0
  | d :: r => uptoBulk d + uptoBulkAll r
def uptoBulkEntries {H : Type} : List (Lit × DataW H) → Nat
  | [] => 0
  | x :: r => uptoBulkEntry x + uptoBulkEntries r
def uptoBulkEntry {H : Type} : Lit × DataW H → Nat
  | (.string bytes, d) => bytes.length + uptoBulk d + 1
  | (_, d) => uptoBulk d + 1
 end
def uptoSmall : (H : Type) → List (DataW H) → Bool := fun _ ds => decide (uptoBulkAll ds ≤ 1048576)
def OpenSpec.upto (s : _root_.Go.ChangeSpec) : _root_.Go.OpenSpec := { _root_.Go.OpenSpec.ofChange s with cond := some uptoSmall }

/-- 'rampartlaw11.TupleTells', WHERE WHAT IT READS IS OF BULK AT MOST 1048576: true; the input reads as it did. -/
def tupleTellsUptoRow : OpenClaim := { program := "ytkkifdmelajioaa", sum := "0529d4fb150957ccfe3771bf11835f65396de9878e13080ea213378edf4c934f", func := "rampart/rampartlaw11.TupleTells", spec := "tupleTells", recurses := true, apart := false, narrowed := true }
def TupleTellsUptoSaid : Prop := tupleTellsUptoRow.holds Try.pinned (OpenSpec.upto tupleTellsSpec)

/-- 'rampartlaw11.TupleWays', WHERE WHAT IT READS IS OF BULK AT MOST 1048576: true; the input reads as it did. -/
def tupleWaysUptoRow : OpenClaim := { program := "ytkkifdmelajioaa", sum := "0529d4fb150957ccfe3771bf11835f65396de9878e13080ea213378edf4c934f", func := "rampart/rampartlaw11.TupleWays", spec := "tupleWays", recurses := true, apart := false, narrowed := true }
def TupleWaysUptoSaid : Prop := tupleWaysUptoRow.holds Try.pinned (OpenSpec.upto tupleWaysSpec)

/-- 'rampartlaw11.TupleOrder', WHERE WHAT IT READS IS OF BULK AT MOST 1048576: true; the input reads as it did. -/
def tupleOrderUptoRow : OpenClaim := { program := "ytkkifdmelajioaa", sum := "0529d4fb150957ccfe3771bf11835f65396de9878e13080ea213378edf4c934f", func := "rampart/rampartlaw11.TupleOrder", spec := "tupleOrder", recurses := true, apart := false, narrowed := true }
def TupleOrderUptoSaid : Prop := tupleOrderUptoRow.holds Try.pinned (OpenSpec.upto tupleOrderSpec)

/-- 'rampartlaw11.TupleText', WHERE WHAT IT READS IS OF BULK AT MOST 1048576: true; the input reads as it did. -/
def tupleTextUptoRow : OpenClaim := { program := "ytkkifdmelajioaa", sum := "0529d4fb150957ccfe3771bf11835f65396de9878e13080ea213378edf4c934f", func := "rampart/rampartlaw11.TupleText", spec := "tupleText", recurses := true, apart := false, narrowed := true }
def TupleTextUptoSaid : Prop := tupleTextUptoRow.holds Try.pinned (OpenSpec.upto tupleTextSpec)

/-- 'rampartlaw11.TupleHashes', WHERE WHAT IT READS IS OF BULK AT MOST 1048576: true; the input reads as it did. -/
def tupleHashesUptoRow : OpenClaim := { program := "ytkkifdmelajioaa", sum := "0529d4fb150957ccfe3771bf11835f65396de9878e13080ea213378edf4c934f", func := "rampart/rampartlaw11.TupleHashes", spec := "tupleHashes", recurses := true, apart := false, narrowed := true }
def TupleHashesUptoSaid : Prop := tupleHashesUptoRow.holds Try.pinned (OpenSpec.upto tupleHashesSpec)

end Rows
end Go.Proofs.Ytkkifdmelajioaa
