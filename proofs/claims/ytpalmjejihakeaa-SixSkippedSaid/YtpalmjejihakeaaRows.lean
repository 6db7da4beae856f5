/-
  No cell of these rows narrows 'for every input' (looked for: loops, veiled, ifaces, maps, wideKeys, modest, calm, conditions, laid).
  DERIVED. THE GIVEN ROWS OF THIS SEAT. 5 by the template 'for every input the law returns true; each argument reads behind the call as it read before'; 0 by the template 'total and deterministic' (their statements: YtpalmjejihakeaaTotals.lean).
  GIVEN WITH THE SEED: the statements are not yours to turn. If you find one false, say at which input.
  Laid BY PROGRAM, IN A SANDBOX (cutbox-rows.mjs): the forced cells as the released guide's own fill.sh prints them over the translation 68fa8947f9d95459… (all of the seat's roots in one cut). By AI agents, Wed Nov 11 2026. No macro, syntax, notation, axiom, sorry.
-/
import Derived.Test.YtpalmjejihakeaaChecked
import GoSem.Claim
import GoSem.ClaimJoined
import GoSem.ClaimMapViews
import Derived.JoinedTies
import Derived.KernelRfl
namespace Go.Proofs.Ytpalmjejihakeaa
/- THE CELL 'sum', in the pinned program and in every row, IS THE sha256 OF THE DUMP (.gsa) THAT YtpalmjejihakeaaProg.lean LOADS. Nothing in Lean hashes anything: it is a label: what it is worth is what the hold of that sum in a sandbox is worth. -/
noncomputable def Try.pinned : Pinned := { name := "ytpalmjejihakeaa", sum := "68fa8947f9d9545918312965161aab587d6ba84f54f1057cab9623db42787f0b", checked := Try.checked }
namespace Rows
def none {H : Type} : Left H := { results := [], args := [] }

/-- 'rampartlaw06.SixReads': WHATEVER THE INPUT: true; the input reads as it did. -/
def sixReadsSpec : ChangeSpec := { name := "sixReads", fn := fun _ => fun
  | [d] => { results := [.lit (.bool true)], args := [d] }
  | _ => none }
def sixReadsRow : OpenClaim := { program := "ytpalmjejihakeaa", sum := "68fa8947f9d9545918312965161aab587d6ba84f54f1057cab9623db42787f0b", func := "rampart/rampartlaw06.SixReads", spec := "sixReads", apart := false }
def SixReadsSaid : Prop := sixReadsRow.holds Try.pinned (OpenSpec.ofChange sixReadsSpec)

/-- ITS FALSE NEIGHBOUR: 'it returns false'. Refute it at one input. -/
def sixReadsWrong : ChangeSpec := { name := "sixReads", fn := fun _ => fun
  | [d] => { results := [.lit (.bool false)], args := [d] }
  | _ => none }
def SixReadsWrongFalsely : Prop := sixReadsRow.holds Try.pinned (OpenSpec.ofChange sixReadsWrong)

/-- 'rampartlaw06.SixSkips': WHATEVER THE INPUT: true; the input reads as it did. -/
def sixSkipsSpec : ChangeSpec := { name := "sixSkips", fn := fun _ => fun
  | [d1, d2] => { results := [.lit (.bool true)], args := [d1, d2] }
  | _ => none }
def sixSkipsRow : OpenClaim := { program := "ytpalmjejihakeaa", sum := "68fa8947f9d9545918312965161aab587d6ba84f54f1057cab9623db42787f0b", func := "rampart/rampartlaw06.SixSkips", spec := "sixSkips", apart := false }
def SixSkipsSaid : Prop := sixSkipsRow.holds Try.pinned (OpenSpec.ofChange sixSkipsSpec)

/-- ITS FALSE NEIGHBOUR: 'it returns false'. Refute it at one input. -/
def sixSkipsWrong : ChangeSpec := { name := "sixSkips", fn := fun _ => fun
  | [d1, d2] => { results := [.lit (.bool false)], args := [d1, d2] }
  | _ => none }
def SixSkipsWrongFalsely : Prop := sixSkipsRow.holds Try.pinned (OpenSpec.ofChange sixSkipsWrong)

/-- 'rampartlaw06.SixMakes': WHATEVER THE INPUT: true; the input reads as it did. -/
def sixMakesSpec : ChangeSpec := { name := "sixMakes", fn := fun _ => fun
  | [d] => { results := [.lit (.bool true)], args := [d] }
  | _ => none }
def sixMakesRow : OpenClaim := { program := "ytpalmjejihakeaa", sum := "68fa8947f9d9545918312965161aab587d6ba84f54f1057cab9623db42787f0b", func := "rampart/rampartlaw06.SixMakes", spec := "sixMakes", apart := false }
def SixMakesSaid : Prop := sixMakesRow.holds Try.pinned (OpenSpec.ofChange sixMakesSpec)

/-- ITS FALSE NEIGHBOUR: 'it returns false'. Refute it at one input. -/
def sixMakesWrong : ChangeSpec := { name := "sixMakes", fn := fun _ => fun
  | [d] => { results := [.lit (.bool false)], args := [d] }
  | _ => none }
def SixMakesWrongFalsely : Prop := sixMakesRow.holds Try.pinned (OpenSpec.ofChange sixMakesWrong)

/-- 'rampartlaw06.SixBack': WHATEVER THE INPUT: true; the input reads as it did. -/
def sixBackSpec : ChangeSpec := { name := "sixBack", fn := fun _ => fun
  | [d1, d2, d3] => { results := [.lit (.bool true)], args := [d1, d2, d3] }
  | _ => none }
def sixBackRow : OpenClaim := { program := "ytpalmjejihakeaa", sum := "68fa8947f9d9545918312965161aab587d6ba84f54f1057cab9623db42787f0b", func := "rampart/rampartlaw06.SixBack", spec := "sixBack", apart := false }
def SixBackSaid : Prop := sixBackRow.holds Try.pinned (OpenSpec.ofChange sixBackSpec)

/-- ITS FALSE NEIGHBOUR: 'it returns false'. Refute it at one input. -/
def sixBackWrong : ChangeSpec := { name := "sixBack", fn := fun _ => fun
  | [d1, d2, d3] => { results := [.lit (.bool false)], args := [d1, d2, d3] }
  | _ => none }
def SixBackWrongFalsely : Prop := sixBackRow.holds Try.pinned (OpenSpec.ofChange sixBackWrong)

/-- 'rampartlaw06.SixSkipped': WHATEVER THE INPUT: true; the input reads as it did. -/
def sixSkippedSpec : ChangeSpec := { name := "sixSkipped", fn := fun _ => fun
  | [d1, d2] => { results := [.lit (.bool true)], args := [d1, d2] }
  | _ => none }
def sixSkippedRow : OpenClaim := { program := "ytpalmjejihakeaa", sum := "68fa8947f9d9545918312965161aab587d6ba84f54f1057cab9623db42787f0b", func := "rampart/rampartlaw06.SixSkipped", spec := "sixSkipped", apart := false }
def SixSkippedSaid : Prop := sixSkippedRow.holds Try.pinned (OpenSpec.ofChange sixSkippedSpec)

/-- ITS FALSE NEIGHBOUR: 'it returns false'. Refute it at one input. -/
def sixSkippedWrong : ChangeSpec := { name := "sixSkipped", fn := fun _ => fun
  | [d1, d2] => { results := [.lit (.bool false)], args := [d1, d2] }
  | _ => none }
def SixSkippedWrongFalsely : Prop := sixSkippedRow.holds Try.pinned (OpenSpec.ofChange sixSkippedWrong)

/- THE SECOND FORM. 'bulk': how many values and letters a reading holds, each counted each time it is reached (what is shared counts as often as it is met; a slice's spare places count too). A statement '..UptoSaid' is the law's where the arguments, and the package variables that the reading takes, are together of bulk at most 1048576: NARROWER than '..Said'. Prove '..Said' where nothing that the law and all that it calls make is longer than what came in: it says more and counts as full. Else prove '..UptoSaid'. A law counts once. -/
mutual
def uptoBulk {H : Type} : DataW H → Nat
  | .lit (.string bytes) => bytes.length + 1
  | .lit _ => 1
  | .nil => 1
  | .ptr d => uptoBulk d + 1
  | .slice elems spare => uptoBulkAll elems + uptoBulkAll spare + 1
  | .agg parts => uptoBulkAll parts + 1
  | .iface _ d => uptoBulk d + 1
  | .map entries => uptoBulkEntries entries + 1
  | .held _ => 1
def uptoBulkAll {H : Type} : List (DataW H) → Nat
  | [] => 0
  | d :: r => uptoBulk d + uptoBulkAll r
def uptoBulkEntries {H : Type} : List (Lit × DataW H) → Nat
  | [] => 0
  | x :: r => uptoBulkEntry x + uptoBulkEntries r
def uptoBulkEntry {H : Type} : Lit × DataW H → Nat
  | (.string bytes, d) => bytes.length + uptoBulk d + 1
  | (_, d) => uptoBulk d + 1
 end
def uptoSmall : (H : Type) → List (DataW H) → Bool := fun _ ds => decide (uptoBulkAll ds ≤ 1048576)
def OpenSpec.upto (s : _root_.Go.ChangeSpec) : _root_.Go.OpenSpec := { _root_.Go.OpenSpec.ofChange s with cond := some uptoSmall }

/-- 'rampartlaw06.SixReads', WHERE WHAT IT READS IS OF BULK AT MOST 1048576: true; the input reads as it did. -/
def sixReadsUptoRow : OpenClaim := { program := "ytpalmjejihakeaa", sum := "68fa8947f9d9545918312965161aab587d6ba84f54f1057cab9623db42787f0b", func := "rampart/rampartlaw06.SixReads", spec := "sixReads", apart := false, narrowed := true }
def SixReadsUptoSaid : Prop := sixReadsUptoRow.holds Try.pinned (OpenSpec.upto sixReadsSpec)

/-- 'rampartlaw06.SixSkips', WHERE WHAT IT READS IS OF BULK AT MOST 1048576: true; the input reads as it did. -/
def sixSkipsUptoRow : OpenClaim := { program := "ytpalmjejihakeaa", sum := "68fa8947f9d9545918312965161aab587d6ba84f54f1057cab9623db42787f0b", func := "rampart/rampartlaw06.SixSkips", spec := "sixSkips", apart := false, narrowed := true }
def SixSkipsUptoSaid : Prop := sixSkipsUptoRow.holds Try.pinned (OpenSpec.upto sixSkipsSpec)

/-- 'rampartlaw06.SixMakes', WHERE WHAT IT READS IS OF BULK AT MOST 1048576: true; the input reads as it did. -/
def sixMakesUptoRow : OpenClaim := { program := "ytpalmjejihakeaa", sum := "68fa8947f9d9545918312965161aab587d6ba84f54f1057cab9623db42787f0b", func := "rampart/rampartlaw06.SixMakes", spec := "sixMakes", apart := false, narrowed := true }
def SixMakesUptoSaid : Prop := sixMakesUptoRow.holds Try.pinned (OpenSpec.upto sixMakesSpec)

/-- 'rampartlaw06.SixBack', WHERE WHAT IT READS IS OF BULK AT MOST 1048576: true; the input reads as it did. -/
def sixBackUptoRow : OpenClaim := { program := "ytpalmjejihakeaa", sum := "68fa8947f9d9545918312965161aab587d6ba84f54f1057cab9623db42787f0b", func := "rampart/rampartlaw06.SixBack", spec := "sixBack", apart := false, narrowed := true }
def SixBackUptoSaid : Prop := sixBackUptoRow.holds Try.pinned (OpenSpec.upto sixBackSpec)

/-- 'rampartlaw06.SixSkipped', WHERE WHAT IT READS IS OF BULK AT MOST 1048576: true; the input reads as it did. -/
def sixSkippedUptoRow : OpenClaim := { program := "ytpalmjejihakeaa", sum := "68fa8947f9d9545918312965161aab587d6ba84f54f1057cab9623db42787f0b", func := "rampart/rampartlaw06.SixSkipped", spec := "sixSkipped", apart := false, narrowed := true }
def SixSkippedUptoSaid : Prop := sixSkippedUptoRow.holds Try.pinned (OpenSpec.upto sixSkippedSpec)

end Rows
end Go.Proofs.Ytpalmjejihakeaa
