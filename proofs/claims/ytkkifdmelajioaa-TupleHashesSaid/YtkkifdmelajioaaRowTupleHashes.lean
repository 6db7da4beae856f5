/- For every input the Go function rampart/rampartlaw11.TupleHashes returns true and leaves its arguments as they were; no condition. -/
import Derived.Test.YtkkifdmelajioaaRows
import Derived.Test.YtkkifdmelajioaaTupleHashes
import Derived.WalkKit
import Derived.ProofKit
import Derived.OpenShut
import Derived.ShutString
import Derived.ChangeOld
import Derived.Below
namespace Go.Proofs.Ytkkifdmelajioaa.tupleHashes
open Go.ChangeShapes Go.WideShapes Go.ChangeAt Go.RowKit
open Go.ChangeMaps (open_string shut_string)
set_option linter.unusedVariables false
theorem laidOut : laidOutB Try.prog = true := by kernel_rfl
theorem list4_of {α : Type} : ∀ {l : List α}, l.length = 4 → ∃ c0 c1 c2 c3, l = [c0, c1, c2, c3]
  | [c0, c1, c2, c3], _ => ⟨_, _, _, _, rfl⟩
theorem Try.cells3 : Try.prog.cellsOf 3 = 1 := by kernel_rfl
theorem Try.cells9 : Try.prog.cellsOf 9 = 1 := by kernel_rfl
theorem Try.cells23 : Try.prog.cellsOf 23 = 1 := by kernel_rfl
theorem Try.cells33 : Try.prog.cellsOf 33 = 2 := by kernel_rfl
theorem Try.cells35 : Try.prog.cellsOf 35 = 4 := by kernel_rfl
theorem own : ownKnob Try.prog.godebug = none := by kernel_rfl
set_option maxRecDepth 100000 in
theorem lifted (os : Os) (started : os.Started) (H : Type) (enc : TypeId × Value → H) :
    ReturnsInHanded {} Try.checked os 7 .any (Rows.tupleHashesSpec.pre6 enc Try.prog Try.f7 Rows.tupleHashesRow.domain false) (Rows.tupleHashesSpec.post enc Try.prog Try.f7 false true false false) := by
  refine returnsInHanded_of_change (C := Try.checked) own started (by kernel_rfl) Try.func7
    (ChangeSpec.witness6 (enc := enc) (C := Try.checked) false ⟨#[], #[.agg #[.string ByteArray.empty, .int .i64 0, .string ByteArray.empty, .int .i64 0], .int .u8 0, .int .u8 0], []⟩ 8 (by kernel_rfl) (by kernel_rfl) (by kernel_rfl) (by kernel_rfl)) ?_
  intro W base args ds gs before hval0 hW hcnd _
  have hval : ∀ (j : Nat) t v, Try.f7.params[j]? = some t → args[j]? = some v → Value.okWide Try.prog W .any base t v := hval0
  have hW' := hW
  obtain ⟨p, q, hA0, hV, rfl, hfz, hnd⟩ := hW
  have hA : DataW.TrodAll enc Try.prog W 0 (fun _ => true) true Try.f7.params.toList args.toList ds p := hA0
  rw [Try.params7] at hA hval
  obtain ⟨v0, vs0, d0, ds0, p0, q0, hargs, rfl, rfl, h0, r0⟩ := trodAll_cons hA
  obtain ⟨v1, vs1, d1, ds1, p1, q1, rfl, rfl, rfl, h1, r1⟩ := trodAll_cons r0
  obtain ⟨v2, vs2, d2, ds2, p2, q2, rfl, rfl, rfl, h2, r2⟩ := trodAll_cons r1
  obtain ⟨rfl, rfl, rfl⟩ := trodAll_nil r2
  obtain rfl : args = #[v0, v1, v2] := by cases args; simp_all
  obtain ⟨rfl, rfl⟩ := trodVars_none hV
  have k0 := h0
  have lt0 : ∀ x ∈ p0, x.block < W.heap.size := by obtain ⟨m, hm⟩ := k0; exact DataW.trod_lt m _ _ _ hm
  obtain ⟨⟨l0⟩, rfl, hsz0⟩ := okWide_struct Try.underlying35 (hval 0 35 v0 rfl rfl)
  obtain ⟨c0_0, c0_1, c0_2, c0_3, rfl⟩ : ∃ c0_0 c0_1 c0_2 c0_3, l0 = [c0_0, c0_1, c0_2, c0_3] := by
    have hl : l0.length = 4 := hsz0.trans Try.cells35
    exact list4_of hl
  obtain ⟨fuel0, hf0⟩ := h0
  replace hf0 : DataW.trod enc Try.prog W 0 (fun _ => true) true fuel0 35 [c0_0, c0_1, c0_2, c0_3] = some (d0, p0) := hf0
  clear hsz0
  obtain ⟨xs3_, fu4_, _, _, _, hl2_, hg1_⟩ := DataW.trod_struct Try.underlying35 hf0
  obtain ⟨y5_, hy6_⟩ : ∃ y, xs3_[0]? = some y := ⟨_, List.getElem?_eq_getElem (by rw [hl2_]; decide)⟩
  have hf7_ : DataW.trod enc Try.prog W 0 (fun _ => true) true fu4_ 33 (List.take (Try.prog.cellsOf 33) (List.drop 0 [c0_0, c0_1, c0_2, c0_3])) = xs3_[0]? := hg1_ 0 _ rfl
  rw [hy6_, Try.cells33] at hf7_
  simp only [List.drop_zero, List.take_succ_cons, List.take_zero] at hf7_
  obtain ⟨y8_, hy9_⟩ : ∃ y, xs3_[1]? = some y := ⟨_, List.getElem?_eq_getElem (by rw [hl2_]; decide)⟩
  have hf10_ : DataW.trod enc Try.prog W 0 (fun _ => true) true fu4_ 33 (List.take (Try.prog.cellsOf 33) (List.drop 2 [c0_0, c0_1, c0_2, c0_3])) = xs3_[1]? := hg1_ 1 _ rfl
  rw [hy9_, Try.cells33] at hf10_
  simp only [List.drop_succ_cons, List.drop_zero, List.take_succ_cons, List.take_zero] at hf10_
  clear hg1_ hl2_
  obtain ⟨xs13_, fu14_, _, _, _, hl12_, hg11_⟩ := DataW.trod_struct Try.underlying33 hf7_
  obtain ⟨y15_, hy16_⟩ : ∃ y, xs13_[0]? = some y := ⟨_, List.getElem?_eq_getElem (by rw [hl12_]; decide)⟩
  have hf17_ : DataW.trod enc Try.prog W 0 (fun _ => true) true fu14_ 23 (List.take (Try.prog.cellsOf 23) (List.drop 0 [c0_0, c0_1])) = xs13_[0]? := hg11_ 0 _ rfl
  rw [hy16_, Try.cells23] at hf17_
  simp only [List.drop_zero, List.take_succ_cons, List.take_zero] at hf17_
  obtain ⟨y18_, hy19_⟩ : ∃ y, xs13_[1]? = some y := ⟨_, List.getElem?_eq_getElem (by rw [hl12_]; decide)⟩
  have hf20_ : DataW.trod enc Try.prog W 0 (fun _ => true) true fu14_ 3 (List.take (Try.prog.cellsOf 3) (List.drop 1 [c0_0, c0_1])) = xs13_[1]? := hg11_ 1 _ rfl
  rw [hy19_, Try.cells3] at hf20_
  simp only [List.drop_succ_cons, List.drop_zero, List.take_succ_cons, List.take_zero] at hf20_
  clear hg11_ hl12_
  obtain ⟨xs23_, fu24_, _, _, _, hl22_, hg21_⟩ := DataW.trod_struct Try.underlying23 hf17_
  obtain ⟨y25_, hy26_⟩ : ∃ y, xs23_[0]? = some y := ⟨_, List.getElem?_eq_getElem (by rw [hl22_]; decide)⟩
  have hf27_ : DataW.trod enc Try.prog W 0 (fun _ => true) true fu24_ 9 (List.take (Try.prog.cellsOf 9) (List.drop 0 [c0_0])) = xs23_[0]? := hg21_ 0 _ rfl
  rw [hy26_, Try.cells9] at hf27_
  simp only [List.drop_zero, List.take_succ_cons, List.take_zero] at hf27_
  clear hg21_ hl22_
  obtain ⟨s28_, e29_, _, w30_⟩ := DataW.trod_string Try.underlying9 hf27_
  simp only [List.cons.injEq, and_true] at e29_; subst e29_
  obtain ⟨s31_, e32_, _, w33_⟩ := DataW.trod_int Try.underlying3 hf20_
  simp only [List.cons.injEq, and_true] at e32_; subst e32_
  obtain ⟨xs36_, fu37_, _, _, _, hl35_, hg34_⟩ := DataW.trod_struct Try.underlying33 hf10_
  obtain ⟨y38_, hy39_⟩ : ∃ y, xs36_[0]? = some y := ⟨_, List.getElem?_eq_getElem (by rw [hl35_]; decide)⟩
  have hf40_ : DataW.trod enc Try.prog W 0 (fun _ => true) true fu37_ 23 (List.take (Try.prog.cellsOf 23) (List.drop 0 [c0_2, c0_3])) = xs36_[0]? := hg34_ 0 _ rfl
  rw [hy39_, Try.cells23] at hf40_
  simp only [List.drop_zero, List.take_succ_cons, List.take_zero] at hf40_
  obtain ⟨y41_, hy42_⟩ : ∃ y, xs36_[1]? = some y := ⟨_, List.getElem?_eq_getElem (by rw [hl35_]; decide)⟩
  have hf43_ : DataW.trod enc Try.prog W 0 (fun _ => true) true fu37_ 3 (List.take (Try.prog.cellsOf 3) (List.drop 1 [c0_2, c0_3])) = xs36_[1]? := hg34_ 1 _ rfl
  rw [hy42_, Try.cells3] at hf43_
  simp only [List.drop_succ_cons, List.drop_zero, List.take_succ_cons, List.take_zero] at hf43_
  clear hg34_ hl35_
  obtain ⟨xs46_, fu47_, _, _, _, hl45_, hg44_⟩ := DataW.trod_struct Try.underlying23 hf40_
  obtain ⟨y48_, hy49_⟩ : ∃ y, xs46_[0]? = some y := ⟨_, List.getElem?_eq_getElem (by rw [hl45_]; decide)⟩
  have hf50_ : DataW.trod enc Try.prog W 0 (fun _ => true) true fu47_ 9 (List.take (Try.prog.cellsOf 9) (List.drop 0 [c0_2])) = xs46_[0]? := hg44_ 0 _ rfl
  rw [hy49_, Try.cells9] at hf50_
  simp only [List.drop_zero, List.take_succ_cons, List.take_zero] at hf50_
  clear hg44_ hl45_
  obtain ⟨s51_, e52_, _, w53_⟩ := DataW.trod_string Try.underlying9 hf50_
  simp only [List.cons.injEq, and_true] at e52_; subst e52_
  obtain ⟨s54_, e55_, _, w56_⟩ := DataW.trod_int Try.underlying3 hf43_
  simp only [List.cons.injEq, and_true] at e55_; subst e55_
  obtain ⟨a1, rfl, rfl, rfl, w1⟩ := open_int Try.underlying5 (hval 1 5 v1 rfl rfl) h1
  obtain ⟨a2, rfl, rfl, rfl, w2⟩ := open_int Try.underlying5 (hval 2 5 v2 rfl rfl) h2
  clear hA0 hval0
  refine (tupleHashes_walk s28_ s31_ s51_ s54_ a1 a2 W w30_ w33_ w53_ w56_ w1 w2).mono fun e W' ⟨he, bel⟩ => ?_
  subst he
  exact ⟨_, rfl, _, _, _, [], _, [], hW', trodAll_mk1 (shut_bool Try.underlying4 _), (trodAll_cons_mk (Below.trod laidOut (by kernel_rfl) (of_decide_eq_true (by kernel_rfl)) k0 bel lt0) (trodAll_cons_mk (shut_int Try.underlying5 w1) (trodAll_cons_mk (shut_int Try.underlying5 w2) trodAll_mk0))), rfl, bel.frame _, fun h => by cases h⟩

theorem proved : Rows.TupleHashesSaid :=
  OpenClaim.holds_of_wide 7 Try.f7 rfl rfl rfl rfl rfl rfl rfl ⟨rfl, rfl, rfl, rfl, rfl⟩ rfl rfl rfl rfl rfl (by kernel_rfl) Try.func7 (by kernel_rfl)
    (of_decide_eq_true (by kernel_rfl)) (by unfold Func.isWrapper; first | (rw [if_pos (by decide +kernel)]; kernel_rfl) | (rw [if_neg (by decide +kernel)]; exact ⟨rfl, rfl⟩))
    (fun os started H enc _ => lifted os started H enc)
#print axioms proved
end Go.Proofs.Ytkkifdmelajioaa.tupleHashes
