/- For every input the Go function rampart/rampartlaw11.TupleOrder returns true and leaves its arguments as they were; no condition. -/
import Derived.Test.YtkkifdmelajioaaRows
import Derived.Test.YtkkifdmelajioaaTupleOrder
import Derived.WalkKit
import Derived.ProofKit
import Derived.OpenShut
import Derived.ShutString
import Derived.ChangeOld
import Derived.Below
namespace Go.Proofs.Ytkkifdmelajioaa.tupleOrder
open Go.ChangeShapes Go.WideShapes Go.ChangeAt Go.RowKit
open Go.ChangeMaps (open_string shut_string)
set_option linter.unusedVariables false
theorem laidOut : laidOutB Try.prog = true := by kernel_rfl
theorem list2_of {α : Type} : ∀ {l : List α}, l.length = 2 → ∃ c0 c1, l = [c0, c1]
  | [c0, c1], _ => ⟨_, _, rfl⟩
theorem Try.cells3 : Try.prog.cellsOf 3 = 1 := by kernel_rfl
theorem Try.cells9 : Try.prog.cellsOf 9 = 1 := by kernel_rfl
theorem Try.cells23 : Try.prog.cellsOf 23 = 1 := by kernel_rfl
theorem Try.cells33 : Try.prog.cellsOf 33 = 2 := by kernel_rfl
theorem own : ownKnob Try.prog.godebug = none := by kernel_rfl
set_option maxRecDepth 100000 in
theorem lifted (os : Os) (started : os.Started) (H : Type) (enc : TypeId × Value → H) :
    ReturnsInHanded {} Try.checked os 5 .any (Rows.tupleOrderSpec.pre6 enc Try.prog Try.f5 Rows.tupleOrderRow.domain false) (Rows.tupleOrderSpec.post enc Try.prog Try.f5 false true false false) := by
  refine returnsInHanded_of_change (C := Try.checked) own started (by kernel_rfl) Try.func5
    (ChangeSpec.witness6 (enc := enc) (C := Try.checked) false ⟨#[], #[.agg #[.string ByteArray.empty, .int .i64 0], .agg #[.string ByteArray.empty, .int .i64 0], .agg #[.string ByteArray.empty, .int .i64 0]], []⟩ 8 (by kernel_rfl) (by kernel_rfl) (by kernel_rfl) (by kernel_rfl)) ?_
  intro W base args ds gs before hval0 hW hcnd _
  have hval : ∀ (j : Nat) t v, Try.f5.params[j]? = some t → args[j]? = some v → Value.okWide Try.prog W .any base t v := hval0
  have hW' := hW
  obtain ⟨p, q, hA0, hV, rfl, hfz, hnd⟩ := hW
  have hA : DataW.TrodAll enc Try.prog W 0 (fun _ => true) true Try.f5.params.toList args.toList ds p := hA0
  rw [Try.params5] at hA hval
  obtain ⟨v0, vs0, d0, ds0, p0, q0, hargs, rfl, rfl, h0, r0⟩ := trodAll_cons hA
  obtain ⟨v1, vs1, d1, ds1, p1, q1, rfl, rfl, rfl, h1, r1⟩ := trodAll_cons r0
  obtain ⟨v2, vs2, d2, ds2, p2, q2, rfl, rfl, rfl, h2, r2⟩ := trodAll_cons r1
  obtain ⟨rfl, rfl, rfl⟩ := trodAll_nil r2
  obtain rfl : args = #[v0, v1, v2] := by cases args; simp_all
  obtain ⟨rfl, rfl⟩ := trodVars_none hV
  have k0 := h0
  have lt0 : ∀ x ∈ p0, x.block < W.heap.size := by obtain ⟨m, hm⟩ := k0; exact DataW.trod_lt m _ _ _ hm
  obtain ⟨⟨l0⟩, rfl, hsz0⟩ := okWide_struct Try.underlying33 (hval 0 33 v0 rfl rfl)
  obtain ⟨c0_0, c0_1, rfl⟩ : ∃ c0_0 c0_1, l0 = [c0_0, c0_1] := by
    have hl : l0.length = 2 := hsz0.trans Try.cells33
    exact list2_of hl
  obtain ⟨fuel0, hf0⟩ := h0
  replace hf0 : DataW.trod enc Try.prog W 0 (fun _ => true) true fuel0 33 [c0_0, c0_1] = some (d0, p0) := hf0
  clear hsz0
  obtain ⟨xs3_, fu4_, _, _, _, hl2_, hg1_⟩ := DataW.trod_struct Try.underlying33 hf0
  obtain ⟨y5_, hy6_⟩ : ∃ y, xs3_[0]? = some y := ⟨_, List.getElem?_eq_getElem (by rw [hl2_]; decide)⟩
  have hf7_ : DataW.trod enc Try.prog W 0 (fun _ => true) true fu4_ 23 (List.take (Try.prog.cellsOf 23) (List.drop 0 [c0_0, c0_1])) = xs3_[0]? := hg1_ 0 _ rfl
  rw [hy6_, Try.cells23] at hf7_
  simp only [List.drop_zero, List.take_succ_cons, List.take_zero] at hf7_
  obtain ⟨y8_, hy9_⟩ : ∃ y, xs3_[1]? = some y := ⟨_, List.getElem?_eq_getElem (by rw [hl2_]; decide)⟩
  have hf10_ : DataW.trod enc Try.prog W 0 (fun _ => true) true fu4_ 3 (List.take (Try.prog.cellsOf 3) (List.drop 1 [c0_0, c0_1])) = xs3_[1]? := hg1_ 1 _ rfl
  rw [hy9_, Try.cells3] at hf10_
  simp only [List.drop_succ_cons, List.drop_zero, List.take_succ_cons, List.take_zero] at hf10_
  clear hg1_ hl2_
  obtain ⟨xs13_, fu14_, _, _, _, hl12_, hg11_⟩ := DataW.trod_struct Try.underlying23 hf7_
  obtain ⟨y15_, hy16_⟩ : ∃ y, xs13_[0]? = some y := ⟨_, List.getElem?_eq_getElem (by rw [hl12_]; decide)⟩
  have hf17_ : DataW.trod enc Try.prog W 0 (fun _ => true) true fu14_ 9 (List.take (Try.prog.cellsOf 9) (List.drop 0 [c0_0])) = xs13_[0]? := hg11_ 0 _ rfl
  rw [hy16_, Try.cells9] at hf17_
  simp only [List.drop_zero, List.take_succ_cons, List.take_zero] at hf17_
  clear hg11_ hl12_
  obtain ⟨s18_, e19_, _, w20_⟩ := DataW.trod_string Try.underlying9 hf17_
  simp only [List.cons.injEq, and_true] at e19_; subst e19_
  obtain ⟨s21_, e22_, _, w23_⟩ := DataW.trod_int Try.underlying3 hf10_
  simp only [List.cons.injEq, and_true] at e22_; subst e22_
  have k1 := h1
  have lt1 : ∀ x ∈ p1, x.block < W.heap.size := by obtain ⟨m, hm⟩ := k1; exact DataW.trod_lt m _ _ _ hm
  obtain ⟨⟨l1⟩, rfl, hsz1⟩ := okWide_struct Try.underlying33 (hval 1 33 v1 rfl rfl)
  obtain ⟨c1_0, c1_1, rfl⟩ : ∃ c1_0 c1_1, l1 = [c1_0, c1_1] := by
    have hl : l1.length = 2 := hsz1.trans Try.cells33
    exact list2_of hl
  obtain ⟨fuel1, hf1⟩ := h1
  replace hf1 : DataW.trod enc Try.prog W 0 (fun _ => true) true fuel1 33 [c1_0, c1_1] = some (d1, p1) := hf1
  clear hsz1
  obtain ⟨xs26_, fu27_, _, _, _, hl25_, hg24_⟩ := DataW.trod_struct Try.underlying33 hf1
  obtain ⟨y28_, hy29_⟩ : ∃ y, xs26_[0]? = some y := ⟨_, List.getElem?_eq_getElem (by rw [hl25_]; decide)⟩
  have hf30_ : DataW.trod enc Try.prog W 0 (fun _ => true) true fu27_ 23 (List.take (Try.prog.cellsOf 23) (List.drop 0 [c1_0, c1_1])) = xs26_[0]? := hg24_ 0 _ rfl
  rw [hy29_, Try.cells23] at hf30_
  simp only [List.drop_zero, List.take_succ_cons, List.take_zero] at hf30_
  obtain ⟨y31_, hy32_⟩ : ∃ y, xs26_[1]? = some y := ⟨_, List.getElem?_eq_getElem (by rw [hl25_]; decide)⟩
  have hf33_ : DataW.trod enc Try.prog W 0 (fun _ => true) true fu27_ 3 (List.take (Try.prog.cellsOf 3) (List.drop 1 [c1_0, c1_1])) = xs26_[1]? := hg24_ 1 _ rfl
  rw [hy32_, Try.cells3] at hf33_
  simp only [List.drop_succ_cons, List.drop_zero, List.take_succ_cons, List.take_zero] at hf33_
  clear hg24_ hl25_
  obtain ⟨xs36_, fu37_, _, _, _, hl35_, hg34_⟩ := DataW.trod_struct Try.underlying23 hf30_
  obtain ⟨y38_, hy39_⟩ : ∃ y, xs36_[0]? = some y := ⟨_, List.getElem?_eq_getElem (by rw [hl35_]; decide)⟩
  have hf40_ : DataW.trod enc Try.prog W 0 (fun _ => true) true fu37_ 9 (List.take (Try.prog.cellsOf 9) (List.drop 0 [c1_0])) = xs36_[0]? := hg34_ 0 _ rfl
  rw [hy39_, Try.cells9] at hf40_
  simp only [List.drop_zero, List.take_succ_cons, List.take_zero] at hf40_
  clear hg34_ hl35_
  obtain ⟨s41_, e42_, _, w43_⟩ := DataW.trod_string Try.underlying9 hf40_
  simp only [List.cons.injEq, and_true] at e42_; subst e42_
  obtain ⟨s44_, e45_, _, w46_⟩ := DataW.trod_int Try.underlying3 hf33_
  simp only [List.cons.injEq, and_true] at e45_; subst e45_
  have k2 := h2
  have lt2 : ∀ x ∈ p2, x.block < W.heap.size := by obtain ⟨m, hm⟩ := k2; exact DataW.trod_lt m _ _ _ hm
  obtain ⟨⟨l2⟩, rfl, hsz2⟩ := okWide_struct Try.underlying33 (hval 2 33 v2 rfl rfl)
  obtain ⟨c2_0, c2_1, rfl⟩ : ∃ c2_0 c2_1, l2 = [c2_0, c2_1] := by
    have hl : l2.length = 2 := hsz2.trans Try.cells33
    exact list2_of hl
  obtain ⟨fuel2, hf2⟩ := h2
  replace hf2 : DataW.trod enc Try.prog W 0 (fun _ => true) true fuel2 33 [c2_0, c2_1] = some (d2, p2) := hf2
  clear hsz2
  obtain ⟨xs49_, fu50_, _, _, _, hl48_, hg47_⟩ := DataW.trod_struct Try.underlying33 hf2
  obtain ⟨y51_, hy52_⟩ : ∃ y, xs49_[0]? = some y := ⟨_, List.getElem?_eq_getElem (by rw [hl48_]; decide)⟩
  have hf53_ : DataW.trod enc Try.prog W 0 (fun _ => true) true fu50_ 23 (List.take (Try.prog.cellsOf 23) (List.drop 0 [c2_0, c2_1])) = xs49_[0]? := hg47_ 0 _ rfl
  rw [hy52_, Try.cells23] at hf53_
  simp only [List.drop_zero, List.take_succ_cons, List.take_zero] at hf53_
  obtain ⟨y54_, hy55_⟩ : ∃ y, xs49_[1]? = some y := ⟨_, List.getElem?_eq_getElem (by rw [hl48_]; decide)⟩
  have hf56_ : DataW.trod enc Try.prog W 0 (fun _ => true) true fu50_ 3 (List.take (Try.prog.cellsOf 3) (List.drop 1 [c2_0, c2_1])) = xs49_[1]? := hg47_ 1 _ rfl
  rw [hy55_, Try.cells3] at hf56_
  simp only [List.drop_succ_cons, List.drop_zero, List.take_succ_cons, List.take_zero] at hf56_
  clear hg47_ hl48_
  obtain ⟨xs59_, fu60_, _, _, _, hl58_, hg57_⟩ := DataW.trod_struct Try.underlying23 hf53_
  obtain ⟨y61_, hy62_⟩ : ∃ y, xs59_[0]? = some y := ⟨_, List.getElem?_eq_getElem (by rw [hl58_]; decide)⟩
  have hf63_ : DataW.trod enc Try.prog W 0 (fun _ => true) true fu60_ 9 (List.take (Try.prog.cellsOf 9) (List.drop 0 [c2_0])) = xs59_[0]? := hg57_ 0 _ rfl
  rw [hy62_, Try.cells9] at hf63_
  simp only [List.drop_zero, List.take_succ_cons, List.take_zero] at hf63_
  clear hg57_ hl58_
  obtain ⟨s64_, e65_, _, w66_⟩ := DataW.trod_string Try.underlying9 hf63_
  simp only [List.cons.injEq, and_true] at e65_; subst e65_
  obtain ⟨s67_, e68_, _, w69_⟩ := DataW.trod_int Try.underlying3 hf56_
  simp only [List.cons.injEq, and_true] at e68_; subst e68_
  clear hA0 hval0
  refine (tupleOrder_walk s18_ s21_ s41_ s44_ s64_ s67_ W w20_ w23_ w43_ w46_ w66_ w69_).mono fun e W' ⟨he, bel⟩ => ?_
  subst he
  exact ⟨_, rfl, _, _, _, [], _, [], hW', trodAll_mk1 (shut_bool Try.underlying4 _), (trodAll_cons_mk (Below.trod laidOut (by kernel_rfl) (of_decide_eq_true (by kernel_rfl)) k0 bel lt0) (trodAll_cons_mk (Below.trod laidOut (by kernel_rfl) (of_decide_eq_true (by kernel_rfl)) k1 bel lt1) (trodAll_cons_mk (Below.trod laidOut (by kernel_rfl) (of_decide_eq_true (by kernel_rfl)) k2 bel lt2) trodAll_mk0))), rfl, bel.frame _, fun h => by cases h⟩

theorem proved : Rows.TupleOrderSaid :=
  OpenClaim.holds_of_wide 5 Try.f5 rfl rfl rfl rfl rfl rfl rfl ⟨rfl, rfl, rfl, rfl, rfl⟩ rfl rfl rfl rfl rfl (by kernel_rfl) Try.func5 (by kernel_rfl)
    (of_decide_eq_true (by kernel_rfl)) (by unfold Func.isWrapper; first | (rw [if_pos (by decide +kernel)]; kernel_rfl) | (rw [if_neg (by decide +kernel)]; exact ⟨rfl, rfl⟩))
    (fun os started H enc _ => lifted os started H enc)
#print axioms proved
end Go.Proofs.Ytkkifdmelajioaa.tupleOrder
