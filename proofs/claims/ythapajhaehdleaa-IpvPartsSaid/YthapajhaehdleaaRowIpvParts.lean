/- For every input the Go function rampart/rampartlaw05.IpvParts returns true and leaves its arguments as they were; no condition. -/
import Derived.Test.YthapajhaehdleaaRows
import Derived.Test.YthapajhaehdleaaFourParts
import Derived.WalkKit
import Derived.ProofKit
import Derived.OpenShut
import Derived.ShutString
import Derived.ChangeOld
import Derived.Below
namespace Go.Proofs.Ythapajhaehdleaa.ipvParts
open Go.ChangeShapes Go.WideShapes Go.ChangeAt Go.RowKit
open Go.ChangeMaps (open_string shut_string)
set_option linter.unusedVariables false
theorem laidOut : laidOutB Try.prog = true := by kernel_rfl
theorem list8_of {α : Type} : ∀ {l : List α}, l.length = 8 → ∃ c0 c1 c2 c3 c4 c5 c6 c7, l = [c0, c1, c2, c3, c4, c5, c6, c7]
  | [c0, c1, c2, c3, c4, c5, c6, c7], _ => ⟨_, _, _, _, _, _, _, _, rfl⟩
theorem Try.cells3 : Try.prog.cellsOf 3 = 1 := by kernel_rfl
theorem Try.cells4 : Try.prog.cellsOf 4 = 1 := by kernel_rfl
theorem Try.cells9 : Try.prog.cellsOf 9 = 1 := by kernel_rfl
theorem Try.cells24 : Try.prog.cellsOf 24 = 1 := by kernel_rfl
theorem Try.cells26 : Try.prog.cellsOf 26 = 8 := by kernel_rfl
theorem own : ownKnob Try.prog.godebug = none := by kernel_rfl
set_option maxRecDepth 100000 in
theorem lifted (os : Os) (started : os.Started) (H : Type) (enc : TypeId × Value → H) :
    ReturnsInHanded {} Try.checked os 7 .any (Rows.ipvPartsSpec.pre6 enc Try.prog Try.f7 Rows.ipvPartsRow.domain false) (Rows.ipvPartsSpec.post enc Try.prog Try.f7 false true false false) := by
  refine returnsInHanded_of_change (C := Try.checked) own started (by kernel_rfl) Try.func7
    (ChangeSpec.witness6 (enc := enc) (C := Try.checked) false ⟨#[], #[.agg #[.string ByteArray.empty, .string ByteArray.empty, .int .i64 0, .int .i64 0, .int .i64 0, .int .i64 0, .bool false, .string ByteArray.empty], .int .u16 0], []⟩ 8 (by kernel_rfl) (by kernel_rfl) (by kernel_rfl) (by kernel_rfl)) ?_
  intro W base args ds gs before hval0 hW hcnd _
  have hval : ∀ (j : Nat) t v, Try.f7.params[j]? = some t → args[j]? = some v → Value.okWide Try.prog W .any base t v := hval0
  have hW' := hW
  obtain ⟨p, q, hA0, hV, rfl, hfz, hnd⟩ := hW
  have hA : DataW.TrodAll enc Try.prog W 0 (fun _ => true) true Try.f7.params.toList args.toList ds p := hA0
  rw [Try.params7] at hA hval
  obtain ⟨v0, vs0, d0, ds0, p0, q0, hargs, rfl, rfl, h0, r0⟩ := trodAll_cons hA
  obtain ⟨v1, vs1, d1, ds1, p1, q1, rfl, rfl, rfl, h1, r1⟩ := trodAll_cons r0
  obtain ⟨rfl, rfl, rfl⟩ := trodAll_nil r1
  obtain rfl : args = #[v0, v1] := by cases args; simp_all
  obtain ⟨rfl, rfl⟩ := trodVars_none hV
  have k0 := h0
  have lt0 : ∀ x ∈ p0, x.block < W.heap.size := by obtain ⟨m, hm⟩ := k0; exact DataW.trod_lt m _ _ _ hm
  obtain ⟨⟨l0⟩, rfl, hsz0⟩ := okWide_struct Try.underlying26 (hval 0 26 v0 rfl rfl)
  obtain ⟨c0_0, c0_1, c0_2, c0_3, c0_4, c0_5, c0_6, c0_7, rfl⟩ : ∃ c0_0 c0_1 c0_2 c0_3 c0_4 c0_5 c0_6 c0_7, l0 = [c0_0, c0_1, c0_2, c0_3, c0_4, c0_5, c0_6, c0_7] := by
    have hl : l0.length = 8 := hsz0.trans Try.cells26
    exact list8_of hl
  obtain ⟨fuel0, hf0⟩ := h0
  replace hf0 : DataW.trod enc Try.prog W 0 (fun _ => true) true fuel0 26 [c0_0, c0_1, c0_2, c0_3, c0_4, c0_5, c0_6, c0_7] = some (d0, p0) := hf0
  clear hsz0
  obtain ⟨xs3_, fu4_, _, _, _, hl2_, hg1_⟩ := DataW.trod_struct Try.underlying26 hf0
  obtain ⟨y5_, hy6_⟩ : ∃ y, xs3_[0]? = some y := ⟨_, List.getElem?_eq_getElem (by rw [hl2_]; decide)⟩
  have hf7_ : DataW.trod enc Try.prog W 0 (fun _ => true) true fu4_ 24 (List.take (Try.prog.cellsOf 24) (List.drop 0 [c0_0, c0_1, c0_2, c0_3, c0_4, c0_5, c0_6, c0_7])) = xs3_[0]? := hg1_ 0 _ rfl
  rw [hy6_, Try.cells24] at hf7_
  simp only [List.drop_zero, List.take_succ_cons, List.take_zero] at hf7_
  obtain ⟨y8_, hy9_⟩ : ∃ y, xs3_[1]? = some y := ⟨_, List.getElem?_eq_getElem (by rw [hl2_]; decide)⟩
  have hf10_ : DataW.trod enc Try.prog W 0 (fun _ => true) true fu4_ 24 (List.take (Try.prog.cellsOf 24) (List.drop 1 [c0_0, c0_1, c0_2, c0_3, c0_4, c0_5, c0_6, c0_7])) = xs3_[1]? := hg1_ 1 _ rfl
  rw [hy9_, Try.cells24] at hf10_
  simp only [List.drop_succ_cons, List.drop_zero, List.take_succ_cons, List.take_zero] at hf10_
  obtain ⟨y11_, hy12_⟩ : ∃ y, xs3_[2]? = some y := ⟨_, List.getElem?_eq_getElem (by rw [hl2_]; decide)⟩
  have hf13_ : DataW.trod enc Try.prog W 0 (fun _ => true) true fu4_ 3 (List.take (Try.prog.cellsOf 3) (List.drop 2 [c0_0, c0_1, c0_2, c0_3, c0_4, c0_5, c0_6, c0_7])) = xs3_[2]? := hg1_ 2 _ rfl
  rw [hy12_, Try.cells3] at hf13_
  simp only [List.drop_succ_cons, List.drop_zero, List.take_succ_cons, List.take_zero] at hf13_
  obtain ⟨y14_, hy15_⟩ : ∃ y, xs3_[3]? = some y := ⟨_, List.getElem?_eq_getElem (by rw [hl2_]; decide)⟩
  have hf16_ : DataW.trod enc Try.prog W 0 (fun _ => true) true fu4_ 3 (List.take (Try.prog.cellsOf 3) (List.drop 3 [c0_0, c0_1, c0_2, c0_3, c0_4, c0_5, c0_6, c0_7])) = xs3_[3]? := hg1_ 3 _ rfl
  rw [hy15_, Try.cells3] at hf16_
  simp only [List.drop_succ_cons, List.drop_zero, List.take_succ_cons, List.take_zero] at hf16_
  obtain ⟨y17_, hy18_⟩ : ∃ y, xs3_[4]? = some y := ⟨_, List.getElem?_eq_getElem (by rw [hl2_]; decide)⟩
  have hf19_ : DataW.trod enc Try.prog W 0 (fun _ => true) true fu4_ 3 (List.take (Try.prog.cellsOf 3) (List.drop 4 [c0_0, c0_1, c0_2, c0_3, c0_4, c0_5, c0_6, c0_7])) = xs3_[4]? := hg1_ 4 _ rfl
  rw [hy18_, Try.cells3] at hf19_
  simp only [List.drop_succ_cons, List.drop_zero, List.take_succ_cons, List.take_zero] at hf19_
  obtain ⟨y20_, hy21_⟩ : ∃ y, xs3_[5]? = some y := ⟨_, List.getElem?_eq_getElem (by rw [hl2_]; decide)⟩
  have hf22_ : DataW.trod enc Try.prog W 0 (fun _ => true) true fu4_ 3 (List.take (Try.prog.cellsOf 3) (List.drop 5 [c0_0, c0_1, c0_2, c0_3, c0_4, c0_5, c0_6, c0_7])) = xs3_[5]? := hg1_ 5 _ rfl
  rw [hy21_, Try.cells3] at hf22_
  simp only [List.drop_succ_cons, List.drop_zero, List.take_succ_cons, List.take_zero] at hf22_
  obtain ⟨y23_, hy24_⟩ : ∃ y, xs3_[6]? = some y := ⟨_, List.getElem?_eq_getElem (by rw [hl2_]; decide)⟩
  have hf25_ : DataW.trod enc Try.prog W 0 (fun _ => true) true fu4_ 4 (List.take (Try.prog.cellsOf 4) (List.drop 6 [c0_0, c0_1, c0_2, c0_3, c0_4, c0_5, c0_6, c0_7])) = xs3_[6]? := hg1_ 6 _ rfl
  rw [hy24_, Try.cells4] at hf25_
  simp only [List.drop_succ_cons, List.drop_zero, List.take_succ_cons, List.take_zero] at hf25_
  obtain ⟨y26_, hy27_⟩ : ∃ y, xs3_[7]? = some y := ⟨_, List.getElem?_eq_getElem (by rw [hl2_]; decide)⟩
  have hf28_ : DataW.trod enc Try.prog W 0 (fun _ => true) true fu4_ 9 (List.take (Try.prog.cellsOf 9) (List.drop 7 [c0_0, c0_1, c0_2, c0_3, c0_4, c0_5, c0_6, c0_7])) = xs3_[7]? := hg1_ 7 _ rfl
  rw [hy27_, Try.cells9] at hf28_
  simp only [List.drop_succ_cons, List.drop_zero, List.take_succ_cons, List.take_zero] at hf28_
  clear hg1_ hl2_
  obtain ⟨xs31_, fu32_, _, _, _, hl30_, hg29_⟩ := DataW.trod_struct Try.underlying24 hf7_
  obtain ⟨y33_, hy34_⟩ : ∃ y, xs31_[0]? = some y := ⟨_, List.getElem?_eq_getElem (by rw [hl30_]; decide)⟩
  have hf35_ : DataW.trod enc Try.prog W 0 (fun _ => true) true fu32_ 9 (List.take (Try.prog.cellsOf 9) (List.drop 0 [c0_0])) = xs31_[0]? := hg29_ 0 _ rfl
  rw [hy34_, Try.cells9] at hf35_
  simp only [List.drop_zero, List.take_succ_cons, List.take_zero] at hf35_
  clear hg29_ hl30_
  obtain ⟨s36_, e37_, _, w38_⟩ := DataW.trod_string Try.underlying9 hf35_
  simp only [List.cons.injEq, and_true] at e37_; subst e37_
  obtain ⟨xs41_, fu42_, _, _, _, hl40_, hg39_⟩ := DataW.trod_struct Try.underlying24 hf10_
  obtain ⟨y43_, hy44_⟩ : ∃ y, xs41_[0]? = some y := ⟨_, List.getElem?_eq_getElem (by rw [hl40_]; decide)⟩
  have hf45_ : DataW.trod enc Try.prog W 0 (fun _ => true) true fu42_ 9 (List.take (Try.prog.cellsOf 9) (List.drop 0 [c0_1])) = xs41_[0]? := hg39_ 0 _ rfl
  rw [hy44_, Try.cells9] at hf45_
  simp only [List.drop_zero, List.take_succ_cons, List.take_zero] at hf45_
  clear hg39_ hl40_
  obtain ⟨s46_, e47_, _, w48_⟩ := DataW.trod_string Try.underlying9 hf45_
  simp only [List.cons.injEq, and_true] at e47_; subst e47_
  obtain ⟨s49_, e50_, _, w51_⟩ := DataW.trod_int Try.underlying3 hf13_
  simp only [List.cons.injEq, and_true] at e50_; subst e50_
  obtain ⟨s52_, e53_, _, w54_⟩ := DataW.trod_int Try.underlying3 hf16_
  simp only [List.cons.injEq, and_true] at e53_; subst e53_
  obtain ⟨s55_, e56_, _, w57_⟩ := DataW.trod_int Try.underlying3 hf19_
  simp only [List.cons.injEq, and_true] at e56_; subst e56_
  obtain ⟨s58_, e59_, _, w60_⟩ := DataW.trod_int Try.underlying3 hf22_
  simp only [List.cons.injEq, and_true] at e59_; subst e59_
  obtain ⟨s61_, e62_, _⟩ := DataW.trod_bool Try.underlying4 hf25_
  simp only [List.cons.injEq, and_true] at e62_; subst e62_
  obtain ⟨s63_, e64_, _, w65_⟩ := DataW.trod_string Try.underlying9 hf28_
  simp only [List.cons.injEq, and_true] at e64_; subst e64_
  obtain ⟨a1, rfl, rfl, rfl, w1⟩ := open_int Try.underlying40 (hval 1 40 v1 rfl rfl) h1
  clear hA0 hval0
  refine (ipvParts_walk s36_ s46_ s49_ s52_ s55_ s58_ s61_ s63_ a1 W w38_ w48_ w51_ w54_ w57_ w60_ w65_ w1).mono fun e W' ⟨he, bel⟩ => ?_
  subst he
  exact ⟨_, rfl, _, _, _, [], _, [], hW', trodAll_mk1 (shut_bool Try.underlying4 _), (trodAll_cons_mk (Below.trod laidOut (by kernel_rfl) (of_decide_eq_true (by kernel_rfl)) k0 bel lt0) (trodAll_cons_mk (shut_int Try.underlying40 w1) trodAll_mk0)), rfl, bel.frame _, fun h => by cases h⟩

theorem proved : Rows.IpvPartsSaid :=
  OpenClaim.holds_of_wide 7 Try.f7 rfl rfl rfl rfl rfl rfl rfl ⟨rfl, rfl, rfl, rfl, rfl⟩ rfl rfl rfl rfl rfl (by kernel_rfl) Try.func7 (by kernel_rfl)
    (of_decide_eq_true (by kernel_rfl)) (by unfold Func.isWrapper; first | (rw [if_pos (by decide +kernel)]; kernel_rfl) | (rw [if_neg (by decide +kernel)]; exact ⟨rfl, rfl⟩))
    (fun os started H enc _ => lifted os started H enc)
#print axioms proved
end Go.Proofs.Ythapajhaehdleaa.ipvParts
