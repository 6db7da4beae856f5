/- The statements of chapter 2: the sum's laws walk to true by the contracts. -/
import Derived.Test.YtcghgleaembanaaSum
namespace Go.Proofs.Ytcghgleaembanaa
open Go.RowKit

theorem below_next {B : Nat} {w w1 w2 : World} (h : Below B w w1) (h2 : Below w1.heap.size w1 w2) (hB : B ≤ w1.heap.size) : Below B w w2 :=
  h.trans (h2.mono hB)

theorem below_then {B : Nat} {w w1 w2 : World} (h2 : Below w1.heap.size w1 w2) (h : Below B w w1) (hB : B ≤ w1.heap.size) : Below B w w2 :=
  h.trans (h2.mono hB)
theorem below_on {w w1 w2 : World} (h2 : Below w1.heap.size w1 w2) (h : Below w.heap.size w w1) : Below w.heap.size w w2 :=
  h.trans (h2.mono h.size)

set_option maxHeartbeats 400000 in
theorem sumKnown_any (w : World) :
    Calls Try.prog 8 #[] w fun e w' => e = .returned (.bool true) ∧ Below w.heap.size w w' := by
  have k1 : ofV ⟨#[0, 1, 242, 3, 244, 245, 246, 247]⟩ = 8717 := by decide
  have k2 : ofV ⟨#[0, 1, 255, 254]⟩ = 0 := by decide
  have k3 : (ofV ⟨#[97]⟩ == 0) = false := by decide
  have k4 : addV 1 (psB ⟨#[1, 2, 3]⟩) = 1027 := by decide
  have k5 : foldV 131071 = 1 := by decide
  have k6 : patchV 8717 61955 61956 = 8716 := by decide
  have hB := Below.refl w.heap.size w
  go_enter Try.func8, Try.ntmps8
  go_wp2_with (first
    | (go_at_call 13; refine (of_any _ _ (by decide)).mono ?_; rintro e w1 ⟨rfl, hb1⟩; replace hB := below_next hB hb1 hB.size)
    | (go_at_call 15; refine (right_any _ _ (by decide)).mono ?_; rintro e w1 ⟨rfl, hb1⟩; replace hB := below_next hB hb1 hB.size)
    | (go_at_call 9; refine (add_any _ _ _ (by decide) (by decide) (by decide)).mono ?_; rintro e w1 ⟨rfl, hb1⟩; replace hB := below_next hB hb1 hB.size)
    | (go_at_call 11; refine (fold_any _ _ (by decide) (by decide)).mono ?_; rintro e w1 ⟨rfl, rfl⟩)
    | (go_at_call 17; refine (patch_any _ _ _ _ (by decide) (by decide) (by decide) (by decide) (by decide) (by decide)).mono ?_; rintro e w1 ⟨rfl, rfl⟩))
  go_ret
  exact ⟨rfl, hB⟩

theorem wf_u64 {n : Int} (h : (Lit.int .u64 n).wf = true) : 0 ≤ n ∧ n < 18446744073709551616 := by
  have hmin : IntKind.u64.min = 0 := rfl
  have hmax : IntKind.u64.max = 18446744073709551615 := rfl
  simp only [Lit.wf, Bool.and_eq_true, decide_eq_true_eq] at h
  omega
theorem wf_u16 {n : Int} (h : (Lit.int .u16 n).wf = true) : 0 ≤ n ∧ n ≤ 65535 := by
  have hmin : IntKind.u16.min = 0 := rfl
  have hmax : IntKind.u16.max = 65535 := rfl
  simp only [Lit.wf, Bool.and_eq_true, decide_eq_true_eq] at h
  omega

set_option maxHeartbeats 400000 in
theorem sumTells_walk (s : ByteArray) (n : Int) (w : World) (ws : s.size ≤ maxLen) (wn : (Lit.int .u64 n).wf = true) :
    Calls Try.prog 3 #[.string s, .int .u64 n] w fun e w' => e = .returned (.bool true) ∧ Below w.heap.size w w' := by
  have hB := Below.refl w.heap.size w
  unfold maxLen at ws
  obtain ⟨h0, h1⟩ := wf_u64 wn
  clear wn
  by_cases hc : 5000 < s.size
  · go_enter Try.func3, Try.ntmps3
    go_wp2_with (go_at_call 8; refine (sumKnown_any _).mono ?_; rintro e w1 ⟨rfl, hb1⟩; replace hB := below_next hB hb1 hB.size)
    go_ret
    exact ⟨rfl, hB⟩
  · have hs : s.size ≤ 140737488351232 := by omega
    go_enter Try.func3, Try.ntmps3
    go_wp2_with (first
      | (go_at_call 8; refine (sumKnown_any _).mono ?_; rintro e w1 ⟨rfl, hb1⟩; replace hB := below_next hB hb1 hB.size)
      | (go_at_call 13; refine (of_any _ _ hs).mono ?_; rintro e w1 ⟨rfl, hb1⟩; replace hB := below_next hB hb1 hB.size)
      | (go_at_call 15; refine (right_any _ _ hs).mono ?_; rintro e w1 ⟨rfl, hb1⟩; replace hB := below_next hB hb1 hB.size)
      | (go_at_call 9; refine (add_any _ _ _ hs h0 h1).mono ?_; rintro e w1 ⟨rfl, hb1⟩; replace hB := below_next hB hb1 hB.size)
      | (go_at_call 11; refine (fold_any _ _ h0 h1).mono ?_; rintro e w1 ⟨rfl, rfl⟩)
      | (go_at_call 14; refine (refOf_any _ _ hs).mono ?_; rintro e w1 ⟨rfl, rfl⟩)
      | (go_at_call 16; refine (refRight_any _ _ hs).mono ?_; rintro e w1 ⟨rfl, rfl⟩)
      | (go_at_call 10; refine (refAdd_any _ _ _ hs h0 h1).mono ?_; rintro e w1 ⟨rfl, rfl⟩)
      | (go_at_call 12; refine (refFold_any _ _ h0 h1).mono ?_; rintro e w1 ⟨rfl, rfl⟩))
    go_ret
    exact ⟨rfl, hB⟩

end Go.Proofs.Ytcghgleaembanaa
