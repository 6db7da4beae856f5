/- IpvBack, IpvSpoils, IpvParts. -/
import Derived.Test.YthapajhaehdleaaFourLaws
import Derived.Test.YthapajhaehdleaaFourPlain
namespace Go.Proofs.Ythapajhaehdleaa
open Go.RowKit

set_option maxRecDepth 100000 in
set_option maxHeartbeats 1000000 in
theorem ipvBack_big (A B : ByteArray) (p t i o : Int) (f : Bool) (D : ByteArray) (M : ByteArray) (wM : M.size ≤ 9223372036854775807) (k : Int) (w : World) (wA : A.size ≤ 9223372036854775807) (wB : B.size ≤ 9223372036854775807) (wD : D.size ≤ 9223372036854775807) (hc : 1000 < D.size ∨ 100 < A.size ∨ 100 < B.size ∨ 500 < M.size) :
    Calls Try.prog 5 #[.agg #[.string A, .string B, .int .i64 p, .int .i64 t, .int .i64 i, .int .i64 o, .bool f, .string D], .string M, .int .u16 k] w fun e w' => e = .returned (.bool true) ∧ Below w.heap.size w w' := by
  have hB := below_alloc (Below.refl w.heap.size w) (.cells #[.string A, .string B, .int .i64 p, .int .i64 t, .int .i64 i, .int .i64 o, .bool f, .string D] 26)
  by_cases h1 : 1000 < D.size
  all_goals
    by_cases h2 : 100 < A.size
  all_goals
    by_cases h3 : 100 < B.size
  all_goals
    by_cases h4 : 500 < M.size
  all_goals first
    | (exfalso; omega)
    | (go_enter Try.func5, Try.ntmps5
       go_wp2_with (go_at_call 8; refine (ipvKnown_any _).mono ?_; rintro e w9 ⟨rfl, hb9⟩; replace hB := below_on hb9 (by first | exact hB | exact below_alloc hB _))
       go_ret
       exact ⟨rfl, hB⟩)

set_option maxRecDepth 100000 in
set_option maxHeartbeats 1000000 in
theorem ipvBack_no (A B : ByteArray) (p t i o : Int) (f : Bool) (D : ByteArray) (M : ByteArray) (k : Int) (w : World) (h1 : ¬ 1000 < D.size) (h2 : ¬ 100 < A.size) (h3 : ¬ 100 < B.size) (h4 : ¬ 500 < M.size) (hfit : fits4 A B p t i o f D = false) :
    Calls Try.prog 5 #[.agg #[.string A, .string B, .int .i64 p, .int .i64 t, .int .i64 i, .int .i64 o, .bool f, .string D], .string M, .int .u16 k] w fun e w' => e = .returned (.bool true) ∧ Below w.heap.size w w' := by
  have HF := Lib.hid hfit
  have hB := below_alloc (Below.refl w.heap.size w) (.cells #[.string A, .string B, .int .i64 p, .int .i64 t, .int .i64 i, .int .i64 o, .bool f, .string D] 26)
  have hK := Lib.hid (blk_new w (.cells #[.string A, .string B, .int .i64 p, .int .i64 t, .int .i64 i, .int .i64 o, .bool f, .string D] 26))
  go_enter Try.func5, Try.ntmps5
  go_wp2_with (first
    | (go_at_call 12; refine (make4_no _ _ _ _ _ _ _ _ _ HF.out).mono ?_; rintro e w1 ⟨rfl, hb1⟩; replace hB := below_on hb1 hB; replace hK := Lib.hid (blk_below hb1 hK.out); obtain ⟨lk, k0, k1, k2, k3, k4, k5, k6, k7⟩ := blk8 hK.out)
    | (go_at_call 14; refine (fits4_any _ _ _ _ _ _ _ _ _).mono ?_; rw [HF.out]; rintro e w2 ⟨rfl, hb2⟩; replace hB := below_on hb2 hB)
    | (go_at_call 8; refine (ipvKnown_any _).mono ?_; rintro e w9 ⟨rfl, hb9⟩; replace hB := below_on hb9 (by first | exact hB | exact below_alloc hB _)))
  go_ret
  exact ⟨rfl, hB⟩

set_option maxRecDepth 100000 in
set_option maxHeartbeats 4000000 in
theorem ipvBack_yes (A B : ByteArray) (p t i o : Nat) (D : ByteArray) (M : ByteArray) (k : Nat) (w : World) (h1 : ¬ 1000 < D.size) (h2 : ¬ 100 < A.size) (h3 : ¬ 100 < B.size) (h4 : ¬ 500 < M.size) (hk : k < 65536) (hfit : fits4 A B p t i o false D = true) :
    Calls Try.prog 5 #[.agg #[.string A, .string B, .int .i64 p, .int .i64 t, .int .i64 i, .int .i64 o, .bool false, .string D], .string M, .int .u16 k] w fun e w' => e = .returned (.bool true) ∧ Below w.heap.size w w' := by
  obtain ⟨e1, e2, e3, e4, e5, e6, e7, e8, e9, e10, e11, e12⟩ := fits4_out hfit
  have hsz := mk4_size A B p t i o D e1 e2
  obtain ⟨L, hL⟩ : ∃ L, mk4 A B p t i o D = L := ⟨_, rfl⟩
  have HM := Lib.hid (fun w => make4_yes A B p t i o D w hfit)
  have HR := Lib.hid (rd4_back A B p t i o D M e1 e2 (by omega) (by omega) (by omega) (by omega) (by omega))
  rw [hL] at hsz
  have hm2 : k % (20 + D.size) < L.size := by rw [hsz]; exact Nat.mod_lt _ (by omega)
  have HC := Lib.hid (rd4_cut A B p t i o D e1 e2 (by omega) (by omega) (by omega) (by omega) (by omega) (k % (20 + D.size)) (by rw [hL]; exact hm2))
  rw [hL] at HM HR HC
  have c1 : ¬ 9223372036854775807 < L.size + M.size := by omega
  have c2 : ¬ 9223372036854775807 < 20 + D.size + M.size := by omega
  have d1 : (0 : Int) < L.size := by omega
  have d2 : ((L.size : Int) == 0) = false := by rw [beq_eq_false_iff_ne]; omega
  have d3 : ((k % (20 + D.size) : Nat) : Int) ≤ L.size := by omega
  have d4 : (0 : Int) ≤ (k : Int) % (20 + (D.size : Int)) := Int.emod_nonneg _ (by omega)
  have d5 : (k : Int) % (20 + (D.size : Int)) ≤ 20 + (D.size : Int) := Int.le_of_lt (Int.emod_lt_of_pos _ (by omega))
  have wk : IntKind.i64.wrap (k : Int) = k := IntWalk.i64_in _ (by omega)
  clear hL
  have hB := below_alloc (Below.refl w.heap.size w) (.cells #[.string A, .string B, .int .i64 p, .int .i64 t, .int .i64 i, .int .i64 o, .bool false, .string D] 26)
  have hK := Lib.hid (blk_new w (.cells #[.string A, .string B, .int .i64 p, .int .i64 t, .int .i64 i, .int .i64 o, .bool false, .string D] 26))
  go_enter Try.func5, Try.ntmps5
  go_wp2_with (go_at_call 12; with_reducible refine (HM.out _).mono ?_; rintro e w1 ⟨rfl, hb1⟩; replace hB := below_on hb1 hB; replace hK := Lib.hid (blk_below hb1 hK.out))
  clear hb1
  with_reducible refine (read4_any (L ++ M) _ (by rw [ByteArray.size_append]; omega) _ _ _ _ _ _ _ _ _ HR.out).mono ?_
  rintro e w2 ⟨rfl, hb2⟩
  replace hB := below_on hb2 hB
  replace hK := Lib.hid (blk_below hb2 hK.out)
  clear hb2
  go_wp2_with fail
  obtain ⟨g, hg⟩ : ∃ g, g = w2.heap.size := ⟨_, rfl⟩
  have hG := Lib.hid (blk_new w2 (.cells #[.string A, .string B, .int .i64 p, .int .i64 t, .int .i64 i, .int .i64 o, .bool false, .string D] 26))
  rw [← hg] at hG
  simp only [← hg]
  clear hg
  with_reducible refine (read4_any (L.extract 0 (k % (20 + D.size))) _ (by rw [ByteArray.size_extract]; omega) _ _ _ _ _ _ _ _ _ HC.out).mono ?_
  rintro e w3 ⟨rfl, hb3⟩
  replace hB := below_on hb3 (below_alloc hB _)
  replace hK := Lib.hid (blk_below hb3 (blk_alloc hK.out _))
  replace hG := Lib.hid (blk_below hb3 hG.out)
  clear hb3
  obtain ⟨lg, g0, g1, g2, g3, g4, g5, g6, g7⟩ := blk8 hG.out
  obtain ⟨lk, k0, k1, k2, k3, k4, k5, k6, k7⟩ := blk8 hK.out
  go_wp2_with (go_at_call 8; refine (ipvKnown_any _).mono ?_; rintro e w9 ⟨rfl, hb9⟩; replace hB := below_on hb9 (by first | exact hB | exact below_alloc hB _))
  go_ret
  exact ⟨rfl, hB⟩

theorem ipvBack_walk (A B : ByteArray) (p t i o : Int) (f : Bool) (D : ByteArray) (M : ByteArray) (k : Int) (w : World) (wA : A.size ≤ maxLen) (wB : B.size ≤ maxLen) (wp : (Lit.int .i64 p).wf = true) (wt : (Lit.int .i64 t).wf = true) (wi : (Lit.int .i64 i).wf = true) (wo : (Lit.int .i64 o).wf = true) (wD : D.size ≤ maxLen) (wM : M.size ≤ maxLen) (wk : (Lit.int .u16 k).wf = true) :
    Calls Try.prog 5 #[.agg #[.string A, .string B, .int .i64 p, .int .i64 t, .int .i64 i, .int .i64 o, .bool f, .string D], .string M, .int .u16 k] w fun e w' => e = .returned (.bool true) ∧ Below w.heap.size w w' := by
  unfold maxLen at wA wB wD wM
  by_cases hc : 1000 < D.size ∨ 100 < A.size ∨ 100 < B.size ∨ 500 < M.size
  · exact ipvBack_big A B p t i o f D M wM k w wA wB wD hc
  have h1 : ¬ 1000 < D.size := by omega
  have h2 : ¬ 100 < A.size := by omega
  have h3 : ¬ 100 < B.size := by omega
  have h4 : ¬ 500 < M.size := by omega
  cases hfit : fits4 A B p t i o f D
  · exact ipvBack_no A B p t i o f D M k w h1 h2 h3 h4 hfit
  · obtain ⟨e1, e2, e3, e4, e5, e6, e7, e8, e9, e10, e11, e12⟩ := fits4_out hfit
    subst e11
    have h5 := wf_u16 wk
    obtain ⟨p, rfl⟩ := Int.eq_ofNat_of_zero_le e3
    obtain ⟨t, rfl⟩ := Int.eq_ofNat_of_zero_le e5
    obtain ⟨o, rfl⟩ := Int.eq_ofNat_of_zero_le e7
    obtain ⟨i, rfl⟩ := Int.eq_ofNat_of_zero_le e9
    obtain ⟨k, rfl⟩ := Int.eq_ofNat_of_zero_le h5.1
    exact ipvBack_yes A B p t i o D M k w h1 h2 h3 h4 (by omega) hfit

end Go.Proofs.Ythapajhaehdleaa
