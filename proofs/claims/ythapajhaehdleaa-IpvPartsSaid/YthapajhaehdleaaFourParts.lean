/- IpvParts. -/
import Derived.Test.YthapajhaehdleaaFourLaws
import Derived.Test.YthapajhaehdleaaFourPlain
namespace Go.Proofs.Ythapajhaehdleaa
open Go.RowKit

set_option maxRecDepth 100000 in
set_option maxHeartbeats 1000000 in
theorem ipvParts_big (A B : ByteArray) (p t i o : Int) (f : Bool) (D : ByteArray) (n : Int) (w : World) (wA : A.size ≤ 9223372036854775807) (wB : B.size ≤ 9223372036854775807) (wD : D.size ≤ 9223372036854775807) (hc : 500 < D.size ∨ 100 < A.size ∨ 100 < B.size) :
    Calls Try.prog 7 #[.agg #[.string A, .string B, .int .i64 p, .int .i64 t, .int .i64 i, .int .i64 o, .bool f, .string D], .int .u16 n] w fun e w' => e = .returned (.bool true) ∧ Below w.heap.size w w' := by
  have hB := below_alloc (Below.refl w.heap.size w) (.cells #[.string A, .string B, .int .i64 p, .int .i64 t, .int .i64 i, .int .i64 o, .bool f, .string D] 26)
  by_cases h1 : 500 < D.size
  all_goals
    by_cases h2 : 100 < A.size
  all_goals
    by_cases h3 : 100 < B.size
  all_goals first
    | (exfalso; omega)
    | (go_enter Try.func7, Try.ntmps7
       go_wp2_with (go_at_call 8; refine (ipvKnown_any _).mono ?_; rintro e w9 ⟨rfl, hb9⟩; replace hB := below_on hb9 (by first | exact hB | exact below_alloc hB _))
       go_ret
       exact ⟨rfl, hB⟩)

set_option maxRecDepth 100000 in
set_option maxHeartbeats 1000000 in
theorem ipvParts_no (A B : ByteArray) (p t i o : Int) (f : Bool) (D : ByteArray) (n : Int) (w : World) (h1 : ¬ 500 < D.size) (h2 : ¬ 100 < A.size) (h3 : ¬ 100 < B.size) (hfit : fits4 A B p t i o f D = false) :
    Calls Try.prog 7 #[.agg #[.string A, .string B, .int .i64 p, .int .i64 t, .int .i64 i, .int .i64 o, .bool f, .string D], .int .u16 n] w fun e w' => e = .returned (.bool true) ∧ Below w.heap.size w w' := by
  have HF := Lib.hid hfit
  have hB := below_alloc (Below.refl w.heap.size w) (.cells #[.string A, .string B, .int .i64 p, .int .i64 t, .int .i64 i, .int .i64 o, .bool f, .string D] 26)
  go_enter Try.func7, Try.ntmps7
  go_wp2_with (first
    | (go_at_call 12; refine (make4_no _ _ _ _ _ _ _ _ _ HF.out).mono ?_; rintro e w1 ⟨rfl, hb1⟩; replace hB := below_on hb1 hB)
    | (go_at_call 8; refine (ipvKnown_any _).mono ?_; rintro e w9 ⟨rfl, hb9⟩; replace hB := below_on hb9 (by first | exact hB | exact below_alloc hB _)))
  go_ret
  exact ⟨rfl, hB⟩

theorem and_16383u (n : Nat) (h : n < 65536) : bits .and .u16 (n : Int) 16383 = (n : Int) % 16384 := by
  have h127 : (BitVec.ofInt 16 16383).toNat = 2 ^ 14 - 1 := by decide
  have key : (BitVec.ofInt 16 (n : Int) &&& BitVec.ofInt 16 16383).toNat = n % 2 ^ 14 := by
    rw [BitVec.toNat_and, BitVec.toNat_ofInt, h127, Nat.and_two_pow_sub_one_eq_mod]
    congr 1
    omega
  show IntKind.u16.wrap ((BitVec.ofInt 16 (n : Int) &&& BitVec.ofInt 16 16383).toNat : Nat) = _
  rw [key]
  have e : IntKind.u16.wrap ((n % 2 ^ 14 : Nat) : Int) = ((n % 2 ^ 14 : Nat) : Int) := by
    show ((n % 2 ^ 14 : Nat) : Int) % 65536 = _
    omega
  rw [e]
  omega
theorem ext_sz (s : ByteArray) (i j : Nat) (h : j ≤ s.size) : (s.extract i j).size = j - i := by rw [ByteArray.size_extract]; omega

set_option maxRecDepth 100000 in
set_option maxHeartbeats 4000000 in
theorem ipvParts_yes (A B : ByteArray) (p t i o : Nat) (D : ByteArray) (n : Nat) (w : World) (h1 : ¬ 500 < D.size) (h2 : ¬ 100 < A.size) (h3 : ¬ 100 < B.size) (hn : n < 65536) (hfit : fits4 A B p t i o false D = true) :
    Calls Try.prog 7 #[.agg #[.string A, .string B, .int .i64 p, .int .i64 t, .int .i64 i, .int .i64 o, .bool false, .string D], .int .u16 n] w fun e w' => e = .returned (.bool true) ∧ Below w.heap.size w w' := by
  obtain ⟨e1, e2, e3, e4, e5, e6, e7, e8, e9, e10, e11, e12⟩ := fits4_out hfit
  have hsz := mk4_size A B p t i o D e1 e2
  have HM := Lib.hid (fun w => make4_yes A B p t i o D w hfit)
  have hT := w4_parts (20 + D.size) o i 16384 t p (ofV (h4W (20 + D.size) o i 16384 t p 0 A B)).toNat n A B D e1 e2
  rw [← mk4_w] at hT
  have hU := w4_reset (20 + D.size) o i n t p 0 (ofV (h4W (20 + D.size) o i n t p 0 A B)).toNat A B D e1 e2
  have hl := w4_laid (20 + D.size) o i n t p A B e1 e2 (by omega) (by omega) (by omega) (by omega) (by omega) (by omega)
  have hr := rd4_w (20 + D.size) o i n t p (ofV (h4W (20 + D.size) o i n t p 0 A B)).toNat A B D e1 e2 (by omega) (by omega) (by omega) (by omega) (by omega) (by omega) (by omega) (by omega) (by omega) hl.1
  rw [show 20 + D.size - 20 = D.size from by omega, ByteArray.extract_zero_size, ← hU] at hr
  have hx := (w4_ext (20 + D.size) o i n t p 0 A B D e1 e2 0).2.2.1
  have hTz : (h4W (20 + D.size) o i n t p 0 A B ++ D).size = 20 + D.size := by rw [ByteArray.size_append, h4W_size _ _ _ _ _ _ _ _ _ e1 e2]
  have hWz := h4W_size (20 + D.size) o i n t p 0 A B e1 e2
  have hbd := ofV_bd (h4W (20 + D.size) o i n t p 0 A B)
  clear hl hU
  generalize mk4 A B p t i o D = L at *
  generalize h4W (20 + D.size) o i n t p 0 A B ++ D = T at *
  generalize h4W (20 + D.size) o i n t p 0 A B = W0 at *
  have HR := Lib.hid hr
  clear hr
  have t0 : IntKind.u64.wrap (n : Int) = n := by rw [IntKind.wrap_u64]; omega
  have t00 : IntKind.u64.wrap (ofV W0) = ofV W0 := by rw [IntKind.wrap_u64]; omega
  have a1 : (6 : Int) ≤ 20 + D.size := by omega
  have a2 : (10 : Int) ≤ 20 + D.size := by omega
  have a3 : (12 : Int) ≤ 20 + D.size := by omega
  have a4 : (20 : Int) ≤ 20 + D.size := by omega
  have a5 : 10 ≤ 20 + D.size := by omega
  have z1 : (L.extract 0 6).size = 6 := ext_sz L 0 6 (by omega)
  have z2 : (L.extract 8 10).size = 2 := ext_sz L 8 10 (by omega)
  have z3 : (L.extract 12 (20 + D.size)).size = 8 + D.size := by rw [ext_sz L 12 (20 + D.size) (by omega)]; omega
  have z4 : (⟨#[0, 0]⟩ : ByteArray).size = 2 := rfl
  have z5 : ∀ x, (putS 2 x).size = 2 := putS_size 2
  have z6 : (T.extract 0 10).size = 10 := ext_sz T 0 10 (by omega)
  have z7 : (T.extract 12 (20 + D.size)).size = 8 + D.size := by rw [ext_sz T 12 (20 + D.size) (by omega)]; omega
  have c1 : ¬ 9223372036854775807 < 6 + 2 := by omega
  have c2 : ¬ 9223372036854775807 < 6 + 2 + 2 := by omega
  have c3 : ¬ 9223372036854775807 < 6 + 2 + 2 + 2 := by omega
  have c4 : ¬ 9223372036854775807 < 6 + 2 + 2 + 2 + (8 + D.size) := by omega
  have c5 : ¬ 9223372036854775807 < 10 + 2 := by omega
  have c6 : ¬ 9223372036854775807 < 10 + 2 + (8 + D.size) := by omega
  have q1 := and_16383u n hn
  have q2 : ((n : Int) % 16384 != 0) = decide (n % 16384 ≠ 0) := by rw [Bool.eq_iff_iff]; simp; omega
  have hB := below_alloc (Below.refl w.heap.size w) (.cells #[.string A, .string B, .int .i64 p, .int .i64 t, .int .i64 i, .int .i64 o, .bool false, .string D] 26)
  have hK := Lib.hid (blk_new w (.cells #[.string A, .string B, .int .i64 p, .int .i64 t, .int .i64 i, .int .i64 o, .bool false, .string D] 26))
  go_enter Try.func7, Try.ntmps7
  go_wp2_with (go_at_call 12; with_reducible refine (HM.out _).mono ?_; rintro e w1 ⟨rfl, hb1⟩; replace hB := below_on hb1 hB; replace hK := Lib.hid (blk_below hb1 hK.out))
  clear hb1
  have hb0 := Below.refl w1.heap.size w1
  go_region_held3 (fun w' => Below w1.heap.size w1 w')
    (first | assumption | exact Below.drew (by assumption) | (apply below_on <;> assumption))
    (first | (go_at_call 16; refine (refPut_i _ _ _ (by decide) (by decide) (by omega) (by omega)).mono ?_; rintro e w2 ⟨rfl, hb2⟩))
  obtain hb2 : Below w1.heap.size w1 w2 := by assumption
  replace hB := below_on hb2 hB
  replace hK := Lib.hid (blk_below hb2 hK.out)
  clear hb2 hT
  go_wp2_with fail
  have hb3 := Below.refl w2.heap.size w2
  go_region_held3 (fun w' => Below w2.heap.size w2 w')
    (first | assumption | exact Below.drew (by assumption) | (apply below_on <;> assumption))
    (first
      | (go_at_call 17; with_reducible refine (refOf_any W0 _ (by omega)).mono ?_; rintro e w3 ⟨rfl, rfl⟩)
      | (go_at_call 16; refine (refPut_i _ _ _ (by decide) (by decide) (by omega) (by omega)).mono ?_; rintro e w3 ⟨rfl, hb4⟩))
  obtain hb5 : Below w2.heap.size w2 w3 := by assumption
  replace hB := below_on hb5 hB
  replace hK := Lib.hid (blk_below hb5 hK.out)
  go_wp2_with fail
  with_reducible refine (read4_any _ _ (by rw [ByteArray.size_append, ByteArray.size_append, z5, z6, z7]; omega) _ _ _ _ _ _ _ _ _ HR.out).mono ?_
  rintro e w6 ⟨rfl, hb6⟩
  replace hB := below_on hb6 hB
  replace hK := Lib.hid (blk_below hb6 hK.out)
  clear hb6 hb5 hb3
  obtain ⟨lk, k0, k1, k2, k3, k4, k5, k6, k7⟩ := blk8 hK.out
  go_wp2_with (go_at_call 8; refine (ipvKnown_any _).mono ?_; rintro e w9 ⟨rfl, hb9⟩; replace hB := below_on hb9 (by first | exact hB | exact below_alloc hB _))
  go_ret
  exact ⟨rfl, hB⟩

theorem ipvParts_walk (A B : ByteArray) (p t i o : Int) (f : Bool) (D : ByteArray) (n : Int) (w : World) (wA : A.size ≤ maxLen) (wB : B.size ≤ maxLen) (wp : (Lit.int .i64 p).wf = true) (wt : (Lit.int .i64 t).wf = true) (wi : (Lit.int .i64 i).wf = true) (wo : (Lit.int .i64 o).wf = true) (wD : D.size ≤ maxLen) (wn : (Lit.int .u16 n).wf = true) :
    Calls Try.prog 7 #[.agg #[.string A, .string B, .int .i64 p, .int .i64 t, .int .i64 i, .int .i64 o, .bool f, .string D], .int .u16 n] w fun e w' => e = .returned (.bool true) ∧ Below w.heap.size w w' := by
  unfold maxLen at wA wB wD
  by_cases hc : 500 < D.size ∨ 100 < A.size ∨ 100 < B.size
  · exact ipvParts_big A B p t i o f D n w wA wB wD hc
  have h1 : ¬ 500 < D.size := by omega
  have h2 : ¬ 100 < A.size := by omega
  have h3 : ¬ 100 < B.size := by omega
  cases hfit : fits4 A B p t i o f D
  · exact ipvParts_no A B p t i o f D n w h1 h2 h3 hfit
  · obtain ⟨e1, e2, e3, e4, e5, e6, e7, e8, e9, e10, e11, e12⟩ := fits4_out hfit
    subst e11
    have h5 := wf_u16 wn
    obtain ⟨p, rfl⟩ := Int.eq_ofNat_of_zero_le e3
    obtain ⟨t, rfl⟩ := Int.eq_ofNat_of_zero_le e5
    obtain ⟨o, rfl⟩ := Int.eq_ofNat_of_zero_le e7
    obtain ⟨i, rfl⟩ := Int.eq_ofNat_of_zero_le e9
    obtain ⟨n, rfl⟩ := Int.eq_ofNat_of_zero_le h5.1
    exact ipvParts_yes A B p t i o D n w h1 h2 h3 (by omega) hfit

end Go.Proofs.Ythapajhaehdleaa
