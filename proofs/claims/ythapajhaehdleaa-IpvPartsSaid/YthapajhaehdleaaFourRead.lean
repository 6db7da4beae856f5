/- The contracts of ipv4's Read and of the reference's. -/
import Derived.Test.YthapajhaehdleaaFour
namespace Go.Proofs.Ythapajhaehdleaa
open Go.RowKit

theorem lnV_ok {s : ByteArray} {a b : Int} (h : lnV s = (a, b, 0)) : ¬ 4000 < s.size ∧ ¬ s.size < 20 ∧ beAt s 0 1 / 16 = 4 ∧ ¬ (beAt s 0 1 % 16 < 5 ∨ beAt s 2 2 < 4 * (beAt s 0 1 % 16)) ∧ ¬ s.size < beAt s 2 2 ∧ ofV (s.extract 0 (4 * (beAt s 0 1 % 16))) = 0 ∧ a = ((4 * (beAt s 0 1 % 16) : Nat) : Int) ∧ b = ((beAt s 2 2 : Nat) : Int) := by
  unfold lnV at h
  by_cases h1 : 4000 < s.size
  · rw [if_pos h1] at h; cases h
  by_cases h2 : s.size < 20
  · rw [if_neg h1, if_pos h2] at h; cases h
  by_cases h3 : beAt s 0 1 / 16 ≠ 4
  · rw [if_neg h1, if_neg h2, if_pos h3] at h; cases h
  by_cases h4 : beAt s 0 1 % 16 < 5 ∨ beAt s 2 2 < 4 * (beAt s 0 1 % 16)
  · rw [if_neg h1, if_neg h2, if_neg h3, if_pos h4] at h; cases h
  by_cases h5 : s.size < beAt s 2 2
  · rw [if_neg h1, if_neg h2, if_neg h3, if_neg h4, if_pos h5] at h; cases h
  by_cases h6 : ofV (s.extract 0 (4 * (beAt s 0 1 % 16))) ≠ 0
  · rw [if_neg h1, if_neg h2, if_neg h3, if_neg h4, if_neg h5, if_pos h6] at h; cases h
  · rw [if_neg h1, if_neg h2, if_neg h3, if_neg h4, if_neg h5, if_neg h6] at h; cases h
    exact ⟨h1, h2, by omega, h4, h5, by omega, rfl, rfl⟩

set_option maxHeartbeats 1000000 in
theorem read4_bad (s : ByteArray) (w : World) (hs : s.size ≤ 140737488351232) (a b q : Int) (hr : lnV s = (a, b, q)) (hq : q ≠ 0) :
    Calls Try.prog 9 #[.string s] w fun e w' => e = .returned (.tuple #[.agg #[.string ⟨#[]⟩, .string ⟨#[]⟩, .int .i64 0, .int .i64 0, .int .i64 0, .int .i64 0, .bool false, .string ⟨#[]⟩], .int .i64 q]) ∧ Below w.heap.size w w' := by
  have hB := below_alloc (Below.refl w.heap.size w) (.cells #[.string ⟨#[]⟩, .string ⟨#[]⟩, .int .i64 0, .int .i64 0, .int .i64 0, .int .i64 0, .bool false, .string ⟨#[]⟩] 26)
  have hK := Lib.hid (blk_new w (.cells #[.string ⟨#[]⟩, .string ⟨#[]⟩, .int .i64 0, .int .i64 0, .int .i64 0, .int .i64 0, .bool false, .string ⟨#[]⟩] 26))
  have HR := Lib.hid hr
  clear hr
  go_enter Try.func9, Try.ntmps9
  go_wp2_with (go_at_call 19; refine (lengths_any s _ hs _ _ _ HR.out).mono ?_; rintro e w1 ⟨rfl, hb1⟩; replace hB := below_on hb1 hB; replace hK := Lib.hid (blk_below hb1 hK.out); obtain ⟨lk, k0, k1, k2, k3, k4, k5, k6, k7⟩ := blk8 hK.out; obtain ⟨f0, f1, f2, f3, f4, f5, f6, f7⟩ := blk_free8 hK.out)
  refine bodyPost_ret (v := .tuple #[.agg #[.string ⟨#[]⟩, .string ⟨#[]⟩, .int .i64 0, .int .i64 0, .int .i64 0, .int .i64 0, .bool false, .string ⟨#[]⟩], .int .i64 q]) (by simp [results, Try.results9, go_sem, k0, k1, k2, k3, k4, k5, k6, k7, f0, f1, f2, f3, f4, f5, f6, f7]) rfl ⟨rfl, ?_⟩
  iterate 8 (apply below_set)
  exact hB

set_option maxHeartbeats 1000000 in
theorem read4_good (s : ByteArray) (w : World) (hs : s.size ≤ 140737488351232) (a b : Nat) (hr : lnV s = ((a : Int), (b : Int), 0)) (h1 : 20 ≤ a) (h2 : a ≤ b) (h3 : b ≤ s.size) :
    Calls Try.prog 9 #[.string s] w fun e w' => e = .returned (.tuple #[.agg #[.string (s.extract 12 16), .string (s.extract 16 20), .int .i64 (beAt s 9 1), .int .i64 (beAt s 8 1), .int .i64 (beAt s 4 2), .int .i64 (beAt s 1 1), .bool (decide (beAt s 6 2 % 16384 ≠ 0)), .string (s.extract a b)], .int .i64 0]) ∧ Below w.heap.size w w' := by
  have hB := below_alloc (Below.refl w.heap.size w) (.cells #[.string ⟨#[]⟩, .string ⟨#[]⟩, .int .i64 0, .int .i64 0, .int .i64 0, .int .i64 0, .bool false, .string ⟨#[]⟩] 26)
  have hK := Lib.hid (blk_new w (.cells #[.string ⟨#[]⟩, .string ⟨#[]⟩, .int .i64 0, .int .i64 0, .int .i64 0, .int .i64 0, .bool false, .string ⟨#[]⟩] 26))
  have HR := Lib.hid hr
  clear hr
  have d1 : (16 : Int) ≤ s.size := by omega
  have d2 : (20 : Int) ≤ s.size := by omega
  have d3 : (a : Int) ≤ b := by omega
  have d4 : (b : Int) ≤ s.size := by omega
  have d5 := and_16383 (beAt s 6 2 : Int)
  have d6 : 16 ≤ s.size := by omega
  have d7 : 20 ≤ s.size := by omega
  have d8 : ((beAt s 6 2 : Int) % 16384 != 0) = decide (beAt s 6 2 % 16384 ≠ 0) := by rw [Bool.eq_iff_iff]; simp; omega
  have d9 : ¬ 9223372036854775807 < s.size := by omega
  go_enter Try.func9, Try.ntmps9
  go_wp2_with (go_at_call 19; refine (lengths_any s _ hs _ _ _ HR.out).mono ?_; rintro e w1 ⟨rfl, hb1⟩; replace hB := below_on hb1 hB; replace hK := Lib.hid (blk_below hb1 hK.out); obtain ⟨lk, k0, k1, k2, k3, k4, k5, k6, k7⟩ := blk8 hK.out; obtain ⟨f0, f1, f2, f3, f4, f5, f6, f7⟩ := blk_free8 hK.out)
  go_region_held3 (fun _ => True) (trivial) (first | (go_at_call 20; refine (num_i s _ _ _ (by omega) (by omega) (by omega) (by omega) (by omega)).mono ?_; rintro e w2 ⟨rfl, rfl⟩))
  go_wp2
  refine bodyPost_ret (v := .tuple #[.agg #[.string (s.extract 12 16), .string (s.extract 16 20), .int .i64 (beAt s 9 1), .int .i64 (beAt s 8 1), .int .i64 (beAt s 4 2), .int .i64 (beAt s 1 1), .bool (decide (beAt s 6 2 % 16384 ≠ 0)), .string (s.extract a b)], .int .i64 0]) (by simp [results, Try.results9, go_sem, k0, k1, k2, k3, k4, k5, k6, k7, f0, f1, f2, f3, f4, f5, f6, f7]) rfl ⟨rfl, ?_⟩
  refine Below.drew ?_
  iterate 8 (apply below_set)
  exact hB

theorem read4_any (s : ByteArray) (w : World) (hs : s.size ≤ 140737488351232) (A B : ByteArray) (p t i o : Int) (f : Bool) (D : ByteArray) (q : Int) (hr : rd4 s = ((A, B, p, t, i, o, f, D), q)) :
    Calls Try.prog 9 #[.string s] w fun e w' => e = .returned (.tuple #[.agg #[.string A, .string B, .int .i64 p, .int .i64 t, .int .i64 i, .int .i64 o, .bool f, .string D], .int .i64 q]) ∧ Below w.heap.size w w' := by
  unfold rd4 at hr
  rcases hl : lnV s with ⟨a, b, c⟩
  rw [hl] at hr
  by_cases h1 : c ≠ 0
  · rw [if_pos h1] at hr; cases hr; exact read4_bad s w hs a b _ hl h1
  · obtain rfl : c = 0 := by omega
    rw [if_neg h1] at hr; cases hr
    obtain ⟨h1, h2, h3, h4, h5, h6, rfl, rfl⟩ := lnV_ok hl
    exact read4_good s w hs (4 * (beAt s 0 1 % 16)) (beAt s 2 2) hl (by omega) (by omega) (by omega)

set_option maxHeartbeats 1000000 in
theorem refread4_big (s : ByteArray) (w : World) (hs : s.size ≤ 140737488351232) (h1 : 4000 < s.size) :
    Calls Try.prog 10 #[.string s] w fun e w' => e = .returned (.tuple #[.agg #[.string ⟨#[]⟩, .string ⟨#[]⟩, .int .i64 0, .int .i64 0, .int .i64 0, .int .i64 0, .bool false, .string ⟨#[]⟩], .int .i64 2]) ∧ Below w.heap.size w w' := by
  have hB := Below.refl w.heap.size w
  go_enter Try.func10, Try.ntmps10
  go_wp2
  all_goals
   refine bodyPost_ret (v := .tuple #[.agg #[.string ⟨#[]⟩, .string ⟨#[]⟩, .int .i64 0, .int .i64 0, .int .i64 0, .int .i64 0, .bool false, .string ⟨#[]⟩], .int .i64 2]) (by simp [results, Try.results10, go_sem]) rfl ⟨rfl, hB.alloc (Nat.le_refl _) _⟩
set_option maxHeartbeats 1000000 in
theorem refread4_short (s : ByteArray) (w : World) (h1 : s.size < 20) :
    Calls Try.prog 10 #[.string s] w fun e w' => e = .returned (.tuple #[.agg #[.string ⟨#[]⟩, .string ⟨#[]⟩, .int .i64 0, .int .i64 0, .int .i64 0, .int .i64 0, .bool false, .string ⟨#[]⟩], .int .i64 3]) ∧ Below w.heap.size w w' := by
  have hB := Below.refl w.heap.size w
  go_enter Try.func10, Try.ntmps10
  go_wp2
  all_goals
   refine bodyPost_ret (v := .tuple #[.agg #[.string ⟨#[]⟩, .string ⟨#[]⟩, .int .i64 0, .int .i64 0, .int .i64 0, .int .i64 0, .bool false, .string ⟨#[]⟩], .int .i64 3]) (by simp [results, Try.results10, go_sem]) rfl ⟨rfl, hB.alloc (Nat.le_refl _) _⟩
set_option maxHeartbeats 1000000 in
theorem refread4_kind (s : ByteArray) (w : World) (h1 : ¬ 4000 < s.size) (h2 : ¬ s.size < 20) (h3 : beAt s 0 1 / 16 ≠ 4) :
    Calls Try.prog 10 #[.string s] w fun e w' => e = .returned (.tuple #[.agg #[.string ⟨#[]⟩, .string ⟨#[]⟩, .int .i64 0, .int .i64 0, .int .i64 0, .int .i64 0, .bool false, .string ⟨#[]⟩], .int .i64 5]) ∧ Below w.heap.size w w' := by
  have l0 := beAt_lt1 s 0
  have m1 : (beAt s 0 1 : Int).tdiv 16 = (beAt s 0 1 : Int) / 16 := Int.tdiv_eq_ediv_of_nonneg (by omega)
  have h3b : (beAt s 0 1 : Int) / 16 ≠ 4 := by omega
  have hB := Below.refl w.heap.size w
  go_enter Try.func10, Try.ntmps10
  go_wp2_with (first
    | (go_at_call 21; with_reducible refine (refAt_i s _ _ _ (by omega) (by omega) (by omega) (by omega) (by omega)).mono ?_; rintro e w2 ⟨rfl, rfl⟩)
    | (go_at_call 22; with_reducible refine (refRight_any (s.extract 0 (4 * (beAt s 0 1 % 16))) _ (by rw [ByteArray.size_extract]; omega)).mono ?_; rw [h12]; rintro e w2 ⟨rfl, rfl⟩))
  all_goals
   refine bodyPost_ret (v := .tuple #[.agg #[.string ⟨#[]⟩, .string ⟨#[]⟩, .int .i64 0, .int .i64 0, .int .i64 0, .int .i64 0, .bool false, .string ⟨#[]⟩], .int .i64 5]) (by simp [results, Try.results10, go_sem]) rfl ⟨rfl, hB.alloc (Nat.le_refl _) _⟩
set_option maxHeartbeats 1000000 in
theorem refread4_form (s : ByteArray) (w : World) (h1 : ¬ 4000 < s.size) (h2 : ¬ s.size < 20) (h3 : beAt s 0 1 / 16 = 4) (h4 : beAt s 0 1 % 16 < 5 ∨ beAt s 2 2 < 4 * (beAt s 0 1 % 16)) :
    Calls Try.prog 10 #[.string s] w fun e w' => e = .returned (.tuple #[.agg #[.string ⟨#[]⟩, .string ⟨#[]⟩, .int .i64 0, .int .i64 0, .int .i64 0, .int .i64 0, .bool false, .string ⟨#[]⟩], .int .i64 4]) ∧ Below w.heap.size w w' := by
  have l0 := beAt_lt1 s 0
  have m1 : (beAt s 0 1 : Int).tdiv 16 = (beAt s 0 1 : Int) / 16 := Int.tdiv_eq_ediv_of_nonneg (by omega)
  have h3b : (beAt s 0 1 : Int) / 16 = 4 := by omega
  have l2 := beAt_lt2 s 2
  have m2 : (beAt s 0 1 : Int).tmod 16 = (beAt s 0 1 : Int) % 16 := Int.tmod_eq_emod_of_nonneg (by omega)
  have r2 : IntKind.i64.wrap (4 * ((beAt s 0 1 : Int) % 16)) = 4 * ((beAt s 0 1 : Int) % 16) := IntWalk.i64_in _ (by omega)
  clear h3
  have hB := Below.refl w.heap.size w
  go_enter Try.func10, Try.ntmps10
  go_wp2_with (first
    | (go_at_call 21; with_reducible refine (refAt_i s _ _ _ (by omega) (by omega) (by omega) (by omega) (by omega)).mono ?_; rintro e w2 ⟨rfl, rfl⟩)
    | (go_at_call 22; with_reducible refine (refRight_any (s.extract 0 (4 * (beAt s 0 1 % 16))) _ (by rw [ByteArray.size_extract]; omega)).mono ?_; rw [h12]; rintro e w2 ⟨rfl, rfl⟩))
  all_goals
   refine bodyPost_ret (v := .tuple #[.agg #[.string ⟨#[]⟩, .string ⟨#[]⟩, .int .i64 0, .int .i64 0, .int .i64 0, .int .i64 0, .bool false, .string ⟨#[]⟩], .int .i64 4]) (by simp [results, Try.results10, go_sem]) rfl ⟨rfl, hB.alloc (Nat.le_refl _) _⟩
set_option maxHeartbeats 1000000 in
theorem refread4_less (s : ByteArray) (w : World) (h1 : ¬ 4000 < s.size) (h2 : ¬ s.size < 20) (h3 : beAt s 0 1 / 16 = 4) (h4 : ¬ (beAt s 0 1 % 16 < 5 ∨ beAt s 2 2 < 4 * (beAt s 0 1 % 16))) (h5' : s.size < beAt s 2 2) :
    Calls Try.prog 10 #[.string s] w fun e w' => e = .returned (.tuple #[.agg #[.string ⟨#[]⟩, .string ⟨#[]⟩, .int .i64 0, .int .i64 0, .int .i64 0, .int .i64 0, .bool false, .string ⟨#[]⟩], .int .i64 3]) ∧ Below w.heap.size w w' := by
  have l0 := beAt_lt1 s 0
  have m1 : (beAt s 0 1 : Int).tdiv 16 = (beAt s 0 1 : Int) / 16 := Int.tdiv_eq_ediv_of_nonneg (by omega)
  have h3b : (beAt s 0 1 : Int) / 16 = 4 := by omega
  have l2 := beAt_lt2 s 2
  have m2 : (beAt s 0 1 : Int).tmod 16 = (beAt s 0 1 : Int) % 16 := Int.tmod_eq_emod_of_nonneg (by omega)
  have r2 : IntKind.i64.wrap (4 * ((beAt s 0 1 : Int) % 16)) = 4 * ((beAt s 0 1 : Int) % 16) := IntWalk.i64_in _ (by omega)
  clear h3
  have h7 : (20 : Int) ≤ 4 * ((beAt s 0 1 : Int) % 16) := by omega
  have h8 : 4 * ((beAt s 0 1 : Int) % 16) ≤ (beAt s 2 2 : Int) := by omega
  have hB := Below.refl w.heap.size w
  go_enter Try.func10, Try.ntmps10
  go_wp2_with (first
    | (go_at_call 21; with_reducible refine (refAt_i s _ _ _ (by omega) (by omega) (by omega) (by omega) (by omega)).mono ?_; rintro e w2 ⟨rfl, rfl⟩)
    | (go_at_call 22; with_reducible refine (refRight_any (s.extract 0 (4 * (beAt s 0 1 % 16))) _ (by rw [ByteArray.size_extract]; omega)).mono ?_; rw [h12]; rintro e w2 ⟨rfl, rfl⟩))
  all_goals
   refine bodyPost_ret (v := .tuple #[.agg #[.string ⟨#[]⟩, .string ⟨#[]⟩, .int .i64 0, .int .i64 0, .int .i64 0, .int .i64 0, .bool false, .string ⟨#[]⟩], .int .i64 3]) (by simp [results, Try.results10, go_sem]) rfl ⟨rfl, hB.alloc (Nat.le_refl _) _⟩
set_option maxHeartbeats 1000000 in
theorem refread4_sum (s : ByteArray) (w : World) (h1 : ¬ 4000 < s.size) (h2 : ¬ s.size < 20) (h3 : beAt s 0 1 / 16 = 4) (h4 : ¬ (beAt s 0 1 % 16 < 5 ∨ beAt s 2 2 < 4 * (beAt s 0 1 % 16))) (h5' : ¬ s.size < beAt s 2 2) (h6' : ofV (s.extract 0 (4 * (beAt s 0 1 % 16))) ≠ 0) :
    Calls Try.prog 10 #[.string s] w fun e w' => e = .returned (.tuple #[.agg #[.string ⟨#[]⟩, .string ⟨#[]⟩, .int .i64 0, .int .i64 0, .int .i64 0, .int .i64 0, .bool false, .string ⟨#[]⟩], .int .i64 6]) ∧ Below w.heap.size w w' := by
  have l0 := beAt_lt1 s 0
  have m1 : (beAt s 0 1 : Int).tdiv 16 = (beAt s 0 1 : Int) / 16 := Int.tdiv_eq_ediv_of_nonneg (by omega)
  have h3b : (beAt s 0 1 : Int) / 16 = 4 := by omega
  have l2 := beAt_lt2 s 2
  have m2 : (beAt s 0 1 : Int).tmod 16 = (beAt s 0 1 : Int) % 16 := Int.tmod_eq_emod_of_nonneg (by omega)
  have r2 : IntKind.i64.wrap (4 * ((beAt s 0 1 : Int) % 16)) = 4 * ((beAt s 0 1 : Int) % 16) := IntWalk.i64_in _ (by omega)
  clear h3
  have h7 : (20 : Int) ≤ 4 * ((beAt s 0 1 : Int) % 16) := by omega
  have h8 : 4 * ((beAt s 0 1 : Int) % 16) ≤ (beAt s 2 2 : Int) := by omega
  have h9 : 4 * ((beAt s 0 1 : Int) % 16) ≤ (s.size : Int) := by omega
  have h10 : (0 : Int) ≤ 4 * ((beAt s 0 1 : Int) % 16) := by omega
  have h11 : (4 * ((beAt s 0 1 : Int) % 16)).toNat = 4 * (beAt s 0 1 % 16) := by omega
  have h12 : (ofV (s.extract 0 (4 * (beAt s 0 1 % 16))) == 0) = false := beq_eq_false_iff_ne.2 h6'
  clear h6'
  have hB := Below.refl w.heap.size w
  go_enter Try.func10, Try.ntmps10
  go_wp2_with (first
    | (go_at_call 21; with_reducible refine (refAt_i s _ _ _ (by omega) (by omega) (by omega) (by omega) (by omega)).mono ?_; rintro e w2 ⟨rfl, rfl⟩)
    | (go_at_call 22; with_reducible refine (refRight_any (s.extract 0 (4 * (beAt s 0 1 % 16))) _ (by rw [ByteArray.size_extract]; omega)).mono ?_; rw [h12]; rintro e w2 ⟨rfl, rfl⟩))
  all_goals
   refine bodyPost_ret (v := .tuple #[.agg #[.string ⟨#[]⟩, .string ⟨#[]⟩, .int .i64 0, .int .i64 0, .int .i64 0, .int .i64 0, .bool false, .string ⟨#[]⟩], .int .i64 6]) (by simp [results, Try.results10, go_sem]) rfl ⟨rfl, hB.alloc (Nat.le_refl _) _⟩

set_option maxHeartbeats 2000000 in
theorem refread4_good (s : ByteArray) (w : World) (h1 : ¬ 4000 < s.size) (h2 : ¬ s.size < 20) (h3 : beAt s 0 1 / 16 = 4) (h4 : ¬ (beAt s 0 1 % 16 < 5 ∨ beAt s 2 2 < 4 * (beAt s 0 1 % 16))) (h5' : ¬ s.size < beAt s 2 2) (h6' : ofV (s.extract 0 (4 * (beAt s 0 1 % 16))) = 0) :
    Calls Try.prog 10 #[.string s] w fun e w' => e = .returned (.tuple #[.agg #[.string (s.extract 12 16), .string (s.extract 16 20), .int .i64 (beAt s 9 1), .int .i64 (beAt s 8 1), .int .i64 (beAt s 4 2), .int .i64 (beAt s 1 1), .bool (decide (beAt s 6 2 % 16384 ≠ 0)), .string (s.extract (4 * (beAt s 0 1 % 16)) (beAt s 2 2))], .int .i64 0]) ∧ Below w.heap.size w w' := by
  have l0 := beAt_lt1 s 0
  have m1 : (beAt s 0 1 : Int).tdiv 16 = (beAt s 0 1 : Int) / 16 := Int.tdiv_eq_ediv_of_nonneg (by omega)
  have h3b : (beAt s 0 1 : Int) / 16 = 4 := by omega
  have l2 := beAt_lt2 s 2
  have m2 : (beAt s 0 1 : Int).tmod 16 = (beAt s 0 1 : Int) % 16 := Int.tmod_eq_emod_of_nonneg (by omega)
  have r2 : IntKind.i64.wrap (4 * ((beAt s 0 1 : Int) % 16)) = 4 * ((beAt s 0 1 : Int) % 16) := IntWalk.i64_in _ (by omega)
  clear h3
  have h7 : (20 : Int) ≤ 4 * ((beAt s 0 1 : Int) % 16) := by omega
  have h8 : 4 * ((beAt s 0 1 : Int) % 16) ≤ (beAt s 2 2 : Int) := by omega
  have h9 : 4 * ((beAt s 0 1 : Int) % 16) ≤ (s.size : Int) := by omega
  have h10 : (0 : Int) ≤ 4 * ((beAt s 0 1 : Int) % 16) := by omega
  have h11 : (4 * ((beAt s 0 1 : Int) % 16)).toNat = 4 * (beAt s 0 1 % 16) := by omega
  have h12 : (ofV (s.extract 0 (4 * (beAt s 0 1 % 16))) == 0) = true := beq_iff_eq.2 h6'
  clear h6'
  have d1 : (16 : Int) ≤ s.size := by omega
  have d2 : (20 : Int) ≤ s.size := by omega
  have d4 : (beAt s 2 2 : Int) ≤ s.size := by omega
  have d5 : (beAt s 6 2 : Int).tmod 16384 = (beAt s 6 2 : Int) % 16384 := Int.tmod_eq_emod_of_nonneg (by omega)
  have d6 : 16 ≤ s.size := by omega
  have d7 : 20 ≤ s.size := by omega
  have d8 : ((beAt s 6 2 : Int) % 16384 != 0) = decide (beAt s 6 2 % 16384 ≠ 0) := by rw [Bool.eq_iff_iff]; simp; omega
  have hB := Below.refl w.heap.size w
  go_enter Try.func10, Try.ntmps10
  go_wp2_with (first
    | (go_at_call 21; with_reducible refine (refAt_i s _ _ _ (by omega) (by omega) (by omega) (by omega) (by omega)).mono ?_; rintro e w2 ⟨rfl, rfl⟩)
    | (go_at_call 22; with_reducible refine (refRight_any (s.extract 0 (4 * (beAt s 0 1 % 16))) _ (by rw [ByteArray.size_extract]; omega)).mono ?_; rw [h12]; rintro e w2 ⟨rfl, rfl⟩))
  go_region_held3 (fun _ => True) (trivial) (first | (go_at_call 21; refine (refAt_i s _ _ _ (by omega) (by omega) (by omega) (by omega) (by omega)).mono ?_; rintro e w2 ⟨rfl, rfl⟩))
  go_wp2_with (go_at_call 21; with_reducible refine (refAt_i s _ _ _ (by omega) (by omega) (by omega) (by omega) (by omega)).mono ?_; rintro e w2 ⟨rfl, rfl⟩)
  all_goals
   refine bodyPost_ret (v := .tuple #[.agg #[.string (s.extract 12 16), .string (s.extract 16 20), .int .i64 (beAt s 9 1), .int .i64 (beAt s 8 1), .int .i64 (beAt s 4 2), .int .i64 (beAt s 1 1), .bool (decide (beAt s 6 2 % 16384 ≠ 0)), .string (s.extract (4 * (beAt s 0 1 % 16)) (beAt s 2 2))], .int .i64 0]) (by simp [results, Try.results10, go_sem]) rfl ⟨rfl, below_drew (below_alloc (below_alloc hB _) _)⟩

theorem refread4_any (s : ByteArray) (w : World) (hs : s.size ≤ 140737488351232) (A B : ByteArray) (p t i o : Int) (f : Bool) (D : ByteArray) (q : Int) (hr : rd4 s = ((A, B, p, t, i, o, f, D), q)) :
    Calls Try.prog 10 #[.string s] w fun e w' => e = .returned (.tuple #[.agg #[.string A, .string B, .int .i64 p, .int .i64 t, .int .i64 i, .int .i64 o, .bool f, .string D], .int .i64 q]) ∧ Below w.heap.size w w' := by
  unfold rd4 at hr
  rcases hl : lnV s with ⟨a, b, c⟩
  rw [hl] at hr
  by_cases h0 : c ≠ 0
  · rw [if_pos h0] at hr; cases hr
    unfold lnV at hl
    by_cases h1 : 4000 < s.size
    · rw [if_pos h1] at hl; cases hl; exact refread4_big s w hs h1
    by_cases h2 : s.size < 20
    · rw [if_neg h1, if_pos h2] at hl; cases hl; exact refread4_short s w h2
    by_cases h3 : beAt s 0 1 / 16 ≠ 4
    · rw [if_neg h1, if_neg h2, if_pos h3] at hl; cases hl; exact refread4_kind s w h1 h2 h3
    have h3' : beAt s 0 1 / 16 = 4 := by omega
    by_cases h4 : beAt s 0 1 % 16 < 5 ∨ beAt s 2 2 < 4 * (beAt s 0 1 % 16)
    · rw [if_neg h1, if_neg h2, if_neg h3, if_pos h4] at hl; cases hl; exact refread4_form s w h1 h2 h3' h4
    by_cases h5 : s.size < beAt s 2 2
    · rw [if_neg h1, if_neg h2, if_neg h3, if_neg h4, if_pos h5] at hl; cases hl; exact refread4_less s w h1 h2 h3' h4 h5
    by_cases h6 : ofV (s.extract 0 (4 * (beAt s 0 1 % 16))) ≠ 0
    · rw [if_neg h1, if_neg h2, if_neg h3, if_neg h4, if_neg h5, if_pos h6] at hl; cases hl; exact refread4_sum s w h1 h2 h3' h4 h5 h6
    · rw [if_neg h1, if_neg h2, if_neg h3, if_neg h4, if_neg h5, if_neg h6] at hl; cases hl; exact absurd rfl h0
  · obtain rfl : c = 0 := by omega
    rw [if_neg h0] at hr; cases hr
    obtain ⟨h1, h2, h3, h4, h5, h6, rfl, rfl⟩ := lnV_ok hl
    exact refread4_good s w h1 h2 h3 h4 h5 h6

end Go.Proofs.Ythapajhaehdleaa
