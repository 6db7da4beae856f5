/- The contracts of the reference's Get and Bits: a number in bytes, some bits of a number. -/
import Derived.Test.YtpalmjejihakeaaCell
import Derived.Lib.Hide
namespace Go.Proofs.Ytpalmjejihakeaa
open Go.RowKit

theorem mul256_add (n b : Nat) (hn : n < 72057594037927936) (hb : b < 256) :
    IntKind.u64.wrap (IntKind.u64.wrap (256 * (n : Int)) + (b : Int)) = ((n * 256 + b : Nat) : Int) := by
  simp only [IntKind.wrap_u64]; omega

set_option maxHeartbeats 400000 in
theorem refGet_yes (s : ByteArray) (a k : Nat) (w : World) (hs : s.size ≤ 9223372036854775807) (h1 : 1 ≤ k) (h2 : k ≤ 8) (h4 : a + k ≤ s.size) :
    Calls Try.prog 20 #[.string s, .int .i64 a, .int .i64 k] w fun e w' => e = .returned (.tuple #[.int .u64 (beAt s a k), .bool true]) ∧ w = w' := by
  have d1 : decide ((k : Int) < 1) = false := by simp; omega
  have d2 : decide (8 < (k : Int)) = false := by simp; omega
  have d3 : decide ((a : Int) < 0) = false := by simp
  have d4 : decide (s.size < a) = false := by simp; omega
  have d5 : decide ((s.size : Int) - a < k) = false := by simp; omega
  go_enter Try.func20, Try.ntmps20
  go_wp2
  go_loop [8, 9] (fun n i => ∃ j : Nat, j ≤ k ∧ i = .int .i64 j ∧ n = .int .u64 (be ((s.data.toList.drop a).take j))) (fun _ i => k - (intOf i).toNat)
  case atStart => exact ⟨0, Nat.zero_le _, rfl, rfl⟩
  case round =>
    obtain ⟨j, hj, rfl, rfl⟩ := hrel
    by_cases hlt : j < k
    · have hb := s[a + j].toNat_lt
      have e := mul256_add (be ((s.data.toList.drop a).take j)) s[a + j].toNat (be_small _ (by simp; omega)) hb
      go_wp2
      go_round
      case rel => exact ⟨j + 1, by omega, by go_num, by rw [drop_take_snoc s a j (by omega), be_snoc]; go_num⟩
      case measure => simp [intOf]; omega
    · go_wp2
      obtain rfl : j = k := by omega
      go_ret2
      exact ⟨rfl, rfl⟩

/-- z bits of a number, behind the lowest f. -/
def bitsN (n f z : Nat) : Nat := n / 2 ^ f % 2 ^ z

set_option maxHeartbeats 400000 in
theorem refBits_any (n f z : Nat) (w : World) (hn : n < 18446744073709551616) (h1 : 1 ≤ z) (h2 : f + z ≤ 63) :
    Calls Try.prog 24 #[.int .u64 n, .int .i64 f, .int .i64 z] w fun e w' => e = .returned (.int .u64 (bitsN n f z)) ∧ w = w' := by
  have d1 : decide ((f : Int) < 0) = false := by simp
  have d2 : decide ((z : Int) < 1) = false := by simp; omega
  have d3 : decide (64 < (f : Int)) = false := by simp; omega
  have d4 : decide (64 < (z : Int)) = false := by simp; omega
  have d5 : decide (64 < (f : Int) + z) = false := by simp; omega
  go_enter Try.func24, Try.ntmps24
  go_wp2
  go_loop [0, 7] (fun m i => ∃ j q : Nat, j ≤ f ∧ q ≤ n ∧ i = .int .i64 j ∧ m = .int .u64 q ∧ q = n / 2 ^ j) (fun _ i => f - (intOf i).toNat)
  case atStart => exact ⟨0, n, Nat.zero_le _, Nat.le_refl _, rfl, rfl, by simp⟩
  case round =>
    obtain ⟨j, q, hj, hq, rfl, rfl, hv⟩ := hrel
    have HV := Lib.hid hv
    clear hv
    by_cases hlt : j < f
    · go_wp2
      go_round
      case rel => exact ⟨j + 1, q / 2, by omega, by omega, by go_num, by go_num, by rw [HV.out, Nat.div_div_eq_div_mul, Nat.pow_succ]⟩
      case measure => simp [intOf]; omega
    · obtain rfl : j = f := by omega
      go_wp2
      go_loop [0, 8, 9, 10] (fun m o u i => ∃ k x y p : Nat, k ≤ z ∧ x ≤ q ∧ i = .int .i64 k ∧ m = .int .u64 x ∧ o = .int .u64 y ∧ u = .int .u64 p ∧ p ≤ 9223372036854775808 ∧ y < p ∧ p = 2 ^ k ∧ x = q / 2 ^ k ∧ y = q % 2 ^ k) (fun _ _ _ i => z - (intOf i).toNat)
      case atStart => exact ⟨0, q, 0, 1, Nat.zero_le _, Nat.le_refl _, rfl, rfl, rfl, rfl, by omega, by omega, by simp, by simp, by simp; omega⟩
      case round =>
        obtain ⟨k, x, y, p, hk, hx, rfl, rfl, rfl, rfl, hp1, hy1, hp, hx2, hy⟩ := hrel
        have HP := Lib.hid hp
        have HX := Lib.hid hx2
        have HY := Lib.hid hy
        clear hp hx2 hy
        by_cases hlt2 : k < z
        · have hp2 : p ≤ 4611686018427387904 := by
            rw [HP.out]; exact Nat.pow_le_pow_right (by decide) (show k ≤ 62 by omega)
          have hm := Nat.mod_two_eq_zero_or_one x
          rcases hm with hm | hm
          · have hmi : (x : Int) % 2 = 0 := by omega
            have HM := Lib.hid hm
            clear hm
            go_wp2
            go_round
            case rel => exact ⟨k + 1, x / 2, y, 2 * p, by omega, by omega, by go_num, by go_num, rfl, by go_num, by omega, by omega, by rw [HP.out, Nat.pow_succ, Nat.mul_comm], by rw [HX.out, Nat.div_div_eq_div_mul, Nat.pow_succ], by rw [HY.out]; have := HM.out; rw [HX.out] at this; rw [Nat.mod_pow_succ, this]; simp⟩
            case measure => simp [intOf]; omega
          · have hmi : (x : Int) % 2 = 1 := by omega
            have HM := Lib.hid hm
            clear hm
            go_wp2
            go_round
            case rel => exact ⟨k + 1, x / 2, y + p, 2 * p, by omega, by omega, by go_num, by go_num, by go_num, by go_num, by omega, by omega, by rw [HP.out, Nat.pow_succ, Nat.mul_comm], by rw [HX.out, Nat.div_div_eq_div_mul, Nat.pow_succ], by rw [HY.out, HP.out]; have := HM.out; rw [HX.out] at this; rw [Nat.mod_pow_succ, this]; simp⟩
            case measure => simp [intOf]; omega
        · obtain rfl : k = z := by omega
          go_wp2
          go_ret
          exact ⟨ret_int (by rw [HY.out, HV.out]; rfl), rfl⟩

theorem refBits_i (n : Nat) (f z : Int) (w : World) (hn : n < 18446744073709551616) (h0 : 0 ≤ f) (h1 : 1 ≤ z) (h2 : f + z ≤ 63) :
    Calls Try.prog 24 #[.int .u64 n, .int .i64 f, .int .i64 z] w fun e w' => e = .returned (.int .u64 (bitsN n f.toNat z.toNat)) ∧ w = w' := by
  obtain ⟨f', rfl⟩ := Int.eq_ofNat_of_zero_le h0
  obtain ⟨z', rfl⟩ := Int.eq_ofNat_of_zero_le (show 0 ≤ z by omega)
  exact refBits_any n f' z' w hn (by omega) (by omega)

end Go.Proofs.Ytpalmjejihakeaa
