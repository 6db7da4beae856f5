/- The contracts of the reference's Get and Bits: a number in bytes, some bits of a number. -/
import Derived.Test.YthapajhaehdleaaCell
import Derived.Lib.Hide
namespace Go.Proofs.Ythapajhaehdleaa
open Go.RowKit

theorem mul256_add (n b : Nat) (hn : n < 72057594037927936) (hb : b < 256) :
    IntKind.u64.wrap (IntKind.u64.wrap (256 * (n : Int)) + (b : Int)) = ((n * 256 + b : Nat) : Int) := by
  simp only [IntKind.wrap_u64]; omega

set_option maxHeartbeats 400000 in
theorem refGet_yes (s : ByteArray) (a k : Nat) (w : World) (hs : s.size ≤ 9223372036854775807) (h1 : 1 ≤ k) (h2 : k ≤ 8) (h4 : a + k ≤ s.size) :
    Calls Try.prog 31 #[.string s, .int .i64 a, .int .i64 k] w fun e w' => e = .returned (.tuple #[.int .u64 (beAt s a k), .bool true]) ∧ w = w' := by
  have d1 : decide ((k : Int) < 1) = false := by simp; omega
  have d2 : decide (8 < (k : Int)) = false := by simp; omega
  have d3 : decide ((a : Int) < 0) = false := by simp
  have d4 : decide (s.size < a) = false := by simp; omega
  have d5 : decide ((s.size : Int) - a < k) = false := by simp; omega
  go_enter Try.func31, Try.ntmps31
  go_wp2
  go_loop [8, 9] (fun n i => ∃ j : Nat, j ≤ k ∧ i = .int .i64 j ∧ n = .int .u64 (be ((s.data.toList.drop a).take j))) (fun _ i => k - (intOf i).toNat)
  case atStart => exact ⟨0, Nat.zero_le _, rfl, rfl⟩
  case round =>
    obtain ⟨j, hj, rfl, rfl⟩ := hrel
    by_cases hlt : j < k
    · have hb := s[a + j].toNat_lt
      have e := mul256_add (be ((s.data.toList.drop a).take j)) s[a + j].toNat (be_small _ (by simp; omega)) hb
      go_wp2
      go_round
      case rel => exact ⟨j + 1, by omega, by go_num, by rw [drop_take_snoc s a j (by omega), be_snoc]; go_num⟩
      case measure => simp [intOf]; omega
    · go_wp2
      obtain rfl : j = k := by omega
      go_ret2
      exact ⟨rfl, rfl⟩

/-- z bits of a number, behind the lowest f. -/
def bitsN (n f z : Nat) : Nat := n / 2 ^ f % 2 ^ z

end Go.Proofs.Ythapajhaehdleaa
