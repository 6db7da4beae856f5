/- The contracts of package cell's functions there and Get, and of the reference's Put. Conditions: sizes of at most eight bytes, as the code asks. -/
import Derived.Test.YtcghgleaembanaaRows
import Derived.WalkKit
import Derived.WalkSpells
import Derived.WalkLawsBesides
namespace Go.Proofs.Ytcghgleaembanaa
open Go.RowKit

theorem ret_bool {a b : Bool} (h : a = b) : Ending.returned (.bool a) = Ending.returned (.bool b) := by rw [h]
theorem ret_int {k : IntKind} {a b : Int} (h : a = b) : Ending.returned (.int k a) = Ending.returned (.int k b) := by rw [h]

/-- The number that bytes are, the first one the highest. -/
def be (l : List UInt8) : Nat := l.foldl (fun n b => n * 256 + b.toNat) 0
theorem be_snoc (l : List UInt8) (b : UInt8) : be (l ++ [b]) = be l * 256 + b.toNat := by
  unfold be; rw [List.foldl_append]; rfl
theorem be_acc (l : List UInt8) : ∀ n k : Nat, n < 256 ^ k → l.foldl (fun n b => n * 256 + b.toNat) n < 256 ^ (k + l.length) := by
  induction l with
  | nil => intro n k h; simpa using h
  | cons b l ih =>
    intro n k h
    have hb := b.toNat_lt
    have := ih (n * 256 + b.toNat) (k + 1) (by rw [Nat.pow_succ]; omega)
    rw [List.foldl_cons, List.length_cons, show k + (l.length + 1) = k + 1 + l.length from by omega]
    exact this
theorem be_lt (l : List UInt8) : be l < 256 ^ l.length := by
  have := be_acc l 0 0 (by decide)
  rw [Nat.zero_add] at this
  exact this

theorem drop_take_snoc (s : ByteArray) (a k : Nat) (h : a + k < s.size) : (s.data.toList.drop a).take (k + 1) = (s.data.toList.drop a).take k ++ [s[a + k]] := by
  rw [List.take_succ_eq_append_getElem (by simp; omega)]
  congr 2
  rw [List.getElem_drop]; rfl

theorem shl8_or (n b : Nat) (hn : n < 72057594037927936) (hb : b < 256) :
    bits .or .u64 (IntKind.u64.wrap ((n : Int) * 256)) (IntKind.u64.wrap (b : Int)) = ((n * 256 + b : Nat) : Int) := by
  have e1 : IntKind.u64.wrap ((n : Int) * 256) = ((n * 256 : Nat) : Int) := by simp only [IntKind.wrap_u64]; omega
  have e2 : IntKind.u64.wrap (b : Int) = ((b : Nat) : Int) := by simp only [IntKind.wrap_u64]; omega
  rw [e1, e2, u64_or_nat _ _ (by omega) (by omega)]
  congr 1
  rw [show n * 256 = n <<< 8 from by rw [Nat.shiftLeft_eq], Nat.shiftLeft_add_eq_or_of_lt (by simpa using hb)]

theorem be_small (l : List UInt8) (h : l.length ≤ 7) : be l < 72057594037927936 :=
  Nat.lt_of_lt_of_le (be_lt l) (by have := Nat.pow_le_pow_right (n := 256) (by decide) h; simpa using this)

set_option maxHeartbeats 400000 in
theorem there_yes (s : ByteArray) (at_ size : Int) (w : World) (hs : s.size ≤ 9223372036854775807) (h1 : 1 ≤ size) (h2 : size ≤ 8) (h3 : 0 ≤ at_) (h4 : at_ + size ≤ s.size) :
    Calls Try.prog 23 #[.string s, .int .i64 at_, .int .i64 size] w fun e w' => e = .returned (.bool true) ∧ w = w' := by
  go_enter Try.func23, Try.ntmps23
  go_wp2
  go_ret
  exact ⟨ret_bool (by simp; omega), rfl⟩

set_option maxHeartbeats 400000 in
theorem get_yes (s : ByteArray) (a k : Nat) (w : World) (hs : s.size ≤ 9223372036854775807) (h1 : 1 ≤ k) (h2 : k ≤ 8) (h4 : a + k ≤ s.size) :
    Calls Try.prog 22 #[.string s, .int .i64 a, .int .i64 k] w fun e w' => e = .returned (.tuple #[.int .u64 (be ((s.data.toList.drop a).take k)), .bool true]) ∧ w = w' := by
  go_enter Try.func22, Try.ntmps22
  go_wp2_with (go_at_call 23; refine (there_yes _ _ _ _ (by omega) (by omega) (by omega) (by omega) (by omega)).mono ?_; rintro e w' ⟨rfl, rfl⟩)
  go_loop [8, 16] (fun n i => ∃ j : Nat, j ≤ k ∧ i = .int .i64 j ∧ n = .int .u64 (be ((s.data.toList.drop a).take j))) (fun _ i => k - (intOf i).toNat)
  case atStart => exact ⟨0, Nat.zero_le _, rfl, rfl⟩
  case round =>
    obtain ⟨j, hj, rfl, rfl⟩ := hrel
    by_cases hlt : j < k
    · go_wp2
      go_round
      case rel =>
        have hb := s[a + j].toNat_lt
        exact ⟨j + 1, by omega, by go_num, by rw [shl8_or _ _ (be_small _ (by simp; omega)) hb, drop_take_snoc s a j (by omega), be_snoc]⟩
      case measure => simp [intOf]; omega
    · go_wp2
      obtain rfl : j = k := by omega
      go_ret2
      exact ⟨rfl, rfl⟩

end Go.Proofs.Ytcghgleaembanaa
