/- The contract of the reference's Put: a number as so many bytes. Condition: at most eight bytes. -/
import Derived.Test.YtkkifdmelajioaaCell
import Derived.Lib.Hide
namespace Go.Proofs.Ytkkifdmelajioaa
open Go.RowKit

/-- The last k bytes of a number, the highest one first. -/
def putL : Nat → Nat → List UInt8
  | 0, _ => []
  | k + 1, n => UInt8.ofNat (n / 256 ^ k % 256) :: putL k n
def putS (k n : Nat) : ByteArray := ⟨(putL k n).toArray⟩

/-- A literal's bytes as a string, behind the block that holds them. -/
theorem str_new (xs : List Int) (n c g : Nat) (w : World) (hn : xs.length = n) (hg : g = w.heap.size) :
    (convert 68 9 (.slice (some ⟨g, 0, none⟩) n c)).run Try.prog (w.alloc (.cells (xs.map (Value.int .u8)).toArray 5)) = .ok (.string (strOfNums xs)) (w.alloc (.cells (xs.map (Value.int .u8)).toArray 5)) := by
  subst hg
  refine run_convert_bytes_arg _ 68 5 Try.underlying68 Try.underlying5 _ _ _ _ xs hn (fun i hi => ?_) 9 Try.underlying9
  rw [World.cell?_alloc_at _ _ _ _ rfl]
  have hi' : i < xs.length := by omega
  simp [List.getD, hi']
theorem str_new1 (x : Int) (c : Nat) (w : World) :
    (convert 68 9 (.slice (some ⟨w.heap.size, 0, none⟩) 1 c)).run Try.prog (w.alloc (.cells #[.int .u8 x] 5)) = .ok (.string (strOfNums [x])) (w.alloc (.cells #[.int .u8 x] 5)) :=
  str_new [x] 1 c _ w rfl rfl

theorem str_new2 (x y : Int) (c : Nat) (w : World) :
    (convert 68 9 (.slice (some ⟨w.heap.size, 0, none⟩) 2 c)).run Try.prog (w.alloc (.cells #[.int .u8 x, .int .u8 y] 5)) = .ok (.string (strOfNums [x, y])) (w.alloc (.cells #[.int .u8 x, .int .u8 y] 5)) :=
  str_new [x, y] 2 c _ w rfl rfl
theorem str_new2_drew (x y : Int) (c : Nat) (w : World) :
    (convert 68 9 (.slice (some ⟨w.heap.size, 0, none⟩) 2 c)).run Try.prog (w.alloc (.cells #[.int .u8 x, .int .u8 y] 5)).drew = .ok (.string (strOfNums [x, y])) (w.alloc (.cells #[.int .u8 x, .int .u8 y] 5)).drew :=
  str_new [x, y] 2 c _ w.drew rfl rfl
/-- The same behind a call that leaves what was there. -/
theorem str_later2 {w w2 : World} {x y : Int} (hb : Below (w.alloc (.cells #[.int .u8 x, .int .u8 y] 5)).drew.heap.size (w.alloc (.cells #[.int .u8 x, .int .u8 y] 5)).drew w2) (c : Nat) :
    (convert 68 9 (.slice (some ⟨w.heap.size, 0, none⟩) 2 c)).run Try.prog w2 = .ok (.string (strOfNums [x, y])) w2 := by
  refine run_convert_bytes_arg _ 68 5 Try.underlying68 Try.underlying5 _ _ _ _ [x, y] rfl (fun i hi => ?_) 9 Try.underlying9
  have e := (bcell hb).1 w.heap.size i (by simp)
  rw [Nat.zero_add, e]
  show (w.alloc (.cells #[.int .u8 x, .int .u8 y] 5)).cell? ⟨w.heap.size, i, none⟩ = _
  rw [World.cell?_alloc_at _ _ _ _ rfl]
  match i, hi with
  | 0, _ => rfl
  | 1, _ => rfl
theorem putL_len (k n : Nat) : (putL k n).length = k := by
  induction k with
  | zero => rfl
  | succ k ih => simp [putL, ih]
theorem putS_size (k n : Nat) : (putS k n).size = k := by unfold putS; simp [ByteArray.size, putL_len]
theorem putS_succ (k n : Nat) (x : Int) (h : x.toNat = n / 256 ^ k % 256) : strOfNums [x] ++ putS k n = putS (k + 1) n := by
  unfold strOfNums putS
  simp [putL, h]
  rfl

set_option maxHeartbeats 400000 in
theorem refPut_any (n : Nat) (k : Nat) (w : World) (hk : k ≤ 8) (h1 : n < 18446744073709551616) :
    Calls Try.prog 29 #[.int .u64 n, .int .i64 k] w fun e w' => e = .returned (.string (putS k n)) ∧ Below w.heap.size w w' := by
  have hs1 := str_new1
  have hz1 : ∀ x : Int, (strOfNums [x]).size = 1 := fun x => by rw [strOfNums_size]; rfl
  go_enter Try.func29, Try.ntmps29
  go_wp2
  go_loopw [0, 5, 6] (fun m s i wr => ∃ j q : Nat, j ≤ k ∧ q ≤ n ∧ m = .int .u64 q ∧ s = .string (putS j n) ∧ i = .int .i64 j ∧ Hid (q = n / 256 ^ j) ∧ Below w.heap.size w wr) (fun _ _ i _ => k - (intOf i).toNat)
  case atStart => exact ⟨0, n, Nat.zero_le _, Nat.le_refl _, rfl, rfl, rfl, Lib.hid (by simp), Below.refl _ _⟩
  case round =>
    obtain ⟨j, q, hj, hq, rfl, rfl, rfl, HQ, hb⟩ := hrel
    by_cases hlt : j < k
    · have hz := putS_size j n
      have hk8 : decide ((k : Int) ≤ 8) = true := by simp; omega
      go_wp2
      go_roundw
      case rel =>
        refine ⟨j + 1, q / 256, by omega, by omega, by go_num, ?_, by go_num, Lib.hid (by rw [HQ.out, Nat.div_div_eq_div_mul, Nat.pow_succ]), hb.alloc hb.size _⟩
        rw [putS_succ j n _ (by rw [← HQ.out]; omega)]
      case measure => simp [intOf]; omega
    · obtain rfl : j = k := by omega
      go_wp2
      go_ret
      exact ⟨rfl, hb⟩

theorem refPut_i (n k : Int) (w : World) (h0 : 0 ≤ k) (hk : k ≤ 8) (hn : 0 ≤ n) (h1 : n < 18446744073709551616) :
    Calls Try.prog 29 #[.int .u64 n, .int .i64 k] w fun e w' => e = .returned (.string (putS k.toNat n.toNat)) ∧ Below w.heap.size w w' := by
  obtain ⟨n', rfl⟩ := Int.eq_ofNat_of_zero_le hn
  obtain ⟨k', rfl⟩ := Int.eq_ofNat_of_zero_le h0
  exact refPut_any n' k' w (by omega) (by omega)

end Go.Proofs.Ytkkifdmelajioaa
