/- The contract of cell's Put: a number as so many bytes. Condition: one to eight bytes. -/
import Derived.Test.YtkkifdmelajioaaRefPut
import Derived.Laws.BytesArg
import Derived.Deep.OwnRows
import Derived.Lib.SmallJoins
namespace Go.Proofs.Ytkkifdmelajioaa
open Go.RowKit

/-- The cells behind j rounds: noughts, then the last j bytes. -/
def putC (k n j : Nat) : List Int := List.replicate (k - j) 0 ++ (putL j n).map fun b => (b.toNat : Int)
theorem putC_len (k n j : Nat) (h : j ≤ k) : (putC k n j).length = k := by
  unfold putC; simp [putL_len]; omega
theorem putC_step (k n j : Nat) (h : j < k) : (putC k n j).set (k - 1 - j) (n / 256 ^ j % 256 : Nat) = putC k n (j + 1) := by
  unfold putC
  obtain ⟨m, hm⟩ : ∃ m, k - j = m + 1 := ⟨k - j - 1, by omega⟩
  have e1 : k - 1 - j = m := by omega
  have e2 : k - (j + 1) = m := by omega
  rw [hm, e1, e2, List.replicate_succ', List.append_assoc, List.set_append_right _ _ (by simp)]
  simp [putL]
theorem putC_all (k n : Nat) : strOfNums (putC k n k) = putS k n := by
  unfold putC strOfNums putS
  rw [Nat.sub_self, List.replicate_zero, List.nil_append, List.map_map]
  congr 2
  conv => rhs; rw [← List.map_id (putL k n)]
  exact List.map_congr_left fun b _ => by simp
theorem made_cells (k : Nat) : madeCells #[Value.int .u8 0] k = ((List.replicate k (0 : Int)).map (Value.int .u8)).toArray := by
  apply Array.ext
  · simp [madeCells]
  · intro i h1 h2
    have e : ∀ (m : Nat), (#[Value.int .u8 0] : Array Value)[m % 1]! = .int .u8 0 := fun m => by rw [Nat.mod_one]; rfl
    simp only [madeCells, Array.getElem_map, Array.getElem_range, List.getElem_toArray, List.getElem_map, List.getElem_replicate]
    exact e i
theorem shr_byte (n j : Nat) : (n : Int) / 2 ^ (8 * j) % 256 = ((n / 256 ^ j % 256 : Nat) : Int) := by
  have : (2 : Int) ^ (8 * j) = ((256 ^ j : Nat) : Int) := by
    have e : (2 : Int) ^ 8 = ((256 : Nat) : Int) := by decide
    rw [Int.pow_mul, e, Int.natCast_pow]
  rw [this, ← Int.natCast_ediv]; omega
theorem cells_set (l : List Int) (i : Nat) (v : Int) : ((l.map (Value.int .u8)).toArray).setIfInBounds i (.int .u8 v) = ((l.set i v).map (Value.int .u8)).toArray := by
  simp [List.map_set]

set_option maxHeartbeats 1000000 in
theorem put_any (n : Nat) (k : Nat) (w : World) (h0 : 1 ≤ k) (hk : k ≤ 8) (h1 : n < 18446744073709551616) :
    Calls Try.prog 28 #[.int .u64 n, .int .i64 k] w fun e w' => e = .returned (.string (putS k n)) ∧ Below w.heap.size w w' := by
  have hmk := run_make_row' (P := Try.prog) 68 5 (.int .u8 0) 1 Try.underlying68 (by kernel_rfl) rfl .i64 .i64 k (by omega) (by omega)
  have d1 : decide ((k : Int) < 1) = false := by simp; omega
  have d2 : decide (8 < (k : Int)) = false := by simp; omega
  go_enter Try.func28, Try.ntmps28
  go_wp2
  go_loopw [17] (fun i wr => ∃ j : Nat, j ≤ k ∧ i = .int .i64 j ∧ wr.heap[w.heap.size]? = some (.cells ((putC k n j).map (Value.int .u8)).toArray 5 (0, 0)) ∧ Below w.heap.size w wr) (fun i _ => k - (intOf i).toNat)
  case atStart =>
    refine ⟨0, Nat.zero_le _, rfl, ?_, (Below.refl _ _).alloc (Nat.le_refl _) _⟩
    rw [made_cells, heap_alloc_new]
    simp [putC, putL]
  case round =>
    obtain ⟨j, hj, rfl, hblk, hb⟩ := hrel
    by_cases hlt : j < k
    · have hl := putC_len k n j hj
      have hc : wr.cell? ⟨w.heap.size, k - 1 - j, none⟩ = some (.int .u8 ((putC k n j)[k - 1 - j]'(by omega))) := by
        rw [Go.Joins.cell_of_block hblk]; simp
      have hf := Go.Joins.unfrozen_of_block hblk (k - 1 - j)
      have hbs := Go.Joins.block_setCell hblk (i := k - 1 - j) (Value.int .u8 (n / 256 ^ j % 256 : Nat))
      rw [cells_set, putC_step k n j hlt] at hbs
      have HBS := Lib.hid hbs
      have HBK := Lib.hid hblk
      clear hbs hblk
      have hv := shr_byte n j
      go_wp2
      go_roundw
      case rel => exact ⟨j + 1, by omega, by go_num, HBS.out, below_set hb _ _⟩
      case measure => simp [intOf]; omega
    · obtain rfl : j = k := by omega
      have hl := putC_len j n j hj
      have hcv := run_convert_bytes_arg (P := Try.prog) wr 68 5 Try.underlying68 Try.underlying5 w.heap.size 0 j j (putC j n j) hl (fun i hi => by
        rw [Go.Joins.cell_of_block hblk]
        have hi' : i < (putC j n j).length := by omega
        simp [List.getD, hi']) 9 Try.underlying9
      rw [putC_all] at hcv
      clear hblk
      go_wp2
      go_ret
      exact ⟨rfl, hb⟩

theorem put_i (n k : Int) (w : World) (h0 : 1 ≤ k) (hk : k ≤ 8) (hn : 0 ≤ n) (h1 : n < 18446744073709551616) :
    Calls Try.prog 28 #[.int .u64 n, .int .i64 k] w fun e w' => e = .returned (.string (putS k.toNat n.toNat)) ∧ Below w.heap.size w w' := by
  obtain ⟨n', rfl⟩ := Int.eq_ofNat_of_zero_le hn
  obtain ⟨k', rfl⟩ := Int.eq_ofNat_of_zero_le (show 0 ≤ k by omega)
  exact put_any n' k' w (by omega) (by omega) (by omega)

end Go.Proofs.Ytkkifdmelajioaa
