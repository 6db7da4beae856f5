/- The contracts of addr's of, Right and Show, and of the reference's Right and Show. -/
import Derived.Test.YtkkifdmelajioaaDigits
import Derived.Test.YtkkifdmelajioaaTuple
namespace Go.Proofs.Ytkkifdmelajioaa
open Go.RowKit

set_option maxHeartbeats 1000000 in
theorem kinds_any (w : World) :
    Calls Try.prog 37 #[] w fun e w' => e = .returned (.agg #[.int .i64 4, .int .i64 1, .int .u8 46, .int .i64 10, .int .i64 255, .int .i64 16, .int .i64 2, .int .u8 58, .int .i64 16, .int .i64 65535]) ∧ Below w.heap.size w w' := by
  go_enter Try.func37, Try.ntmps37
  go_wp2
  exact bodyPost_ret (v := .agg #[.int .i64 4, .int .i64 1, .int .u8 46, .int .i64 10, .int .i64 255, .int .i64 16, .int .i64 2, .int .u8 58, .int .i64 16, .int .i64 65535]) (by simp [results, Try.results37, go_sem]) rfl ⟨rfl, below_alloc (Below.refl _ _) _⟩
theorem blk5 {w : World} {g : Nat} {a0 a1 a2 a3 a4 : Value} {t : TypeId} (h : w.heap[g]? = some (.cells #[a0, a1, a2, a3, a4] t (0, 0))) :
    g < w.heap.size ∧ w.cell? ⟨g, 0, none⟩ = some a0 ∧ w.cell? ⟨g, 1, none⟩ = some a1 ∧ w.cell? ⟨g, 2, none⟩ = some a2 ∧ w.cell? ⟨g, 3, none⟩ = some a3 ∧ w.cell? ⟨g, 4, none⟩ = some a4 ∧ w.frozen? ⟨g, 0, none⟩ = false ∧ w.frozen? ⟨g, 1, none⟩ = false ∧ w.frozen? ⟨g, 2, none⟩ = false ∧ w.frozen? ⟨g, 3, none⟩ = false ∧ w.frozen? ⟨g, 4, none⟩ = false :=
  ⟨blk_lt h, blk_cell h 0 _ rfl, blk_cell h 1 _ rfl, blk_cell h 2 _ rfl, blk_cell h 3 _ rfl, blk_cell h 4 _ rfl, blk_free h 0, blk_free h 1, blk_free h 2, blk_free h 3, blk_free h 4⟩

set_option maxRecDepth 100000 in
set_option maxHeartbeats 2000000 in
theorem of4_any (A : ByteArray) (w : World) (h : A.size = 4) :
    Calls Try.prog 34 #[.agg #[.string A]] w fun e w' => e = .returned (.tuple #[.agg #[.int .i64 4, .int .i64 1, .int .u8 46, .int .i64 10, .int .i64 255], .bool true]) ∧ Below w.heap.size w w' := by
  have hB := below_alloc (below_alloc (Below.refl w.heap.size w) (.cells #[.string A] 23)) (.cells #[.int .i64 0, .int .i64 0, .int .u8 0, .int .i64 0, .int .i64 0] 71)
  have hK := Lib.hid (blk_alloc (blk_new w (.cells #[.string A] 23)) (.cells #[.int .i64 0, .int .i64 0, .int .u8 0, .int .i64 0, .int .i64 0] 71))
  have hR := Lib.hid (blk_new (w.alloc (.cells #[.string A] 23)) (.cells #[.int .i64 0, .int .i64 0, .int .u8 0, .int .i64 0, .int .i64 0] 71))
  have hn : (w.alloc (.cells #[.string A] 23)).heap.size = w.heap.size + 1 := by simp
  rw [hn] at hR
  clear hn
  have e1 : ((A.size : Int) == 4) = true := by rw [beq_iff_eq]; omega
  go_enter Try.func34, Try.ntmps34
  go_wp2_with (go_at_call 37; with_reducible refine (kinds_any _).mono ?_; rintro e w1 ⟨rfl, hb1⟩; replace hB := below_on hb1 hB; replace hK := Lib.hid (blk_below hb1 hK.out); replace hR := Lib.hid (blk_below hb1 hR.out))
  go_loopw [7] (fun i wr => ∃ j : Nat, j ≤ 0 ∧ i = .int .i64 j ∧ Hid (wr.heap[w.heap.size]? = some (.cells #[.string A] 23)) ∧ Hid (wr.heap[w.heap.size + 1]? = some (.cells #[.int .i64 0, .int .i64 0, .int .u8 0, .int .i64 0, .int .i64 0] 71)) ∧ Below w.heap.size w wr) (fun i _ => 2 - (intOf i).toNat)
  case atStart => exact ⟨0, by omega, rfl, hK, hR, hB⟩
  case round =>
    obtain ⟨j, hj, rfl, HK, HR, HB⟩ := hrel
    have lk := blk_lt HK.out
    have k0 := blk_cell HK.out 0 _ rfl
    obtain ⟨lr, r0, r1, r2, r3, r4, f0, f1, f2, f3, f4⟩ := blk5 HR.out
    have i0 : ∀ w : World, (Instr.index 77 (.agg #[.int .i64 4, .int .i64 1, .int .u8 46, .int .i64 10, .int .i64 255, .int .i64 16, .int .i64 2, .int .u8 58, .int .i64 16, .int .i64 65535]) (.int .i64 0)).run Try.prog w = .ok (.agg #[.int .i64 4, .int .i64 1, .int .u8 46, .int .i64 10, .int .i64 255]) w := fun _ => by kernel_rfl
    have i1 : ∀ w : World, (Instr.index 77 (.agg #[.int .i64 4, .int .i64 1, .int .u8 46, .int .i64 10, .int .i64 255, .int .i64 16, .int .i64 2, .int .u8 58, .int .i64 16, .int .i64 65535]) (.int .i64 1)).run Try.prog w = .ok (.agg #[.int .i64 16, .int .i64 2, .int .u8 58, .int .i64 16, .int .i64 65535]) w := fun _ => by kernel_rfl
    clear hB hK hR hb1
    obtain rfl : j = 0 := by omega
    · go_wp2
      refine bodyPost_ret (v := .tuple #[.agg #[.int .i64 4, .int .i64 1, .int .u8 46, .int .i64 10, .int .i64 255], .bool true]) (by simp [results, Try.results34, go_sem, r0, r1, r2, r3, r4, f0, f1, f2, f3, f4, lr]) rfl ⟨rfl, ?_⟩
      repeat (first | exact HB | with_reducible apply below_alloc | refine below_setb (Nat.le_succ _) ?_ _ _)

set_option maxRecDepth 100000 in
set_option maxHeartbeats 2000000 in
theorem of16_any (A : ByteArray) (w : World) (h : A.size = 16) :
    Calls Try.prog 34 #[.agg #[.string A]] w fun e w' => e = .returned (.tuple #[.agg #[.int .i64 16, .int .i64 2, .int .u8 58, .int .i64 16, .int .i64 65535], .bool true]) ∧ Below w.heap.size w w' := by
  have hB := below_alloc (below_alloc (Below.refl w.heap.size w) (.cells #[.string A] 23)) (.cells #[.int .i64 0, .int .i64 0, .int .u8 0, .int .i64 0, .int .i64 0] 71)
  have hK := Lib.hid (blk_alloc (blk_new w (.cells #[.string A] 23)) (.cells #[.int .i64 0, .int .i64 0, .int .u8 0, .int .i64 0, .int .i64 0] 71))
  have hR := Lib.hid (blk_new (w.alloc (.cells #[.string A] 23)) (.cells #[.int .i64 0, .int .i64 0, .int .u8 0, .int .i64 0, .int .i64 0] 71))
  have hn : (w.alloc (.cells #[.string A] 23)).heap.size = w.heap.size + 1 := by simp
  rw [hn] at hR
  clear hn
  have e1 : ((A.size : Int) == 4) = false := by rw [beq_eq_false_iff_ne]; omega
  have e2 : ((A.size : Int) == 16) = true := by rw [beq_iff_eq]; omega
  go_enter Try.func34, Try.ntmps34
  go_wp2_with (go_at_call 37; with_reducible refine (kinds_any _).mono ?_; rintro e w1 ⟨rfl, hb1⟩; replace hB := below_on hb1 hB; replace hK := Lib.hid (blk_below hb1 hK.out); replace hR := Lib.hid (blk_below hb1 hR.out))
  go_loopw [7] (fun i wr => ∃ j : Nat, j ≤ 1 ∧ i = .int .i64 j ∧ Hid (wr.heap[w.heap.size]? = some (.cells #[.string A] 23)) ∧ Hid (wr.heap[w.heap.size + 1]? = some (.cells #[.int .i64 0, .int .i64 0, .int .u8 0, .int .i64 0, .int .i64 0] 71)) ∧ Below w.heap.size w wr) (fun i _ => 2 - (intOf i).toNat)
  case atStart => exact ⟨0, by omega, rfl, hK, hR, hB⟩
  case round =>
    obtain ⟨j, hj, rfl, HK, HR, HB⟩ := hrel
    have lk := blk_lt HK.out
    have k0 := blk_cell HK.out 0 _ rfl
    obtain ⟨lr, r0, r1, r2, r3, r4, f0, f1, f2, f3, f4⟩ := blk5 HR.out
    have i0 : ∀ w : World, (Instr.index 77 (.agg #[.int .i64 4, .int .i64 1, .int .u8 46, .int .i64 10, .int .i64 255, .int .i64 16, .int .i64 2, .int .u8 58, .int .i64 16, .int .i64 65535]) (.int .i64 0)).run Try.prog w = .ok (.agg #[.int .i64 4, .int .i64 1, .int .u8 46, .int .i64 10, .int .i64 255]) w := fun _ => by kernel_rfl
    have i1 : ∀ w : World, (Instr.index 77 (.agg #[.int .i64 4, .int .i64 1, .int .u8 46, .int .i64 10, .int .i64 255, .int .i64 16, .int .i64 2, .int .u8 58, .int .i64 16, .int .i64 65535]) (.int .i64 1)).run Try.prog w = .ok (.agg #[.int .i64 16, .int .i64 2, .int .u8 58, .int .i64 16, .int .i64 65535]) w := fun _ => by kernel_rfl
    clear hB hK hR hb1
    have hj2 : j = 0 ∨ j = 1 := by omega
    clear hj
    rcases hj2 with rfl | rfl
    · go_wp2
      go_roundw
      case rel => exact ⟨1, by omega, by go_num, Lib.hid (blk_alloc HK.out _), Lib.hid (blk_alloc HR.out _), below_alloc HB _⟩
      case measure => simp [intOf]
    · go_wp2
      refine bodyPost_ret (v := .tuple #[.agg #[.int .i64 16, .int .i64 2, .int .u8 58, .int .i64 16, .int .i64 65535], .bool true]) (by simp [results, Try.results34, go_sem, r0, r1, r2, r3, r4, f0, f1, f2, f3, f4, lr]) rfl ⟨rfl, ?_⟩
      repeat (first | exact HB | with_reducible apply below_alloc | refine below_setb (Nat.le_succ _) ?_ _ _)

set_option maxRecDepth 100000 in
set_option maxHeartbeats 2000000 in
theorem ofNo_any (A : ByteArray) (w : World) (h4 : A.size ≠ 4) (h16 : A.size ≠ 16) :
    Calls Try.prog 34 #[.agg #[.string A]] w fun e w' => e = .returned (.tuple #[.agg #[.int .i64 0, .int .i64 0, .int .u8 0, .int .i64 0, .int .i64 0], .bool false]) ∧ Below w.heap.size w w' := by
  have hB := below_alloc (below_alloc (Below.refl w.heap.size w) (.cells #[.string A] 23)) (.cells #[.int .i64 0, .int .i64 0, .int .u8 0, .int .i64 0, .int .i64 0] 71)
  have hK := Lib.hid (blk_alloc (blk_new w (.cells #[.string A] 23)) (.cells #[.int .i64 0, .int .i64 0, .int .u8 0, .int .i64 0, .int .i64 0] 71))
  have hR := Lib.hid (blk_new (w.alloc (.cells #[.string A] 23)) (.cells #[.int .i64 0, .int .i64 0, .int .u8 0, .int .i64 0, .int .i64 0] 71))
  have hn : (w.alloc (.cells #[.string A] 23)).heap.size = w.heap.size + 1 := by simp
  rw [hn] at hR
  clear hn
  have e1 : ((A.size : Int) == 4) = false := by rw [beq_eq_false_iff_ne]; omega
  have e2 : ((A.size : Int) == 16) = false := by rw [beq_eq_false_iff_ne]; omega
  clear h4 h16
  go_enter Try.func34, Try.ntmps34
  go_wp2_with (go_at_call 37; with_reducible refine (kinds_any _).mono ?_; rintro e w1 ⟨rfl, hb1⟩; replace hB := below_on hb1 hB; replace hK := Lib.hid (blk_below hb1 hK.out); replace hR := Lib.hid (blk_below hb1 hR.out))
  go_loopw [7] (fun i wr => ∃ j : Nat, j ≤ 2 ∧ i = .int .i64 j ∧ Hid (wr.heap[w.heap.size]? = some (.cells #[.string A] 23)) ∧ Hid (wr.heap[w.heap.size + 1]? = some (.cells #[.int .i64 0, .int .i64 0, .int .u8 0, .int .i64 0, .int .i64 0] 71)) ∧ Below w.heap.size w wr) (fun i _ => 2 - (intOf i).toNat)
  case atStart => exact ⟨0, by omega, rfl, hK, hR, hB⟩
  case round =>
    obtain ⟨j, hj, rfl, HK, HR, HB⟩ := hrel
    have lk := blk_lt HK.out
    have k0 := blk_cell HK.out 0 _ rfl
    obtain ⟨lr, r0, r1, r2, r3, r4, f0, f1, f2, f3, f4⟩ := blk5 HR.out
    have i0 : ∀ w : World, (Instr.index 77 (.agg #[.int .i64 4, .int .i64 1, .int .u8 46, .int .i64 10, .int .i64 255, .int .i64 16, .int .i64 2, .int .u8 58, .int .i64 16, .int .i64 65535]) (.int .i64 0)).run Try.prog w = .ok (.agg #[.int .i64 4, .int .i64 1, .int .u8 46, .int .i64 10, .int .i64 255]) w := fun _ => by kernel_rfl
    have i1 : ∀ w : World, (Instr.index 77 (.agg #[.int .i64 4, .int .i64 1, .int .u8 46, .int .i64 10, .int .i64 255, .int .i64 16, .int .i64 2, .int .u8 58, .int .i64 16, .int .i64 65535]) (.int .i64 1)).run Try.prog w = .ok (.agg #[.int .i64 16, .int .i64 2, .int .u8 58, .int .i64 16, .int .i64 65535]) w := fun _ => by kernel_rfl
    clear hB hK hR hb1
    have hj2 : j = 0 ∨ j = 1 ∨ j = 2 := by omega
    clear hj
    rcases hj2 with rfl | rfl | rfl
    · go_wp2
      go_roundw
      case rel => exact ⟨1, by omega, by go_num, Lib.hid (blk_alloc HK.out _), Lib.hid (blk_alloc HR.out _), below_alloc HB _⟩
      case measure => simp [intOf]
    · go_wp2
      go_roundw
      case rel => exact ⟨2, by omega, by go_num, Lib.hid (blk_alloc HK.out _), Lib.hid (blk_alloc HR.out _), below_alloc HB _⟩
      case measure => simp [intOf]
    · go_wp2
      refine bodyPost_ret (v := .tuple #[.agg #[.int .i64 0, .int .i64 0, .int .u8 0, .int .i64 0, .int .i64 0], .bool false]) (by simp [results, Try.results34, go_sem, r0, r1, r2, r3, r4, f0, f1, f2, f3, f4, lr]) rfl ⟨rfl, ?_⟩
      repeat (first | exact HB | with_reducible apply below_alloc | refine below_setb (Nat.le_succ _) ?_ _ _)

/-- Whether an address can be. -/
def rightA (n : Nat) : Bool := n == 4 || n == 16

set_option maxHeartbeats 1000000 in
theorem right_any (A : ByteArray) (w : World) :
    Calls Try.prog 30 #[.agg #[.string A]] w fun e w' => e = .returned (.bool (rightA A.size)) ∧ Below w.heap.size w w' := by
  have hB := below_alloc (Below.refl w.heap.size w) (.cells #[.string A] 23)
  by_cases h4 : A.size = 4
  · have hr : rightA A.size = true := by rw [h4]; rfl
    go_enter Try.func30, Try.ntmps30
    go_wp2_with (go_at_call 34; with_reducible refine (of4_any _ _ h4).mono ?_; rintro e w1 ⟨rfl, hb1⟩; replace hB := below_on hb1 hB)
    go_ret
    exact ⟨ret_bool hr.symm, below_alloc hB _⟩
  by_cases h16 : A.size = 16
  · have hr : rightA A.size = true := by rw [h16]; rfl
    go_enter Try.func30, Try.ntmps30
    go_wp2_with (go_at_call 34; with_reducible refine (of16_any _ _ h16).mono ?_; rintro e w1 ⟨rfl, hb1⟩; replace hB := below_on hb1 hB)
    go_ret
    exact ⟨ret_bool hr.symm, below_alloc hB _⟩
  · have hr : rightA A.size = false := by unfold rightA; rw [beq_eq_false_iff_ne.2 h4, beq_eq_false_iff_ne.2 h16]; rfl
    go_enter Try.func30, Try.ntmps30
    go_wp2_with (go_at_call 34; with_reducible refine (ofNo_any _ _ h4 h16).mono ?_; rintro e w1 ⟨rfl, hb1⟩; replace hB := below_on hb1 hB)
    go_ret
    exact ⟨ret_bool hr.symm, below_alloc hB _⟩

theorem get_i (s : ByteArray) (a k : Int) (w : World) (hs : s.size ≤ 9223372036854775807) (h0 : 0 ≤ a) (h1 : 1 ≤ k) (h2 : k ≤ 8) (h4 : a + k ≤ s.size) :
    Calls Try.prog 35 #[.string s, .int .i64 a, .int .i64 k] w fun e w' => e = .returned (.tuple #[.int .u64 (beAt s a.toNat k.toNat), .bool true]) ∧ w = w' := by
  obtain ⟨a, rfl⟩ := Int.eq_ofNat_of_zero_le h0
  obtain ⟨k, rfl⟩ := Int.eq_ofNat_of_zero_le (show 0 ≤ k by omega)
  exact get_yes s a k w hs (by omega) (by omega) (by omega)
theorem beAt_pow (s : ByteArray) (i k : Nat) : beAt s i k < 256 ^ k := by
  unfold beAt
  have := be_lt ((s.data.toList.drop i).take k)
  have l : ((s.data.toList.drop i).take k).length ≤ k := by simp; omega
  exact Nat.lt_of_lt_of_le this (Nat.pow_le_pow_right (by decide) l)
/-- An address as text, so many of its parts. -/
def shT (A : ByteArray) (part base f : Nat) (sep : UInt8) : Nat → ByteArray
  | 0 => ⟨#[]⟩
  | j + 1 => (if j = 0 then shT A part base f sep j else shT A part base f sep j ++ ⟨#[sep]⟩) ++ numT f base (beAt A (part * j) part)
theorem shT_one (A : ByteArray) (part base f : Nat) (sep : UInt8) : shT A part base f sep 0 ++ numT f base (beAt A 0 part) = shT A part base f sep 1 := rfl
theorem shT_more (A : ByteArray) (part base f : Nat) (sep : UInt8) (j : Nat) (h : j ≠ 0) : shT A part base f sep j ++ ⟨#[sep]⟩ ++ numT f base (beAt A (part * j) part) = shT A part base f sep (j + 1) := by
  rw [shT, if_neg h]
theorem shT_size (A : ByteArray) (part base f : Nat) (sep : UInt8) (j : Nat) : (shT A part base f sep j).size ≤ j * (f + 2) := by
  induction j with
  | zero => exact Nat.le_of_eq (by rw [Nat.zero_mul]; rfl)
  | succ j ih =>
    have hn := numT_size f base (beAt A (part * j) part)
    have e : (⟨#[sep]⟩ : ByteArray).size = 1 := rfl
    have m : (j + 1) * (f + 2) = j * (f + 2) + (f + 2) := Nat.succ_mul _ _
    rw [shT]
    split
    · rw [ByteArray.size_append]; omega
    · rw [ByteArray.size_append, ByteArray.size_append, e]; omega
theorem number10 (n : Nat) (w : World) (hn : n < 1000) :
    Calls Try.prog 36 #[.int .i64 n, .int .i64 10] w fun e w' => e = .returned (.string (numT 2 10 n)) ∧ w = w' :=
  number_any 10 (by decide) 2 n w (by simpa using hn) (by omega) (by decide)
theorem number16 (n : Nat) (w : World) (hn : n < 65536) :
    Calls Try.prog 36 #[.int .i64 n, .int .i64 16] w fun e w' => e = .returned (.string (numT 3 16 n)) ∧ w = w' :=
  number_any 16 (by decide) 3 n w (by simpa using hn) (by omega) (by decide)

set_option maxRecDepth 100000 in
set_option maxHeartbeats 2000000 in
theorem show4_any (A : ByteArray) (w : World) (h : A.size = 4) :
    Calls Try.prog 31 #[.agg #[.string A]] w fun e w' => e = .returned (.string (shT A 1 10 2 46 4)) ∧ Below w.heap.size w w' := by
  have hB := below_alloc (Below.refl w.heap.size w) (.cells #[.string A] 23)
  have hK := Lib.hid (blk_new w (.cells #[.string A] 23))
  have he : Utf8.encode 46 = ⟨#[46]⟩ := by decide +kernel
  go_enter Try.func31, Try.ntmps31
  go_wp2_with (go_at_call 34; with_reducible refine (of4_any _ _ h).mono ?_; rintro e w1 ⟨rfl, hb1⟩; replace hB := below_on hb1 hB; replace hK := Lib.hid (blk_below hb1 hK.out))
  obtain ⟨g, hg⟩ : ∃ g, g = w1.heap.size := ⟨_, rfl⟩
  have hG := Lib.hid (blk_new w1 (.cells #[.int .i64 4, .int .i64 1, .int .u8 46, .int .i64 10, .int .i64 255] 71))
  have hK2 := Lib.hid (blk_alloc hK.out (.cells #[.int .i64 4, .int .i64 1, .int .u8 46, .int .i64 10, .int .i64 255] 71))
  have hB2 := below_alloc hB (.cells #[.int .i64 4, .int .i64 1, .int .u8 46, .int .i64 10, .int .i64 255] 71)
  rw [← hg] at hG
  simp only [← hg]
  clear hg hb1 hB hK
  go_loopw [5, 6] (fun s i wr => ∃ j : Nat, j ≤ 4 ∧ s = .string (shT A 1 10 2 46 j) ∧ i = .int .i64 (j : Int) ∧ Hid (wr.heap[w.heap.size]? = some (.cells #[.string A] 23)) ∧ Hid (wr.heap[g]? = some (.cells #[.int .i64 4, .int .i64 1, .int .u8 46, .int .i64 10, .int .i64 255] 71)) ∧ Below w.heap.size w wr) (fun _ i _ => 4 - (intOf i).toNat)
  case atStart => exact ⟨0, Nat.zero_le _, rfl, rfl, hK2, hG, hB2⟩
  case round =>
    obtain ⟨j, hj, rfl, rfl, HK, HG, HB⟩ := hrel
    have lk := blk_lt HK.out
    have k0 := blk_cell HK.out 0 _ rfl
    obtain ⟨lg, g0, g1, g2, g3, g4, -, -, -, -, -⟩ := blk5 HG.out
    have hz := shT_size A 1 10 2 46 j
    clear hB2 hK2 hG
    by_cases hlt : j < 4
    · have hbp := beAt_pow A (1 * j) 1
      obtain ⟨n, hnn⟩ : ∃ n, n = beAt A (1 * j) 1 := ⟨_, rfl⟩
      rw [← hnn] at hbp
      have hn : n < 1000 := by omega
      have hnz := numT_size 2 10 n
      have a1 : IntKind.i64.wrap (n : Int) = n := IntWalk.i64_in _ (by omega)
      have a2 : IntKind.i64.wrap ((j : Int) + 1) = (j : Int) + 1 := IntWalk.i64_in _ (by omega)
      have a3 : (j : Int) < 4 := by omega
      have a4 : (j : Int).toNat = 1 * j := by omega
      have a5 : beAt A (j : Int).toNat 1 = n := by rw [a4, hnn]
      have a6 : beAt A (j : Int).toNat (1 : Int).toNat = n := by rw [a4, hnn]; rfl
      have z1 : (⟨#[46]⟩ : ByteArray).size = 1 := rfl
      by_cases h0 : j = 0
      · have hone := shT_one A 1 10 2 46
        subst h0
        rw [Nat.mul_zero] at hnn
        rw [← hnn] at hone
        have b5 : beAt A 0 1 = n := hnn.symm
        have HO := Lib.hid hone
        have c2 : ¬ 9223372036854775807 < (shT A 1 10 2 46 0).size + (numT 2 10 n).size := by omega
        clear hone hnn
        go_wp2_with (first
          | (go_at_call 35; with_reducible refine (get_i A _ _ _ (by omega) (by omega) (by omega) (by omega) (by omega)).mono ?_; rintro e w2 ⟨rfl, rfl⟩)
          | (go_at_call 36; with_reducible refine (number10 n _ hn).mono ?_; rintro e w2 ⟨rfl, rfl⟩))
        go_roundw
        case rel => exact ⟨1, by omega, by rw [HO.out], rfl, HK, HG, HB⟩
        case measure => simp [intOf]
      · have hmore := shT_more A 1 10 2 46 j h0
        rw [← hnn] at hmore
        have HO := Lib.hid hmore
        have b5 : beAt A (j) 1 = n := by rw [hnn]; rw [Nat.one_mul]
        have p1 : (0 : Int) < (j : Int) := by omega
        have c1 : ¬ 9223372036854775807 < (shT A 1 10 2 46 j).size + 1 := by omega
        have c2 : ¬ 9223372036854775807 < (shT A 1 10 2 46 j).size + 1 + (numT 2 10 n).size := by omega
        clear hmore hnn h0
        go_wp2_with (first
          | (go_at_call 35; with_reducible refine (get_i A _ _ _ (by omega) (by omega) (by omega) (by omega) (by omega)).mono ?_; rintro e w2 ⟨rfl, rfl⟩)
          | (go_at_call 36; with_reducible refine (number10 n _ hn).mono ?_; rintro e w2 ⟨rfl, rfl⟩))
        go_roundw
        case rel => exact ⟨j + 1, by omega, by rw [← HO.out], by go_num, HK, HG, HB⟩
        case measure => simp [intOf]; omega
    · obtain rfl : j = 4 := by omega
      go_wp2
      go_ret
      exact ⟨rfl, HB⟩

set_option maxRecDepth 100000 in
set_option maxHeartbeats 2000000 in
theorem show16_any (A : ByteArray) (w : World) (h : A.size = 16) :
    Calls Try.prog 31 #[.agg #[.string A]] w fun e w' => e = .returned (.string (shT A 2 16 3 58 8)) ∧ Below w.heap.size w w' := by
  have hB := below_alloc (Below.refl w.heap.size w) (.cells #[.string A] 23)
  have hK := Lib.hid (blk_new w (.cells #[.string A] 23))
  have he : Utf8.encode 58 = ⟨#[58]⟩ := by decide +kernel
  go_enter Try.func31, Try.ntmps31
  go_wp2_with (go_at_call 34; with_reducible refine (of16_any _ _ h).mono ?_; rintro e w1 ⟨rfl, hb1⟩; replace hB := below_on hb1 hB; replace hK := Lib.hid (blk_below hb1 hK.out))
  obtain ⟨g, hg⟩ : ∃ g, g = w1.heap.size := ⟨_, rfl⟩
  have hG := Lib.hid (blk_new w1 (.cells #[.int .i64 16, .int .i64 2, .int .u8 58, .int .i64 16, .int .i64 65535] 71))
  have hK2 := Lib.hid (blk_alloc hK.out (.cells #[.int .i64 16, .int .i64 2, .int .u8 58, .int .i64 16, .int .i64 65535] 71))
  have hB2 := below_alloc hB (.cells #[.int .i64 16, .int .i64 2, .int .u8 58, .int .i64 16, .int .i64 65535] 71)
  rw [← hg] at hG
  simp only [← hg]
  clear hg hb1 hB hK
  go_loopw [5, 6] (fun s i wr => ∃ j : Nat, j ≤ 8 ∧ s = .string (shT A 2 16 3 58 j) ∧ i = .int .i64 (2 * (j : Int)) ∧ Hid (wr.heap[w.heap.size]? = some (.cells #[.string A] 23)) ∧ Hid (wr.heap[g]? = some (.cells #[.int .i64 16, .int .i64 2, .int .u8 58, .int .i64 16, .int .i64 65535] 71)) ∧ Below w.heap.size w wr) (fun _ i _ => 16 - (intOf i).toNat)
  case atStart => exact ⟨0, Nat.zero_le _, rfl, rfl, hK2, hG, hB2⟩
  case round =>
    obtain ⟨j, hj, rfl, rfl, HK, HG, HB⟩ := hrel
    have lk := blk_lt HK.out
    have k0 := blk_cell HK.out 0 _ rfl
    obtain ⟨lg, g0, g1, g2, g3, g4, -, -, -, -, -⟩ := blk5 HG.out
    have hz := shT_size A 2 16 3 58 j
    clear hB2 hK2 hG
    by_cases hlt : j < 8
    · have hbp := beAt_pow A (2 * j) 2
      obtain ⟨n, hnn⟩ : ∃ n, n = beAt A (2 * j) 2 := ⟨_, rfl⟩
      rw [← hnn] at hbp
      have hn : n < 65536 := by omega
      have hnz := numT_size 3 16 n
      have a1 : IntKind.i64.wrap (n : Int) = n := IntWalk.i64_in _ (by omega)
      have a2 : IntKind.i64.wrap ((2 * (j : Int)) + 2) = (2 * (j : Int)) + 2 := IntWalk.i64_in _ (by omega)
      have a3 : (2 * (j : Int)) < 16 := by omega
      have a4 : (2 * (j : Int)).toNat = 2 * j := by omega
      have a5 : beAt A (2 * (j : Int)).toNat 2 = n := by rw [a4, hnn]
      have a6 : beAt A (2 * (j : Int)).toNat (2 : Int).toNat = n := by rw [a4, hnn]; rfl
      have z1 : (⟨#[58]⟩ : ByteArray).size = 1 := rfl
      by_cases h0 : j = 0
      · have hone := shT_one A 2 16 3 58
        subst h0
        rw [Nat.mul_zero] at hnn
        rw [← hnn] at hone
        have b5 : beAt A 0 2 = n := hnn.symm
        have HO := Lib.hid hone
        have c2 : ¬ 9223372036854775807 < (shT A 2 16 3 58 0).size + (numT 3 16 n).size := by omega
        clear hone hnn
        go_wp2_with (first
          | (go_at_call 35; with_reducible refine (get_i A _ _ _ (by omega) (by omega) (by omega) (by omega) (by omega)).mono ?_; rintro e w2 ⟨rfl, rfl⟩)
          | (go_at_call 36; with_reducible refine (number16 n _ hn).mono ?_; rintro e w2 ⟨rfl, rfl⟩))
        go_roundw
        case rel => exact ⟨1, by omega, by rw [HO.out], rfl, HK, HG, HB⟩
        case measure => simp [intOf]
      · have hmore := shT_more A 2 16 3 58 j h0
        rw [← hnn] at hmore
        have HO := Lib.hid hmore
        have b5 : beAt A (2 * j) 2 = n := by rw [hnn]
        have p1 : (0 : Int) < (2 * (j : Int)) := by omega
        have c1 : ¬ 9223372036854775807 < (shT A 2 16 3 58 j).size + 1 := by omega
        have c2 : ¬ 9223372036854775807 < (shT A 2 16 3 58 j).size + 1 + (numT 3 16 n).size := by omega
        clear hmore hnn h0
        go_wp2_with (first
          | (go_at_call 35; with_reducible refine (get_i A _ _ _ (by omega) (by omega) (by omega) (by omega) (by omega)).mono ?_; rintro e w2 ⟨rfl, rfl⟩)
          | (go_at_call 36; with_reducible refine (number16 n _ hn).mono ?_; rintro e w2 ⟨rfl, rfl⟩))
        go_roundw
        case rel => exact ⟨j + 1, by omega, by rw [← HO.out], by go_num, HK, HG, HB⟩
        case measure => simp [intOf]; omega
    · obtain rfl : j = 8 := by omega
      go_wp2
      go_ret
      exact ⟨rfl, HB⟩

end Go.Proofs.Ytkkifdmelajioaa
