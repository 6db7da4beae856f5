/- The contracts of ipv4's num, lengths and Read, of the reference's, and of cell's Set. -/
import Derived.Lib.IndexBytes
import Derived.Test.YthapajhaehdleaaSum
import Derived.Test.YthapajhaehdleaaRefGet
import Derived.Test.YthapajhaehdleaaCellPut
import Derived.Deep.RegionHeld3
namespace Go.Proofs.Ythapajhaehdleaa
open Go.RowKit

theorem blk_free8 {w : World} {g : Nat} {cs : Array Value} {t : TypeId} (h : w.heap[g]? = some (.cells cs t (0, 0))) : w.frozen? ⟨g, 0, none⟩ = false ∧ w.frozen? ⟨g, 1, none⟩ = false ∧ w.frozen? ⟨g, 2, none⟩ = false ∧ w.frozen? ⟨g, 3, none⟩ = false ∧ w.frozen? ⟨g, 4, none⟩ = false ∧ w.frozen? ⟨g, 5, none⟩ = false ∧ w.frozen? ⟨g, 6, none⟩ = false ∧ w.frozen? ⟨g, 7, none⟩ = false :=
  ⟨blk_free h 0, blk_free h 1, blk_free h 2, blk_free h 3, blk_free h 4, blk_free h 5, blk_free h 6, blk_free h 7⟩
theorem blk8 {w : World} {g : Nat} {a0 a1 a2 a3 a4 a5 a6 a7 : Value} {t : TypeId} {fr : Nat × Nat} (h : w.heap[g]? = some (.cells #[a0, a1, a2, a3, a4, a5, a6, a7] t fr)) :
    g < w.heap.size ∧ w.cell? ⟨g, 0, none⟩ = some a0 ∧ w.cell? ⟨g, 1, none⟩ = some a1 ∧ w.cell? ⟨g, 2, none⟩ = some a2 ∧ w.cell? ⟨g, 3, none⟩ = some a3 ∧ w.cell? ⟨g, 4, none⟩ = some a4 ∧ w.cell? ⟨g, 5, none⟩ = some a5 ∧ w.cell? ⟨g, 6, none⟩ = some a6 ∧ w.cell? ⟨g, 7, none⟩ = some a7 :=
  ⟨blk_lt h, blk_cell h 0 _ rfl, blk_cell h 1 _ rfl, blk_cell h 2 _ rfl, blk_cell h 3 _ rfl, blk_cell h 4 _ rfl, blk_cell h 5 _ rfl, blk_cell h 6 _ rfl, blk_cell h 7 _ rfl⟩
theorem blk_drew {w : World} {g : Nat} {O : Obj} (h : w.heap[g]? = some O) : w.drew.heap[g]? = some O := h
theorem i64_mask (n : Int) (k m : Nat) (hk : k ≤ 62) (hm : (BitVec.ofInt 64 (m : Int)).toNat = 2 ^ k - 1) : bits .and .i64 n (m : Int) = n % (2 ^ k : Nat) := by
  have key : (BitVec.ofInt 64 n &&& BitVec.ofInt 64 (m : Int)).toNat = (n % ((2 ^ 64 : Nat) : Int)).toNat % 2 ^ k := by
    rw [BitVec.toNat_and, BitVec.toNat_ofInt, hm, Nat.and_two_pow_sub_one_eq_mod]
  show IntKind.i64.wrap ((BitVec.ofInt 64 n &&& BitVec.ofInt 64 (m : Int)).toNat : Nat) = _
  have hp : 2 ^ k ≤ 2 ^ 62 := Nat.pow_le_pow_right (by decide) hk
  have hp0 : 0 < 2 ^ k := Nat.pow_pos (by decide)
  have hd : ((2 ^ 64 : Nat) : Int) = (2 ^ k : Nat) * (2 ^ (64 - k) : Nat) := by
    rw [← Int.natCast_mul, ← Nat.pow_add, show k + (64 - k) = 64 from by omega]
  have h0 : 0 ≤ n % ((2 ^ 64 : Nat) : Int) := Int.emod_nonneg _ (by decide)
  have hl := Nat.mod_lt (n % ((2 ^ 64 : Nat) : Int)).toNat hp0
  rw [key, IntWalk.i64_in _ (by omega)]
  rw [Int.natCast_emod, Int.toNat_of_nonneg h0, hd, Int.emod_emod_of_dvd n (Int.dvd_mul_right _ _)]
theorem and_255 (n : Int) : bits .and .i64 n 255 = n % 256 := i64_mask n 8 255 (by decide) (by decide)
theorem and_65535i (n : Int) : bits .and .i64 n 65535 = n % 65536 := i64_mask n 16 65535 (by decide) (by decide)
theorem and_16383 (n : Int) : bits .and .i64 n 16383 = n % 16384 := i64_mask n 14 16383 (by decide) (by decide)
theorem u8_and_15 (n : Nat) (h : n < 256) : bits .and .u8 (n : Int) 15 = ((n % 16 : Nat) : Int) := by
  have h127 : (BitVec.ofInt 8 15).toNat = 2 ^ 4 - 1 := by decide
  have key : (BitVec.ofInt 8 (n : Int) &&& BitVec.ofInt 8 15).toNat = n % 2 ^ 4 := by
    rw [BitVec.toNat_and, BitVec.toNat_ofInt, h127, Nat.and_two_pow_sub_one_eq_mod]
    congr 1
    omega
  show IntKind.u8.wrap ((BitVec.ofInt 8 (n : Int) &&& BitVec.ofInt 8 15).toNat : Nat) = _
  rw [key, IntKind.wrap_u8']
  omega

theorem beAt_one (s : ByteArray) (i : Nat) (h : i < s.size) : s[i].toNat = beAt s i 1 := by
  unfold beAt
  have := drop_take_snoc s i 0 (by omega)
  rw [this]
  simp [be]
theorem beAt_lt1 (s : ByteArray) (i : Nat) : beAt s i 1 < 256 := by
  unfold beAt
  have := be_lt ((s.data.toList.drop i).take 1)
  have l : ((s.data.toList.drop i).take 1).length ≤ 1 := by simp; omega
  have := Nat.pow_le_pow_right (n := 256) (by decide) l
  omega
theorem beAt_lt2 (s : ByteArray) (i : Nat) : beAt s i 2 < 65536 := by
  unfold beAt
  have := be_lt ((s.data.toList.drop i).take 2)
  have l : ((s.data.toList.drop i).take 2).length ≤ 2 := by simp; omega
  have := Nat.pow_le_pow_right (n := 256) (by decide) l
  omega
theorem beAt_lt7 (s : ByteArray) (i k : Nat) (h : k ≤ 7) : beAt s i k < 72057594037927936 :=
  be_small _ (by simp; omega)

set_option maxHeartbeats 400000 in
theorem num_any (s : ByteArray) (a k : Nat) (w : World) (hs : s.size ≤ 9223372036854775807) (h1 : 1 ≤ k) (h2 : k ≤ 7) (h4 : a + k ≤ s.size) :
    Calls Try.prog 20 #[.string s, .int .i64 a, .int .i64 k] w fun e w' => e = .returned (.int .i64 (beAt s a k)) ∧ w = w' := by
  have hb := beAt_lt7 s a k h2
  have e : IntKind.i64.wrap (beAt s a k : Int) = beAt s a k := IntWalk.i64_in _ (by omega)
  go_enter Try.func20, Try.ntmps20
  go_wp2_with (go_at_call 30; refine (get_yes s a k _ hs h1 (by omega) h4).mono ?_; rintro e w1 ⟨rfl, rfl⟩)
  go_ret
  exact ⟨rfl, rfl⟩
theorem num_i (s : ByteArray) (a k : Int) (w : World) (hs : s.size ≤ 9223372036854775807) (h0 : 0 ≤ a) (h1 : 1 ≤ k) (h2 : k ≤ 7) (h4 : a + k ≤ s.size) :
    Calls Try.prog 20 #[.string s, .int .i64 a, .int .i64 k] w fun e w' => e = .returned (.int .i64 (beAt s a.toNat k.toNat)) ∧ w = w' := by
  obtain ⟨a, rfl⟩ := Int.eq_ofNat_of_zero_le h0
  obtain ⟨k, rfl⟩ := Int.eq_ofNat_of_zero_le (show 0 ≤ k by omega)
  exact num_any s a k w hs (by omega) (by omega) (by omega)

set_option maxHeartbeats 400000 in
theorem refAt_any (s : ByteArray) (a k : Nat) (w : World) (hs : s.size ≤ 9223372036854775807) (h1 : 1 ≤ k) (h2 : k ≤ 7) (h4 : a + k ≤ s.size) :
    Calls Try.prog 21 #[.string s, .int .i64 a, .int .i64 k] w fun e w' => e = .returned (.int .i64 (beAt s a k)) ∧ w = w' := by
  have hb := beAt_lt7 s a k h2
  have e : IntKind.i64.wrap (beAt s a k : Int) = beAt s a k := IntWalk.i64_in _ (by omega)
  go_enter Try.func21, Try.ntmps21
  go_wp2_with (go_at_call 31; refine (refGet_yes s a k _ hs h1 (by omega) h4).mono ?_; rintro e w1 ⟨rfl, rfl⟩)
  go_ret
  exact ⟨rfl, rfl⟩
theorem refAt_i (s : ByteArray) (a k : Int) (w : World) (hs : s.size ≤ 9223372036854775807) (h0 : 0 ≤ a) (h1 : 1 ≤ k) (h2 : k ≤ 7) (h4 : a + k ≤ s.size) :
    Calls Try.prog 21 #[.string s, .int .i64 a, .int .i64 k] w fun e w' => e = .returned (.int .i64 (beAt s a.toNat k.toNat)) ∧ w = w' := by
  obtain ⟨a, rfl⟩ := Int.eq_ofNat_of_zero_le h0
  obtain ⟨k, rfl⟩ := Int.eq_ofNat_of_zero_le (show 0 ≤ k by omega)
  exact refAt_any s a k w hs (by omega) (by omega) (by omega)

set_option maxHeartbeats 1000000 in
theorem set_yes (s : ByteArray) (a k n : Nat) (w : World) (hs : s.size ≤ 140737488351232) (h1 : 1 ≤ k) (h2 : k ≤ 8) (h4 : a + k ≤ s.size) (hn : n < 18446744073709551616) :
    Calls Try.prog 24 #[.string s, .int .i64 a, .int .i64 k, .int .u64 n] w fun e w' => e = .returned (.tuple #[.string (s.extract 0 a ++ putS k n ++ s.extract (a + k) s.size), .bool true]) ∧ Below w.heap.size w w' := by
  have z1 := putS_size k n
  have z2 : (s.extract 0 a).size = a := by rw [ByteArray.size_extract]; omega
  have z3 : (s.extract (a + k) s.size).size = s.size - (a + k) := by rw [ByteArray.size_extract]; omega
  have d1 : (a : Int) ≤ s.size := by omega
  have d2 : (a : Int) + k ≤ s.size := by omega
  have d3 : (0 : Int) ≤ (a : Int) + k := by omega
  have d4 : IntKind.i64.wrap ((a : Int) + k) = a + k := IntWalk.i64_in _ (by omega)
  have d5 : ((a : Int) + k).toNat = a + k := by omega
  have c1 : ¬ 9223372036854775807 < a + k := by omega
  have c2 : ¬ 9223372036854775807 < a + k + (s.size - (a + k)) := by omega
  have c3 : ¬ 9223372036854775807 < s.size := by omega
  have c4 : a + k + (s.size - (a + k)) = s.size := by omega
  have hB := Below.refl w.heap.size w
  go_enter Try.func24, Try.ntmps24
  go_wp2_with (go_at_call 32; refine (there_yes _ _ _ _ (by omega) (by omega) (by omega) (by omega) (by omega)).mono ?_; rintro e w' ⟨rfl, rfl⟩)
  go_region_held3 (fun w' => Below w.heap.size w w')
    (first | assumption | exact Below.drew (by assumption) | (apply below_on <;> assumption))
    (first | (go_at_call 23; refine (put_any n k _ h1 h2 hn).mono ?_; rintro e w2 ⟨rfl, hb2⟩))
  go_wp2
  go_ret2
  exact ⟨rfl, by assumption⟩
theorem set_i (s : ByteArray) (a k n : Int) (w : World) (hs : s.size ≤ 140737488351232) (h0 : 0 ≤ a) (h1 : 1 ≤ k) (h2 : k ≤ 8) (h4 : a + k ≤ s.size) (hn0 : 0 ≤ n) (hn : n < 18446744073709551616) :
    Calls Try.prog 24 #[.string s, .int .i64 a, .int .i64 k, .int .u64 n] w fun e w' => e = .returned (.tuple #[.string (s.extract 0 a.toNat ++ putS k.toNat n.toNat ++ s.extract (a.toNat + k.toNat) s.size), .bool true]) ∧ Below w.heap.size w w' := by
  obtain ⟨a, rfl⟩ := Int.eq_ofNat_of_zero_le h0
  obtain ⟨k, rfl⟩ := Int.eq_ofNat_of_zero_le (show 0 ≤ k by omega)
  obtain ⟨n, rfl⟩ := Int.eq_ofNat_of_zero_le hn0
  exact set_yes s a k n w hs (by omega) (by omega) (by omega) (by omega)

/-- How long a head is, and all, or what is wrong. -/
def lnV (s : ByteArray) : Int × Int × Int :=
  if 4000 < s.size then (0, 0, 2)
  else if s.size < 20 then (0, 0, 3)
  else if beAt s 0 1 / 16 ≠ 4 then (0, 0, 5)
  else if beAt s 0 1 % 16 < 5 ∨ beAt s 2 2 < 4 * (beAt s 0 1 % 16) then (0, 0, 4)
  else if s.size < beAt s 2 2 then (0, 0, 3)
  else if ofV (s.extract 0 (4 * (beAt s 0 1 % 16))) ≠ 0 then (0, 0, 6)
  else (((4 * (beAt s 0 1 % 16) : Nat) : Int), ((beAt s 2 2 : Nat) : Int), 0)

/-- What bytes are as a packet, or what is wrong. -/
def rd4 (s : ByteArray) : (ByteArray × ByteArray × Int × Int × Int × Int × Bool × ByteArray) × Int :=
  if (lnV s).2.2 ≠ 0 then ((⟨#[]⟩, ⟨#[]⟩, 0, 0, 0, 0, false, ⟨#[]⟩), (lnV s).2.2)
  else ((s.extract 12 16, s.extract 16 20, beAt s 9 1, beAt s 8 1, beAt s 4 2, beAt s 1 1, decide (beAt s 6 2 % 16384 ≠ 0), s.extract (lnV s).1.toNat (lnV s).2.1.toNat), 0)

set_option maxHeartbeats 1000000 in
theorem lengths_big (s : ByteArray) (w : World) (h1 : 4000 < s.size) :
    Calls Try.prog 19 #[.string s] w fun e w' => e = .returned (.tuple #[.int .i64 0, .int .i64 0, .int .i64 2]) ∧ Below w.heap.size w w' := by
  have hB := Below.refl w.heap.size w
  go_enter Try.func19, Try.ntmps19
  go_wp2
  refine bodyPost_ret (v := .tuple #[.int .i64 0, .int .i64 0, .int .i64 2]) (by simp [results, Try.results19, go_sem]) rfl ⟨rfl, by assumption⟩
set_option maxHeartbeats 1000000 in
theorem lengths_short (s : ByteArray) (w : World) (h1 : s.size < 20) :
    Calls Try.prog 19 #[.string s] w fun e w' => e = .returned (.tuple #[.int .i64 0, .int .i64 0, .int .i64 3]) ∧ Below w.heap.size w w' := by
  have hB := Below.refl w.heap.size w
  go_enter Try.func19, Try.ntmps19
  go_wp2
  refine bodyPost_ret (v := .tuple #[.int .i64 0, .int .i64 0, .int .i64 3]) (by simp [results, Try.results19, go_sem]) rfl ⟨rfl, by assumption⟩
set_option maxHeartbeats 1000000 in
theorem lengths_kind (s : ByteArray) (w : World) (h1 : ¬ 4000 < s.size) (h2 : ¬ s.size < 20) (h3 : beAt s 0 1 / 16 ≠ 4) :
    Calls Try.prog 19 #[.string s] w fun e w' => e = .returned (.tuple #[.int .i64 0, .int .i64 0, .int .i64 5]) ∧ Below w.heap.size w w' := by
  have d0 : (0 : Int) < s.size := by omega
  have e0 := beAt_one s 0 (by omega)
  have l0 := beAt_lt1 s 0
  have h3b : (beAt s 0 1 : Int) / 16 ≠ 4 := by omega
  have hB := Below.refl w.heap.size w
  go_enter Try.func19, Try.ntmps19
  go_wp2
  refine bodyPost_ret (v := .tuple #[.int .i64 0, .int .i64 0, .int .i64 5]) (by simp [results, Try.results19, go_sem]) rfl ⟨rfl, by assumption⟩
set_option maxHeartbeats 1000000 in
theorem lengths_form (s : ByteArray) (w : World) (h1 : ¬ 4000 < s.size) (h2 : ¬ s.size < 20) (h3 : beAt s 0 1 / 16 = 4) (h4 : beAt s 0 1 % 16 < 5 ∨ beAt s 2 2 < 4 * (beAt s 0 1 % 16)) :
    Calls Try.prog 19 #[.string s] w fun e w' => e = .returned (.tuple #[.int .i64 0, .int .i64 0, .int .i64 4]) ∧ Below w.heap.size w w' := by
  have d0 : (0 : Int) < s.size := by omega
  have e0 := beAt_one s 0 (by omega)
  have l0 := beAt_lt1 s 0
  have e1 : bits .and .u8 (beAt s 0 1 : Int) 15 = ((beAt s 0 1 % 16 : Nat) : Int) := u8_and_15 _ l0
  have h3b : (beAt s 0 1 : Int) / 16 = 4 := by omega
  have l2 := beAt_lt2 s 2
  have r1 : IntKind.i64.wrap (((beAt s 0 1 % 16 : Nat)) : Int) = ((beAt s 0 1 % 16 : Nat) : Int) := IntWalk.i64_in _ (by omega)
  have r2 : IntKind.i64.wrap (4 * (((beAt s 0 1 % 16 : Nat)) : Int)) = 4 * ((beAt s 0 1 % 16 : Nat) : Int) := IntWalk.i64_in _ (by omega)
  clear h3
  have hB := Below.refl w.heap.size w
  go_enter Try.func19, Try.ntmps19
  go_wp2
  go_region_held3 (fun w' => Below w.heap.size w w')
    (first | assumption | exact Below.drew (by assumption) | (apply below_on <;> assumption))
    (first | (go_at_call 20; refine (num_any s 2 2 _ (by omega) (by omega) (by omega) (by omega)).mono ?_; rintro e w2 ⟨rfl, rfl⟩))
  go_wp2
  all_goals
   refine bodyPost_ret (v := .tuple #[.int .i64 0, .int .i64 0, .int .i64 4]) (by simp [results, Try.results19, go_sem]) rfl ⟨rfl, by assumption⟩

set_option maxHeartbeats 1000000 in
theorem lengths_less (s : ByteArray) (w : World) (h1 : ¬ 4000 < s.size) (h2 : ¬ s.size < 20) (h3 : beAt s 0 1 / 16 = 4) (h4 : ¬ (beAt s 0 1 % 16 < 5 ∨ beAt s 2 2 < 4 * (beAt s 0 1 % 16))) (h5' : s.size < beAt s 2 2) :
    Calls Try.prog 19 #[.string s] w fun e w' => e = .returned (.tuple #[.int .i64 0, .int .i64 0, .int .i64 3]) ∧ Below w.heap.size w w' := by
  have d0 : (0 : Int) < s.size := by omega
  have e0 := beAt_one s 0 (by omega)
  have l0 := beAt_lt1 s 0
  have e1 : bits .and .u8 (beAt s 0 1 : Int) 15 = ((beAt s 0 1 % 16 : Nat) : Int) := u8_and_15 _ l0
  have h3b : (beAt s 0 1 : Int) / 16 = 4 := by omega
  have l2 := beAt_lt2 s 2
  have r1 : IntKind.i64.wrap (((beAt s 0 1 % 16 : Nat)) : Int) = ((beAt s 0 1 % 16 : Nat) : Int) := IntWalk.i64_in _ (by omega)
  have r2 : IntKind.i64.wrap (4 * (((beAt s 0 1 % 16 : Nat)) : Int)) = 4 * ((beAt s 0 1 % 16 : Nat) : Int) := IntWalk.i64_in _ (by omega)
  clear h3
  have h5 : (20 : Int) ≤ 4 * ((beAt s 0 1 % 16 : Nat) : Int) := by omega
  have h6 : 4 * ((beAt s 0 1 % 16 : Nat) : Int) ≤ (beAt s 2 2 : Int) := by omega
  have h7 : (20 : Int) ≤ 4 * ((beAt s 0 1 : Int) % 16) := by omega
  have h8 : 4 * ((beAt s 0 1 : Int) % 16) ≤ (beAt s 2 2 : Int) := by omega
  have hB := Below.refl w.heap.size w
  go_enter Try.func19, Try.ntmps19
  go_wp2
  go_region_held3 (fun w' => Below w.heap.size w w')
    (first | assumption | exact Below.drew (by assumption) | (apply below_on <;> assumption))
    (first | (go_at_call 20; refine (num_any s 2 2 _ (by omega) (by omega) (by omega) (by omega)).mono ?_; rintro e w2 ⟨rfl, rfl⟩))
  go_wp2
  all_goals
   refine bodyPost_ret (v := .tuple #[.int .i64 0, .int .i64 0, .int .i64 3]) (by simp [results, Try.results19, go_sem]) rfl ⟨rfl, by assumption⟩
set_option maxHeartbeats 1000000 in
theorem lengths_sum (s : ByteArray) (w : World) (h1 : ¬ 4000 < s.size) (h2 : ¬ s.size < 20) (h3 : beAt s 0 1 / 16 = 4) (h4 : ¬ (beAt s 0 1 % 16 < 5 ∨ beAt s 2 2 < 4 * (beAt s 0 1 % 16))) (h5' : ¬ s.size < beAt s 2 2) (h6' : ofV (s.extract 0 (4 * (beAt s 0 1 % 16))) ≠ 0) :
    Calls Try.prog 19 #[.string s] w fun e w' => e = .returned (.tuple #[.int .i64 0, .int .i64 0, .int .i64 6]) ∧ Below w.heap.size w w' := by
  have d0 : (0 : Int) < s.size := by omega
  have e0 := beAt_one s 0 (by omega)
  have l0 := beAt_lt1 s 0
  have e1 : bits .and .u8 (beAt s 0 1 : Int) 15 = ((beAt s 0 1 % 16 : Nat) : Int) := u8_and_15 _ l0
  have h3b : (beAt s 0 1 : Int) / 16 = 4 := by omega
  have l2 := beAt_lt2 s 2
  have r1 : IntKind.i64.wrap (((beAt s 0 1 % 16 : Nat)) : Int) = ((beAt s 0 1 % 16 : Nat) : Int) := IntWalk.i64_in _ (by omega)
  have r2 : IntKind.i64.wrap (4 * (((beAt s 0 1 % 16 : Nat)) : Int)) = 4 * ((beAt s 0 1 % 16 : Nat) : Int) := IntWalk.i64_in _ (by omega)
  clear h3
  have h5 : (20 : Int) ≤ 4 * ((beAt s 0 1 % 16 : Nat) : Int) := by omega
  have h6 : 4 * ((beAt s 0 1 % 16 : Nat) : Int) ≤ (beAt s 2 2 : Int) := by omega
  have h7 : (20 : Int) ≤ 4 * ((beAt s 0 1 : Int) % 16) := by omega
  have h8 : 4 * ((beAt s 0 1 : Int) % 16) ≤ (beAt s 2 2 : Int) := by omega
  have h9 : 4 * ((beAt s 0 1 : Int) % 16) ≤ (s.size : Int) := by omega
  have h10 : (0 : Int) ≤ 4 * ((beAt s 0 1 : Int) % 16) := by omega
  have h11 : (4 * ((beAt s 0 1 : Int) % 16)).toNat = 4 * (beAt s 0 1 % 16) := by omega
  have h12 : (ofV (s.extract 0 (4 * (beAt s 0 1 % 16))) == 0) = false := beq_eq_false_iff_ne.2 h6'
  clear h6'
  have hB := Below.refl w.heap.size w
  go_enter Try.func19, Try.ntmps19
  go_wp2
  go_region_held3 (fun w' => Below w.heap.size w w')
    (first | assumption | exact Below.drew (by assumption) | (apply below_on <;> assumption))
    (first | (go_at_call 20; refine (num_any s 2 2 _ (by omega) (by omega) (by omega) (by omega)).mono ?_; rintro e w2 ⟨rfl, rfl⟩))
  go_wp2_with (go_at_call 29; with_reducible refine (right_any (s.extract 0 (4 * (beAt s 0 1 % 16))) _ (by rw [ByteArray.size_extract]; omega)).mono ?_; rw [h12]; rintro e w3 ⟨rfl, hb3⟩; replace hB := below_on hb3 (below_drew hB))
  all_goals
   refine bodyPost_ret (v := .tuple #[.int .i64 0, .int .i64 0, .int .i64 6]) (by simp [results, Try.results19, go_sem]) rfl ⟨rfl, by assumption⟩
set_option maxHeartbeats 1000000 in
theorem lengths_ok (s : ByteArray) (w : World) (h1 : ¬ 4000 < s.size) (h2 : ¬ s.size < 20) (h3 : beAt s 0 1 / 16 = 4) (h4 : ¬ (beAt s 0 1 % 16 < 5 ∨ beAt s 2 2 < 4 * (beAt s 0 1 % 16))) (h5' : ¬ s.size < beAt s 2 2) (h6' : ofV (s.extract 0 (4 * (beAt s 0 1 % 16))) = 0) :
    Calls Try.prog 19 #[.string s] w fun e w' => e = .returned (.tuple #[.int .i64 ((4 * (beAt s 0 1 % 16) : Nat) : Int), .int .i64 ((beAt s 2 2 : Nat) : Int), .int .i64 0]) ∧ Below w.heap.size w w' := by
  have d0 : (0 : Int) < s.size := by omega
  have e0 := beAt_one s 0 (by omega)
  have l0 := beAt_lt1 s 0
  have e1 : bits .and .u8 (beAt s 0 1 : Int) 15 = ((beAt s 0 1 % 16 : Nat) : Int) := u8_and_15 _ l0
  have h3b : (beAt s 0 1 : Int) / 16 = 4 := by omega
  have l2 := beAt_lt2 s 2
  have r1 : IntKind.i64.wrap (((beAt s 0 1 % 16 : Nat)) : Int) = ((beAt s 0 1 % 16 : Nat) : Int) := IntWalk.i64_in _ (by omega)
  have r2 : IntKind.i64.wrap (4 * (((beAt s 0 1 % 16 : Nat)) : Int)) = 4 * ((beAt s 0 1 % 16 : Nat) : Int) := IntWalk.i64_in _ (by omega)
  clear h3
  have h5 : (20 : Int) ≤ 4 * ((beAt s 0 1 % 16 : Nat) : Int) := by omega
  have h6 : 4 * ((beAt s 0 1 % 16 : Nat) : Int) ≤ (beAt s 2 2 : Int) := by omega
  have h7 : (20 : Int) ≤ 4 * ((beAt s 0 1 : Int) % 16) := by omega
  have h8 : 4 * ((beAt s 0 1 : Int) % 16) ≤ (beAt s 2 2 : Int) := by omega
  have h9 : 4 * ((beAt s 0 1 : Int) % 16) ≤ (s.size : Int) := by omega
  have h10 : (0 : Int) ≤ 4 * ((beAt s 0 1 : Int) % 16) := by omega
  have h11 : (4 * ((beAt s 0 1 : Int) % 16)).toNat = 4 * (beAt s 0 1 % 16) := by omega
  have hB := Below.refl w.heap.size w
  go_enter Try.func19, Try.ntmps19
  go_wp2
  go_region_held3 (fun w' => Below w.heap.size w w')
    (first | assumption | exact Below.drew (by assumption) | (apply below_on <;> assumption))
    (first | (go_at_call 20; refine (num_any s 2 2 _ (by omega) (by omega) (by omega) (by omega)).mono ?_; rintro e w2 ⟨rfl, rfl⟩))
  go_wp2_with (go_at_call 29; with_reducible refine (right_any (s.extract 0 (4 * (beAt s 0 1 % 16))) _ (by rw [ByteArray.size_extract]; omega)).mono ?_; rintro e w3 ⟨rfl, hb3⟩; replace hB := below_on hb3 (below_drew hB))
  all_goals
   refine bodyPost_ret (v := .tuple #[.int .i64 ((4 * (beAt s 0 1 % 16) : Nat) : Int), .int .i64 ((beAt s 2 2 : Nat) : Int), .int .i64 0]) (by simp [results, Try.results19, go_sem]) rfl ⟨rfl, by assumption⟩
theorem lengths_any (s : ByteArray) (w : World) (hs : s.size ≤ 140737488351232) (a b q : Int) (hr : lnV s = (a, b, q)) :
    Calls Try.prog 19 #[.string s] w fun e w' => e = .returned (.tuple #[.int .i64 a, .int .i64 b, .int .i64 q]) ∧ Below w.heap.size w w' := by
  unfold lnV at hr
  by_cases h1 : 4000 < s.size
  · rw [if_pos h1] at hr; cases hr; exact lengths_big s w h1
  by_cases h2 : s.size < 20
  · rw [if_neg h1, if_pos h2] at hr; cases hr; exact lengths_short s w h2
  by_cases h3 : beAt s 0 1 / 16 ≠ 4
  · rw [if_neg h1, if_neg h2, if_pos h3] at hr; cases hr; exact lengths_kind s w h1 h2 h3
  have h3' : beAt s 0 1 / 16 = 4 := by omega
  by_cases h4 : beAt s 0 1 % 16 < 5 ∨ beAt s 2 2 < 4 * (beAt s 0 1 % 16)
  · rw [if_neg h1, if_neg h2, if_neg h3, if_pos h4] at hr; cases hr; exact lengths_form s w h1 h2 h3' h4
  by_cases h5 : s.size < beAt s 2 2
  · rw [if_neg h1, if_neg h2, if_neg h3, if_neg h4, if_pos h5] at hr; cases hr; exact lengths_less s w h1 h2 h3' h4 h5
  by_cases h6 : ofV (s.extract 0 (4 * (beAt s 0 1 % 16))) ≠ 0
  · rw [if_neg h1, if_neg h2, if_neg h3, if_neg h4, if_neg h5, if_pos h6] at hr; cases hr; exact lengths_sum s w h1 h2 h3' h4 h5 h6
  · rw [if_neg h1, if_neg h2, if_neg h3, if_neg h4, if_neg h5, if_neg h6] at hr; cases hr; exact lengths_ok s w h1 h2 h3' h4 h5 (by omega)

end Go.Proofs.Ythapajhaehdleaa
