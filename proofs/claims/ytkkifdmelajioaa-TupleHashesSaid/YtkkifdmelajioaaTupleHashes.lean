/- TupleHashes. -/
import Derived.Test.YtkkifdmelajioaaTupleLaws
namespace Go.Proofs.Ytkkifdmelajioaa
open Go.RowKit

set_option maxRecDepth 100000 in
set_option maxHeartbeats 2000000 in
theorem tupleHashes_big (A : ByteArray) (p : Int) (B : ByteArray) (q n k : Int) (w : World) (wA : A.size ≤ 9223372036854775807) (wB : B.size ≤ 9223372036854775807) (hc : 100 < A.size ∨ 100 < B.size) :
    Calls Try.prog 7 #[.agg #[.string A, .int .i64 p, .string B, .int .i64 q], .int .u8 n, .int .u8 k] w fun e w' => e = .returned (.bool true) ∧ Below w.heap.size w w' := by
  have hB := below_alloc (Below.refl w.heap.size w) (.cells #[.string A, .int .i64 p, .string B, .int .i64 q] 35)
  by_cases h1 : 100 < A.size
  all_goals
    by_cases h2 : 100 < B.size
  all_goals first
    | (exfalso; omega)
    | (go_enter Try.func7, Try.ntmps7
       go_wp2_with (go_at_call 9; refine (tupKnown_any _).mono ?_; rintro e w1 ⟨rfl, hb1⟩; replace hB := below_on hb1 hB)
       go_ret
       exact ⟨rfl, hB⟩)

set_option maxRecDepth 100000 in
set_option maxHeartbeats 2000000 in
theorem tupleHashes_yes (A : ByteArray) (p : Int) (B : ByteArray) (q : Int) (n k : Nat) (w : World) (hA : ¬ 100 < A.size) (hB' : ¬ 100 < B.size) (hn : n < 256) (hk : k < 256) :
    Calls Try.prog 7 #[.agg #[.string A, .int .i64 p, .string B, .int .i64 q], .int .u8 n, .int .u8 k] w fun e w' => e = .returned (.bool true) ∧ Below w.heap.size w w' := by
  have hB := below_alloc (Below.refl w.heap.size w) (.cells #[.string A, .int .i64 p, .string B, .int .i64 q] 35)
  have hK := Lib.hid (blk_new w (.cells #[.string A, .int .i64 p, .string B, .int .i64 q] 35))
  obtain ⟨a, ha⟩ : ∃ a : Int, a = 1 + (n : Int) := ⟨_, rfl⟩
  obtain ⟨b, hb⟩ : ∃ b : Int, b = a * (1 + (k : Int)) := ⟨_, rfl⟩
  have a0 : 1 ≤ a := by omega
  have a1 : a ≤ 256 := by omega
  have hb0 : 1 ≤ b := by rw [hb]; exact Int.le_trans (by decide : (1 : Int) ≤ 1 * 1) (Int.mul_le_mul a0 (by omega) (by omega) (by omega))
  have hb1' : b ≤ 65536 := by
    rw [hb]
    exact Int.le_trans (Int.mul_le_mul a1 (by omega : (1 : Int) + k ≤ 256) (by omega) (by omega)) (by decide)
  have hdv : a ∣ b := ⟨1 + k, hb⟩
  obtain ⟨X, hX⟩ : ∃ X, X = hashV A p B q b := ⟨_, rfl⟩
  obtain ⟨Y, hY⟩ : ∃ Y, Y = hashV A p B q a := ⟨_, rfl⟩
  have vX := hX.trans (hashV_yes (by omega))
  have vY := hY.trans (hashV_yes (by omega))
  have x0 : 0 ≤ X := by rw [vX]; exact Int.emod_nonneg _ (by omega)
  have x1 : X < b := by rw [vX]; exact Int.emod_lt_of_pos _ (by omega)
  have x2 : X.tmod a = Y := by rw [Int.tmod_eq_emod_of_nonneg x0, vX, vY, Int.emod_emod_of_dvd _ hdv]
  have y0 : 0 ≤ Y := by rw [vY]; exact Int.emod_nonneg _ (by omega)
  have y1 : Y < a := by rw [vY]; exact Int.emod_lt_of_pos _ (by omega)
  have v0 := Lib.hid (hashV_no (A := A) (p := p) (B := B) (q := q) (n := 0) (by omega))
  have vm := Lib.hid (hashV_no (A := A) (p := p) (B := B) (q := q) (n := -a) (by omega))
  replace hX := Lib.hid hX.symm
  replace hY := Lib.hid hY.symm
  have t1 : IntKind.i64.wrap (n : Int) = n := IntWalk.i64_in _ (by omega)
  have t2 : IntKind.i64.wrap (k : Int) = k := IntWalk.i64_in _ (by omega)
  have t3 : IntKind.i64.wrap (1 + (n : Int)) = a := by rw [← ha]; exact IntWalk.i64_in _ (by omega)
  have t4 : IntKind.i64.wrap (1 + (k : Int)) = 1 + k := IntWalk.i64_in _ (by omega)
  have t5 : IntKind.i64.wrap (a * (1 + (k : Int))) = b := by rw [← hb]; exact IntWalk.i64_in _ (by omega)
  have t6 : IntKind.i64.wrap Y = Y := IntWalk.i64_in _ (by omega)
  have t7 : IntKind.i64.wrap (-a) = -a := IntWalk.i64_in _ (by omega)
  have t8 : (a == 0) = false := by rw [beq_eq_false_iff_ne]; omega
  have t9 : (a = 0) = False := eq_false (by omega)
  have hAs : A.size ≤ 9223372036854775807 := by omega
  have hBs : B.size ≤ 9223372036854775807 := by omega
  have HA := Lib.hid ha
  clear vX vY hdv hb ha
  go_enter Try.func7, Try.ntmps7
  go_wp2_with (go_at_call 17; with_reducible refine (hash_any A p B q b _ hAs hBs (by omega)).mono ?_; rw [hX.out]; rintro e w1 ⟨rfl, hb1⟩; replace hB := below_on hb1 hB; replace hK := Lib.hid (blk_below hb1 hK.out))
  obtain ⟨lk, k0, k1, k2, k3, -, -, -, -⟩ := blk4 hK.out
  clear hb1
  go_region_held3 (fun w' => Below w1.heap.size w1 w' ∧ ∀ b o, b < w1.heap.size → w'.cell? ⟨b, o, none⟩ = w1.cell? ⟨b, o, none⟩)
    ((apply held_of; repeat (first | exact Below.refl _ _ | exact And.left (by assumption) | with_reducible apply below_drew | with_reducible apply below_alloc | (with_reducible refine below_on (by assumption) ?_))))
    (first
      | (go_at_call 17; with_reducible refine (hash_any A p B q a _ hAs hBs (by omega)).mono ?_; rw [hY.out]; rintro e w2 ⟨rfl, hb2⟩)
      | (go_at_call 17; with_reducible refine (hash_any A p B q 0 _ hAs hBs (by omega)).mono ?_; rw [v0.out]; rintro e w2 ⟨rfl, hb2⟩)
      | (go_at_call 17; with_reducible refine (hash_any A p B q (-a) _ hAs hBs (by omega)).mono ?_; rw [vm.out]; rintro e w2 ⟨rfl, hb2⟩)
      | (go_at_call 9; refine (tupKnown_any _).mono ?_; rintro e w2 ⟨rfl, hb2⟩))
  go_wp2
  go_ret
  exact ⟨rfl, below_on (And.left (by assumption)) hB⟩

theorem tupleHashes_walk (A : ByteArray) (p : Int) (B : ByteArray) (q n k : Int) (w : World) (wA : A.size ≤ maxLen) (wp : (Lit.int .i64 p).wf = true) (wB : B.size ≤ maxLen) (wq : (Lit.int .i64 q).wf = true) (wn : (Lit.int .u8 n).wf = true) (wk : (Lit.int .u8 k).wf = true) :
    Calls Try.prog 7 #[.agg #[.string A, .int .i64 p, .string B, .int .i64 q], .int .u8 n, .int .u8 k] w fun e w' => e = .returned (.bool true) ∧ Below w.heap.size w w' := by
  unfold maxLen at wA wB
  by_cases hc : 100 < A.size ∨ 100 < B.size
  · exact tupleHashes_big A p B q n k w (by omega) (by omega) hc
  have h1 := wf_u8 wn
  have h2 := wf_u8 wk
  obtain ⟨n, rfl⟩ := Int.eq_ofNat_of_zero_le h1.1
  obtain ⟨k, rfl⟩ := Int.eq_ofNat_of_zero_le h2.1
  exact tupleHashes_yes A p B q n k w (by omega) (by omega) (by omega) (by omega)

end Go.Proofs.Ytkkifdmelajioaa
