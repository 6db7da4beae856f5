/- The contracts of tuple's right and show of an end, and of the reference's Right and Show of an address. -/
import Derived.Test.YtkkifdmelajioaaAddrText
namespace Go.Proofs.Ytkkifdmelajioaa
open Go.RowKit

theorem beAt_get1 (s : ByteArray) (i : Nat) (h : i < s.size) : s[i].toNat = beAt s i 1 := by
  unfold beAt
  have := drop_take_snoc s i 0 (by omega)
  rw [this]
  simp [be]
theorem beAt_get2 (s : ByteArray) (i : Nat) (h : i + 1 < s.size) : s[i].toNat * 256 + s[i + 1].toNat = beAt s i 2 := by
  unfold beAt
  have h1 := drop_take_snoc s i 0 (by omega)
  have h2 := drop_take_snoc s i 1 (by omega)
  rw [h2, h1]
  simp [be]

set_option maxHeartbeats 1000000 in
theorem refRightA_any (A : ByteArray) (w : World) :
    Calls Try.prog 22 #[.agg #[.string A]] w fun e w' => e = .returned (.bool (rightA A.size)) ∧ Below w.heap.size w w' := by
  have hB := below_alloc (Below.refl w.heap.size w) (.cells #[.string A] 23)
  go_enter Try.func22, Try.ntmps22
  go_wp2
  all_goals
    go_ret
    refine ⟨ret_bool ?_, hB⟩
    unfold rightA
    rw [Bool.eq_iff_iff]; simp; try omega

/-- Whether an end can be. -/
def endB (n : Nat) (p : Int) : Bool := rightA n && decide (0 ≤ p) && decide (p ≤ 65535)

set_option maxHeartbeats 1000000 in
theorem endRight_any (A : ByteArray) (p : Int) (w : World) :
    Calls Try.prog 21 #[.agg #[.string A, .int .i64 p]] w fun e w' => e = .returned (.bool (endB A.size p)) ∧ Below w.heap.size w w' := by
  have hB := below_alloc (Below.refl w.heap.size w) (.cells #[.string A, .int .i64 p] 33)
  have hK := Lib.hid (blk_new w (.cells #[.string A, .int .i64 p] 33))
  cases hr : rightA A.size
  all_goals
    have he : endB A.size p = (rightA A.size && decide (0 ≤ p) && decide (p ≤ 65535)) := rfl
    rw [hr] at he
    have HE := Lib.hid he
    clear he
    go_enter Try.func21, Try.ntmps21
    go_wp2_with (go_at_call 30; with_reducible refine (right_any _ _).mono ?_; rw [hr]; rintro e w1 ⟨rfl, hb1⟩; replace hB := below_on hb1 hB; replace hK := Lib.hid (blk_below hb1 hK.out); have lk := blk_lt hK.out; have k1 := blk_cell hK.out 1 _ rfl)
  all_goals
    go_ret
    refine ⟨ret_bool ?_, hB⟩
    rw [HE.out]
    simp
    try omega

/-- An address as text. -/
def showA (A : ByteArray) : ByteArray := if A.size = 4 then shT A 1 10 2 46 4 else shT A 2 16 3 58 8
theorem show_any (A : ByteArray) (w : World) (h : rightA A.size = true) :
    Calls Try.prog 31 #[.agg #[.string A]] w fun e w' => e = .returned (.string (showA A)) ∧ Below w.heap.size w w' := by
  unfold showA
  by_cases h4 : A.size = 4
  · rw [if_pos h4]; exact show4_any A w h4
  · rw [if_neg h4]
    exact show16_any A w (by unfold rightA at h; rw [beq_eq_false_iff_ne.2 h4] at h; simpa using h)
theorem showA_size (A : ByteArray) : (showA A).size ≤ 40 := by
  unfold showA
  have h1 := shT_size A 1 10 2 46 4
  have h2 := shT_size A 2 16 3 58 8
  split <;> omega
/-- An end as text. -/
def endT (A : ByteArray) (p : Nat) : ByteArray := showA A ++ ⟨#[46]⟩ ++ numT 4 10 p
theorem endT_size (A : ByteArray) (p : Nat) : (endT A p).size ≤ 46 := by
  unfold endT
  have h1 := showA_size A
  have h2 := numT_size 4 10 p
  have e : (⟨#[46]⟩ : ByteArray).size = 1 := rfl
  rw [ByteArray.size_append, ByteArray.size_append, e]; omega

set_option maxHeartbeats 1000000 in
theorem endShow_any (A : ByteArray) (p : Nat) (w : World) (h : rightA A.size = true) (hp : p ≤ 65535) :
    Calls Try.prog 24 #[.agg #[.string A, .int .i64 p]] w fun e w' => e = .returned (.string (endT A p)) ∧ Below w.heap.size w w' := by
  have hB := below_alloc (Below.refl w.heap.size w) (.cells #[.string A, .int .i64 p] 33)
  have h1 := showA_size A
  have h2 := numT_size 4 10 p
  have e1 : (⟨#[46]⟩ : ByteArray).size = 1 := rfl
  have c1 : ¬ 9223372036854775807 < (showA A).size + 1 := by omega
  have c2 : ¬ 9223372036854775807 < (showA A).size + 1 + (numT 4 10 p).size := by omega
  go_enter Try.func24, Try.ntmps24
  go_wp2
  have hK := blk_new w (.cells #[.string A, .int .i64 p] 33)
  have k0 := blk_cell hK 0 _ rfl
  have k1 := blk_cell hK 1 _ rfl
  have lk := blk_lt hK
  generalize World.alloc w (.cells #[.string A, .int .i64 p] 33) = W at *
  clear hK
  go_region_held3 (fun w' => Below W.heap.size W w' ∧ ∀ b o, b < W.heap.size → w'.cell? ⟨b, o, none⟩ = W.cell? ⟨b, o, none⟩)
    ((apply held_of; repeat (first | exact Below.refl _ _ | exact And.left (by assumption) | with_reducible apply below_drew | with_reducible apply below_alloc | (with_reducible refine below_on (by assumption) ?_))))
    (first
      | (go_at_call 31; with_reducible refine (show_any A _ h).mono ?_; rintro e w2 ⟨rfl, hb2⟩)
      | (go_at_call 32; with_reducible refine (decimal_any 4 p _ (by simpa using (show p < 100000 by omega)) (by omega) (by decide)).mono ?_; rintro e w2 ⟨rfl, hb2⟩))
  go_wp2
  go_ret
  exact ⟨rfl, below_on (And.left (by assumption)) hB⟩

end Go.Proofs.Ytkkifdmelajioaa
