/- The contracts of tuple's Right and Show of a pair. -/
import Derived.Test.YtkkifdmelajioaaTupleEnds
namespace Go.Proofs.Ytkkifdmelajioaa
open Go.RowKit

/-- Whether a pair can be. -/
def rightP (A : ByteArray) (p : Int) (B : ByteArray) (q : Int) : Bool :=
  decide (A.size = B.size) && endB A.size p && endB B.size q && (decide (A = B ∧ p = q) || lessV A p B q)
theorem rightP_size {A B : ByteArray} {p q : Int} (h : A.size ≠ B.size) : rightP A p B q = false := by unfold rightP; simp [h]
theorem rightP_low {A B : ByteArray} {p q : Int} (h : endB A.size p = false) : rightP A p B q = false := by unfold rightP; simp [h]
theorem rightP_high {A B : ByteArray} {p q : Int} (h : endB B.size q = false) : rightP A p B q = false := by unfold rightP; simp [h]
theorem rightP_same {A : ByteArray} {p : Int} (h : endB A.size p = true) : rightP A p A p = true := by unfold rightP; simp [h]
theorem rightP_less {A B : ByteArray} {p q : Int} (hs : A.size = B.size) (h : endB A.size p = true) (h2 : endB B.size q = true) (hne : ¬ (A = B ∧ p = q)) : rightP A p B q = lessV A p B q := by
  unfold rightP; rw [h, h2, decide_eq_true hs, decide_eq_false hne]; simp

set_option maxRecDepth 100000 in
set_option maxHeartbeats 2000000 in
theorem rightP_any (A : ByteArray) (p : Int) (B : ByteArray) (q : Int) (w : World) :
    Calls Try.prog 13 #[.agg #[.string A, .int .i64 p, .string B, .int .i64 q]] w fun e w' => e = .returned (.bool (rightP A p B q)) ∧ Below w.heap.size w w' := by
  have hB := below_alloc (Below.refl w.heap.size w) (.cells #[.string A, .int .i64 p, .string B, .int .i64 q] 35)
  have hK := Lib.hid (blk_new w (.cells #[.string A, .int .i64 p, .string B, .int .i64 q] 35))
  by_cases hs : A.size = B.size
  rotate_left
  · have hr := Lib.hid (rightP_size (p := p) (q := q) hs)
    have h1 : ((A.size : Int) == B.size) = false := by rw [beq_eq_false_iff_ne]; omega
    go_enter Try.func13, Try.ntmps13
    go_wp2
    go_ret
    rw [hr.out]
    exact ⟨rfl, hB⟩
  have h1 : ((A.size : Int) == B.size) = true := by rw [beq_iff_eq]; omega
  cases he1 : endB A.size p
  · have hr := Lib.hid (rightP_low (B := B) (q := q) he1)
    go_enter Try.func13, Try.ntmps13
    go_wp2_with (go_at_call 21; with_reducible refine (endRight_any A p _).mono ?_; rw [he1]; rintro e w1 ⟨rfl, hb1⟩; replace hB := below_on hb1 hB; replace hK := Lib.hid (blk_below hb1 hK.out); have lk := blk_lt hK.out; have k0 := blk_cell hK.out 0 _ rfl; have k1 := blk_cell hK.out 1 _ rfl; have k2 := blk_cell hK.out 2 _ rfl; have k3 := blk_cell hK.out 3 _ rfl)
    go_ret
    rw [hr.out]
    exact ⟨rfl, hB⟩
  cases he2 : endB B.size q
  · have hr := Lib.hid (rightP_high (A := A) (p := p) he2)
    have he2' : endB A.size q = false := by rw [hs]; exact he2
    go_enter Try.func13, Try.ntmps13
    go_wp2_with (first
      | (go_at_call 21; with_reducible refine (endRight_any A p _).mono ?_; rw [he1]; rintro e w1 ⟨rfl, hb1⟩; replace hB := below_on hb1 hB; replace hK := Lib.hid (blk_below hb1 hK.out); have lk := blk_lt hK.out; have k0 := blk_cell hK.out 0 _ rfl; have k1 := blk_cell hK.out 1 _ rfl; have k2 := blk_cell hK.out 2 _ rfl; have k3 := blk_cell hK.out 3 _ rfl)
      | (go_at_call 21; with_reducible refine (endRight_any B q _).mono ?_; rw [he2]; rintro e w1 ⟨rfl, hb1⟩; replace hB := below_on hb1 hB; replace hK := Lib.hid (blk_below hb1 hK.out); have lk := blk_lt hK.out; have k0 := blk_cell hK.out 0 _ rfl; have k1 := blk_cell hK.out 1 _ rfl; have k2 := blk_cell hK.out 2 _ rfl; have k3 := blk_cell hK.out 3 _ rfl)
      | (go_at_call 19; with_reducible refine (less_any A p B q _).mono ?_; rintro e w1 ⟨rfl, hb1⟩; replace hB := below_on hb1 hB; replace hK := Lib.hid (blk_below hb1 hK.out); have lk := blk_lt hK.out; have k0 := blk_cell hK.out 0 _ rfl; have k1 := blk_cell hK.out 1 _ rfl; have k2 := blk_cell hK.out 2 _ rfl; have k3 := blk_cell hK.out 3 _ rfl))
    go_ret
    rw [hr.out]
    exact ⟨rfl, hB⟩
  by_cases hab : A = B
  · subst hab
    by_cases hpq : p = q
    · subst hpq
      have hr := Lib.hid (rightP_same he1)
      clear hs h1
      go_enter Try.func13, Try.ntmps13
      go_wp2_with (go_at_call 21; with_reducible refine (endRight_any A p _).mono ?_; rw [he1]; rintro e w1 ⟨rfl, hb1⟩; replace hB := below_on hb1 hB; replace hK := Lib.hid (blk_below hb1 hK.out); have lk := blk_lt hK.out; have k0 := blk_cell hK.out 0 _ rfl; have k1 := blk_cell hK.out 1 _ rfl; have k2 := blk_cell hK.out 2 _ rfl; have k3 := blk_cell hK.out 3 _ rfl)
      go_ret
      rw [hr.out]
      exact ⟨rfl, hB⟩
    · have hr := Lib.hid (rightP_less rfl he1 he2 (fun h => hpq h.2))
      have h3 : (p == q) = false := beq_eq_false_iff_ne.2 hpq
      clear hs h1
      go_enter Try.func13, Try.ntmps13
      go_wp2_with (first
      | (go_at_call 21; with_reducible refine (endRight_any A p _).mono ?_; rw [he1]; rintro e w1 ⟨rfl, hb1⟩; replace hB := below_on hb1 hB; replace hK := Lib.hid (blk_below hb1 hK.out); have lk := blk_lt hK.out; have k0 := blk_cell hK.out 0 _ rfl; have k1 := blk_cell hK.out 1 _ rfl; have k2 := blk_cell hK.out 2 _ rfl; have k3 := blk_cell hK.out 3 _ rfl)
      | (go_at_call 21; with_reducible refine (endRight_any A q _).mono ?_; rw [he2]; rintro e w1 ⟨rfl, hb1⟩; replace hB := below_on hb1 hB; replace hK := Lib.hid (blk_below hb1 hK.out); have lk := blk_lt hK.out; have k0 := blk_cell hK.out 0 _ rfl; have k1 := blk_cell hK.out 1 _ rfl; have k2 := blk_cell hK.out 2 _ rfl; have k3 := blk_cell hK.out 3 _ rfl)
      | (go_at_call 19; with_reducible refine (less_any A p A q _).mono ?_; rintro e w1 ⟨rfl, hb1⟩; replace hB := below_on hb1 hB; replace hK := Lib.hid (blk_below hb1 hK.out); have lk := blk_lt hK.out; have k0 := blk_cell hK.out 0 _ rfl; have k1 := blk_cell hK.out 1 _ rfl; have k2 := blk_cell hK.out 2 _ rfl; have k3 := blk_cell hK.out 3 _ rfl))
      go_ret
      rw [hr.out]
      exact ⟨rfl, hB⟩
  · have hr := Lib.hid (rightP_less hs he1 he2 (fun h => hab h.1))
    have h2 : ¬ A.toList = B.toList := fun e => hab (ByteArray.ext (Array.ext' (by rw [← bytes_list, ← bytes_list]; exact e)))
    have h3 : (A.toList == B.toList) = false := beq_eq_false_iff_ne.2 h2
    go_enter Try.func13, Try.ntmps13
    go_wp2_with (first
      | (go_at_call 21; with_reducible refine (endRight_any A p _).mono ?_; rw [he1]; rintro e w1 ⟨rfl, hb1⟩; replace hB := below_on hb1 hB; replace hK := Lib.hid (blk_below hb1 hK.out); have lk := blk_lt hK.out; have k0 := blk_cell hK.out 0 _ rfl; have k1 := blk_cell hK.out 1 _ rfl; have k2 := blk_cell hK.out 2 _ rfl; have k3 := blk_cell hK.out 3 _ rfl)
      | (go_at_call 21; with_reducible refine (endRight_any B q _).mono ?_; rw [he2]; rintro e w1 ⟨rfl, hb1⟩; replace hB := below_on hb1 hB; replace hK := Lib.hid (blk_below hb1 hK.out); have lk := blk_lt hK.out; have k0 := blk_cell hK.out 0 _ rfl; have k1 := blk_cell hK.out 1 _ rfl; have k2 := blk_cell hK.out 2 _ rfl; have k3 := blk_cell hK.out 3 _ rfl)
      | (go_at_call 19; with_reducible refine (less_any A p B q _).mono ?_; rintro e w1 ⟨rfl, hb1⟩; replace hB := below_on hb1 hB; replace hK := Lib.hid (blk_below hb1 hK.out); have lk := blk_lt hK.out; have k0 := blk_cell hK.out 0 _ rfl; have k1 := blk_cell hK.out 1 _ rfl; have k2 := blk_cell hK.out 2 _ rfl; have k3 := blk_cell hK.out 3 _ rfl))
    go_ret
    rw [hr.out]
    exact ⟨rfl, hB⟩

end Go.Proofs.Ytkkifdmelajioaa
