/- TupleOrder: of ends one stands ahead of the other. -/
import Derived.Test.YtkkifdmelajioaaTupleLaws
namespace Go.Proofs.Ytkkifdmelajioaa
open Go.RowKit

theorem bl_cons (a b : UInt8) (x y : List UInt8) : Op.bytesLess (a :: x) (b :: y) = true ↔ a.toNat < b.toNat ∨ (a = b ∧ Op.bytesLess x y = true) := by
  simp [Op.bytesLess, UInt8.lt_iff_toNat_lt]
theorem bl_nil (x : List UInt8) : Op.bytesLess x [] = false := by cases x <;> rfl
theorem bl_irrefl : ∀ x : List UInt8, ¬ Op.bytesLess x x = true
  | [] => by simp [Op.bytesLess]
  | a :: x => by
    rw [bl_cons]
    have := bl_irrefl x
    rintro (h | ⟨-, h⟩)
    · omega
    · exact this h
theorem bl_trans : ∀ x y z : List UInt8, Op.bytesLess x y = true → Op.bytesLess y z = true → Op.bytesLess x z = true
  | x, [], z, h, _ => by rw [bl_nil] at h; cases h
  | x, b :: y, [], _, h => by rw [bl_nil] at h; cases h
  | [], b :: y, c :: z, _, _ => rfl
  | a :: x, b :: y, c :: z, h1, h2 => by
    rw [bl_cons] at h1 h2 ⊢
    rcases h1 with h1 | ⟨rfl, h1⟩ <;> rcases h2 with h2 | ⟨rfl, h2⟩
    · left; omega
    · left; exact h1
    · left; exact h2
    · right; exact ⟨rfl, bl_trans x y z h1 h2⟩
theorem bl_tri : ∀ x y : List UInt8, Op.bytesLess x y = true ∨ x = y ∨ Op.bytesLess y x = true
  | [], [] => Or.inr (Or.inl rfl)
  | [], b :: y => Or.inl rfl
  | a :: x, [] => Or.inr (Or.inr rfl)
  | a :: x, b :: y => by
    rw [bl_cons, bl_cons]
    by_cases h : a = b
    · subst h
      rcases bl_tri x y with h | h | h
      · exact Or.inl (Or.inr ⟨rfl, h⟩)
      · exact Or.inr (Or.inl (by rw [h]))
      · exact Or.inr (Or.inr (Or.inr ⟨rfl, h⟩))
    · have hn : a.toNat ≠ b.toNat := fun e => h (UInt8.toNat_inj.1 e)
      by_cases hl : a.toNat < b.toNat
      · exact Or.inl (Or.inl hl)
      · exact Or.inr (Or.inr (Or.inl (by omega)))
theorem list_inj {A B : ByteArray} (h : A.data.toList = B.data.toList) : A = B := ByteArray.ext (Array.ext' h)
theorem lessV_iff (A : ByteArray) (p : Int) (B : ByteArray) (q : Int) : lessV A p B q = true ↔ A.size < B.size ∨ (A.size = B.size ∧ Op.bytesLess A.data.toList B.data.toList = true) ∨ (A = B ∧ p < q) := by
  by_cases hs : A.size = B.size
  · by_cases hab : A = B
    · subst hab
      rw [lessV_port, decide_eq_true_eq]
      have := bl_irrefl A.data.toList
      constructor
      · intro h; exact Or.inr (Or.inr ⟨rfl, h⟩)
      · rintro (h | ⟨-, h⟩ | ⟨-, h⟩)
        · omega
        · exact absurd h this
        · exact h
    · rw [lessV_bytes hs hab]
      constructor
      · intro h; exact Or.inr (Or.inl ⟨hs, h⟩)
      · rintro (h | ⟨-, h⟩ | ⟨h, -⟩)
        · omega
        · exact h
        · exact absurd h hab
  · rw [lessV_size hs, decide_eq_true_eq]
    constructor
    · intro h; exact Or.inl h
    · rintro (h | ⟨h, -⟩ | ⟨h, -⟩)
      · exact h
      · exact absurd h hs
      · exact absurd (by rw [h]) hs
theorem lessV_irrefl (A : ByteArray) (p : Int) : lessV A p A p = false := by
  rw [lessV_port]; simp
theorem lessV_trans {A B C : ByteArray} {p q r : Int} (h1 : lessV A p B q = true) (h2 : lessV B q C r = true) : lessV A p C r = true := by
  rw [lessV_iff] at h1 h2 ⊢
  rcases h1 with h1 | ⟨e1, h1⟩ | ⟨rfl, h1⟩ <;> rcases h2 with h2 | ⟨e2, h2⟩ | ⟨rfl, h2⟩
  · left; omega
  · left; omega
  · left; omega
  · left; omega
  · right; left; exact ⟨by omega, bl_trans _ _ _ h1 h2⟩
  · right; left; exact ⟨e1, h1⟩
  · left; omega
  · right; left; exact ⟨e2, h2⟩
  · right; right; exact ⟨rfl, by omega⟩
theorem lessV_asymm {A B : ByteArray} {p q : Int} (h : lessV A p B q = true) : lessV B q A p = false := by
  cases h2 : lessV B q A p
  · rfl
  · have := lessV_trans h h2
    rw [lessV_irrefl] at this
    cases this
theorem lessV_same {A B : ByteArray} {p q : Int} (h1 : lessV A p B q = false) (h2 : lessV B q A p = false) : A = B ∧ p = q := by
  have n1 : ¬ lessV A p B q = true := by rw [h1]; simp
  have n2 : ¬ lessV B q A p = true := by rw [h2]; simp
  rw [lessV_iff] at n1 n2
  have hs : A.size = B.size := by
    by_cases h : A.size = B.size
    · exact h
    · exfalso
      by_cases hl : A.size < B.size
      · exact n1 (Or.inl hl)
      · exact n2 (Or.inl (by omega))
  rcases bl_tri A.data.toList B.data.toList with h | h | h
  · exact absurd (Or.inr (Or.inl ⟨hs, h⟩)) n1
  · have e := list_inj h
    refine ⟨e, ?_⟩
    by_cases hp : p = q
    · exact hp
    · exfalso
      by_cases hl : p < q
      · exact n1 (Or.inr (Or.inr ⟨e, hl⟩))
      · exact n2 (Or.inr (Or.inr ⟨e.symm, by omega⟩))
  · exact absurd (Or.inr (Or.inl ⟨hs.symm, h⟩)) n2

set_option maxRecDepth 100000 in
set_option maxHeartbeats 2000000 in
theorem tupleOrder_big (A : ByteArray) (p : Int) (B : ByteArray) (q : Int) (C : ByteArray) (r : Int) (w : World) (wA : A.size ≤ 9223372036854775807) (wB : B.size ≤ 9223372036854775807) (wC : C.size ≤ 9223372036854775807) (hc : 100 < A.size ∨ 100 < B.size ∨ 100 < C.size) :
    Calls Try.prog 5 #[.agg #[.string A, .int .i64 p], .agg #[.string B, .int .i64 q], .agg #[.string C, .int .i64 r]] w fun e w' => e = .returned (.bool true) ∧ Below w.heap.size w w' := by
  have hB := below_alloc (below_alloc (below_alloc (Below.refl w.heap.size w) (.cells #[.string A, .int .i64 p] 33)) (.cells #[.string B, .int .i64 q] 33)) (.cells #[.string C, .int .i64 r] 33)
  by_cases h1 : 100 < A.size
  all_goals
    by_cases h2 : 100 < B.size
  all_goals
    by_cases h3 : 100 < C.size
  all_goals first
    | (exfalso; omega)
    | (go_enter Try.func5, Try.ntmps5
       go_wp2_with (go_at_call 9; refine (tupKnown_any _).mono ?_; rintro e w1 ⟨rfl, hb1⟩; replace hB := below_on hb1 hB)
       go_ret
       exact ⟨rfl, hB⟩)

set_option maxRecDepth 100000 in
set_option maxHeartbeats 4000000 in
theorem tupleOrder_less (A : ByteArray) (p : Int) (B : ByteArray) (q : Int) (C : ByteArray) (r : Int) (w : World) (hA : ¬ 100 < A.size) (hB' : ¬ 100 < B.size) (hC : ¬ 100 < C.size) (hx : lessV A p B q = true) (hz : lessV B q C r = true) :
    Calls Try.prog 5 #[.agg #[.string A, .int .i64 p], .agg #[.string B, .int .i64 q], .agg #[.string C, .int .i64 r]] w fun e w' => e = .returned (.bool true) ∧ Below w.heap.size w w' := by
  have hB := below_alloc (below_alloc (below_alloc (Below.refl w.heap.size w) (.cells #[.string A, .int .i64 p] 33)) (.cells #[.string B, .int .i64 q] 33)) (.cells #[.string C, .int .i64 r] 33)
  have hK := Lib.hid (blk_alloc (blk_alloc (blk_new w (.cells #[.string A, .int .i64 p] 33)) (.cells #[.string B, .int .i64 q] 33)) (.cells #[.string C, .int .i64 r] 33))
  have hL := Lib.hid (blk_alloc (blk_new (w.alloc (.cells #[.string A, .int .i64 p] 33)) (.cells #[.string B, .int .i64 q] 33)) (.cells #[.string C, .int .i64 r] 33))
  have hM := Lib.hid (blk_new ((w.alloc (.cells #[.string A, .int .i64 p] 33)).alloc (.cells #[.string B, .int .i64 q] 33)) (.cells #[.string C, .int .i64 r] 33))
  have n1 : (w.alloc (.cells #[.string A, .int .i64 p] 33)).heap.size = w.heap.size + 1 := by simp
  have n2 : ((w.alloc (.cells #[.string A, .int .i64 p] 33)).alloc (.cells #[.string B, .int .i64 q] 33)).heap.size = w.heap.size + 1 + 1 := by simp
  rw [n1] at hL
  rw [n2] at hM
  clear n1 n2
  have hs := lessV_irrefl A p
  have hy := lessV_asymm hx
  have hu := lessV_trans hx hz
  go_enter Try.func5, Try.ntmps5
  go_wp2_with (first
    | (go_at_call 19; with_reducible refine (less_any A p B q _).mono ?_; rw [hx]; rintro e w1 ⟨rfl, hb1⟩; replace hB := below_on hb1 hB; replace hK := Lib.hid (blk_below hb1 hK.out); replace hL := Lib.hid (blk_below hb1 hL.out); replace hM := Lib.hid (blk_below hb1 hM.out); have lk := blk_lt hK.out; have k0 := blk_cell hK.out 0 _ rfl; have k1 := blk_cell hK.out 1 _ rfl; have ll := blk_lt hL.out; have l0 := blk_cell hL.out 0 _ rfl; have l1 := blk_cell hL.out 1 _ rfl; have lm := blk_lt hM.out; have m0 := blk_cell hM.out 0 _ rfl; have m1 := blk_cell hM.out 1 _ rfl)
    | (go_at_call 19; with_reducible refine (less_any B q A p _).mono ?_; rw [hy]; rintro e w1 ⟨rfl, hb1⟩; replace hB := below_on hb1 hB; replace hK := Lib.hid (blk_below hb1 hK.out); replace hL := Lib.hid (blk_below hb1 hL.out); replace hM := Lib.hid (blk_below hb1 hM.out); have lk := blk_lt hK.out; have k0 := blk_cell hK.out 0 _ rfl; have k1 := blk_cell hK.out 1 _ rfl; have ll := blk_lt hL.out; have l0 := blk_cell hL.out 0 _ rfl; have l1 := blk_cell hL.out 1 _ rfl; have lm := blk_lt hM.out; have m0 := blk_cell hM.out 0 _ rfl; have m1 := blk_cell hM.out 1 _ rfl)
    | (go_at_call 19; with_reducible refine (less_any B q C r _).mono ?_; rw [hz]; rintro e w1 ⟨rfl, hb1⟩; replace hB := below_on hb1 hB; replace hK := Lib.hid (blk_below hb1 hK.out); replace hL := Lib.hid (blk_below hb1 hL.out); replace hM := Lib.hid (blk_below hb1 hM.out); have lk := blk_lt hK.out; have k0 := blk_cell hK.out 0 _ rfl; have k1 := blk_cell hK.out 1 _ rfl; have ll := blk_lt hL.out; have l0 := blk_cell hL.out 0 _ rfl; have l1 := blk_cell hL.out 1 _ rfl; have lm := blk_lt hM.out; have m0 := blk_cell hM.out 0 _ rfl; have m1 := blk_cell hM.out 1 _ rfl)
    | (go_at_call 19; with_reducible refine (less_any A p C r _).mono ?_; rw [hu]; rintro e w1 ⟨rfl, hb1⟩; replace hB := below_on hb1 hB; replace hK := Lib.hid (blk_below hb1 hK.out); replace hL := Lib.hid (blk_below hb1 hL.out); replace hM := Lib.hid (blk_below hb1 hM.out); have lk := blk_lt hK.out; have k0 := blk_cell hK.out 0 _ rfl; have k1 := blk_cell hK.out 1 _ rfl; have ll := blk_lt hL.out; have l0 := blk_cell hL.out 0 _ rfl; have l1 := blk_cell hL.out 1 _ rfl; have lm := blk_lt hM.out; have m0 := blk_cell hM.out 0 _ rfl; have m1 := blk_cell hM.out 1 _ rfl)
    | (go_at_call 19; with_reducible refine (less_any A p A p _).mono ?_; rw [hs]; rintro e w1 ⟨rfl, hb1⟩; replace hB := below_on hb1 hB; replace hK := Lib.hid (blk_below hb1 hK.out); replace hL := Lib.hid (blk_below hb1 hL.out); replace hM := Lib.hid (blk_below hb1 hM.out); have lk := blk_lt hK.out; have k0 := blk_cell hK.out 0 _ rfl; have k1 := blk_cell hK.out 1 _ rfl; have ll := blk_lt hL.out; have l0 := blk_cell hL.out 0 _ rfl; have l1 := blk_cell hL.out 1 _ rfl; have lm := blk_lt hM.out; have m0 := blk_cell hM.out 0 _ rfl; have m1 := blk_cell hM.out 1 _ rfl)
    | (go_at_call 9; refine (tupKnown_any _).mono ?_; rintro e w1 ⟨rfl, hb1⟩; replace hB := below_on hb1 hB))
  go_ret
  exact ⟨rfl, hB⟩

set_option maxRecDepth 100000 in
set_option maxHeartbeats 4000000 in
theorem tupleOrder_less2 (A : ByteArray) (p : Int) (B : ByteArray) (q : Int) (C : ByteArray) (r : Int) (w : World) (hA : ¬ 100 < A.size) (hB' : ¬ 100 < B.size) (hC : ¬ 100 < C.size) (hx : lessV A p B q = true) (hz : lessV B q C r = false) :
    Calls Try.prog 5 #[.agg #[.string A, .int .i64 p], .agg #[.string B, .int .i64 q], .agg #[.string C, .int .i64 r]] w fun e w' => e = .returned (.bool true) ∧ Below w.heap.size w w' := by
  have hB := below_alloc (below_alloc (below_alloc (Below.refl w.heap.size w) (.cells #[.string A, .int .i64 p] 33)) (.cells #[.string B, .int .i64 q] 33)) (.cells #[.string C, .int .i64 r] 33)
  have hK := Lib.hid (blk_alloc (blk_alloc (blk_new w (.cells #[.string A, .int .i64 p] 33)) (.cells #[.string B, .int .i64 q] 33)) (.cells #[.string C, .int .i64 r] 33))
  have hL := Lib.hid (blk_alloc (blk_new (w.alloc (.cells #[.string A, .int .i64 p] 33)) (.cells #[.string B, .int .i64 q] 33)) (.cells #[.string C, .int .i64 r] 33))
  have hM := Lib.hid (blk_new ((w.alloc (.cells #[.string A, .int .i64 p] 33)).alloc (.cells #[.string B, .int .i64 q] 33)) (.cells #[.string C, .int .i64 r] 33))
  have n1 : (w.alloc (.cells #[.string A, .int .i64 p] 33)).heap.size = w.heap.size + 1 := by simp
  have n2 : ((w.alloc (.cells #[.string A, .int .i64 p] 33)).alloc (.cells #[.string B, .int .i64 q] 33)).heap.size = w.heap.size + 1 + 1 := by simp
  rw [n1] at hL
  rw [n2] at hM
  clear n1 n2
  have hs := lessV_irrefl A p
  have hy := lessV_asymm hx
  go_enter Try.func5, Try.ntmps5
  go_wp2_with (first
    | (go_at_call 19; with_reducible refine (less_any A p B q _).mono ?_; rw [hx]; rintro e w1 ⟨rfl, hb1⟩; replace hB := below_on hb1 hB; replace hK := Lib.hid (blk_below hb1 hK.out); replace hL := Lib.hid (blk_below hb1 hL.out); replace hM := Lib.hid (blk_below hb1 hM.out); have lk := blk_lt hK.out; have k0 := blk_cell hK.out 0 _ rfl; have k1 := blk_cell hK.out 1 _ rfl; have ll := blk_lt hL.out; have l0 := blk_cell hL.out 0 _ rfl; have l1 := blk_cell hL.out 1 _ rfl; have lm := blk_lt hM.out; have m0 := blk_cell hM.out 0 _ rfl; have m1 := blk_cell hM.out 1 _ rfl)
    | (go_at_call 19; with_reducible refine (less_any B q A p _).mono ?_; rw [hy]; rintro e w1 ⟨rfl, hb1⟩; replace hB := below_on hb1 hB; replace hK := Lib.hid (blk_below hb1 hK.out); replace hL := Lib.hid (blk_below hb1 hL.out); replace hM := Lib.hid (blk_below hb1 hM.out); have lk := blk_lt hK.out; have k0 := blk_cell hK.out 0 _ rfl; have k1 := blk_cell hK.out 1 _ rfl; have ll := blk_lt hL.out; have l0 := blk_cell hL.out 0 _ rfl; have l1 := blk_cell hL.out 1 _ rfl; have lm := blk_lt hM.out; have m0 := blk_cell hM.out 0 _ rfl; have m1 := blk_cell hM.out 1 _ rfl)
    | (go_at_call 19; with_reducible refine (less_any B q C r _).mono ?_; rw [hz]; rintro e w1 ⟨rfl, hb1⟩; replace hB := below_on hb1 hB; replace hK := Lib.hid (blk_below hb1 hK.out); replace hL := Lib.hid (blk_below hb1 hL.out); replace hM := Lib.hid (blk_below hb1 hM.out); have lk := blk_lt hK.out; have k0 := blk_cell hK.out 0 _ rfl; have k1 := blk_cell hK.out 1 _ rfl; have ll := blk_lt hL.out; have l0 := blk_cell hL.out 0 _ rfl; have l1 := blk_cell hL.out 1 _ rfl; have lm := blk_lt hM.out; have m0 := blk_cell hM.out 0 _ rfl; have m1 := blk_cell hM.out 1 _ rfl)
    | (go_at_call 19; with_reducible refine (less_any A p A p _).mono ?_; rw [hs]; rintro e w1 ⟨rfl, hb1⟩; replace hB := below_on hb1 hB; replace hK := Lib.hid (blk_below hb1 hK.out); replace hL := Lib.hid (blk_below hb1 hL.out); replace hM := Lib.hid (blk_below hb1 hM.out); have lk := blk_lt hK.out; have k0 := blk_cell hK.out 0 _ rfl; have k1 := blk_cell hK.out 1 _ rfl; have ll := blk_lt hL.out; have l0 := blk_cell hL.out 0 _ rfl; have l1 := blk_cell hL.out 1 _ rfl; have lm := blk_lt hM.out; have m0 := blk_cell hM.out 0 _ rfl; have m1 := blk_cell hM.out 1 _ rfl)
    | (go_at_call 9; refine (tupKnown_any _).mono ?_; rintro e w1 ⟨rfl, hb1⟩; replace hB := below_on hb1 hB))
  go_ret
  exact ⟨rfl, hB⟩

set_option maxRecDepth 100000 in
set_option maxHeartbeats 4000000 in
theorem tupleOrder_more (A : ByteArray) (p : Int) (B : ByteArray) (q : Int) (C : ByteArray) (r : Int) (w : World) (hA : ¬ 100 < A.size) (hB' : ¬ 100 < B.size) (hC : ¬ 100 < C.size) (hx : lessV A p B q = false) (hy : lessV B q A p = true) :
    Calls Try.prog 5 #[.agg #[.string A, .int .i64 p], .agg #[.string B, .int .i64 q], .agg #[.string C, .int .i64 r]] w fun e w' => e = .returned (.bool true) ∧ Below w.heap.size w w' := by
  have hB := below_alloc (below_alloc (below_alloc (Below.refl w.heap.size w) (.cells #[.string A, .int .i64 p] 33)) (.cells #[.string B, .int .i64 q] 33)) (.cells #[.string C, .int .i64 r] 33)
  have hK := Lib.hid (blk_alloc (blk_alloc (blk_new w (.cells #[.string A, .int .i64 p] 33)) (.cells #[.string B, .int .i64 q] 33)) (.cells #[.string C, .int .i64 r] 33))
  have hL := Lib.hid (blk_alloc (blk_new (w.alloc (.cells #[.string A, .int .i64 p] 33)) (.cells #[.string B, .int .i64 q] 33)) (.cells #[.string C, .int .i64 r] 33))
  have hM := Lib.hid (blk_new ((w.alloc (.cells #[.string A, .int .i64 p] 33)).alloc (.cells #[.string B, .int .i64 q] 33)) (.cells #[.string C, .int .i64 r] 33))
  have n1 : (w.alloc (.cells #[.string A, .int .i64 p] 33)).heap.size = w.heap.size + 1 := by simp
  have n2 : ((w.alloc (.cells #[.string A, .int .i64 p] 33)).alloc (.cells #[.string B, .int .i64 q] 33)).heap.size = w.heap.size + 1 + 1 := by simp
  rw [n1] at hL
  rw [n2] at hM
  clear n1 n2
  have hs := lessV_irrefl A p
  go_enter Try.func5, Try.ntmps5
  go_wp2_with (first
    | (go_at_call 19; with_reducible refine (less_any A p B q _).mono ?_; rw [hx]; rintro e w1 ⟨rfl, hb1⟩; replace hB := below_on hb1 hB; replace hK := Lib.hid (blk_below hb1 hK.out); replace hL := Lib.hid (blk_below hb1 hL.out); replace hM := Lib.hid (blk_below hb1 hM.out); have lk := blk_lt hK.out; have k0 := blk_cell hK.out 0 _ rfl; have k1 := blk_cell hK.out 1 _ rfl; have ll := blk_lt hL.out; have l0 := blk_cell hL.out 0 _ rfl; have l1 := blk_cell hL.out 1 _ rfl; have lm := blk_lt hM.out; have m0 := blk_cell hM.out 0 _ rfl; have m1 := blk_cell hM.out 1 _ rfl)
    | (go_at_call 19; with_reducible refine (less_any B q A p _).mono ?_; rw [hy]; rintro e w1 ⟨rfl, hb1⟩; replace hB := below_on hb1 hB; replace hK := Lib.hid (blk_below hb1 hK.out); replace hL := Lib.hid (blk_below hb1 hL.out); replace hM := Lib.hid (blk_below hb1 hM.out); have lk := blk_lt hK.out; have k0 := blk_cell hK.out 0 _ rfl; have k1 := blk_cell hK.out 1 _ rfl; have ll := blk_lt hL.out; have l0 := blk_cell hL.out 0 _ rfl; have l1 := blk_cell hL.out 1 _ rfl; have lm := blk_lt hM.out; have m0 := blk_cell hM.out 0 _ rfl; have m1 := blk_cell hM.out 1 _ rfl)
    | (go_at_call 19; with_reducible refine (less_any A p A p _).mono ?_; rw [hs]; rintro e w1 ⟨rfl, hb1⟩; replace hB := below_on hb1 hB; replace hK := Lib.hid (blk_below hb1 hK.out); replace hL := Lib.hid (blk_below hb1 hL.out); replace hM := Lib.hid (blk_below hb1 hM.out); have lk := blk_lt hK.out; have k0 := blk_cell hK.out 0 _ rfl; have k1 := blk_cell hK.out 1 _ rfl; have ll := blk_lt hL.out; have l0 := blk_cell hL.out 0 _ rfl; have l1 := blk_cell hL.out 1 _ rfl; have lm := blk_lt hM.out; have m0 := blk_cell hM.out 0 _ rfl; have m1 := blk_cell hM.out 1 _ rfl)
    | (go_at_call 9; refine (tupKnown_any _).mono ?_; rintro e w1 ⟨rfl, hb1⟩; replace hB := below_on hb1 hB))
  go_ret
  exact ⟨rfl, hB⟩

set_option maxRecDepth 100000 in
set_option maxHeartbeats 4000000 in
theorem tupleOrder_same (A : ByteArray) (p : Int) (C : ByteArray) (r : Int) (w : World) (hA : ¬ 100 < A.size) (hC : ¬ 100 < C.size)  :
    Calls Try.prog 5 #[.agg #[.string A, .int .i64 p], .agg #[.string A, .int .i64 p], .agg #[.string C, .int .i64 r]] w fun e w' => e = .returned (.bool true) ∧ Below w.heap.size w w' := by
  have hB := below_alloc (below_alloc (below_alloc (Below.refl w.heap.size w) (.cells #[.string A, .int .i64 p] 33)) (.cells #[.string A, .int .i64 p] 33)) (.cells #[.string C, .int .i64 r] 33)
  have hK := Lib.hid (blk_alloc (blk_alloc (blk_new w (.cells #[.string A, .int .i64 p] 33)) (.cells #[.string A, .int .i64 p] 33)) (.cells #[.string C, .int .i64 r] 33))
  have hL := Lib.hid (blk_alloc (blk_new (w.alloc (.cells #[.string A, .int .i64 p] 33)) (.cells #[.string A, .int .i64 p] 33)) (.cells #[.string C, .int .i64 r] 33))
  have hM := Lib.hid (blk_new ((w.alloc (.cells #[.string A, .int .i64 p] 33)).alloc (.cells #[.string A, .int .i64 p] 33)) (.cells #[.string C, .int .i64 r] 33))
  have n1 : (w.alloc (.cells #[.string A, .int .i64 p] 33)).heap.size = w.heap.size + 1 := by simp
  have n2 : ((w.alloc (.cells #[.string A, .int .i64 p] 33)).alloc (.cells #[.string A, .int .i64 p] 33)).heap.size = w.heap.size + 1 + 1 := by simp
  rw [n1] at hL
  rw [n2] at hM
  clear n1 n2
  have hs := lessV_irrefl A p
  go_enter Try.func5, Try.ntmps5
  go_wp2_with (first
    | (go_at_call 19; with_reducible refine (less_any A p A p _).mono ?_; rw [hs]; rintro e w1 ⟨rfl, hb1⟩; replace hB := below_on hb1 hB; replace hK := Lib.hid (blk_below hb1 hK.out); replace hL := Lib.hid (blk_below hb1 hL.out); replace hM := Lib.hid (blk_below hb1 hM.out); have lk := blk_lt hK.out; have k0 := blk_cell hK.out 0 _ rfl; have k1 := blk_cell hK.out 1 _ rfl; have ll := blk_lt hL.out; have l0 := blk_cell hL.out 0 _ rfl; have l1 := blk_cell hL.out 1 _ rfl; have lm := blk_lt hM.out; have m0 := blk_cell hM.out 0 _ rfl; have m1 := blk_cell hM.out 1 _ rfl)
    | (go_at_call 9; refine (tupKnown_any _).mono ?_; rintro e w1 ⟨rfl, hb1⟩; replace hB := below_on hb1 hB))
  go_ret
  exact ⟨rfl, hB⟩

theorem tupleOrder_walk (A : ByteArray) (p : Int) (B : ByteArray) (q : Int) (C : ByteArray) (r : Int) (w : World) (wA : A.size ≤ maxLen) (wp : (Lit.int .i64 p).wf = true) (wB : B.size ≤ maxLen) (wq : (Lit.int .i64 q).wf = true) (wC : C.size ≤ maxLen) (wr : (Lit.int .i64 r).wf = true) :
    Calls Try.prog 5 #[.agg #[.string A, .int .i64 p], .agg #[.string B, .int .i64 q], .agg #[.string C, .int .i64 r]] w fun e w' => e = .returned (.bool true) ∧ Below w.heap.size w w' := by
  unfold maxLen at wA wB wC
  by_cases hc : 100 < A.size ∨ 100 < B.size ∨ 100 < C.size
  · exact tupleOrder_big A p B q C r w (by omega) (by omega) (by omega) hc
  have h1 : ¬ 100 < A.size := by omega
  have h2 : ¬ 100 < B.size := by omega
  have h3 : ¬ 100 < C.size := by omega
  cases hx : lessV A p B q
  · cases hy : lessV B q A p
    · obtain ⟨rfl, rfl⟩ := lessV_same hx hy
      exact tupleOrder_same A p C r w h1 h3
    · exact tupleOrder_more A p B q C r w h1 h2 h3 hx hy
  · cases hz : lessV B q C r
    · exact tupleOrder_less2 A p B q C r w h1 h2 h3 hx hz
    · exact tupleOrder_less A p B q C r w h1 h2 h3 hx hz

end Go.Proofs.Ytkkifdmelajioaa
