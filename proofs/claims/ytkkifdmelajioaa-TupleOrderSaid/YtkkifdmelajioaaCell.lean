/- The contracts of package cell's functions there and Get, and of the reference's Put. Conditions: sizes of at most eight bytes, as the code asks. -/
import Derived.Test.YtkkifdmelajioaaRows
import Derived.WalkKit
import Derived.WalkSpells
import Derived.WalkLawsBesides
namespace Go.Proofs.Ytkkifdmelajioaa
open Go.RowKit

theorem ret_bool {a b : Bool} (h : a = b) : Ending.returned (.bool a) = Ending.returned (.bool b) := by rw [h]
theorem ret_int {k : IntKind} {a b : Int} (h : a = b) : Ending.returned (.int k a) = Ending.returned (.int k b) := by rw [h]

theorem below_next {B : Nat} {w w1 w2 : World} (h : Below B w w1) (h2 : Below w1.heap.size w1 w2) (hB : B ≤ w1.heap.size) : Below B w w2 :=
  h.trans (h2.mono hB)
theorem below_on {w w1 w2 : World} (h2 : Below w1.heap.size w1 w2) (h : Below w.heap.size w w1) : Below w.heap.size w w2 :=
  h.trans (h2.mono h.size)
theorem below_set {w w1 : World} (h : Below w.heap.size w w1) (o : Nat) (v : Value) : Below w.heap.size w (w1.setCell ⟨w.heap.size, o, none⟩ v) := h.setCell (Nat.le_refl _) v
theorem below_setb {w w1 : World} {b : Nat} (hb : w.heap.size ≤ b) (h : Below w.heap.size w w1) (o : Nat) (v : Value) : Below w.heap.size w (w1.setCell ⟨b, o, none⟩ v) := h.setCell hb v
theorem below_alloc {w w1 : World} (h : Below w.heap.size w w1) (o : Obj) : Below w.heap.size w (w1.alloc o) := h.alloc h.size o
theorem below_drew {w w1 : World} (h : Below w.heap.size w w1) : Below w.heap.size w w1.drew := h.drew
theorem bcell {W w1 : World} (hb : Below W.heap.size W w1) : (∀ b o, b < W.heap.size → w1.cell? ⟨b, o, none⟩ = W.cell? ⟨b, o, none⟩) ∧ (∀ b o, b < W.heap.size → w1.frozen? ⟨b, o, none⟩ = W.frozen? ⟨b, o, none⟩) :=
  ⟨fun b o h => hb.cell (p := ⟨b, o, none⟩) h, fun b o h => hb.frozen (p := ⟨b, o, none⟩) h⟩
theorem blk_lt {w : World} {g : Nat} {O : Obj} (h : w.heap[g]? = some O) : g < w.heap.size := (Array.getElem?_eq_some_iff.1 h).1
theorem blk_alloc {w : World} {g : Nat} {O : Obj} (h : w.heap[g]? = some O) (o : Obj) : (w.alloc o).heap[g]? = some O := (Below.heap_alloc w o g (blk_lt h)).trans h
theorem blk_below {w w1 : World} {g : Nat} {O : Obj} (hb : Below w.heap.size w w1) (h : w.heap[g]? = some O) : w1.heap[g]? = some O := (hb.block g (blk_lt h)).trans h
theorem blk_new (w : World) (o : Obj) : (w.alloc o).heap[w.heap.size]? = some o := by
  show (w.heap.push o)[w.heap.size]? = _
  simp
theorem blk_cell {w : World} {g : Nat} {cs : Array Value} {t : TypeId} {fr : Nat × Nat} (h : w.heap[g]? = some (.cells cs t fr)) (i : Nat) (v : Value) (hv : cs[i]? = some v) : w.cell? ⟨g, i, none⟩ = some v := by simp [World.cell?, h, hv]
theorem blk_free {w : World} {g : Nat} {cs : Array Value} {t : TypeId} (h : w.heap[g]? = some (.cells cs t (0, 0))) (i : Nat) : w.frozen? ⟨g, i, none⟩ = false := by simp [World.frozen?, h]
/-- What a region holds: what was there is as it was. -/
theorem held_of {W w : World} (H : Below W.heap.size W w) : Below W.heap.size W w ∧ ∀ b o, b < W.heap.size → w.cell? ⟨b, o, none⟩ = W.cell? ⟨b, o, none⟩ := ⟨H, (bcell H).1⟩
theorem wf_i64 {n : Int} (h : (Lit.int .i64 n).wf = true) : -9223372036854775808 ≤ n ∧ n ≤ 9223372036854775807 := by
  have hmin : IntKind.i64.min = -9223372036854775808 := rfl
  have hmax : IntKind.i64.max = 9223372036854775807 := rfl
  simp only [Lit.wf, Bool.and_eq_true, decide_eq_true_eq] at h
  omega
theorem wf_u64 {n : Int} (h : (Lit.int .u64 n).wf = true) : 0 ≤ n ∧ n < 18446744073709551616 := by
  have hmin : IntKind.u64.min = 0 := rfl
  have hmax : IntKind.u64.max = 18446744073709551615 := rfl
  simp only [Lit.wf, Bool.and_eq_true, decide_eq_true_eq] at h
  omega
theorem wf_u16 {n : Int} (h : (Lit.int .u16 n).wf = true) : 0 ≤ n ∧ n ≤ 65535 := by
  have hmin : IntKind.u16.min = 0 := rfl
  have hmax : IntKind.u16.max = 65535 := rfl
  simp only [Lit.wf, Bool.and_eq_true, decide_eq_true_eq] at h
  omega
theorem wf_u8 {n : Int} (h : (Lit.int .u8 n).wf = true) : 0 ≤ n ∧ n ≤ 255 := by
  have hmin : IntKind.u8.min = 0 := rfl
  have hmax : IntKind.u8.max = 255 := rfl
  simp only [Lit.wf, Bool.and_eq_true, decide_eq_true_eq] at h
  omega
theorem iv {k : IntKind} {a b : Int} (h : a = b) : Value.int k a = Value.int k b := by rw [h]
theorem bv {a b : Bool} (h : a = b) : Value.bool a = Value.bool b := by rw [h]
theorem ret_t2 {a b a' b' : Value} (h1 : a = a') (h2 : b = b') : Ending.returned (.tuple #[a, b]) = Ending.returned (.tuple #[a', b']) := by rw [h1, h2]
theorem ret_t3 {a b c a' b' c' : Value} (h1 : a = a') (h2 : b = b') (h3 : c = c') : Ending.returned (.tuple #[a, b, c]) = Ending.returned (.tuple #[a', b', c']) := by rw [h1, h2, h3]
theorem ret_t4 {a b c d a' b' c' d' : Value} (h1 : a = a') (h2 : b = b') (h3 : c = c') (h4 : d = d') : Ending.returned (.tuple #[a, b, c, d]) = Ending.returned (.tuple #[a', b', c', d']) := by rw [h1, h2, h3, h4]

/-- The number that bytes are, the first one the highest. -/
def be (l : List UInt8) : Nat := l.foldl (fun n b => n * 256 + b.toNat) 0
theorem be_snoc (l : List UInt8) (b : UInt8) : be (l ++ [b]) = be l * 256 + b.toNat := by
  unfold be; rw [List.foldl_append]; rfl
theorem be_acc (l : List UInt8) : ∀ n k : Nat, n < 256 ^ k → l.foldl (fun n b => n * 256 + b.toNat) n < 256 ^ (k + l.length) := by
  induction l with
  | nil => intro n k h; simpa using h
  | cons b l ih =>
    intro n k h
    have hb := b.toNat_lt
    have := ih (n * 256 + b.toNat) (k + 1) (by rw [Nat.pow_succ]; omega)
    rw [List.foldl_cons, List.length_cons, show k + (l.length + 1) = k + 1 + l.length from by omega]
    exact this
theorem be_lt (l : List UInt8) : be l < 256 ^ l.length := by
  have := be_acc l 0 0 (by decide)
  rw [Nat.zero_add] at this
  exact this

theorem drop_take_snoc (s : ByteArray) (a k : Nat) (h : a + k < s.size) : (s.data.toList.drop a).take (k + 1) = (s.data.toList.drop a).take k ++ [s[a + k]] := by
  rw [List.take_succ_eq_append_getElem (by simp; omega)]
  congr 2
  rw [List.getElem_drop]; rfl

theorem shl8_or (n b : Nat) (hn : n < 72057594037927936) (hb : b < 256) :
    bits .or .u64 (IntKind.u64.wrap ((n : Int) * 256)) (IntKind.u64.wrap (b : Int)) = ((n * 256 + b : Nat) : Int) := by
  have e1 : IntKind.u64.wrap ((n : Int) * 256) = ((n * 256 : Nat) : Int) := by simp only [IntKind.wrap_u64]; omega
  have e2 : IntKind.u64.wrap (b : Int) = ((b : Nat) : Int) := by simp only [IntKind.wrap_u64]; omega
  rw [e1, e2, u64_or_nat _ _ (by omega) (by omega)]
  congr 1
  rw [show n * 256 = n <<< 8 from by rw [Nat.shiftLeft_eq], Nat.shiftLeft_add_eq_or_of_lt (by simpa using hb)]

theorem be_small (l : List UInt8) (h : l.length ≤ 7) : be l < 72057594037927936 :=
  Nat.lt_of_lt_of_le (be_lt l) (by have := Nat.pow_le_pow_right (n := 256) (by decide) h; simpa using this)

set_option maxHeartbeats 400000 in
theorem there_yes (s : ByteArray) (at_ size : Int) (w : World) (hs : s.size ≤ 9223372036854775807) (h1 : 1 ≤ size) (h2 : size ≤ 8) (h3 : 0 ≤ at_) (h4 : at_ + size ≤ s.size) :
    Calls Try.prog 38 #[.string s, .int .i64 at_, .int .i64 size] w fun e w' => e = .returned (.bool true) ∧ w = w' := by
  go_enter Try.func38, Try.ntmps38
  go_wp2
  go_ret
  exact ⟨ret_bool (by simp; omega), rfl⟩

/-- The number that k bytes are from place a on. -/
def beAt (s : ByteArray) (a k : Nat) : Nat := be ((s.data.toList.drop a).take k)

set_option maxHeartbeats 400000 in
theorem get_yes (s : ByteArray) (a k : Nat) (w : World) (hs : s.size ≤ 9223372036854775807) (h1 : 1 ≤ k) (h2 : k ≤ 8) (h4 : a + k ≤ s.size) :
    Calls Try.prog 35 #[.string s, .int .i64 a, .int .i64 k] w fun e w' => e = .returned (.tuple #[.int .u64 (beAt s a k), .bool true]) ∧ w = w' := by
  go_enter Try.func35, Try.ntmps35
  go_wp2_with (go_at_call 38; refine (there_yes _ _ _ _ (by omega) (by omega) (by omega) (by omega) (by omega)).mono ?_; rintro e w' ⟨rfl, rfl⟩)
  go_loop [8, 16] (fun n i => ∃ j : Nat, j ≤ k ∧ i = .int .i64 j ∧ n = .int .u64 (be ((s.data.toList.drop a).take j))) (fun _ i => k - (intOf i).toNat)
  case atStart => exact ⟨0, Nat.zero_le _, rfl, rfl⟩
  case round =>
    obtain ⟨j, hj, rfl, rfl⟩ := hrel
    by_cases hlt : j < k
    · go_wp2
      go_round
      case rel =>
        have hb := s[a + j].toNat_lt
        exact ⟨j + 1, by omega, by go_num, by rw [shl8_or _ _ (be_small _ (by simp; omega)) hb, drop_take_snoc s a j (by omega), be_snoc]⟩
      case measure => simp [intOf]; omega
    · go_wp2
      obtain rfl : j = k := by omega
      go_ret2
      exact ⟨rfl, rfl⟩

end Go.Proofs.Ytkkifdmelajioaa
