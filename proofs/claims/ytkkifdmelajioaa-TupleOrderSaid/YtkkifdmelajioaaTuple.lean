/- The contracts of tuple's Less and of the reference's. -/
import Derived.Lib.IndexBytes
import Derived.Test.YtkkifdmelajioaaCellPut
import Derived.Deep.RegionHeld3
import Derived.BigQuiet
import Derived.Deep.QuietTactic
namespace Go.Proofs.Ytkkifdmelajioaa
open Go.RowKit

/-- Whether an end stands ahead of another one. -/
def lessV (A : ByteArray) (p : Int) (B : ByteArray) (q : Int) : Bool :=
  if A.size ≠ B.size then decide (A.size < B.size) else if A ≠ B then Op.bytesLess A.data.toList B.data.toList else decide (p < q)
theorem lessV_size {A B : ByteArray} {p q : Int} (h : A.size ≠ B.size) : lessV A p B q = decide (A.size < B.size) := by unfold lessV; rw [if_pos h]
theorem lessV_bytes {A B : ByteArray} {p q : Int} (h : A.size = B.size) (h2 : A ≠ B) : lessV A p B q = Op.bytesLess A.data.toList B.data.toList := by unfold lessV; rw [if_neg (fun k => k h), if_pos h2]
theorem lessV_port {A : ByteArray} {p q : Int} : lessV A p A q = decide (p < q) := by unfold lessV; rw [if_neg (fun k => k rfl), if_neg (fun k => k rfl)]
theorem below_dn {B : Nat} {a w : World} (h : Below B a w) (q : Nat) : Below B a (w.drewN q) := ⟨h.os, h.tape, h.output, h.size, h.block⟩
theorem bytes_list (s : ByteArray) : s.toList = s.data.toList := ByteArray.toList_eq s
theorem bytes_ne {A B : ByteArray} (h : A ≠ B) : (A.data.toList == B.data.toList) = false := by
  rw [beq_eq_false_iff_ne]
  intro e; exact h (ByteArray.ext (Array.ext' e))
theorem bytesLess_at : ∀ (u x y : List UInt8) (a b : UInt8), a ≠ b → Op.bytesLess (u ++ a :: x) (u ++ b :: y) = decide (a < b)
  | [], x, y, a, b, h => by
    simp [Op.bytesLess, h]
  | c :: u, x, y, a, b, h => by
    have := bytesLess_at u x y a b h
    simp [Op.bytesLess, this]
theorem less_at (A B : ByteArray) (i : Nat) (h1 : i < A.size) (h2 : i < B.size) (ht : A.data.toList.take i = B.data.toList.take i) (hne : A[i] ≠ B[i]) : Op.bytesLess A.data.toList B.data.toList = decide (A[i] < B[i]) ∧ A ≠ B := by
  have e : ∀ (s : ByteArray) (h : i < s.size), s.data.toList = s.data.toList.take i ++ s[i] :: s.data.toList.drop (i + 1) := by
    intro s h
    have h' : i < s.data.toList.length := h
    have : s.data.toList.drop i = s[i] :: s.data.toList.drop (i + 1) := by rw [List.drop_eq_getElem_cons h']; rfl
    rw [← this, List.take_append_drop]
  constructor
  · rw [e A h1, e B h2, ← ht]
    exact bytesLess_at _ _ _ _ _ hne
  · rintro rfl; exact hne rfl
theorem same_all (A B : ByteArray) (h : A.size = B.size) (ht : A.data.toList.take A.size = B.data.toList.take A.size) : A = B := by
  have h1 : A.data.toList.length = A.size := rfl
  have h2 : B.data.toList.length = B.size := rfl
  rw [List.take_of_length_le (by omega), List.take_of_length_le (by omega)] at ht
  exact ByteArray.ext (Array.ext' ht)

set_option maxHeartbeats 1000000 in
theorem less_any (A : ByteArray) (p : Int) (B : ByteArray) (q : Int) (w : World) :
    Calls Try.prog 19 #[.agg #[.string A, .int .i64 p], .agg #[.string B, .int .i64 q]] w fun e w' => e = .returned (.bool (lessV A p B q)) ∧ Below w.heap.size w w' := by
  have hB := Below.refl w.heap.size w
  by_cases hs : A.size = B.size
  · by_cases hab : A = B
    · subst hab
      go_enter Try.func19, Try.ntmps19
      go_wp2
      go_ret
      exact ⟨ret_bool lessV_port.symm, below_alloc (below_alloc hB _) _⟩
    · have h1 : ¬ A.toList = B.toList := fun e => hab (ByteArray.ext (Array.ext' (by rw [← bytes_list, ← bytes_list]; exact e)))
      have h2 : (A.toList == B.toList) = false := beq_eq_false_iff_ne.2 h1
      have h3 : ((A.size : Int) != B.size) = false := by rw [bne_eq_false_iff_eq]; omega
      go_enter Try.func19, Try.ntmps19
      go_wp2
      go_ret
      refine ⟨ret_bool ?_, below_alloc (below_alloc hB _) _⟩
      rw [lessV_bytes hs hab, bytes_list, bytes_list]
  · have h3 : ((A.size : Int) != B.size) = true := by rw [bne_iff_ne]; omega
    go_enter Try.func19, Try.ntmps19
    go_wp2
    go_ret
    refine ⟨ret_bool ?_, below_alloc (below_alloc hB _) _⟩
    rw [lessV_size hs]


set_option maxHeartbeats 2000000 in
theorem refLess_any (A : ByteArray) (p : Int) (B : ByteArray) (q : Int) (w : World) (hA : A.size ≤ 9223372036854775807) (hB' : B.size ≤ 9223372036854775807) :
    Calls Try.prog 20 #[.agg #[.string A, .int .i64 p], .agg #[.string B, .int .i64 q]] w fun e w' => e = .returned (.bool (lessV A p B q)) ∧ Below w.heap.size w w' := by
  have hB := Below.refl w.heap.size w
  by_cases hne : A.size = B.size
  · go_enter Try.func20, Try.ntmps20
    go_wp2
    go_loopw [5] (fun i wr => ∃ j : Nat, j ≤ A.size ∧ i = .int .i64 j ∧ Hid (A.data.toList.take j = B.data.toList.take j) ∧ wr.cell? ⟨w.heap.size, 0, none⟩ = some (.string A) ∧ wr.cell? ⟨w.heap.size, 1, none⟩ = some (.int .i64 p) ∧ wr.cell? ⟨w.heap.size + 1, 0, none⟩ = some (.string B) ∧ wr.cell? ⟨w.heap.size + 1, 1, none⟩ = some (.int .i64 q) ∧ Below w.heap.size w wr) (fun i _ => A.size - (intOf i).toNat)
    case atStart => exact ⟨0, Nat.zero_le _, rfl, Lib.hid rfl, by simp, by simp, by simp, by simp, below_alloc (below_alloc hB _) _⟩
    case round =>
      obtain ⟨j, hj, rfl, HT, c0, c1, c2, c3, hb⟩ := hrel
      by_cases hlt : j < A.size
      · have hlt2 : j < B.size := by omega
        have x1 : (j : Int) < A.size := by omega
        have x2 : (j : Int) < B.size := by omega
        have r1 : IntKind.i64.wrap ((j : Int) + 1) = j + 1 := IntWalk.i64_in _ (by omega)
        by_cases hab : A[j] = B[j]
        · have hn : A[j].toNat = B[j].toNat := by rw [hab]
          have ht : A.data.toList.take (j + 1) = B.data.toList.take (j + 1) := by
            rw [List.take_succ_eq_append_getElem (by simpa using hlt), List.take_succ_eq_append_getElem (by simpa using hlt2), HT.out]
            congr 2
          have HT2 := Lib.hid ht
          clear ht
          go_wp2
          go_quiet (fail)
          go_wp2
          go_roundw
          case rel => exact ⟨j + 1, by omega, by go_num, HT2, c0, c1, c2, c3, below_dn hb _⟩
          case measure => simp [intOf]; omega
        · have hn : A[j].toNat ≠ B[j].toNat := fun e => hab (UInt8.toNat_inj.1 e)
          have hn2 : ((A[j].toNat : Int) != (B[j].toNat : Int)) = true := by rw [bne_iff_ne]; omega
          have hl := less_at A B j hlt hlt2 HT.out hab
          have HL := Lib.hid ((lessV_bytes (p := p) (q := q) hne hl.2).trans hl.1)
          clear hn hab hl
          go_wp2
          go_quiet (fail)
          go_wp2
          go_quiet (fail)
          go_wp2
          go_ret
          refine ⟨ret_bool ?_, below_dn (below_dn hb _) _⟩
          rw [HL.out]; simp [UInt8.lt_iff_toNat_lt]
      · obtain rfl : j = A.size := by omega
        have hx := same_all A B hne HT.out
        subst hx
        go_wp2
        go_ret
        exact ⟨ret_bool lessV_port.symm, hb⟩
  · have h3 : ((A.size : Int) != B.size) = true := by rw [bne_iff_ne]; omega
    go_enter Try.func20, Try.ntmps20
    go_wp2
    go_ret
    refine ⟨ret_bool ?_, below_alloc (below_alloc hB _) _⟩
    rw [lessV_size hne]

end Go.Proofs.Ytkkifdmelajioaa
