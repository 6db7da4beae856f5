/- The contracts of ipv4's Fits and Make, and of the reference's. -/
import Derived.Test.YthapajhaehdleaaFour
namespace Go.Proofs.Ythapajhaehdleaa
open Go.RowKit

/-- Whether a packet can be written. -/
def fits4 (a b : ByteArray) (p t i o : Int) (f : Bool) (d : ByteArray) : Bool :=
  decide (a.size = 4 ∧ b.size = 4 ∧ 0 ≤ p ∧ p ≤ 255 ∧ 0 ≤ t ∧ t ≤ 255 ∧ 0 ≤ o ∧ o ≤ 255 ∧ 0 ≤ i ∧ i ≤ 65535 ∧ f = false ∧ d.size ≤ 3980)
theorem fits4_no {a b : ByteArray} {p t i o : Int} {f : Bool} {d : ByteArray} (k : ¬ (a.size = 4 ∧ b.size = 4 ∧ 0 ≤ p ∧ p ≤ 255 ∧ 0 ≤ t ∧ t ≤ 255 ∧ 0 ≤ o ∧ o ≤ 255 ∧ 0 ≤ i ∧ i ≤ 65535 ∧ f = false ∧ d.size ≤ 3980)) : false = fits4 a b p t i o f d := by
  unfold fits4; rw [decide_eq_false k]
theorem fits4_last {a b : ByteArray} {p t i o : Int} {f : Bool} {d : ByteArray} (k : a.size = 4 ∧ b.size = 4 ∧ 0 ≤ p ∧ p ≤ 255 ∧ 0 ≤ t ∧ t ≤ 255 ∧ 0 ≤ o ∧ o ≤ 255 ∧ 0 ≤ i ∧ i ≤ 65535 ∧ f = false) : decide ((d.size : Int) ≤ 3980) = fits4 a b p t i o f d := by
  unfold fits4
  obtain ⟨k1, k2, k3, k4, k5, k6, k7, k8, k9, k10, k11⟩ := k
  rw [Bool.eq_iff_iff]; simp [*]; omega
theorem fits4_out {a b : ByteArray} {p t i o : Int} {f : Bool} {d : ByteArray} (h : fits4 a b p t i o f d = true) : a.size = 4 ∧ b.size = 4 ∧ 0 ≤ p ∧ p ≤ 255 ∧ 0 ≤ t ∧ t ≤ 255 ∧ 0 ≤ o ∧ o ≤ 255 ∧ 0 ≤ i ∧ i ≤ 65535 ∧ f = false ∧ d.size ≤ 3980 := by
  unfold fits4 at h
  simpa only [decide_eq_true_eq] using h

set_option maxHeartbeats 400000 in
theorem within_any (n m : Int) (w : World) :
    Calls Try.prog 26 #[.int .i64 n, .int .i64 m] w fun e w' => e = .returned (.bool (decide (0 ≤ n ∧ n ≤ m))) ∧ w = w' := by
  go_enter Try.func26, Try.ntmps26
  go_wp2
  all_goals
    go_ret
    refine ⟨ret_bool ?_, rfl⟩
    rw [Bool.eq_iff_iff]; simp; try omega

set_option maxHeartbeats 1000000 in
theorem refFits4_any (a b : ByteArray) (p t i o : Int) (f : Bool) (d : ByteArray) (w : World) :
    Calls Try.prog 15 #[.agg #[.string a, .string b, .int .i64 p, .int .i64 t, .int .i64 i, .int .i64 o, .bool f, .string d]] w fun e w' => e = .returned (.bool (fits4 a b p t i o f d)) ∧ Below w.heap.size w w' := by
  have hB := Below.refl w.heap.size w
  go_enter Try.func15, Try.ntmps15
  go_wp2_with (go_at_call 26; refine (within_any _ _ _).mono ?_; rintro e w1 ⟨rfl, rfl⟩)
  all_goals
    go_ret
    refine ⟨ret_bool ?_, hB.alloc (Nat.le_refl _) _⟩
    first
      | (refine fits4_no ?_; rintro ⟨k1, k2, k3, k4, k5, k6, k7, k8, k9, k10, k11, k12⟩; first | omega | (simp_all; done))
      | (refine fits4_last ⟨?_, ?_, ?_, ?_, ?_, ?_, ?_, ?_, ?_, ?_, ?_⟩ <;> first | omega | (simp_all; done))

set_option maxRecDepth 100000 in
set_option maxHeartbeats 1000000 in
theorem fits4_any (a b : ByteArray) (p t i o : Int) (f : Bool) (d : ByteArray) (w : World) :
    Calls Try.prog 14 #[.agg #[.string a, .string b, .int .i64 p, .int .i64 t, .int .i64 i, .int .i64 o, .bool f, .string d]] w fun e w' => e = .returned (.bool (fits4 a b p t i o f d)) ∧ Below w.heap.size w w' := by
  have hB := Below.refl w.heap.size w
  obtain ⟨p', hp⟩ : ∃ x, x = p % 256 := ⟨_, rfl⟩
  obtain ⟨t', ht⟩ : ∃ x, x = t % 256 := ⟨_, rfl⟩
  obtain ⟨o', ho⟩ : ∃ x, x = o % 256 := ⟨_, rfl⟩
  obtain ⟨i', hi⟩ : ∃ x, x = i % 65536 := ⟨_, rfl⟩
  have e1 := and_255 p
  have e2 := and_255 t
  have e3 := and_255 o
  have e4 := and_65535i i
  rw [← hp] at e1
  rw [← ht] at e2
  rw [← ho] at e3
  rw [← hi] at e4
  replace hp := Lib.hid hp
  replace ht := Lib.hid ht
  replace ho := Lib.hid ho
  replace hi := Lib.hid hi
  cases f
  all_goals
    go_enter Try.func14, Try.ntmps14
    go_wp2
  all_goals
    go_ret
    have q1 := hp.out
    have q2 := ht.out
    have q3 := ho.out
    have q4 := hi.out
    refine ⟨ret_bool ?_, below_alloc (below_alloc hB _) _⟩
    first
      | (refine fits4_no ?_; rintro ⟨k1, k2, k3, k4, k5, k6, k7, k8, k9, k10, k11, k12⟩; first | omega | (cases k11))
      | (refine fits4_last ⟨?_, ?_, ?_, ?_, ?_, ?_, ?_, ?_, ?_, ?_, ?_⟩ <;> first | omega | rfl)

/-- The first twenty bytes of a packet. -/
def h4S (n o i t p c : Nat) (a b : ByteArray) : ByteArray := putS 1 69 ++ putS 1 o ++ putS 2 n ++ putS 2 i ++ putS 2 16384 ++ putS 1 t ++ putS 1 p ++ putS 2 c ++ a ++ b
/-- A packet's bytes. -/
def mk4 (a b : ByteArray) (p t i o : Nat) (d : ByteArray) : ByteArray := h4S (20 + d.size) o i t p (ofV (h4S (20 + d.size) o i t p 0 a b)).toNat a b ++ d

set_option maxHeartbeats 1000000 in
theorem make4_no (a b : ByteArray) (p t i o : Int) (f : Bool) (d : ByteArray) (w : World) (hf : fits4 a b p t i o f d = false) :
    Calls Try.prog 12 #[.agg #[.string a, .string b, .int .i64 p, .int .i64 t, .int .i64 i, .int .i64 o, .bool f, .string d]] w fun e w' => e = .returned (.tuple #[.string ⟨#[]⟩, .int .i64 4]) ∧ Below w.heap.size w w' := by
  have hB := below_alloc (Below.refl w.heap.size w) (.cells #[.string a, .string b, .int .i64 p, .int .i64 t, .int .i64 i, .int .i64 o, .bool f, .string d] 26)
  go_enter Try.func12, Try.ntmps12
  go_wp2_with (go_at_call 14; refine (fits4_any _ _ _ _ _ _ _ _ _).mono ?_; rw [hf]; rintro e w1 ⟨rfl, hb1⟩; replace hB := below_on hb1 hB)
  go_ret2
  exact ⟨rfl, hB⟩

set_option maxHeartbeats 1000000 in
theorem refmake4_no (a b : ByteArray) (p t i o : Int) (f : Bool) (d : ByteArray) (w : World) (hf : fits4 a b p t i o f d = false) :
    Calls Try.prog 13 #[.agg #[.string a, .string b, .int .i64 p, .int .i64 t, .int .i64 i, .int .i64 o, .bool f, .string d]] w fun e w' => e = .returned (.tuple #[.string ⟨#[]⟩, .int .i64 4]) ∧ Below w.heap.size w w' := by
  have hB := below_alloc (Below.refl w.heap.size w) (.cells #[.string a, .string b, .int .i64 p, .int .i64 t, .int .i64 i, .int .i64 o, .bool f, .string d] 30)
  go_enter Try.func13, Try.ntmps13
  go_wp2_with (go_at_call 15; refine (refFits4_any _ _ _ _ _ _ _ _ _).mono ?_; rw [hf]; rintro e w1 ⟨rfl, hb1⟩; replace hB := below_on hb1 hB)
  go_ret2
  exact ⟨rfl, hB⟩

/-- The words of a head, and their bytes. -/
def words (n o i t p : Nat) : List (Nat × Nat) := [(69, 1), (o, 1), (n, 2), (i, 2), (16384, 2), (t, 1), (p, 1), (0, 2)]
def upto (n o i t p j : Nat) : ByteArray := ((words n o i t p).take j).foldl (fun s x => s ++ putS x.2 x.1) ⟨#[]⟩
theorem upto_all (n o i t p : Nat) (a b : ByteArray) : upto n o i t p 8 ++ (a ++ b) = h4S n o i t p 0 a b := by
  have e : (⟨#[]⟩ : ByteArray) = ByteArray.empty := rfl
  unfold upto words h4S
  simp only [List.take_succ_cons, List.take_zero, List.foldl_cons, List.foldl_nil, e, ByteArray.empty_append, ByteArray.append_assoc]
theorem upto_size (n o i t p j : Nat) : (upto n o i t p j).size ≤ 12 := by
  have h : ∀ (L : List (Nat × Nat)) (s : ByteArray), (L.foldl (fun s x => s ++ putS x.2 x.1) s).size = s.size + (L.map Prod.snd).sum := by
    intro L
    induction L with
    | nil => intro s; simp
    | cons x L ih => intro s; rw [List.foldl_cons, ih, ByteArray.size_append, putS_size, List.map_cons, List.sum_cons]; omega
  unfold upto
  rw [h]
  have e : (⟨#[]⟩ : ByteArray).size = 0 := rfl
  rw [e]
  unfold words
  match j with
  | 0 => simp
  | 1 => simp
  | 2 => simp
  | 3 => simp
  | 4 => simp
  | 5 => simp
  | 6 => simp
  | 7 => simp
  | j + 8 => simp
theorem h4S_size (n o i t p c : Nat) (a b : ByteArray) (ha : a.size = 4) (hb : b.size = 4) : (h4S n o i t p c a b).size = 20 := by
  unfold h4S; simp only [ByteArray.size_append, putS_size, ha, hb]
theorem h4S_set (n o i t p c : Nat) (a b : ByteArray) (ha : a.size = 4) (hb : b.size = 4) : (h4S n o i t p 0 a b).extract 0 10 ++ putS 2 c ++ (h4S n o i t p 0 a b).extract 12 20 = h4S n o i t p c a b := by
  have e : h4S n o i t p 0 a b = (putS 1 69 ++ putS 1 o ++ putS 2 n ++ putS 2 i ++ putS 2 16384 ++ putS 1 t ++ putS 1 p) ++ (putS 2 0 ++ (a ++ b)) := by
    unfold h4S; simp only [ByteArray.append_assoc]
  have z : (putS 1 69 ++ putS 1 o ++ putS 2 n ++ putS 2 i ++ putS 2 16384 ++ putS 1 t ++ putS 1 p).size = 10 := by simp only [ByteArray.size_append, putS_size]
  rw [e]
  unfold h4S
  generalize (putS 1 69 ++ putS 1 o ++ putS 2 n ++ putS 2 i ++ putS 2 16384 ++ putS 1 t ++ putS 1 p) = X at *
  have e1 : (X ++ (putS 2 0 ++ (a ++ b))).extract 0 10 = X := ByteArray.extract_append_eq_left z.symm
  have e2 : (X ++ (putS 2 0 ++ (a ++ b))).extract 12 20 = a ++ b := by
    rw [← ByteArray.append_assoc]
    exact ByteArray.extract_append_eq_right (by rw [ByteArray.size_append, putS_size, z]) (by rw [ByteArray.size_append, ByteArray.size_append, putS_size, z, ha, hb])
  rw [e1, e2]
  simp only [ByteArray.append_assoc]

set_option maxRecDepth 100000 in
set_option maxHeartbeats 4000000 in
theorem make4_yes (a b : ByteArray) (p t i o : Nat) (d : ByteArray) (w : World) (hf : fits4 a b p t i o false d = true) :
    Calls Try.prog 12 #[.agg #[.string a, .string b, .int .i64 p, .int .i64 t, .int .i64 i, .int .i64 o, .bool false, .string d]] w fun e w' => e = .returned (.tuple #[.string (mk4 a b p t i o d), .int .i64 0]) ∧ Below w.heap.size w w' := by
  have hB := below_alloc (Below.refl w.heap.size w) (.cells #[.string a, .string b, .int .i64 p, .int .i64 t, .int .i64 i, .int .i64 o, .bool false, .string d] 26)
  have hK := Lib.hid (blk_new w (.cells #[.string a, .string b, .int .i64 p, .int .i64 t, .int .i64 i, .int .i64 o, .bool false, .string d] 26))
  obtain ⟨k1, k2, k3, k4, k5, k6, k7, k8, k9, k10, k11, k12⟩ := fits4_out hf
  have b1 : IntKind.i64.wrap (20 + (d.size : Int)) = 20 + d.size := IntWalk.i64_in _ (by omega)
  go_enter Try.func12, Try.ntmps12
  go_wp2_with (go_at_call 14; refine (fits4_any _ _ _ _ _ _ _ _ _).mono ?_; rw [hf]; rintro e w1 ⟨rfl, hb1⟩; replace hB := below_on hb1 hB; replace hK := Lib.hid (blk_below hb1 hK.out); obtain ⟨lk, q0, q1, q2, q3, q4, q5, q6, q7⟩ := blk8 hK.out)
  obtain ⟨g, hg⟩ : ∃ g, g = w1.heap.size := ⟨_, rfl⟩
  have hG := Lib.hid (blk_new w1 (.cells #[.int .i64 69, .int .i64 1, .int .i64 o, .int .i64 1, .int .i64 (20 + (d.size : Int)), .int .i64 2, .int .i64 i, .int .i64 2, .int .i64 16384, .int .i64 2, .int .i64 t, .int .i64 1, .int .i64 p, .int .i64 1, .int .i64 0, .int .i64 2] 52))
  have hK2 := Lib.hid (blk_alloc hK.out (.cells #[.int .i64 69, .int .i64 1, .int .i64 o, .int .i64 1, .int .i64 (20 + (d.size : Int)), .int .i64 2, .int .i64 i, .int .i64 2, .int .i64 16384, .int .i64 2, .int .i64 t, .int .i64 1, .int .i64 p, .int .i64 1, .int .i64 0, .int .i64 2] 52))
  have hB2 := below_alloc hB (.cells #[.int .i64 69, .int .i64 1, .int .i64 o, .int .i64 1, .int .i64 (20 + (d.size : Int)), .int .i64 2, .int .i64 i, .int .i64 2, .int .i64 16384, .int .i64 2, .int .i64 t, .int .i64 1, .int .i64 p, .int .i64 1, .int .i64 0, .int .i64 2] 52)
  rw [← hg] at hG
  simp only [← hg]
  clear hg hb1 q0 q1 q2 q3 q4 q5 q6 q7
  go_loopw [4, 32] (fun s j wr => ∃ c : Nat, c ≤ 8 ∧ s = .string (upto (20 + d.size) o i t p c) ∧ j = .int .i64 c ∧ Hid (wr.heap[g]? = some (.cells #[.int .i64 69, .int .i64 1, .int .i64 o, .int .i64 1, .int .i64 (20 + (d.size : Int)), .int .i64 2, .int .i64 i, .int .i64 2, .int .i64 16384, .int .i64 2, .int .i64 t, .int .i64 1, .int .i64 p, .int .i64 1, .int .i64 0, .int .i64 2] 52)) ∧ Hid (wr.heap[w.heap.size]? = some (.cells #[.string a, .string b, .int .i64 p, .int .i64 t, .int .i64 i, .int .i64 o, .bool false, .string d] 26)) ∧ Below w.heap.size w wr) (fun _ j _ => 8 - (intOf j).toNat)
  case atStart => exact ⟨0, by omega, rfl, rfl, hG, hK2, hB2⟩
  case round =>
    obtain ⟨c, hc, rfl, rfl, HG, HK, HB⟩ := hrel
    by_cases hlt : c < 8
    · have u1 : IntKind.u64.wrap (20 + (d.size : Int)) = 20 + d.size := by rw [IntKind.wrap_u64]; omega
      have u2 : IntKind.u64.wrap (o : Int) = o := by rw [IntKind.wrap_u64]; omega
      have u3 : IntKind.u64.wrap (i : Int) = i := by rw [IntKind.wrap_u64]; omega
      have u4 : IntKind.u64.wrap (t : Int) = t := by rw [IntKind.wrap_u64]; omega
      have u5 : IntKind.u64.wrap (p : Int) = p := by rw [IntKind.wrap_u64]; omega
      have lg := blk_lt HG.out
      have hz := upto_size (20 + d.size) o i t p c
      have z1 : ∀ n, (putS 1 n).size = 1 := putS_size 1
      have z2 : ∀ n, (putS 2 n).size = 2 := putS_size 2
      have v1 : ¬ 9223372036854775807 < (upto (20 + d.size) o i t p c).size + 1 := by omega
      have v2 : ¬ 9223372036854775807 < (upto (20 + d.size) o i t p c).size + 2 := by omega
      have hc8 : c = 0 ∨ c = 1 ∨ c = 2 ∨ c = 3 ∨ c = 4 ∨ c = 5 ∨ c = 6 ∨ c = 7 := by omega
      clear hlt hc hB hB2 hK2 hG hK
      rcases hc8 with rfl | rfl | rfl | rfl | rfl | rfl | rfl | rfl
      · have c0 := blk_cell HG.out 0 _ rfl
        have c1 := blk_cell HG.out 1 _ rfl
        go_wp2_with (go_at_call 23; refine (put_i _ _ _ (by decide) (by decide) (by omega) (by omega)).mono ?_; rintro e w2 ⟨rfl, hb2⟩; replace HB := below_on hb2 (below_alloc HB _); replace HG := Lib.hid (blk_below hb2 (blk_alloc HG.out _)); replace HK := Lib.hid (blk_below hb2 (blk_alloc HK.out _)))
        go_roundw
        case rel => exact ⟨1, by omega, rfl, by go_num, HG, HK, HB⟩
        case measure => simp [intOf]
      · have c0 := blk_cell HG.out 2 _ rfl
        have c1 := blk_cell HG.out 3 _ rfl
        go_wp2_with (go_at_call 23; refine (put_i _ _ _ (by decide) (by decide) (by omega) (by omega)).mono ?_; rintro e w2 ⟨rfl, hb2⟩; replace HB := below_on hb2 (below_alloc HB _); replace HG := Lib.hid (blk_below hb2 (blk_alloc HG.out _)); replace HK := Lib.hid (blk_below hb2 (blk_alloc HK.out _)))
        go_roundw
        case rel => exact ⟨2, by omega, rfl, by go_num, HG, HK, HB⟩
        case measure => simp [intOf]
      · have c0 := blk_cell HG.out 4 _ rfl
        have c1 := blk_cell HG.out 5 _ rfl
        go_wp2_with (go_at_call 23; refine (put_i _ _ _ (by decide) (by decide) (by omega) (by omega)).mono ?_; rintro e w2 ⟨rfl, hb2⟩; replace HB := below_on hb2 (below_alloc HB _); replace HG := Lib.hid (blk_below hb2 (blk_alloc HG.out _)); replace HK := Lib.hid (blk_below hb2 (blk_alloc HK.out _)))
        go_roundw
        case rel => exact ⟨3, by omega, rfl, by go_num, HG, HK, HB⟩
        case measure => simp [intOf]
      · have c0 := blk_cell HG.out 6 _ rfl
        have c1 := blk_cell HG.out 7 _ rfl
        go_wp2_with (go_at_call 23; refine (put_i _ _ _ (by decide) (by decide) (by omega) (by omega)).mono ?_; rintro e w2 ⟨rfl, hb2⟩; replace HB := below_on hb2 (below_alloc HB _); replace HG := Lib.hid (blk_below hb2 (blk_alloc HG.out _)); replace HK := Lib.hid (blk_below hb2 (blk_alloc HK.out _)))
        go_roundw
        case rel => exact ⟨4, by omega, rfl, by go_num, HG, HK, HB⟩
        case measure => simp [intOf]
      · have c0 := blk_cell HG.out 8 _ rfl
        have c1 := blk_cell HG.out 9 _ rfl
        go_wp2_with (go_at_call 23; refine (put_i _ _ _ (by decide) (by decide) (by omega) (by omega)).mono ?_; rintro e w2 ⟨rfl, hb2⟩; replace HB := below_on hb2 (below_alloc HB _); replace HG := Lib.hid (blk_below hb2 (blk_alloc HG.out _)); replace HK := Lib.hid (blk_below hb2 (blk_alloc HK.out _)))
        go_roundw
        case rel => exact ⟨5, by omega, rfl, by go_num, HG, HK, HB⟩
        case measure => simp [intOf]
      · have c0 := blk_cell HG.out 10 _ rfl
        have c1 := blk_cell HG.out 11 _ rfl
        go_wp2_with (go_at_call 23; refine (put_i _ _ _ (by decide) (by decide) (by omega) (by omega)).mono ?_; rintro e w2 ⟨rfl, hb2⟩; replace HB := below_on hb2 (below_alloc HB _); replace HG := Lib.hid (blk_below hb2 (blk_alloc HG.out _)); replace HK := Lib.hid (blk_below hb2 (blk_alloc HK.out _)))
        go_roundw
        case rel => exact ⟨6, by omega, rfl, by go_num, HG, HK, HB⟩
        case measure => simp [intOf]
      · have c0 := blk_cell HG.out 12 _ rfl
        have c1 := blk_cell HG.out 13 _ rfl
        go_wp2_with (go_at_call 23; refine (put_i _ _ _ (by decide) (by decide) (by omega) (by omega)).mono ?_; rintro e w2 ⟨rfl, hb2⟩; replace HB := below_on hb2 (below_alloc HB _); replace HG := Lib.hid (blk_below hb2 (blk_alloc HG.out _)); replace HK := Lib.hid (blk_below hb2 (blk_alloc HK.out _)))
        go_roundw
        case rel => exact ⟨7, by omega, rfl, by go_num, HG, HK, HB⟩
        case measure => simp [intOf]
      · have c0 := blk_cell HG.out 14 _ rfl
        have c1 := blk_cell HG.out 15 _ rfl
        go_wp2_with (go_at_call 23; refine (put_i _ _ _ (by decide) (by decide) (by omega) (by omega)).mono ?_; rintro e w2 ⟨rfl, hb2⟩; replace HB := below_on hb2 (below_alloc HB _); replace HG := Lib.hid (blk_below hb2 (blk_alloc HG.out _)); replace HK := Lib.hid (blk_below hb2 (blk_alloc HK.out _)))
        go_roundw
        case rel => exact ⟨8, by omega, rfl, by go_num, HG, HK, HB⟩
        case measure => simp [intOf]
    · obtain rfl : c = 8 := by omega
      obtain ⟨lk, q0, q1, q2, q3, q4, q5, q6, q7⟩ := blk8 HK.out
      have hU := upto_all (20 + d.size) o i t p a b
      have hz := upto_size (20 + d.size) o i t p 8
      have zs := h4S_size (20 + d.size) o i t p 0 a b k1 k2
      have hset := h4S_set (20 + d.size) o i t p (ofV (h4S (20 + d.size) o i t p 0 a b)).toNat a b k1 k2
      have hfin : mk4 a b p t i o d = h4S (20 + d.size) o i t p (ofV (h4S (20 + d.size) o i t p 0 a b)).toNat a b ++ d := rfl
      have zs2 := h4S_size (20 + d.size) o i t p (ofV (h4S (20 + d.size) o i t p 0 a b)).toNat a b k1 k2
      have hbd := ofV_bd (h4S (20 + d.size) o i t p 0 a b)
      generalize h4S (20 + d.size) o i t p (ofV (h4S (20 + d.size) o i t p 0 a b)).toNat a b = S1 at *
      generalize h4S (20 + d.size) o i t p 0 a b = S0 at *
      generalize upto (20 + d.size) o i t p 8 = U at *
      have v1 : ¬ 9223372036854775807 < 4 + 4 := by omega
      have v2 : ¬ 9223372036854775807 < U.size + 8 := by omega
      have v3 : ¬ 9223372036854775807 < 20 + d.size := by omega
      have v4 : ¬ 9223372036854775807 < U.size + (4 + 4) := by omega
      have w1 : IntKind.u64.wrap (ofV S0) = ofV S0 := by rw [IntKind.wrap_u64]; omega
      have hset2 := hset
      rw [← zs] at hset2
      have HF := Lib.hid hfin
      clear hB hB2 hK2 hG hK hfin HG
      go_wp2_with (first
        | (go_at_call 25; with_reducible refine (of_any S0 _ (by omega)).mono ?_; rintro e w2 ⟨rfl, hb2⟩; replace HB := below_on hb2 HB; replace HK := Lib.hid (blk_below hb2 HK.out))
        | (go_at_call 24; with_reducible refine (set_i S0 _ _ _ _ (by omega) (by omega) (by omega) (by omega) (by omega) (by omega) (by omega)).mono ?_; rintro e w3 ⟨rfl, hb3⟩; replace HB := below_on hb3 HB; replace HK := Lib.hid (blk_below hb3 HK.out); obtain ⟨lk, q0, q1, q2, q3, q4, q5, q6, q7⟩ := blk8 HK.out))
      go_ret2
      rw [HF.out]
      exact ⟨rfl, HB⟩

/-- The reference's head up to its sum. -/
def refS (n o i t p : Nat) : ByteArray := ⟨#[69]⟩ ++ putS 1 o ++ putS 2 n ++ putS 2 i ++ ⟨#[64, 0]⟩ ++ putS 1 t ++ putS 1 p
theorem refS_all (n o i t p c : Nat) (a b : ByteArray) : refS n o i t p ++ putS 2 c ++ a ++ b = h4S n o i t p c a b := by
  have e1 : (⟨#[69]⟩ : ByteArray) = putS 1 69 := by decide +kernel
  have e2 : (⟨#[64, 0]⟩ : ByteArray) = putS 2 16384 := by decide +kernel
  unfold refS h4S
  rw [e1, e2]
theorem refS_zero (n o i t p : Nat) (a b : ByteArray) : refS n o i t p ++ ⟨#[0, 0]⟩ ++ a ++ b = h4S n o i t p 0 a b := by
  have e3 : (⟨#[0, 0]⟩ : ByteArray) = putS 2 0 := by decide +kernel
  rw [e3, refS_all]
theorem refS_size (n o i t p : Nat) : (refS n o i t p).size = 10 := by
  unfold refS
  simp only [ByteArray.size_append, putS_size]
  rfl

set_option maxRecDepth 100000 in
set_option maxHeartbeats 4000000 in
theorem refmake4_yes (a b : ByteArray) (p t i o : Nat) (d : ByteArray) (w : World) (hf : fits4 a b p t i o false d = true) :
    Calls Try.prog 13 #[.agg #[.string a, .string b, .int .i64 p, .int .i64 t, .int .i64 i, .int .i64 o, .bool false, .string d]] w fun e w' => e = .returned (.tuple #[.string (mk4 a b p t i o d), .int .i64 0]) ∧ Below w.heap.size w w' := by
  have hB := below_alloc (Below.refl w.heap.size w) (.cells #[.string a, .string b, .int .i64 p, .int .i64 t, .int .i64 i, .int .i64 o, .bool false, .string d] 30)
  have hK := Lib.hid (blk_new w (.cells #[.string a, .string b, .int .i64 p, .int .i64 t, .int .i64 i, .int .i64 o, .bool false, .string d] 30))
  obtain ⟨k1, k2, k3, k4, k5, k6, k7, k8, k9, k10, k11, k12⟩ := fits4_out hf
  have b1 : IntKind.i64.wrap (20 + (d.size : Int)) = 20 + d.size := IntWalk.i64_in _ (by omega)
  have u1 : IntKind.u64.wrap (20 + (d.size : Int)) = 20 + d.size := by rw [IntKind.wrap_u64]; omega
  have u2 : IntKind.u64.wrap (o : Int) = o := by rw [IntKind.wrap_u64]; omega
  have u3 : IntKind.u64.wrap (i : Int) = i := by rw [IntKind.wrap_u64]; omega
  have u4 : IntKind.u64.wrap (t : Int) = t := by rw [IntKind.wrap_u64]; omega
  have u5 : IntKind.u64.wrap (p : Int) = p := by rw [IntKind.wrap_u64]; omega
  have z0 : (⟨#[69]⟩ : ByteArray).size = 1 := rfl
  have z00 : (⟨#[64, 0]⟩ : ByteArray).size = 2 := rfl
  have z000 : (⟨#[0, 0]⟩ : ByteArray).size = 2 := rfl
  have z1 : ∀ n, (putS 1 n).size = 1 := putS_size 1
  have z2 : ∀ n, (putS 2 n).size = 2 := putS_size 2
  have c1 : ¬ 9223372036854775807 < 1 + 1 := by omega
  have c2 : ¬ 9223372036854775807 < 1 + 1 + 2 := by omega
  have c3 : ¬ 9223372036854775807 < 1 + 1 + 2 + 2 := by omega
  have c4 : ¬ 9223372036854775807 < 1 + 1 + 2 + 2 + 2 := by omega
  have c5 : ¬ 9223372036854775807 < 1 + 1 + 2 + 2 + 2 + 1 := by omega
  have c6 : ¬ 9223372036854775807 < 1 + 1 + 2 + 2 + 2 + 1 + 1 := by omega
  go_enter Try.func13, Try.ntmps13
  go_wp2_with (go_at_call 15; refine (refFits4_any _ _ _ _ _ _ _ _ _).mono ?_; rw [hf]; rintro e w1 ⟨rfl, hb1⟩; replace hB := below_on hb1 hB; replace hK := Lib.hid (blk_below hb1 hK.out); obtain ⟨lk, q0, q1, q2, q3, q4, q5, q6, q7⟩ := blk8 hK.out)
  clear hb1
  go_region_held3 (fun w' => Below w1.heap.size w1 w' ∧ ∀ b o, b < w1.heap.size → w'.cell? ⟨b, o, none⟩ = w1.cell? ⟨b, o, none⟩)
    ((apply held_of; repeat (first | exact Below.refl _ _ | exact And.left (by assumption) | with_reducible apply below_drew | with_reducible apply below_alloc | (with_reducible refine below_on (by assumption) ?_))))
    (first | (go_at_call 16; refine (refPut_i _ _ _ (by decide) (by decide) (by omega) (by omega)).mono ?_; rintro e w2 ⟨rfl, hb2⟩))
  obtain ⟨hb2, hcells⟩ : Below w1.heap.size w1 w2 ∧ ∀ b o, b < w1.heap.size → w2.cell? ⟨b, o, none⟩ = w1.cell? ⟨b, o, none⟩ := by assumption
  replace hB := below_on hb2 hB
  replace hK := Lib.hid (blk_below hb2 hK.out)
  clear hcells hb2 lk q0 q1 q2 q3 q4 q5 q6 q7
  obtain ⟨lk, q0, q1, q2, q3, q4, q5, q6, q7⟩ := blk8 hK.out
  have hPS : (⟨#[69]⟩ ++ putS 1 o ++ putS 2 (20 + d.size) ++ putS 2 i ++ ⟨#[64, 0]⟩ ++ putS 1 t ++ putS 1 p) = refS (20 + d.size) o i t p := rfl
  have hnat : (20 + (d.size : Int)).toNat = 20 + d.size := by omega
  simp only [hnat, hPS]
  clear hPS
  have hz := refS_size (20 + d.size) o i t p
  have h0 := refS_zero (20 + d.size) o i t p a b
  have zs := h4S_size (20 + d.size) o i t p 0 a b k1 k2
  have hbd := ofV_bd (h4S (20 + d.size) o i t p 0 a b)
  have hA := refS_all (20 + d.size) o i t p (ofV (h4S (20 + d.size) o i t p 0 a b)).toNat a b
  have hfin : mk4 a b p t i o d = h4S (20 + d.size) o i t p (ofV (h4S (20 + d.size) o i t p 0 a b)).toNat a b ++ d := rfl
  rw [← hA] at hfin
  clear hA
  have HF := Lib.hid hfin
  clear hfin
  generalize h4S (20 + d.size) o i t p 0 a b = S0 at *
  generalize refS (20 + d.size) o i t p = R at *
  have v1 : ¬ 9223372036854775807 < 10 + 2 := by omega
  have v2 : ¬ 9223372036854775807 < 10 + 2 + 4 := by omega
  have v3 : ¬ 9223372036854775807 < 10 + 2 + 4 + 4 := by omega
  have v4 : ¬ 9223372036854775807 < 10 + 2 + 4 + 4 + d.size := by omega
  have w1 : IntKind.u64.wrap (ofV S0) = ofV S0 := by rw [IntKind.wrap_u64]; omega
  go_wp2_with (go_at_call 17; with_reducible refine (refOf_any S0 _ (by omega)).mono ?_; rintro e w3 ⟨rfl, rfl⟩)
  go_region_held3 (fun w' => Below w2.heap.size w2 w' ∧ ∀ b o, b < w2.heap.size → w'.cell? ⟨b, o, none⟩ = w2.cell? ⟨b, o, none⟩)
    ((apply held_of; repeat (first | exact Below.refl _ _ | exact And.left (by assumption) | with_reducible apply below_drew | with_reducible apply below_alloc | (with_reducible refine below_on (by assumption) ?_))))
    (first | (go_at_call 16; refine (refPut_i _ _ _ (by decide) (by decide) (by omega) (by omega)).mono ?_; rintro e w4 ⟨rfl, hb4⟩))
  go_wp2
  go_ret2
  rw [HF.out]
  exact ⟨rfl, below_on (And.left (by assumption)) hB⟩

end Go.Proofs.Ythapajhaehdleaa
