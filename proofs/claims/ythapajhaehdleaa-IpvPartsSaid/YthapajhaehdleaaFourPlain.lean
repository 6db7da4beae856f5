/- What is made of a packet is read as it was; a spoilt head is an error: plain laws, no program in sight. -/
import Derived.Test.YthapajhaehdleaaFourMake
import Derived.Test.YthapajhaehdleaaFourRead
namespace Go.Proofs.Ythapajhaehdleaa
open Go.RowKit

/-- Twenty bytes of a head, with any third word. -/
def h4W (n o i r t p c : Nat) (a b : ByteArray) : ByteArray := putS 1 69 ++ putS 1 o ++ putS 2 n ++ putS 2 i ++ putS 2 r ++ putS 1 t ++ putS 1 p ++ putS 2 c ++ a ++ b
theorem h4S_eq (n o i t p c : Nat) (a b : ByteArray) : h4S n o i t p c a b = h4W n o i 16384 t p c a b := rfl
theorem h4W_size (n o i r t p c : Nat) (a b : ByteArray) (ha : a.size = 4) (hb : b.size = 4) : (h4W n o i r t p c a b).size = 20 := by
  unfold h4W; simp only [ByteArray.size_append, putS_size, ha, hb]
theorem h4W_list (n o i r t p c : Nat) (a b : ByteArray) : (h4W n o i r t p c a b).data.toList = [69, UInt8.ofNat (o % 256), UInt8.ofNat (n / 256 % 256), UInt8.ofNat (n % 256), UInt8.ofNat (i / 256 % 256), UInt8.ofNat (i % 256), UInt8.ofNat (r / 256 % 256), UInt8.ofNat (r % 256), UInt8.ofNat (t % 256), UInt8.ofNat (p % 256), UInt8.ofNat (c / 256 % 256), UInt8.ofNat (c % 256)] ++ (a.data.toList ++ b.data.toList) := by
  unfold h4W putS
  simp [ByteArray.data_append, putL]

theorem w4_be (n o i r t p c : Nat) (a b x : ByteArray) (hn : n ≤ 65535) (ho : o ≤ 255) (hi : i ≤ 65535) (hr : r ≤ 65535) (ht : t ≤ 255) (hp : p ≤ 255) :
    beAt (h4W n o i r t p c a b ++ x) 0 1 = 69 ∧ beAt (h4W n o i r t p c a b ++ x) 2 2 = n ∧ beAt (h4W n o i r t p c a b ++ x) 9 1 = p ∧ beAt (h4W n o i r t p c a b ++ x) 8 1 = t ∧ beAt (h4W n o i r t p c a b ++ x) 4 2 = i ∧ beAt (h4W n o i r t p c a b ++ x) 1 1 = o ∧ beAt (h4W n o i r t p c a b ++ x) 6 2 = r := by
  unfold beAt
  rw [ByteArray.toList_data_append, h4W_list]
  refine ⟨rfl, ?_, ?_, ?_, ?_, ?_, ?_⟩
  · show (0 * 256 + (UInt8.ofNat (n / 256 % 256)).toNat) * 256 + (UInt8.ofNat (n % 256)).toNat = n
    rw [UInt8.toNat_ofNat', UInt8.toNat_ofNat']; omega
  · show 0 * 256 + (UInt8.ofNat (p % 256)).toNat = p
    rw [UInt8.toNat_ofNat']; omega
  · show 0 * 256 + (UInt8.ofNat (t % 256)).toNat = t
    rw [UInt8.toNat_ofNat']; omega
  · show (0 * 256 + (UInt8.ofNat (i / 256 % 256)).toNat) * 256 + (UInt8.ofNat (i % 256)).toNat = i
    rw [UInt8.toNat_ofNat', UInt8.toNat_ofNat']; omega
  · show 0 * 256 + (UInt8.ofNat (o % 256)).toNat = o
    rw [UInt8.toNat_ofNat']; omega
  · show (0 * 256 + (UInt8.ofNat (r / 256 % 256)).toNat) * 256 + (UInt8.ofNat (r % 256)).toNat = r
    rw [UInt8.toNat_ofNat', UInt8.toNat_ofNat']; omega

theorem ps_four (a : ByteArray) (ha : a.size = 4) : psB a ≤ 131070 := by
  unfold psB
  have hl : a.data.toList.length = 4 := ha
  match h : a.data.toList, hl with
  | [x, y, z, v], _ =>
    have h1 := x.toNat_lt
    have h2 := y.toNat_lt
    have h3 := z.toNat_lt
    have h4 := v.toNat_lt
    simp [ps]; omega
theorem psB_even (a b : ByteArray) (h : a.size % 2 = 0) : psB (a ++ b) = psB a + psB b := by
  unfold psB
  rw [ByteArray.toList_data_append, ps_append, if_pos (by show a.size % 2 = 0; exact h)]
theorem w4_ps (n o i r t p c : Nat) (a b : ByteArray) (ha : a.size = 4) (hn : n ≤ 65535) (ho : o ≤ 255) (hi : i ≤ 65535) (hr : r ≤ 65535) (ht : t ≤ 255) (hp : p ≤ 255) (hc : c ≤ 65535) :
    psB (h4W n o i r t p c a b) = 17664 + o + n + i + r + 256 * t + p + c + psB a + psB b := by
  have hl : a.data.toList.length = 4 := ha
  unfold psB
  rw [h4W_list, ps_append, ps_append, hl]
  simp only [ps, List.length_cons, List.length_nil, UInt8.toNat_ofNat', Bool.not_true, Bool.not_false, if_true]
  show 256 * 69 + _ + _ = _
  simp
  omega

theorem addV_sm (p : Nat) (h : p < 18446744073709551616) : addV 0 p = p := by
  unfold addV; rw [IntKind.wrap_u64]; omega
theorem ofV_zero (s : ByteArray) (h1 : psB s < 18446744073709551616) : ofV s = 0 ↔ 0 < psB s ∧ psB s % 65535 = 0 := by
  unfold ofV foldV
  rw [addV_sm _ h1]
  split <;> omega
theorem sum_laid (P : Nat) (h0 : 0 < P) (h1 : P < 18446744073709551616) (s : ByteArray) (hs : psB s = P) : (P + (ofV s).toNat) % 65535 = 0 ∧ (ofV s).toNat ≤ 65535 := by
  unfold ofV foldV
  rw [hs, addV_sm _ h1, if_neg (by omega)]
  omega
theorem w4_laid (n o i r t p : Nat) (a b : ByteArray) (ha : a.size = 4) (hb : b.size = 4) (hn : n ≤ 65535) (ho : o ≤ 255) (hi : i ≤ 65535) (hr : r ≤ 65535) (ht : t ≤ 255) (hp : p ≤ 255) :
    ofV (h4W n o i r t p (ofV (h4W n o i r t p 0 a b)).toNat a b) = 0 ∧ (ofV (h4W n o i r t p 0 a b)).toNat ≤ 65535 := by
  have hA := ps_four a ha
  have hB := ps_four b hb
  have e0 := w4_ps n o i r t p 0 a b ha hn ho hi hr ht hp (by omega)
  have hl := sum_laid _ (by omega) (by omega) _ e0
  have e1 := w4_ps n o i r t p (ofV (h4W n o i r t p 0 a b)).toNat a b ha hn ho hi hr ht hp hl.2
  refine ⟨(ofV_zero _ (by omega)).2 ⟨by omega, ?_⟩, hl.2⟩
  rw [e1]; omega

theorem mid4 (x y z : ByteArray) (i j : Nat) (hi : i = x.size) (hj : j = x.size + y.size) : (x ++ (y ++ z)).extract i j = y := by
  subst hi; subst hj
  have := @ByteArray.extract_append_size_add x (y ++ z) 0 y.size
  rw [Nat.add_zero] at this
  rw [this]
  exact ByteArray.extract_append_eq_left rfl
theorem w4_ext (n o i r t p c : Nat) (a b x : ByteArray) (ha : a.size = 4) (hb : b.size = 4) (m : Nat) :
    (h4W n o i r t p c a b ++ x).extract 12 16 = a ∧ (h4W n o i r t p c a b ++ x).extract 16 20 = b ∧ (h4W n o i r t p c a b ++ x).extract 0 20 = h4W n o i r t p c a b ∧ (h4W n o i r t p c a b ++ x).extract 20 (20 + m) = x.extract 0 m := by
  have hz := h4W_size n o i r t p c a b ha hb
  refine ⟨?_, ?_, ByteArray.extract_append_eq_left hz.symm, ?_⟩
  · unfold h4W
    rw [ByteArray.append_assoc, ByteArray.append_assoc]
    exact mid4 _ _ _ _ _ (by simp only [ByteArray.size_append, putS_size]) (by simp only [ByteArray.size_append, putS_size, ha])
  · unfold h4W
    rw [ByteArray.append_assoc]
    exact mid4 _ _ _ _ _ (by simp only [ByteArray.size_append, putS_size, ha]) (by simp only [ByteArray.size_append, putS_size, ha, hb])
  · have := @ByteArray.extract_append_size_add (h4W n o i r t p c a b) x 0 m
    rw [hz] at this
    exact this

theorem rd4_w (n o i r t p c : Nat) (a b x : ByteArray) (ha : a.size = 4) (hb : b.size = 4) (hn : n ≤ 65535) (ho : o ≤ 255) (hi : i ≤ 65535) (hr : r ≤ 65535) (ht : t ≤ 255) (hp : p ≤ 255) (hn2 : 20 ≤ n) (hx : n ≤ 20 + x.size) (hx2 : 20 + x.size ≤ 4000) (hc : ofV (h4W n o i r t p c a b) = 0) :
    rd4 (h4W n o i r t p c a b ++ x) = (((a, b, (p : Int), (t : Int), (i : Int), (o : Int), decide (r % 16384 ≠ 0), x.extract 0 (n - 20)), 0) : (ByteArray × ByteArray × Int × Int × Int × Int × Bool × ByteArray) × Int) := by
  obtain ⟨b0, b2, b9, b8, b4, b1, b6⟩ := w4_be n o i r t p c a b x hn ho hi hr ht hp
  obtain ⟨x12, x16, x0, x20⟩ := w4_ext n o i r t p c a b x ha hb (n - 20)
  have hz : (h4W n o i r t p c a b ++ x).size = 20 + x.size := by rw [ByteArray.size_append, h4W_size n o i r t p c a b ha hb]
  rw [show 20 + (n - 20) = n from by omega] at x20
  rw [← x0] at hc
  generalize h4W n o i r t p c a b ++ x = S at *
  have hl : lnV S = (((20 : Nat) : Int), ((n : Nat) : Int), 0) := by
    unfold lnV
    rw [if_neg (by omega), if_neg (by omega), if_neg (by rw [b0]; decide), if_neg (by rw [b0, b2]; omega), if_neg (by rw [b2]; omega), if_neg (by rw [b0]; exact fun h => h hc), b0, b2]
  unfold rd4
  rw [hl]
  simp only [Int.toNat_natCast]
  rw [if_neg (by decide), x12, x16, x20, b9, b8, b4, b1, b6]

theorem be_cut4 (s : ByteArray) (m i k : Nat) (h : i + k ≤ m) : beAt (s.extract 0 m) i k = beAt s i k := by
  unfold beAt
  rw [ByteArray.data_extract, Array.toList_extract]
  congr 1
  show (((s.data.toList.drop 0).take (m - 0)).drop i).take k = _
  rw [List.drop_zero, List.drop_take, List.take_take, Nat.min_eq_left (by omega)]

theorem mk4_w (a b : ByteArray) (p t i o : Nat) (d : ByteArray) : mk4 a b p t i o d = h4W (20 + d.size) o i 16384 t p (ofV (h4W (20 + d.size) o i 16384 t p 0 a b)).toNat a b ++ d := rfl
theorem mk4_size (a b : ByteArray) (p t i o : Nat) (d : ByteArray) (ha : a.size = 4) (hb : b.size = 4) : (mk4 a b p t i o d).size = 20 + d.size := by
  rw [mk4_w, ByteArray.size_append, h4W_size _ _ _ _ _ _ _ _ _ ha hb]

theorem rd4_back (a b : ByteArray) (p t i o : Nat) (d x : ByteArray) (ha : a.size = 4) (hb : b.size = 4) (ho : o ≤ 255) (hi : i ≤ 65535) (ht : t ≤ 255) (hp : p ≤ 255) (hx2 : 20 + d.size + x.size ≤ 4000) :
    rd4 (mk4 a b p t i o d ++ x) = (((a, b, (p : Int), (t : Int), (i : Int), (o : Int), false, d), 0) : (ByteArray × ByteArray × Int × Int × Int × Int × Bool × ByteArray) × Int) := by
  have hl := w4_laid (20 + d.size) o i 16384 t p a b ha hb (by omega) ho hi (by omega) ht hp
  have hz : (d ++ x).size = d.size + x.size := ByteArray.size_append
  rw [mk4_w, ByteArray.append_assoc, rd4_w _ _ _ _ _ _ _ _ _ _ ha hb (by omega) ho hi (by omega) ht hp (by omega) (by omega) (by omega) hl.1]
  rw [show 20 + d.size - 20 = d.size from by omega, ByteArray.extract_append_eq_left rfl]
  rfl
theorem rd4_cut (a b : ByteArray) (p t i o : Nat) (d : ByteArray) (ha : a.size = 4) (hb : b.size = 4) (ho : o ≤ 255) (hi : i ≤ 65535) (ht : t ≤ 255) (hp : p ≤ 255) (hd : 20 + d.size ≤ 4000) (m : Nat) (hm : m < (mk4 a b p t i o d).size) :
    rd4 ((mk4 a b p t i o d).extract 0 m) = (((⟨#[]⟩, ⟨#[]⟩, 0, 0, 0, 0, false, ⟨#[]⟩), 3) : (ByteArray × ByteArray × Int × Int × Int × Int × Bool × ByteArray) × Int) := by
  have hz := mk4_size a b p t i o d ha hb
  have e := mk4_w a b p t i o d
  obtain ⟨b0, b2, b9, b8, b4, b1, b6⟩ := w4_be (20 + d.size) o i 16384 t p (ofV (h4W (20 + d.size) o i 16384 t p 0 a b)).toNat a b d (by omega) ho hi (by omega) ht hp
  rw [← e] at b0 b2
  clear e b9 b8 b4 b1 b6
  generalize mk4 a b p t i o d = S at *
  have sz2 : (S.extract 0 m).size = m := by rw [ByteArray.size_extract]; omega
  have hl : lnV (S.extract 0 m) = (0, 0, 3) := by
    unfold lnV
    rw [if_neg (by omega)]
    by_cases h20 : m < 20
    · rw [if_pos (by omega)]
    · rw [if_neg (by omega), be_cut4 _ _ _ _ (by omega), be_cut4 _ _ _ _ (by omega), b0, b2, if_neg (by decide), if_neg (by omega), if_pos (by omega)]
  unfold rd4
  rw [hl]
  rfl

/-- Bytes with another one at a place. -/
def putB (s : ByteArray) (k : Nat) (y : UInt8) : ByteArray := s.extract 0 k ++ ⟨#[y]⟩ ++ s.extract (k + 1) s.size
theorem putB_size (s : ByteArray) (k : Nat) (y : UInt8) (h : k < s.size) : (putB s k y).size = s.size := by
  unfold putB
  have : (⟨#[y]⟩ : ByteArray).size = 1 := rfl
  rw [ByteArray.size_append, ByteArray.size_append, ByteArray.size_extract, ByteArray.size_extract, this]; omega
theorem putB_list (s : ByteArray) (k : Nat) (y : UInt8) : (putB s k y).data.toList = s.data.toList.take k ++ y :: s.data.toList.drop (k + 1) := by
  unfold putB
  rw [ByteArray.toList_data_append, ByteArray.toList_data_append, ByteArray.data_extract, ByteArray.data_extract, Array.toList_extract, Array.toList_extract]
  show (s.data.toList.drop 0).take (k - 0) ++ [y] ++ (s.data.toList.drop (k + 1)).take (s.size - (k + 1)) = _
  have : s.data.toList.length = s.size := rfl
  rw [List.drop_zero, Nat.sub_zero, List.take_of_length_le (l := s.data.toList.drop (k + 1)) (by rw [List.length_drop]; omega), List.append_assoc]
  rfl
theorem self_list (s : ByteArray) (k : Nat) (h : k < s.size) : s.data.toList = s.data.toList.take k ++ s[k] :: s.data.toList.drop (k + 1) := by
  have h' : k < s.data.toList.length := h
  have : s.data.toList.drop k = s[k] :: s.data.toList.drop (k + 1) := by rw [List.drop_eq_getElem_cons h']; rfl
  rw [← this, List.take_append_drop]
theorem putB_ps (s : ByteArray) (k : Nat) (y : UInt8) (h : k < s.size) : ∃ A w B : Nat, (w = 1 ∨ w = 256) ∧ psB s = A + w * s[k].toNat + B ∧ psB (putB s k y) = A + w * y.toNat + B := by
  unfold psB
  rw [putB_list]
  have e := self_list s k h
  generalize s[k] = x at *
  generalize s.data.toList.take k = l at *
  generalize s.data.toList.drop (k + 1) = m at *
  rw [e, ps_append, ps_append]
  cases (if l.length % 2 = 0 then true else !true)
  · exact ⟨ps true l, 1, ps true m, Or.inl rfl, by simp [ps, Nat.add_assoc], by simp [ps, Nat.add_assoc]⟩
  · exact ⟨ps true l, 256, ps false m, Or.inr rfl, by simp [ps, Nat.add_assoc], by simp [ps, Nat.add_assoc]⟩
theorem ps_lt (l : List UInt8) : ∀ e, ps e l ≤ 65280 * l.length := by
  induction l with
  | nil => intro e; simp [ps]
  | cons b r ih =>
    intro e
    have hb := b.toNat_lt
    have := ih (!e)
    rw [ps, List.length_cons]
    split <;> omega
theorem putB_sum (s : ByteArray) (k : Nat) (y : UInt8) (h : k < s.size) (hz : s.size ≤ 5000) (hs : ofV s = 0) (hy : y ≠ s[k]) : ofV (putB s k y) ≠ 0 := by
  obtain ⟨A, w, B, hw, e1, e2⟩ := putB_ps s k y h
  have l1 : psB s ≤ 65280 * s.size := ps_lt _ _
  have l2 : psB (putB s k y) ≤ 65280 * s.size := by have := ps_lt (putB s k y).data.toList true; rw [← putB_size s k y h]; exact this
  have hx := s[k].toNat_lt
  have hyl := y.toNat_lt
  have hne : y.toNat ≠ s[k].toNat := fun hh => hy (UInt8.toNat_inj.1 hh)
  intro h0
  have q1 := (ofV_zero s (by omega)).1 hs
  have q2 := (ofV_zero (putB s k y) (by omega)).1 h0
  rw [e1] at q1
  rw [e2] at q2
  rcases hw with rfl | rfl <;> omega
theorem putB_left (h d : ByteArray) (k : Nat) (y : UInt8) (hk : k < h.size) : putB (h ++ d) k y = putB h k y ++ d := by
  apply ByteArray.ext
  apply Array.ext'
  have hl : h.data.toList.length = h.size := rfl
  rw [ByteArray.toList_data_append, putB_list, putB_list, ByteArray.toList_data_append, List.take_append_of_le_length (by omega), List.drop_append_of_le_length (by omega)]
  simp
theorem putB_right (h d : ByteArray) (k : Nat) (y : UInt8) (hk : h.size ≤ k) : putB (h ++ d) k y = h ++ putB d (k - h.size) y := by
  apply ByteArray.ext
  apply Array.ext'
  have hl : h.data.toList.length = h.size := rfl
  rw [ByteArray.toList_data_append, putB_list, putB_list, ByteArray.toList_data_append, List.take_append, List.drop_append, List.take_of_length_le (by omega), List.drop_eq_nil_of_le (by omega)]
  rw [hl, show k + 1 - h.size = k - h.size + 1 from by omega]
  simp
theorem putB_first (s : ByteArray) (k : Nat) (y : UInt8) (h : k < s.size) (h1 : 1 ≤ k) : beAt (putB s k y) 0 1 = beAt s 0 1 := by
  unfold beAt
  rw [putB_list]
  congr 1
  rw [List.drop_zero, List.drop_zero, List.take_append_of_le_length (by rw [List.length_take]; have : s.data.toList.length = s.size := rfl; omega), List.take_take, Nat.min_eq_left h1]

/-- A head with another byte in it, but its first one, is an error. -/
theorem spoil_head (h d : ByteArray) (k : Nat) (y : UInt8) (hh : h.size = 20) (h0 : ofV h = 0) (h69 : beAt (h ++ d) 0 1 = 69) (hk : k < 20) (h1 : 1 ≤ k) (hy : y ≠ h[k]) : ∃ q : Int, q ≠ 0 ∧ rd4 (putB (h ++ d) k y) = (((⟨#[]⟩, ⟨#[]⟩, 0, 0, 0, 0, false, ⟨#[]⟩), q) : (ByteArray × ByteArray × Int × Int × Int × Int × Bool × ByteArray) × Int) := by
  have hz : (h ++ d).size = 20 + d.size := by rw [ByteArray.size_append, hh]
  have hs := putB_sum h k y (by omega) (by omega) h0 hy
  have hf := putB_first (h ++ d) k y (by omega) h1
  rw [h69] at hf
  have he := putB_left h d k y (by omega)
  have hp := putB_size h k y (by omega)
  rcases hl : lnV (putB (h ++ d) k y) with ⟨a, b, q⟩
  by_cases hq : q = 0
  · subst hq
    obtain ⟨-, -, -, -, -, g6, -, -⟩ := lnV_ok hl
    rw [hf, he] at g6
    exfalso
    apply hs
    have : (putB h k y ++ d).extract 0 (4 * (69 % 16)) = putB h k y := ByteArray.extract_append_eq_left (by rw [hp, hh])
    rw [this] at g6
    exact g6
  · refine ⟨q, hq, ?_⟩
    unfold rd4
    rw [hl]
    exact if_pos hq

theorem w4_parts (n o i r t p c x : Nat) (a b d : ByteArray) (ha : a.size = 4) (hb : b.size = 4) :
    (h4W n o i r t p c a b ++ d).extract 0 6 ++ putS 2 x ++ (h4W n o i r t p c a b ++ d).extract 8 10 ++ ⟨#[0, 0]⟩ ++ (h4W n o i r t p c a b ++ d).extract 12 (20 + d.size) = h4W n o i x t p 0 a b ++ d := by
  have e3 : (⟨#[0, 0]⟩ : ByteArray) = putS 2 0 := by decide +kernel
  have z : (putS 1 69 ++ putS 1 o ++ putS 2 n ++ putS 2 i).size = 6 := by simp only [ByteArray.size_append, putS_size]
  have z2 : (putS 1 t ++ putS 1 p).size = 2 := by simp only [ByteArray.size_append, putS_size]
  have e : h4W n o i r t p c a b ++ d = (putS 1 69 ++ putS 1 o ++ putS 2 n ++ putS 2 i) ++ (putS 2 r ++ ((putS 1 t ++ putS 1 p) ++ (putS 2 c ++ (a ++ (b ++ d))))) := by
    unfold h4W; simp only [ByteArray.append_assoc]
  have e' : h4W n o i x t p 0 a b ++ d = (putS 1 69 ++ putS 1 o ++ putS 2 n ++ putS 2 i) ++ (putS 2 x ++ ((putS 1 t ++ putS 1 p) ++ (putS 2 0 ++ (a ++ (b ++ d))))) := by
    unfold h4W; simp only [ByteArray.append_assoc]
  rw [e, e', e3]
  generalize (putS 1 69 ++ putS 1 o ++ putS 2 n ++ putS 2 i) = X at *
  generalize (putS 1 t ++ putS 1 p) = Y at *
  have e1 : (X ++ (putS 2 r ++ (Y ++ (putS 2 c ++ (a ++ (b ++ d)))))).extract 0 6 = X := ByteArray.extract_append_eq_left z.symm
  have e2 : (X ++ (putS 2 r ++ (Y ++ (putS 2 c ++ (a ++ (b ++ d)))))).extract 8 10 = Y := by
    rw [← ByteArray.append_assoc]
    exact mid4 _ _ _ _ _ (by rw [ByteArray.size_append, putS_size, z]) (by rw [ByteArray.size_append, putS_size, z, z2])
  have e4 : (X ++ (putS 2 r ++ (Y ++ (putS 2 c ++ (a ++ (b ++ d)))))).extract 12 (20 + d.size) = a ++ (b ++ d) := by
    rw [← ByteArray.append_assoc, ← ByteArray.append_assoc, ← ByteArray.append_assoc]
    exact ByteArray.extract_append_eq_right (by simp only [ByteArray.size_append, putS_size, z, z2]) (by simp only [ByteArray.size_append, putS_size, z, z2, ha, hb]; omega)
  rw [e1, e2, e4]
  simp only [ByteArray.append_assoc]
theorem w4_reset (n o i r t p c x : Nat) (a b d : ByteArray) (ha : a.size = 4) (hb : b.size = 4) :
    (h4W n o i r t p c a b ++ d).extract 0 10 ++ putS 2 x ++ (h4W n o i r t p c a b ++ d).extract 12 (20 + d.size) = h4W n o i r t p x a b ++ d := by
  have z : (putS 1 69 ++ putS 1 o ++ putS 2 n ++ putS 2 i ++ putS 2 r ++ putS 1 t ++ putS 1 p).size = 10 := by simp only [ByteArray.size_append, putS_size]
  have e : ∀ c, h4W n o i r t p c a b ++ d = (putS 1 69 ++ putS 1 o ++ putS 2 n ++ putS 2 i ++ putS 2 r ++ putS 1 t ++ putS 1 p) ++ (putS 2 c ++ (a ++ (b ++ d))) := by
    intro c; unfold h4W; simp only [ByteArray.append_assoc]
  rw [e c, e x]
  generalize (putS 1 69 ++ putS 1 o ++ putS 2 n ++ putS 2 i ++ putS 2 r ++ putS 1 t ++ putS 1 p) = X at *
  have e1 : (X ++ (putS 2 c ++ (a ++ (b ++ d)))).extract 0 10 = X := ByteArray.extract_append_eq_left z.symm
  have e4 : (X ++ (putS 2 c ++ (a ++ (b ++ d)))).extract 12 (20 + d.size) = a ++ (b ++ d) := by
    rw [← ByteArray.append_assoc]
    exact ByteArray.extract_append_eq_right (by simp only [ByteArray.size_append, putS_size, z]) (by simp only [ByteArray.size_append, putS_size, z, ha, hb]; omega)
  rw [e1, e4]
  simp only [ByteArray.append_assoc]

theorem one_num (k : Nat) : strOfNums [(k : Int)] = ⟨#[UInt8.ofNat k]⟩ := by
  unfold strOfNums
  simp
theorem xor_other (x b : Nat) (hx : x < 256) (hb : b < 256) (h0 : b ≠ 0) : ∃ v : Nat, v < 256 ∧ v ≠ x ∧ bits .xor .u8 (x : Int) (b : Int) = (v : Int) := by
  have key : (BitVec.ofInt 8 (x : Int) ^^^ BitVec.ofInt 8 (b : Int)).toNat = x ^^^ b := by
    rw [BitVec.toNat_xor, BitVec.toNat_ofInt, BitVec.toNat_ofInt]
    congr 1 <;> omega
  have hl : x ^^^ b < 2 ^ 8 := Nat.xor_lt_two_pow (by omega) (by omega)
  refine ⟨x ^^^ b, hl, ?_, ?_⟩
  · intro e
    have h2 : x ^^^ (x ^^^ b) = b := by rw [← Nat.xor_assoc, Nat.xor_self, Nat.zero_xor]
    rw [e, Nat.xor_self] at h2
    exact h0 h2.symm
  · show IntKind.u8.wrap ((BitVec.ofInt 8 (x : Int) ^^^ BitVec.ofInt 8 (b : Int)).toNat : Nat) = _
    rw [key, IntKind.wrap_u8']
    omega

theorem mk4_get (a b : ByteArray) (p t i o : Nat) (d : ByteArray) (k : Nat) (h : k < (mk4 a b p t i o d).size) (ha : a.size = 4) (hb : b.size = 4) (hk : k < 20) : ∃ hk2, (mk4 a b p t i o d)[k] = (h4W (20 + d.size) o i 16384 t p (ofV (h4W (20 + d.size) o i 16384 t p 0 a b)).toNat a b)[k]'hk2 := by
  have hz := h4W_size (20 + d.size) o i 16384 t p (ofV (h4W (20 + d.size) o i 16384 t p 0 a b)).toNat a b ha hb
  refine ⟨by omega, ?_⟩
  show (h4W (20 + d.size) o i 16384 t p (ofV (h4W (20 + d.size) o i 16384 t p 0 a b)).toNat a b ++ d)[k]'_ = _
  exact ByteArray.getElem_append_left (by omega)
theorem spoil_mk4 (a b : ByteArray) (p t i o : Nat) (d : ByteArray) (ha : a.size = 4) (hb : b.size = 4) (ho : o ≤ 255) (hi : i ≤ 65535) (ht : t ≤ 255) (hp : p ≤ 255) (hd : 20 + d.size ≤ 4000) (k v : Nat) (h1 : 1 ≤ k) (hk : k < 20) (hlt : k < (mk4 a b p t i o d).size) (hv : v < 256) (hne : v ≠ (mk4 a b p t i o d)[k].toNat) :
    ∃ q : Int, q ≠ 0 ∧ rd4 ((mk4 a b p t i o d).extract 0 k ++ ⟨#[UInt8.ofNat v]⟩ ++ (mk4 a b p t i o d).extract (k + 1) (mk4 a b p t i o d).size) = (((⟨#[]⟩, ⟨#[]⟩, 0, 0, 0, 0, false, ⟨#[]⟩), q) : (ByteArray × ByteArray × Int × Int × Int × Int × Bool × ByteArray) × Int) := by
  have hl := w4_laid (20 + d.size) o i 16384 t p a b ha hb (by omega) ho hi (by omega) ht hp
  obtain ⟨hk2, hg⟩ := mk4_get a b p t i o d k hlt ha hb hk
  rw [hg] at hne
  obtain ⟨b0, -⟩ := w4_be (20 + d.size) o i 16384 t p (ofV (h4W (20 + d.size) o i 16384 t p 0 a b)).toNat a b d (by omega) ho hi (by omega) ht hp
  exact spoil_head (h4W (20 + d.size) o i 16384 t p (ofV (h4W (20 + d.size) o i 16384 t p 0 a b)).toNat a b) d k (UInt8.ofNat v) (h4W_size _ _ _ _ _ _ _ _ _ ha hb) hl.1 b0 hk h1 (fun e => hne (by have := congrArg UInt8.toNat e; rw [UInt8.toNat_ofNat'] at this; rw [← this]; omega))
theorem spoil_dat (a b : ByteArray) (p t i o : Nat) (d : ByteArray) (ha : a.size = 4) (hb : b.size = 4) (ho : o ≤ 255) (hi : i ≤ 65535) (ht : t ≤ 255) (hp : p ≤ 255) (hd : 20 + d.size ≤ 4000) (k v : Nat) (hk : 20 ≤ k) (hlt : k < (mk4 a b p t i o d).size) :
    ∃ d' : ByteArray, rd4 ((mk4 a b p t i o d).extract 0 k ++ ⟨#[UInt8.ofNat v]⟩ ++ (mk4 a b p t i o d).extract (k + 1) (mk4 a b p t i o d).size) = (((a, b, (p : Int), (t : Int), (i : Int), (o : Int), false, d'), 0) : (ByteArray × ByteArray × Int × Int × Int × Int × Bool × ByteArray) × Int) := by
  have hl := w4_laid (20 + d.size) o i 16384 t p a b ha hb (by omega) ho hi (by omega) ht hp
  have hz := h4W_size (20 + d.size) o i 16384 t p (ofV (h4W (20 + d.size) o i 16384 t p 0 a b)).toNat a b ha hb
  have hs := mk4_size a b p t i o d ha hb
  have e := putB_right (h4W (20 + d.size) o i 16384 t p (ofV (h4W (20 + d.size) o i 16384 t p 0 a b)).toNat a b) d k (UInt8.ofNat v) (by omega)
  have hp2 := putB_size d (k - 20) (UInt8.ofNat v) (by omega)
  refine ⟨putB d (k - 20) (UInt8.ofNat v), ?_⟩
  show rd4 (putB (h4W (20 + d.size) o i 16384 t p (ofV (h4W (20 + d.size) o i 16384 t p 0 a b)).toNat a b ++ d) k (UInt8.ofNat v)) = _
  rw [e, hz, rd4_w _ _ _ _ _ _ _ _ _ _ ha hb (by omega) ho hi (by omega) ht hp (by omega) (by omega) (by omega) hl.1]
  rw [show 20 + d.size - 20 = (putB d (k - 20) (UInt8.ofNat v)).size from by omega, ByteArray.extract_zero_size]
  rfl

end Go.Proofs.Ythapajhaehdleaa
