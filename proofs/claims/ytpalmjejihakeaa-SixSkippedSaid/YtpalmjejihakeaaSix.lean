/- The contracts of package ipv6's functions and of the reference's. -/
import Derived.Test.YtpalmjejihakeaaRefGet
import Derived.Test.YtpalmjejihakeaaRefPut
import Derived.Lib.Strings
import Derived.Deep.RegionWith
import Derived.Lib.IndexBytes
namespace Go.Proofs.Ytpalmjejihakeaa
open Go.RowKit Go.Maps

def extB (n : Int) : Bool := n == 0 || n == 43 || n == 60 || n == 44

set_option maxHeartbeats 400000 in
theorem refExtends_any (n : Int) (w : World) :
    Calls Try.prog 23 #[.int .i64 n] w fun e w' => e = .returned (.bool (extB n)) ∧ w = w' := by
  go_enter Try.func23, Try.ntmps23
  go_wp2
  all_goals
    go_ret
    exact ⟨ret_bool (by first | rfl | (simp_all [extB]; done)), rfl⟩

section
open Go.Maps
/-- An entry of a map's literal: 'wpList_mapUpdate_own' at 'Op.insert'. -/
theorem wpList_insert_own {H : Type} {P : Program} (w : World) {ops : Array Oper} {rest : List Oper} {o : Oper} {a : Act} {Q : Exit → Act → World → Prop}
    (hg : o.guard = none) (m x v : Operand) (t : TypeId) (hop : o.op = Op.insert t m x v)
    (k e : TypeId) (K : Keyed P k) (ht : P.underlying t = some (.map k e)) (R : Value → Option (DataW H × List MemPlace)) (b n : Nat) (D : DataW H)
    (hm : a.eval m = .map (some b)) (hown : w.ownsMap P k R b n D) (hn : n < maxLen) (key val : Value) (kl : Lit) (hx : a.eval x = key) (hv : a.eval v = val) (hkey : keyOf P k key = some kl)
    (d : DataW H) (ps : List MemPlace) (hval : R val = some (d, ps))
    (hK : ∀ w', w'.ownsMap P k R b (n + 1) (D.put kl d) → w.grownBy w' (some b) → wpList P ops Q rest (a.put o.dst undef) w') :
    wpList P ops Q (o :: rest) a w := by
  refine wpList_plain hg fun K' hK' => ?_
  obtain ⟨w', hrun, r1, r2⟩ := hown.update K ht hn hkey hval
  unfold Oper.wp
  simp [execOp, hop, hm, hx, hv, hrun, Result.andThen]
  exact hK' _ _ (hK w' r1 r2)
theorem keyed_int : Keyed Try.prog 3 := int_keyed Try.underlying3
theorem zero_int (w : World) : (zeroValue 3).run Try.prog w = .ok (.int .i64 0) w := by kernel_rfl

/-- What the literal's map holds at a kind. -/
theorem ext_at (n c : Int) (h : (((((DataW.map [] : DataW Unit).put (.int .i64 0) (.lit (.int .i64 1))).put (.int .i64 43) (.lit (.int .i64 1))).put (.int .i64 44) (.lit (.int .i64 1))).put (.int .i64 60) (.lit (.int .i64 1))).atKey (.int .i64 n) (.lit (.int .i64 0)) = .lit (.int .i64 c)) :
    decide (0 < c) = extB n := by
  have m1 := isMap_empty.put (H := Unit) (.int .i64 0) (.lit (.int .i64 1))
  have m2 := m1.put (.int .i64 43) (.lit (.int .i64 1))
  have m3 := m2.put (.int .i64 44) (.lit (.int .i64 1))
  by_cases h60 : n = 60
  · subst h60; rw [atKey_put_same (k := .int .i64 60) m3 trivial] at h; cases h; rfl
  rw [atKey_put_other (by simpa using h60)] at h
  by_cases h44 : n = 44
  · subst h44; rw [atKey_put_same (k := .int .i64 44) m2 trivial] at h; cases h; rfl
  rw [atKey_put_other (by simpa using h44)] at h
  by_cases h43 : n = 43
  · subst h43; rw [atKey_put_same (k := .int .i64 43) m1 trivial] at h; cases h; rfl
  rw [atKey_put_other (by simpa using h43)] at h
  by_cases h0 : n = 0
  · subst h0; rw [atKey_put_same (k := .int .i64 0) isMap_empty trivial] at h; cases h; rfl
  rw [atKey_put_other (by simpa using h0)] at h
  cases h
  simp [extB, *]
end

set_option maxHeartbeats 400000 in
theorem extends_any (n : Int) (w : World) (hn : (Lit.int .i64 n).wf = true) :
    Calls Try.prog 21 #[.int .i64 n] w fun e w' => e = .returned (.bool (extB n)) ∧ Below w.heap.size w w' := by
  have hmm := @run_makeMap Try.prog
  have hown0 := World.ownsMap_made (H := Unit) w Try.prog 3 (plainElem Try.prog 3)
  have hB := (Below.refl w.heap.size w).alloc (Nat.le_refl _) (.map #[] 0)
  go_enter Try.func21, Try.ntmps21
  go_wp2_with (first
    | (refine wpList_insert_own _ rfl _ _ _ 58 rfl 3 3 keyed_int Try.underlying58 _ w.heap.size _ _ rfl (by assumption) (by unfold maxLen; omega) _ _ _ rfl rfl (keyOf_int_mk Try.underlying3 (by decide)) _ [] (plainElem_int Try.underlying3 (by decide)) ?_; intro w1 hown1 hgrow1; replace hB := hB.grown hgrow1 hB.size (fun j hj => by cases hj; exact Nat.le_refl _); clear hown0; have hown0 := hown1; clear hown1)
    | (at_lookup; refine wpList_lookup_own_int _ rfl _ _ 58 rfl 3 3 .i64 keyed_int Try.underlying58 Try.underlying3 (zero_int _) w.heap.size _ _ rfl (by assumption) _ _ rfl (keyOf_int_mk Try.underlying3 (by assumption)) ?_; intro c hat hwc; have hx := ext_at _ _ hat))
  go_ret
  exact ⟨rfl, hB⟩

/-- Byte i of a string. -/
def bt (s : ByteArray) (i : Nat) : Nat := (s.data.toList.getD i 0).toNat
theorem bt_eq (s : ByteArray) (i : Nat) (h : i < s.size) : s[i].toNat = bt s i := by
  unfold bt
  have h' : i < s.data.toList.length := by simpa using h
  simp only [List.getD, List.getElem?_eq_getElem h', Option.getD_some]; rfl
theorem bt_lt (s : ByteArray) (i : Nat) : bt s i < 256 := (s.data.toList.getD i 0).toNat_lt
theorem bt_tail (s : ByteArray) (a i : Nat) : bt (s.extract a s.size) i = bt s (a + i) := by
  unfold bt; rw [Lib.extract_to_end]; simp [List.getD, List.getElem?_drop]
/-- Two bytes' number. -/
abbrev pairN (s : ByteArray) (i : Nat) : Nat := beAt s i 2
theorem pairN_tail (s : ByteArray) (a i : Nat) : pairN (s.extract a s.size) i = pairN s (a + i) := by
  unfold pairN beAt; rw [Lib.extract_to_end, List.drop_drop]
theorem pairN_lt (s : ByteArray) (i : Nat) : pairN s i < 65536 := by
  have := be_lt ((s.data.toList.drop i).take 2)
  refine Nat.lt_of_lt_of_le this ?_
  have h := Nat.pow_le_pow_right (n := 256) (by decide) (List.length_take_le 2 (s.data.toList.drop i))
  simpa using h
theorem tail_size (s : ByteArray) (a : Nat) (h : a ≤ s.size) : (s.extract a s.size).size = s.size - a := by
  rw [ByteArray.size_extract]; omega
/-- Whether a part's number says that it is one. -/
def fragN (x : Nat) : Bool := decide (x % 2 ≠ 0 ∨ x / 8 ≠ 0)
theorem fragN_clear (x : Nat) (h : x < 65536) : (bits .andNot .u64 (x : Int) 6 != 0) = fragN x := by
  have e := u64_andNot_nat x 6 (by omega) (by decide)
  have e6 : ((6 : Nat) : Int) = 6 := rfl
  rw [e6] at e
  rw [e]
  have h1 : (x &&& (18446744073709551615 - 6)) % 8 = x % 2 := by
    have a := Nat.and_mod_two_pow (a := x) (b := 18446744073709551615 - 6) (n := 3)
    have b : (18446744073709551615 - 6) % 2 ^ 3 = 1 := by decide
    rw [b] at a
    have d : x % 2 ^ 3 &&& 1 = x % 2 ^ 3 % 2 := by simp
    rw [d] at a
    have : (2 : Nat) ^ 3 = 8 := by decide
    rw [this] at a
    omega
  have h2 : (x &&& (18446744073709551615 - 6)) / 8 = x / 8 := by
    have a := Nat.and_div_two_pow (a := x) (b := 18446744073709551615 - 6) (n := 3)
    have b : (18446744073709551615 - 6) / 2 ^ 3 = 2 ^ 61 - 1 := by decide
    rw [b, Nat.and_two_pow_sub_one_eq_mod, Nat.mod_eq_of_lt (by omega)] at a
    simpa using a
  generalize x &&& (18446744073709551615 - 6) = y at *
  unfold fragN
  by_cases hy : y = 0
  · subst hy; simp; omega
  · have : (x % 2 ≠ 0 ∨ x / 8 ≠ 0) := by omega
    rw [decide_eq_true this]; simp; exact hy
theorem fragN_bits (x : Nat) (h : x < 65536) : (bitsN x 0 1 != 0 || bitsN x 3 13 != 0) = fragN x := by
  unfold bitsN fragN
  have e : x / 2 ^ 3 % 2 ^ 13 = x / 8 := by
    have : (2 : Nat) ^ 3 = 8 ∧ (2 : Nat) ^ 13 = 8192 := by decide
    rw [this.1, this.2]; omega
  rw [e, Bool.eq_iff_iff]
  simp

/-- One extension: how long it is, whether it makes a part, whether it is all there. -/
def oneSize (s : ByteArray) (p : Int) : Nat := if s.size < 8 then 0 else if p = 44 then 8 else 8 * (1 + bt s 1)
def oneFrag (s : ByteArray) (p : Int) : Bool := if s.size < 8 then false else if p = 44 then fragN (pairN s 2) else false
def oneOk (s : ByteArray) (p : Int) : Bool := if s.size < 8 then false else if p = 44 then true else decide (8 * (1 + bt s 1) ≤ s.size)

set_option maxHeartbeats 400000 in
theorem one_any (s : ByteArray) (p : Int) (w : World) (hs : s.size ≤ 140737488351232) :
    Calls Try.prog 22 #[.string s, .int .i64 p] w fun e w' => e = .returned (.tuple #[.int .i64 (oneSize s p), .bool (oneFrag s p), .bool (oneOk s p)]) ∧ w = w' := by
  by_cases h8 : s.size < 8
  · go_enter Try.func22, Try.ntmps22
    go_wp2
    go_ret3
    exact ⟨by simp [oneSize, oneFrag, oneOk, h8], rfl⟩
  by_cases hp : p = 44
  · subst hp
    have hx := fragN_clear (beAt s 2 2) (pairN_lt s 2)
    go_enter Try.func22, Try.ntmps22
    go_wp2_with (go_at_call 19; refine (get_yes s 2 2 _ (by omega) (by omega) (by omega) (by omega)).mono ?_; rintro e w' ⟨rfl, rfl⟩)
    go_ret3
    exact ⟨ret_t3 (iv (by simp [oneSize, h8])) (bv (by simp [oneFrag, h8])) (bv (by simp [oneOk, h8])), rfl⟩
  · have hb := bt_eq s 1 (by omega)
    have hb1 := bt_lt s 1
    go_enter Try.func22, Try.ntmps22
    go_wp2
    go_ret3
    exact ⟨ret_t3 (iv (by simp [oneSize, h8, hp])) (bv (by simp [oneFrag, h8, hp])) (bv (by simp [oneOk, h8, hp]; omega)), rfl⟩

/-- What extensions there are from place a on: f more may come. -/
def sk (s : ByteArray) : Nat → Nat → Int → Bool → Int × Int × Bool × Int
  | f, a, p, part => if extB p = true then (match f with
    | 0 => (0, 0, false, 2)
    | f + 1 => if s.size < a + 8 then (0, 0, false, 3)
      else if s.size < a + (if p = 44 then 8 else 8 + 8 * bt s (a + 1)) then (0, 0, false, 3)
      else sk s f (a + (if p = 44 then 8 else 8 + 8 * bt s (a + 1))) (bt s a) (part || (p == 44 && fragN (beAt s (a + 2) 2))))
    else ((a : Int), p, part, 0)
theorem sk_no (s : ByteArray) (f a : Nat) (p : Int) (part : Bool) (h : extB p = false) : sk s f a p part = ((a : Int), p, part, 0) := by
  unfold sk; simp [h]
theorem sk_big (s : ByteArray) (a : Nat) (p : Int) (part : Bool) (h : extB p = true) : sk s 0 a p part = (0, 0, false, 2) := by
  unfold sk; simp [h]
theorem sk_short (s : ByteArray) (f a : Nat) (p : Int) (part : Bool) (h : extB p = true) (h2 : oneOk (s.extract a s.size) p = false) (ha : a ≤ s.size) : sk s (f + 1) a p part = (0, 0, false, 3) := by
  unfold oneOk at h2
  rw [tail_size s a ha, bt_tail] at h2
  unfold sk
  simp only [h, if_true]
  by_cases h8 : s.size < a + 8
  · rw [if_pos h8]
  · rw [if_neg h8]
    rw [if_neg (by omega)] at h2
    by_cases hp : p = 44
    · simp [hp] at h2
    · simp [hp] at h2
      rw [if_pos (by rw [if_neg hp]; omega)]
theorem sk_step (s : ByteArray) (f a : Nat) (p : Int) (part : Bool) (h : extB p = true) (h2 : oneOk (s.extract a s.size) p = true) (ha : a ≤ s.size) :
    sk s (f + 1) a p part = sk s f (a + oneSize (s.extract a s.size) p) (bt s a) (part || oneFrag (s.extract a s.size) p) ∧ a + 8 ≤ s.size ∧ 8 ≤ oneSize (s.extract a s.size) p ∧ a + oneSize (s.extract a s.size) p ≤ s.size := by
  unfold oneOk at h2
  rw [tail_size s a ha, bt_tail] at h2
  have h8 : ¬ s.size - a < 8 := by intro h9; simp [h9] at h2
  rw [if_neg h8] at h2
  have e1 : oneSize (s.extract a s.size) p = (if p = 44 then 8 else 8 + 8 * bt s (a + 1)) := by
    unfold oneSize; rw [tail_size s a ha, bt_tail, if_neg h8]; split <;> omega
  have e2 : oneFrag (s.extract a s.size) p = (p == 44 && fragN (beAt s (a + 2) 2)) := by
    unfold oneFrag; rw [tail_size s a ha, pairN_tail, if_neg h8]
    by_cases hp : p = 44 <;> simp [hp]
  have e3 : a + (if p = 44 then 8 else 8 + 8 * bt s (a + 1)) ≤ s.size := by
    by_cases hp : p = 44
    · rw [if_pos hp]; omega
    · simp [hp] at h2; rw [if_neg hp]; omega
  rw [e1, e2]
  refine ⟨?_, by omega, by split <;> omega, e3⟩
  conv => lhs; unfold sk
  simp only [h, if_true]
  rw [if_neg (by omega), if_neg (by omega)]

set_option maxHeartbeats 1000000 in
theorem skips_any (s : ByteArray) (p0 : Int) (w : World) (hs : s.size ≤ 140737488351232) (wp : (Lit.int .i64 p0).wf = true) (x y : Int) (z : Bool) (q : Int) (hr : sk s 8 0 p0 false = (x, y, z, q)) :
    Calls Try.prog 12 #[.string s, .int .i64 p0] w fun e w' => e = .returned (.tuple #[.int .i64 x, .int .i64 y, .bool z, .int .i64 q]) ∧ Below w.heap.size w w' := by
  have HR := Lib.hid hr
  clear hr
  go_enter Try.func12, Try.ntmps12
  go_wp2
  go_loopw [1, 8, 9, 10] (fun pv av fv nv wr => ∃ (a n : Nat) (p : Int) (fr : Bool), n ≤ 8 ∧ a ≤ s.size ∧ (Lit.int .i64 p).wf = true ∧ pv = .int .i64 p ∧ av = .int .i64 a ∧ fv = .bool fr ∧ nv = .int .i64 n ∧ Hid (sk s (8 - n) a p fr = (x, y, z, q)) ∧ Below w.heap.size w wr) (fun _ _ _ n _ => 8 - (intOf n).toNat)
  case atStart => exact ⟨0, 0, p0, false, by omega, by omega, wp, rfl, rfl, rfl, rfl, HR, Below.refl _ _⟩
  case round =>
    obtain ⟨a, n, p, fr, hn, ha, hp, rfl, rfl, rfl, rfl, HS, hb⟩ := hrel
    by_cases he : extB p = true
    · by_cases h8 : n = 8
      · subst h8
        have h := HS.out
        rw [sk_big _ _ _ _ he] at h
        simp only [Prod.mk.injEq] at h
        obtain ⟨rfl, rfl, rfl, rfl⟩ := h
        clear HS
        go_wp2_with (go_at_call 21; refine (extends_any _ _ hp).mono ?_; rintro e w1 ⟨rfl, hb1⟩; replace hb := below_on hb1 hb)
        refine bodyPost_ret (v := .tuple #[.int .i64 0, .int .i64 0, .bool false, .int .i64 2]) (by simp [results, Try.results12, go_sem]) rfl ⟨rfl, hb⟩
      · have hn7 : n < 8 := by omega
        have hnb : ((n : Int) == 8) = false := by simp; omega
        obtain ⟨f, hf⟩ : ∃ f, 8 - n = f + 1 := ⟨7 - n, by omega⟩
        have hts := tail_size s a ha
        cases ho : oneOk (s.extract a s.size) p with
        | false =>
          have h := HS.out
          rw [hf, sk_short _ _ _ _ _ he ho ha] at h
          simp only [Prod.mk.injEq] at h
          obtain ⟨rfl, rfl, rfl, rfl⟩ := h
          clear HS hf
          go_wp2_with (first
            | (go_at_call 21; refine (extends_any _ _ hp).mono ?_; rintro e w1 ⟨rfl, hb1⟩; replace hb := below_on hb1 hb)
            | (go_at_call 22; refine (one_any _ _ _ (by omega)).mono ?_; rintro e w1 ⟨rfl, rfl⟩))
          refine bodyPost_ret (v := .tuple #[.int .i64 0, .int .i64 0, .bool false, .int .i64 3]) (by simp [results, Try.results12, go_sem]) rfl ⟨rfl, hb⟩
        | true =>
          obtain ⟨hst, k1, k2, k3⟩ := sk_step s f a p fr he ho ha
          have HF := Lib.hid hf
          have hbt := bt_eq s a (by omega)
          have hbl := bt_lt s a
          have hfn : 8 - (n + 1) = f := by omega
          have HN := Lib.hid hfn
          clear hf hfn
          cases fr
          all_goals
            simp only [Bool.true_or, Bool.false_or] at hst
            have HT := Lib.hid hst
            clear hst
            go_wp2_with (first
              | (go_at_call 21; refine (extends_any _ _ hp).mono ?_; rintro e w1 ⟨rfl, hb1⟩; replace hb := below_on hb1 hb)
              | (go_at_call 22; refine (one_any _ _ _ (by omega)).mono ?_; rintro e w1 ⟨rfl, rfl⟩))
            go_roundw
            case rel => exact ⟨a + oneSize (s.extract a s.size) p, n + 1, bt s a, _, by omega, k3, WalkArith.wf_i64 (by omega), rfl, by go_num, rfl, by go_num, by rw [HN.out, ← HT.out, ← HF.out]; exact HS, hb⟩
            case measure => simp [intOf]; omega
    · have he' : extB p = false := by simpa using he
      have h := HS.out
      rw [sk_no _ _ _ _ _ he'] at h
      simp only [Prod.mk.injEq] at h
      obtain ⟨rfl, rfl, rfl, rfl⟩ := h
      clear HS he
      go_wp2_with (go_at_call 21; refine (extends_any _ _ hp).mono ?_; rintro e w1 ⟨rfl, hb1⟩; replace hb := below_on hb1 hb)
      refine bodyPost_ret (v := .tuple #[.int .i64 a, .int .i64 p, .bool fr, .int .i64 0]) (by simp [results, Try.results12, go_sem]) rfl ⟨rfl, hb⟩

theorem sk_short8 (s : ByteArray) (f a : Nat) (p : Int) (part : Bool) (h : extB p = true) (h8 : s.size < a + 8) : sk s (f + 1) a p part = (0, 0, false, 3) := by
  unfold sk; simp only [h, if_true]; rw [if_pos h8]
theorem sk_part (s : ByteArray) (f a : Nat) (part : Bool) (h8 : ¬ s.size < a + 8) : sk s (f + 1) a 44 part = sk s f (a + 8) (bt s a) (part || fragN (beAt s (a + 2) 2)) := by
  conv => lhs; unfold sk
  have h : extB 44 = true := by decide
  simp only [h, if_true]; rw [if_neg h8, if_neg h8]; rfl
theorem sk_long (s : ByteArray) (f a : Nat) (p : Int) (part : Bool) (h : extB p = true) (h8 : ¬ s.size < a + 8) (hp : ¬ p = 44) (h9 : s.size < a + (8 + 8 * bt s (a + 1))) : sk s (f + 1) a p part = (0, 0, false, 3) := by
  unfold sk; simp only [h, if_true]; rw [if_neg h8, if_neg hp, if_pos h9]
theorem sk_next (s : ByteArray) (f a : Nat) (p : Int) (part : Bool) (h : extB p = true) (h8 : ¬ s.size < a + 8) (hp : ¬ p = 44) (h9 : ¬ s.size < a + (8 + 8 * bt s (a + 1))) : sk s (f + 1) a p part = sk s f (a + (8 + 8 * bt s (a + 1))) (bt s a) part := by
  conv => lhs; unfold sk
  simp only [h, if_true]; rw [if_neg h8, if_neg hp, if_neg h9]
  have : (p == 44) = false := by simpa using hp
  rw [this]; simp

set_option maxHeartbeats 2000000 in
theorem refSkips_any (s : ByteArray) (p0 : Int) (w : World) (hs : s.size ≤ 140737488351232) (wp : (Lit.int .i64 p0).wf = true) (x y : Int) (z : Bool) (q : Int) (hr : sk s 8 0 p0 false = (x, y, z, q)) :
    Calls Try.prog 13 #[.string s, .int .i64 p0] w fun e w' => e = .returned (.tuple #[.int .i64 x, .int .i64 y, .bool z, .int .i64 q]) ∧ w = w' := by
  have HR := Lib.hid hr
  clear hr
  go_enter Try.func13, Try.ntmps13
  go_wp2
  go_loop [1, 8, 9, 10, 11, 12, 13] (fun pv av fv nv _ _ _ => ∃ (a n : Nat) (p : Int) (fr : Bool), n ≤ 8 ∧ a ≤ s.size ∧ (Lit.int .i64 p).wf = true ∧ pv = .int .i64 p ∧ av = .int .i64 a ∧ fv = .bool fr ∧ nv = .int .i64 (n + 1) ∧ Hid (sk s (8 - n) a p fr = (x, y, z, q))) (fun _ _ _ n _ _ _ => 9 - (intOf n).toNat)
  case atStart => exact ⟨0, 0, p0, false, by omega, by omega, wp, rfl, rfl, rfl, rfl, HR⟩
  case round =>
    obtain ⟨a, n, p, fr, hn, ha, hp, rfl, rfl, rfl, rfl, HS⟩ := hrel
    by_cases he : extB p = true
    · by_cases h8 : n = 8
      · subst h8
        have h := HS.out
        rw [sk_big _ _ _ _ he] at h
        simp only [Prod.mk.injEq] at h
        obtain ⟨rfl, rfl, rfl, rfl⟩ := h
        clear HS
        go_wp2_with (go_at_call 23; refine (refExtends_any _ _).mono ?_; rintro e w1 ⟨rfl, rfl⟩)
        refine bodyPost_ret (v := .tuple #[.int .i64 0, .int .i64 0, .bool false, .int .i64 2]) (by simp [results, Try.results13, go_sem]) rfl ⟨rfl, rfl⟩
      · have hn7 : n < 8 := by omega
        obtain ⟨f, hf⟩ : ∃ f, 8 - n = f + 1 := ⟨7 - n, by omega⟩
        have hfn : 8 - (n + 1) = f := by omega
        have HN := Lib.hid hfn
        by_cases g8 : s.size < a + 8
        · have h := HS.out
          rw [hf, sk_short8 _ _ _ _ _ he g8] at h
          simp only [Prod.mk.injEq] at h
          obtain ⟨rfl, rfl, rfl, rfl⟩ := h
          clear HS hf hfn
          go_wp2_with (first
              | (go_at_call 23; refine (refExtends_any _ _).mono ?_; rintro e w1 ⟨rfl, rfl⟩)
              | (go_at_call 20; refine (refGet_yes s (a + 2) 2 _ (by omega) (by omega) (by omega) (by omega)).mono ?_; rintro e w1 ⟨rfl, rfl⟩)
              | (go_at_call 24; refine (refBits_i (beAt s (a + 2) 2) _ _ _ (by omega) (by decide) (by decide) (by decide)).mono ?_; rintro e w1 ⟨rfl, rfl⟩))
          refine bodyPost_ret (v := .tuple #[.int .i64 0, .int .i64 0, .bool false, .int .i64 3]) (by simp [results, Try.results13, go_sem]) rfl ⟨rfl, rfl⟩
        · have hb1 := bt_eq s (a + 1) (by omega)
          have hl1 := bt_lt s (a + 1)
          have hb0 := bt_eq s a (by omega)
          have hl0 := bt_lt s a
          by_cases h44 : p = 44
          · subst h44
            have hst := sk_part s f a fr g8
            have hpl : beAt s (a + 2) 2 < 65536 := pairN_lt s (a + 2)
            have hfb := fragN_bits (beAt s (a + 2) 2) hpl
            rw [← hfb] at hst
            have HT := Lib.hid hst
            have HF := Lib.hid hf
            clear hf hfn hst hfb
            cases fr with
            | true =>
              go_wp2_with (first
                  | (go_at_call 23; refine (refExtends_any _ _).mono ?_; rintro e w1 ⟨rfl, rfl⟩)
                  | (go_at_call 20; refine (refGet_yes s (a + 2) 2 _ (by omega) (by omega) (by omega) (by omega)).mono ?_; rintro e w1 ⟨rfl, rfl⟩)
                  | (go_at_call 24; refine (refBits_i (beAt s (a + 2) 2) _ _ _ (by omega) (by decide) (by decide) (by decide)).mono ?_; rintro e w1 ⟨rfl, rfl⟩))
              go_round
              case rel => exact ⟨a + 8, n + 1, bt s a, true, by omega, by omega, WalkArith.wf_i64 (by omega), rfl, by go_num, rfl, by go_num, by rw [HN.out]; have := HT.out; rw [Bool.true_or] at this; rw [← this, ← HF.out]; exact HS⟩
              case measure => simp [intOf]; omega
            | false =>
              have c1 : (((bitsN (beAt s (a + 2) 2) 0 1 : Nat) : Int) != 0) = (bitsN (beAt s (a + 2) 2) 0 1 != 0) := by
                rw [Bool.eq_iff_iff]; simp
              have c2 : (((bitsN (beAt s (a + 2) 2) 3 13 : Nat) : Int) != 0) = (bitsN (beAt s (a + 2) 2) 3 13 != 0) := by
                rw [Bool.eq_iff_iff]; simp
              have hT := HT.out
              clear HT
              rw [Bool.false_or, ← c1, ← c2] at hT
              clear c1 c2
              cases hB : (((bitsN (beAt s (a + 2) 2) 0 1 : Nat) : Int) != 0)
              all_goals
                rw [hB] at hT
                cases hB2 : (((bitsN (beAt s (a + 2) 2) 3 13 : Nat) : Int) != 0)
              all_goals
                rw [hB2] at hT
                simp only [Bool.true_or, Bool.false_or] at hT
                have HT := Lib.hid hT
                clear hT
                go_wp2_with (first
                    | (go_at_call 23; refine (refExtends_any _ _).mono ?_; rintro e w1 ⟨rfl, rfl⟩)
                    | (go_at_call 20; refine (refGet_yes s (a + 2) 2 _ (by omega) (by omega) (by omega) (by omega)).mono ?_; rintro e w1 ⟨rfl, rfl⟩)
                    | (go_at_call 24; refine (refBits_i (beAt s (a + 2) 2) _ _ _ (by omega) (by decide) (by decide) (by decide)).mono ?_; rintro e w1 ⟨rfl, rfl⟩))
                go_round
                case rel => exact ⟨a + 8, n + 1, bt s a, _, by omega, by omega, WalkArith.wf_i64 (by omega), rfl, by go_num, rfl, by go_num, by rw [HN.out, ← HT.out, ← HF.out]; exact HS⟩
                case measure => simp [intOf]; omega
          · have h44b : (p == 44) = false := by simpa using h44
            by_cases g9 : s.size < a + (8 + 8 * bt s (a + 1))
            · have h := HS.out
              rw [hf, sk_long _ _ _ _ _ he g8 h44 g9] at h
              simp only [Prod.mk.injEq] at h
              obtain ⟨rfl, rfl, rfl, rfl⟩ := h
              clear HS hf hfn
              go_wp2_with (first
                  | (go_at_call 23; refine (refExtends_any _ _).mono ?_; rintro e w1 ⟨rfl, rfl⟩)
                  | (go_at_call 20; refine (refGet_yes s (a + 2) 2 _ (by omega) (by omega) (by omega) (by omega)).mono ?_; rintro e w1 ⟨rfl, rfl⟩)
                  | (go_at_call 24; refine (refBits_i (beAt s (a + 2) 2) _ _ _ (by omega) (by decide) (by decide) (by decide)).mono ?_; rintro e w1 ⟨rfl, rfl⟩))
              refine bodyPost_ret (v := .tuple #[.int .i64 0, .int .i64 0, .bool false, .int .i64 3]) (by simp [results, Try.results13, go_sem]) rfl ⟨rfl, rfl⟩
            · have hst := sk_next s f a p fr he g8 h44 g9
              have HT := Lib.hid hst
              have HF := Lib.hid hf
              clear hf hfn hst
              go_wp2_with (first
                  | (go_at_call 23; refine (refExtends_any _ _).mono ?_; rintro e w1 ⟨rfl, rfl⟩)
                  | (go_at_call 20; refine (refGet_yes s (a + 2) 2 _ (by omega) (by omega) (by omega) (by omega)).mono ?_; rintro e w1 ⟨rfl, rfl⟩)
                  | (go_at_call 24; refine (refBits_i (beAt s (a + 2) 2) _ _ _ (by omega) (by decide) (by decide) (by decide)).mono ?_; rintro e w1 ⟨rfl, rfl⟩))
              go_round
              case rel => exact ⟨a + (8 + 8 * bt s (a + 1)), n + 1, bt s a, fr, by omega, by omega, WalkArith.wf_i64 (by omega), rfl, by go_num, rfl, by go_num, by rw [HN.out, ← HT.out, ← HF.out]; exact HS⟩
              case measure => simp [intOf]; omega
    · have he' : extB p = false := by simpa using he
      have h := HS.out
      rw [sk_no _ _ _ _ _ he'] at h
      simp only [Prod.mk.injEq] at h
      obtain ⟨rfl, rfl, rfl, rfl⟩ := h
      clear HS he
      go_wp2_with (go_at_call 23; refine (refExtends_any _ _).mono ?_; rintro e w1 ⟨rfl, rfl⟩)
      refine bodyPost_ret (v := .tuple #[.int .i64 a, .int .i64 p, .bool fr, .int .i64 0]) (by simp [results, Try.results13, go_sem]) rfl ⟨rfl, rfl⟩

end Go.Proofs.Ytpalmjejihakeaa
