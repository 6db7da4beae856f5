/- The contracts of package sum's functions, and of the reference's: each comes to one number, whatever the bytes. Conditions: bytes of at most 2^47. -/
import Derived.Test.YthapajhaehdleaaCell
import Derived.Lib.Hide
namespace Go.Proofs.Ythapajhaehdleaa
open Go.RowKit

/-- The sum of all pairs of bytes: e tells whether the first byte is a pair's first one. -/
def ps : Bool → List UInt8 → Nat
  | _, [] => 0
  | e, b :: r => (if e then 256 * b.toNat else b.toNat) + ps (!e) r
theorem ps_append (l m : List UInt8) : ∀ e, ps e (l ++ m) = ps e l + ps (if l.length % 2 = 0 then e else !e) m := by
  induction l with
  | nil => intro e; simp [ps]
  | cons b l ih =>
    intro e
    simp only [List.cons_append, ps, ih, List.length_cons]
    by_cases h : l.length % 2 = 0
    · rw [if_pos h, if_neg (show ¬ (l.length + 1) % 2 = 0 by omega)]; omega
    · rw [if_neg h, if_pos (show (l.length + 1) % 2 = 0 by omega)]; simp; omega
/-- The sum of all pairs of a string's bytes. -/
def psB (s : ByteArray) : Nat := ps true s.data.toList
def addV (n : Int) (p : Nat) : Int := IntKind.u64.wrap (n + p)
theorem cell_set_same {w : World} {a : Addr} {v : Value} (h : w.cell? a = some v) (x : Value) : (w.setCell a x).cell? a = some x :=
  World.cell?_setCell_same w a x h
theorem addV_0 (n : Int) (h0 : 0 ≤ n) (h1 : n < 18446744073709551616) : addV n 0 = n := by
  unfold addV; rw [IntKind.wrap_u64]; omega
theorem addV_add (n : Int) (p q : Nat) : IntKind.u64.wrap (addV n p + q) = addV n (p + q) := by
  unfold addV; simp only [IntKind.wrap_u64]; omega

theorem take_snoc (s : ByteArray) (k : Nat) (h : k < s.size) : s.data.toList.take (k + 1) = s.data.toList.take k ++ [s[k]] := by
  rw [List.take_succ_eq_append_getElem (by simpa using h)]; rfl
theorem ps_even (s : ByteArray) (k : Nat) (h : k < s.size) (he : k % 2 = 0) : ps true (s.data.toList.take (k + 1)) = ps true (s.data.toList.take k) + 256 * s[k].toNat := by
  rw [take_snoc s k h, ps_append]
  have : (s.data.toList.take k).length = k := by simp; omega
  rw [this, if_pos he]; simp [ps]
theorem ps_odd (s : ByteArray) (k : Nat) (h : k < s.size) (he : ¬ k % 2 = 0) : ps true (s.data.toList.take (k + 1)) = ps true (s.data.toList.take k) + s[k].toNat := by
  rw [take_snoc s k h, ps_append]
  have : (s.data.toList.take k).length = k := by simp; omega
  rw [this, if_neg he]; simp [ps]
theorem ps_pair (s : ByteArray) (k : Nat) (h : k + 2 ≤ s.size) (he : k % 2 = 0) : ps true (s.data.toList.take (k + 2)) = ps true (s.data.toList.take k) + beAt s k 2 := by
  unfold beAt
  rw [ps_odd s (k + 1) (by omega) (by omega), ps_even s k (by omega) he, drop_take_snoc s k 1 (by omega), be_snoc]
  have : (s.data.toList.drop k).take 1 = [s[k]] := by
    have := drop_take_snoc s k 0 (by omega)
    simpa using this
  rw [this]; simp [be]; omega
theorem ps_all (s : ByteArray) (k : Nat) (h : s.size ≤ k) : ps true (s.data.toList.take k) = ps true s.data.toList := by
  rw [List.take_of_length_le (by simpa using h)]

set_option maxHeartbeats 400000 in
theorem refAdd_any (n : Int) (s : ByteArray) (w : World) (hs : s.size ≤ 140737488351232) (h0 : 0 ≤ n) (h1 : n < 18446744073709551616) :
    Calls Try.prog 28 #[.int .u64 n, .string s] w fun e w' => e = .returned (.int .u64 (addV n (psB s))) ∧ w = w' := by
  have H0 := Lib.hid (addV_0 n h0 h1)
  clear h0 h1
  go_enter Try.func28, Try.ntmps28
  go_wp2
  go_loop [0, 5] (fun m i => ∃ k : Nat, k ≤ s.size ∧ i = .int .i64 k ∧ m = .int .u64 (addV n (ps true (s.data.toList.take k)))) (fun _ i => s.size - (intOf i).toNat)
  case atStart => exact ⟨0, Nat.zero_le _, rfl, by simp only [List.take_zero, ps]; rw [H0.out]⟩
  case round =>
    obtain ⟨k, hk, rfl, rfl⟩ := hrel
    by_cases hlt : k < s.size
    · by_cases he : k % 2 = 0
      · have HS := Lib.hid (ps_even s k hlt he)
        have hb := s[k].toNat_lt
        go_wp2
        go_round
        case rel => exact ⟨k + 1, by omega, by go_num, by rw [HS.out]; first | (rw [show (256 * (s[k].toNat : Int)) = ((256 * s[k].toNat : Nat) : Int) from by omega, addV_add]) | rw [addV_add]⟩
        case measure => simp [intOf]; omega
      · have HS := Lib.hid (ps_odd s k hlt he)
        have hb := s[k].toNat_lt
        go_wp2
        go_round
        case rel => exact ⟨k + 1, by omega, by go_num, by rw [HS.out]; first | (rw [show (256 * (s[k].toNat : Int)) = ((256 * s[k].toNat : Nat) : Int) from by omega, addV_add]) | rw [addV_add]⟩
        case measure => simp [intOf]; omega
    · go_wp2
      go_ret
      exact ⟨ret_int (by rw [ps_all s k (by omega)]; rfl), rfl⟩

set_option maxHeartbeats 400000 in
theorem each_any (s : ByteArray) (n : Int) (b : Nat) (w : World) (hs : s.size ≤ 140737488351232) (h0 : 0 ≤ n) (h1 : n < 18446744073709551616)
    (hc : w.cell? ⟨b, 0, none⟩ = some (.int .u64 n)) (hf : w.frozen? ⟨b, 0, none⟩ = false) :
    Calls Try.prog 35 #[.string s, .func (.func 36) #[] #[.pointer (some ⟨b, 0, none⟩)]] w fun e w' => e = .returned (.tuple #[]) ∧ w'.cell? ⟨b, 0, none⟩ = some (.int .u64 (addV n (psB s))) ∧ Below b w w' := by
  have H0 := Lib.hid (addV_0 n h0 h1)
  clear h0 h1
  by_cases hp : s.size % 2 = 1
  · have hl : (s ++ ⟨#[0]⟩ : ByteArray).size = s.size + 1 := by simp [ByteArray.size_append]; rfl
    have hps : ps true (s ++ ⟨#[0]⟩ : ByteArray).data.toList = ps true s.data.toList := by
      simp [ps_append, ps]
    have Hps := Lib.hid hps
    have hpb : ((s.size : Int) % 2 == 1) = true := by simp; omega
    clear hps
    go_enter Try.func35, Try.ntmps35
    go_wp2
    generalize (s ++ ⟨#[0]⟩ : ByteArray) = t at *
    have ht : t.size % 2 = 0 := by omega
    have ht2 : t.size ≤ 140737488351233 := by omega
    clear hl
    go_loopw [4] (fun i wr => ∃ k : Nat, k ≤ t.size ∧ k % 2 = 0 ∧ i = .int .i64 k ∧ wr.cell? ⟨b, 0, none⟩ = some (.int .u64 (addV n (ps true (t.data.toList.take k)))) ∧ wr.frozen? ⟨b, 0, none⟩ = false ∧ Below b w wr) (fun i _ => t.size - (intOf i).toNat)
    case atStart => exact ⟨0, Nat.zero_le _, rfl, rfl, by simp only [List.take_zero, ps]; rw [H0.out]; exact hc, hf, Below.refl _ _⟩
    case round =>
      obtain ⟨k, hk, hk2, rfl, hcr, hfr, hbr⟩ := hrel
      by_cases hlt : k < t.size
      · have HS := Lib.hid (ps_pair t k (by omega) hk2)
        go_wp2_with (first | (go_at_call 30; refine (get_yes _ k 2 _ (by omega) (by omega) (by omega) (by omega)).mono ?_; rintro e w' ⟨rfl, rfl⟩) | go_in)
        go_end0
        go_wp2
        go_roundw
        case rel => exact ⟨k + 2, by omega, by omega, by go_num, by rw [HS.out, ← addV_add]; exact cell_set_same hcr _, by simpa using hfr, hbr.setCell (by simp) _⟩
        case measure => simp [intOf]; omega
      · go_wp2
        obtain rfl : k = t.size := by omega
        go_end0
        exact ⟨rfl, by rw [hcr, ps_all _ _ (Nat.le_refl _), Hps.out]; rfl, hbr⟩
  · obtain ⟨t, ht0⟩ : ∃ t, t = s := ⟨s, rfl⟩
    have ht : t.size % 2 = 0 := by rw [ht0]; omega
    have ht2 : t.size ≤ 140737488351233 := by rw [ht0]; omega
    subst ht0
    have hpb : ((t.size : Int) % 2 == 1) = false := by simp; omega
    go_enter Try.func35, Try.ntmps35
    go_wp2
    go_loopw [4] (fun i wr => ∃ k : Nat, k ≤ t.size ∧ k % 2 = 0 ∧ i = .int .i64 k ∧ wr.cell? ⟨b, 0, none⟩ = some (.int .u64 (addV n (ps true (t.data.toList.take k)))) ∧ wr.frozen? ⟨b, 0, none⟩ = false ∧ Below b w wr) (fun i _ => t.size - (intOf i).toNat)
    case atStart => exact ⟨0, Nat.zero_le _, rfl, rfl, by simp only [List.take_zero, ps]; rw [H0.out]; exact hc, hf, Below.refl _ _⟩
    case round =>
      obtain ⟨k, hk, hk2, rfl, hcr, hfr, hbr⟩ := hrel
      by_cases hlt : k < t.size
      · have HS := Lib.hid (ps_pair t k (by omega) hk2)
        go_wp2_with (first | (go_at_call 30; refine (get_yes _ k 2 _ (by omega) (by omega) (by omega) (by omega)).mono ?_; rintro e w' ⟨rfl, rfl⟩) | go_in)
        go_end0
        go_wp2
        go_roundw
        case rel => exact ⟨k + 2, by omega, by omega, by go_num, by rw [HS.out, ← addV_add]; exact cell_set_same hcr _, by simpa using hfr, hbr.setCell (by simp) _⟩
        case measure => simp [intOf]; omega
      · go_wp2
        obtain rfl : k = t.size := by omega
        go_end0
        exact ⟨rfl, by rw [hcr, ps_all _ _ (Nat.le_refl _)]; rfl, hbr⟩

set_option maxHeartbeats 400000 in
theorem add_any (n : Int) (s : ByteArray) (w : World) (hs : s.size ≤ 140737488351232) (h0 : 0 ≤ n) (h1 : n < 18446744073709551616) :
    Calls Try.prog 34 #[.int .u64 n, .string s] w fun e w' => e = .returned (.int .u64 (addV n (psB s))) ∧ Below w.heap.size w w' := by
  have hmf : ∀ (fn : Fn) (first cap : Array Value) (w : World), (Instr.makeFunc fn first cap).run Try.prog w = .ok (.func fn first cap) w := fun _ _ _ _ => rfl
  go_enter Try.func34, Try.ntmps34
  go_wp2_with fail
  refine (each_any s n w.heap.size _ hs h0 h1 (by simp) (by simp)).mono ?_
  rintro e w1 ⟨rfl, hc1, hb1⟩
  go_wp2
  go_ret
  exact ⟨rfl, ((Below.refl _ w).alloc (Nat.le_refl _) _).trans hb1⟩

/-- A number in 16 bits. -/
def foldV (n : Int) : Int := if n = 0 then 0 else (n - 1) % 65535 + 1
theorem foldV_small (n : Int) (h0 : 0 ≤ n) (h1 : n ≤ 65535) : foldV n = n := by
  unfold foldV; split <;> omega
theorem foldV_step (n : Int) (h1 : 65535 < n) : foldV (n % 65536 + n / 65536) = foldV n := by
  unfold foldV; rw [if_neg (by omega), if_neg (by omega)]; omega
theorem foldV_le (n : Int) (h0 : 0 ≤ n) : 0 ≤ foldV n ∧ foldV n ≤ 65535 := by unfold foldV; split <;> omega

set_option maxHeartbeats 400000 in
theorem refFold_any (n : Int) (w : World) (h0 : 0 ≤ n) (h1 : n < 18446744073709551616) :
    Calls Try.prog 27 #[.int .u64 n] w fun e w' => e = .returned (.int .u16 (foldV n)) ∧ w = w' := by
  go_enter Try.func27, Try.ntmps27
  go_wp2
  go_loop [0] (fun m => ∃ k : Int, 0 ≤ k ∧ k ≤ n ∧ m = .int .u64 k ∧ foldV k = foldV n) (fun m => (intOf m).toNat)
  case atStart => exact ⟨n, h0, Int.le_refl _, rfl, rfl⟩
  case round =>
    obtain ⟨k, hk, hk1, rfl, hv⟩ := hrel
    have HV := Lib.hid hv
    clear hv
    by_cases hlt : 65535 < k
    · have HS := Lib.hid (foldV_step k hlt)
      go_wp2
      go_round
      case rel => exact ⟨k % 65536 + k / 65536, by omega, by omega, rfl, by rw [HS.out, HV.out]⟩
      case measure => simp [intOf]; omega
    · have HS := Lib.hid (foldV_small k hk (by omega))
      go_wp2
      go_ret
      exact ⟨ret_int (by rw [← HV.out, HS.out]), rfl⟩

theorem and_65535 (k : Int) (h0 : 0 ≤ k) (h1 : k < 18446744073709551616) : bits .and .u64 k 65535 = k % 65536 := by
  rw [u64_and k 65535 h0 h1 (by decide) (by decide)]
  have : k.toNat &&& (65535 : Int).toNat = k.toNat % 65536 := Nat.and_two_pow_sub_one_eq_mod k.toNat 16
  rw [this]; omega

set_option maxHeartbeats 400000 in
theorem fold_any (n : Int) (w : World) (h0 : 0 ≤ n) (h1 : n < 18446744073709551616) :
    Calls Try.prog 33 #[.int .u64 n] w fun e w' => e = .returned (.int .u16 (foldV n)) ∧ w = w' := by
  go_enter Try.func33, Try.ntmps33
  go_wp2
  go_loop [0] (fun m => ∃ k : Int, 0 ≤ k ∧ k ≤ n ∧ m = .int .u64 k ∧ foldV k = foldV n) (fun m => (intOf m).toNat)
  case atStart => exact ⟨n, h0, Int.le_refl _, rfl, rfl⟩
  case round =>
    obtain ⟨k, hk, hk1, rfl, hv⟩ := hrel
    have HV := Lib.hid hv
    clear hv
    by_cases hlt : 65535 < k
    · have HS := Lib.hid (foldV_step k hlt)
      have hA := and_65535 k hk (by omega)
      go_wp2
      go_round
      case rel => exact ⟨k % 65536 + k / 65536, by omega, by omega, rfl, by rw [HS.out, HV.out]⟩
      case measure => simp [intOf]; omega
    · have HS := Lib.hid (foldV_small k hk (by omega))
      go_wp2
      go_ret
      exact ⟨ret_int (by rw [← HV.out, HS.out]), rfl⟩

theorem not_u16 (x : Int) (h0 : 0 ≤ x) (h1 : x ≤ 65535) : bits .xor .u16 IntKind.u16.max x = 65535 - x := by
  have e : IntKind.u16.max = 65535 := rfl
  rw [e, u16_xor 65535 x (by decide) (by decide) h0 (by omega)]
  have hx : x.toNat < 65536 := by omega
  have : (65535 : Int).toNat ^^^ x.toNat = 65535 - x.toNat := by
    have h := BitVec.toNat_not (x := BitVec.ofNat 16 x.toNat)
    rw [BitVec.not_def, BitVec.toNat_xor, BitVec.toNat_allOnes, BitVec.toNat_ofNat, Nat.mod_eq_of_lt (by simpa using hx)] at h
    exact h
  rw [this]; omega

def ofV (s : ByteArray) : Int := 65535 - foldV (addV 0 (psB s))
theorem addV_bd (n : Int) (p : Nat) : 0 ≤ addV n p ∧ addV n p < 18446744073709551616 := by
  unfold addV; simp only [IntKind.wrap_u64]; omega

set_option maxHeartbeats 400000 in
theorem of_any (s : ByteArray) (w : World) (hs : s.size ≤ 140737488351232) :
    Calls Try.prog 25 #[.string s] w fun e w' => e = .returned (.int .u16 (ofV s)) ∧ Below w.heap.size w w' := by
  have hb := addV_bd 0 (psB s)
  have hx := foldV_le _ hb.1
  have hn := not_u16 _ hx.1 hx.2
  go_enter Try.func25, Try.ntmps25
  go_wp2_with (first | (go_at_call 34; refine (add_any 0 s _ hs (by decide) (by decide)).mono ?_; rintro e w1 ⟨rfl, hb1⟩) | (go_at_call 33; refine (fold_any _ _ hb.1 hb.2).mono ?_; rintro e w2 ⟨rfl, rfl⟩))
  go_ret
  exact ⟨rfl, hb1⟩

set_option maxHeartbeats 400000 in
theorem refOf_any (s : ByteArray) (w : World) (hs : s.size ≤ 140737488351232) :
    Calls Try.prog 17 #[.string s] w fun e w' => e = .returned (.int .u16 (ofV s)) ∧ w = w' := by
  have hb := addV_bd 0 (psB s)
  have hx := foldV_le _ hb.1
  go_enter Try.func17, Try.ntmps17
  go_wp2_with (first | (go_at_call 28; refine (refAdd_any 0 s _ hs (by decide) (by decide)).mono ?_; rintro e w1 ⟨rfl, rfl⟩) | (go_at_call 27; refine (refFold_any _ _ hb.1 hb.2).mono ?_; rintro e w2 ⟨rfl, rfl⟩))
  go_ret
  exact ⟨rfl, rfl⟩

theorem ofV_bd (s : ByteArray) : 0 ≤ ofV s ∧ ofV s ≤ 65535 := by
  have hb := addV_bd 0 (psB s)
  have hx := foldV_le _ hb.1
  unfold ofV; omega

set_option maxHeartbeats 400000 in
theorem right_any (s : ByteArray) (w : World) (hs : s.size ≤ 140737488351232) :
    Calls Try.prog 29 #[.string s] w fun e w' => e = .returned (.bool (ofV s == 0)) ∧ Below w.heap.size w w' := by
  go_enter Try.func29, Try.ntmps29
  go_wp2_with (go_at_call 25; refine (of_any s _ hs).mono ?_; rintro e w1 ⟨rfl, hb1⟩)
  go_ret
  exact ⟨rfl, hb1⟩

set_option maxHeartbeats 400000 in
theorem refRight_any (s : ByteArray) (w : World) (hs : s.size ≤ 140737488351232) :
    Calls Try.prog 22 #[.string s] w fun e w' => e = .returned (.bool (ofV s == 0)) ∧ w = w' := by
  go_enter Try.func22, Try.ntmps22
  go_wp2_with (go_at_call 17; refine (refOf_any s _ hs).mono ?_; rintro e w1 ⟨rfl, rfl⟩)
  go_ret
  exact ⟨rfl, rfl⟩

def patchV (a b c : Int) : Int := 65535 - foldV ((65535 - a) + (65535 - b) + c)

end Go.Proofs.Ythapajhaehdleaa
