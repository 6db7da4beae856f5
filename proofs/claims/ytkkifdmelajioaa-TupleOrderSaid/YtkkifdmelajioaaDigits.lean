/- The contracts of addr's number, of tuple's decimal, of the reference's Digits and group: numbers as digits. -/
import Derived.Lib.IndexBytes
import Derived.Test.YtkkifdmelajioaaRefPut
import Derived.Deep.RegionHeld3
namespace Go.Proofs.Ytkkifdmelajioaa
open Go.RowKit

/-- A digit. -/
def dgB (k : Nat) : UInt8 := if k < 10 then UInt8.ofNat (48 + k) else UInt8.ofNat (87 + k)
/-- A number in digits of a base, at most f + 1 of them. -/
def numT : Nat → Nat → Nat → ByteArray
  | 0, b, n => ⟨#[dgB (n % b)]⟩
  | f + 1, b, n => if n < b then ⟨#[dgB (n % b)]⟩ else numT f b (n / b) ++ ⟨#[dgB (n % b)]⟩
theorem numT_size : ∀ f b n : Nat, (numT f b n).size ≤ f + 1
  | 0, b, n => Nat.le_refl _
  | f + 1, b, n => by
    unfold numT
    have := numT_size f b (n / b)
    have e : ∀ x, (⟨#[x]⟩ : ByteArray).size = 1 := fun _ => rfl
    split
    · rw [e]; omega
    · rw [ByteArray.size_append, e]; omega
theorem numT_low (f b n : Nat) (h : n < b) : numT f b n = ⟨#[dgB (n % b)]⟩ := by
  cases f with
  | zero => rfl
  | succ f => unfold numT; rw [if_pos h]
theorem numT_high (f b n : Nat) (h : ¬ n < b) : numT (f + 1) b n = numT f b (n / b) ++ ⟨#[dgB (n % b)]⟩ := by
  rw [numT, if_neg h]
def hexS : ByteArray := ⟨#[48, 49, 50, 51, 52, 53, 54, 55, 56, 57, 97, 98, 99, 100, 101, 102]⟩
theorem hex_at : ∀ k : Nat, ∀ h : k < 16, ((⟨#[48, 49, 50, 51, 52, 53, 54, 55, 56, 57, 97, 98, 99, 100, 101, 102]⟩ : ByteArray)[k]'h).toNat = (dgB k).toNat := by decide +kernel
theorem hex_enc : ∀ k : Nat, k < 16 → Utf8.encode ((dgB k).toNat : Int) = ⟨#[dgB k]⟩ := by decide +kernel
theorem below_base (f b n : Nat) (hn : n < b ^ (f + 1 + 1)) : n / b < b ^ (f + 1) := by
  rw [Nat.pow_succ] at hn
  exact Nat.div_lt_of_lt_mul (by rw [Nat.mul_comm]; exact hn)

set_option maxRecDepth 100000 in
set_option maxHeartbeats 1000000 in
theorem number_any (b : Nat) (hb : 2 ≤ b ∧ b ≤ 16) : ∀ (f n : Nat) (w : World), n < b ^ (f + 1) → n ≤ 9223372036854775807 → f ≤ 100 →
    Calls Try.prog 36 #[.int .i64 n, .int .i64 b] w fun e w' => e = .returned (.string (numT f b n)) ∧ w = w' := by
  intro f
  induction f with
  | zero =>
    intro n w hn hm hf
    have hnb : n < b := by simpa using hn
    obtain ⟨k, hk⟩ : ∃ k, k = n % b := ⟨_, rfl⟩
    have k16 : k < 16 := by rw [hk]; exact Nat.lt_of_lt_of_le (Nat.mod_lt _ (by omega)) hb.2
    have t1 : (n : Int).tmod b = (k : Int) := by rw [hk, Int.ofNat_tmod]
    have t1b : n % b = k := hk.symm
    have t1c : (n : Int) % b = (k : Int) := by rw [hk]; rfl
    have t2 : ((b : Int) == 0) = false := by rw [beq_eq_false_iff_ne]; omega
    have t3 : (k : Int) < 16 := by omega
    have t4 := hex_at k k16
    have t5 := hex_enc k k16
    have t6 : (n : Int) < b := by omega
    have hl := Lib.hid (numT_low 0 b n hnb)
    clear hk hnb hn
    go_enter Try.func36, Try.ntmps36
    go_wp2
    go_ret
    rw [hl.out, t1b]
    exact ⟨rfl, rfl⟩
  | succ f ih =>
    intro n w hn hm hf
    obtain ⟨k, hk⟩ : ∃ k, k = n % b := ⟨_, rfl⟩
    have k16 : k < 16 := by rw [hk]; exact Nat.lt_of_lt_of_le (Nat.mod_lt _ (by omega)) hb.2
    have t1 : (n : Int).tmod b = (k : Int) := by rw [hk, Int.ofNat_tmod]
    have t1b : n % b = k := hk.symm
    have t1c : (n : Int) % b = (k : Int) := by rw [hk]; rfl
    have t2 : ((b : Int) == 0) = false := by rw [beq_eq_false_iff_ne]; omega
    have t3 : (k : Int) < 16 := by omega
    have t4 := hex_at k k16
    have t5 := hex_enc k k16
    by_cases hnb : n < b
    · have t6 : (n : Int) < b := by omega
      have hl := Lib.hid (numT_low (f + 1) b n hnb)
      clear hk hnb hn
      go_enter Try.func36, Try.ntmps36
      go_wp2
      go_ret
      rw [hl.out, t1b]
      exact ⟨rfl, rfl⟩
    · have t6 : ¬ (n : Int) < b := by omega
      have hl := Lib.hid (numT_high f b n hnb)
      have hq := below_base f b n hn
      have hqm : n / b ≤ n := Nat.div_le_self _ _
      obtain ⟨q, hqq⟩ : ∃ q, q = n / b := ⟨_, rfl⟩
      have t7 : (n : Int).tdiv b = (q : Int) := by rw [hqq, Int.ofNat_tdiv]
      have t7b : n / b = q := hqq.symm
      have t7c : (n : Int) / b = (q : Int) := by rw [hqq]; rfl
      rw [t7b] at hq hqm
      have hz := numT_size f b q
      have z1 : (⟨#[dgB k]⟩ : ByteArray).size = 1 := rfl
      have c1 : ¬ 9223372036854775807 < (numT f b q).size + 1 := by omega
      have t8 : IntKind.i64.wrap (q : Int) = q := IntWalk.i64_in _ (by omega)
      clear hk hnb hn hqq
      go_enter Try.func36, Try.ntmps36
      go_wp2_with (go_at_call 36; with_reducible refine (ih q _ hq (by omega) (by omega)).mono ?_; rintro e w1 ⟨rfl, rfl⟩)
      go_ret
      rw [hl.out, t1b, t7b]
      exact ⟨rfl, rfl⟩

theorem dec_num : ∀ k : Nat, k < 10 → strOfNums [48 + (k : Int)] = ⟨#[dgB k]⟩ := by decide +kernel
theorem str_later1 {w w2 : World} {x : Int} (hb : Below (w.alloc (.cells #[.int .u8 x] 5)).drew.heap.size (w.alloc (.cells #[.int .u8 x] 5)).drew w2) (c : Nat) :
    (convert 68 9 (.slice (some ⟨w.heap.size, 0, none⟩) 1 c)).run Try.prog w2 = .ok (.string (strOfNums [x])) w2 := by
  refine run_convert_bytes_arg _ 68 5 Try.underlying68 Try.underlying5 _ _ _ _ [x] rfl (fun i hi => ?_) 9 Try.underlying9
  have e := (bcell hb).1 w.heap.size i (by simp)
  rw [Nat.zero_add, e]
  show (w.alloc (.cells #[.int .u8 x] 5)).cell? ⟨w.heap.size, i, none⟩ = _
  rw [World.cell?_alloc_at _ _ _ _ rfl]
  match i, hi with
  | 0, _ => rfl
theorem str_new1_drew (x : Int) (c : Nat) (w : World) :
    (convert 68 9 (.slice (some ⟨w.heap.size, 0, none⟩) 1 c)).run Try.prog (w.alloc (.cells #[.int .u8 x] 5)).drew = .ok (.string (strOfNums [x])) (w.alloc (.cells #[.int .u8 x] 5)).drew :=
  str_new [x] 1 c _ w.drew rfl rfl

set_option maxRecDepth 100000 in
set_option maxHeartbeats 1000000 in
theorem decimal_any : ∀ (f n : Nat) (w : World), n < 10 ^ (f + 1) → n ≤ 9223372036854775807 → f ≤ 100 →
    Calls Try.prog 32 #[.int .i64 n] w fun e w' => e = .returned (.string (numT f 10 n)) ∧ Below w.heap.size w w' := by
  intro f
  induction f with
  | zero =>
    intro n w hn hm hf
    have hnb : n < 10 := by simpa using hn
    have t6 : (n : Int) < 10 := by omega
    have t60 : ¬ (n : Int) < 0 := by omega
    have hl := Lib.hid ((numT_low 0 10 n hnb).trans (by rw [Nat.mod_eq_of_lt hnb, ← dec_num n hnb]))
    have t10 : IntKind.i64.wrap (48 + (n : Int)) = 48 + n := IntWalk.i64_in _ (by omega)
    have t11 : IntKind.u8.wrap (48 + (n : Int)) = 48 + n := by rw [IntKind.wrap_u8']; omega
    have hs1 := str_new1
    clear hnb hn
    go_enter Try.func32, Try.ntmps32
    go_wp2
    go_ret
    rw [hl.out]
    exact ⟨rfl, below_alloc (Below.refl _ _) _⟩
  | succ f ih =>
    intro n w hn hm hf
    by_cases hnb : n < 10
    · have t6 : (n : Int) < 10 := by omega
      have t60 : ¬ (n : Int) < 0 := by omega
      have hl := Lib.hid ((numT_low (f + 1) 10 n hnb).trans (by rw [Nat.mod_eq_of_lt hnb, ← dec_num n hnb]))
      have t10 : IntKind.i64.wrap (48 + (n : Int)) = 48 + n := IntWalk.i64_in _ (by omega)
      have t11 : IntKind.u8.wrap (48 + (n : Int)) = 48 + n := by rw [IntKind.wrap_u8']; omega
      have hs1 := str_new1
      clear hnb hn
      go_enter Try.func32, Try.ntmps32
      go_wp2
      go_ret
      rw [hl.out]
      exact ⟨rfl, below_alloc (Below.refl _ _) _⟩
    · have t6 : ¬ (n : Int) < 10 := by omega
      have t60 : ¬ (n : Int) < 0 := by omega
      have hl := Lib.hid (numT_high f 10 n hnb)
      have hq := below_base f 10 n hn
      have hqm : n / 10 ≤ n := Nat.div_le_self _ _
      obtain ⟨q, hqq⟩ : ∃ q, q = n / 10 := ⟨_, rfl⟩
      obtain ⟨k, hk⟩ : ∃ k, k = n % 10 := ⟨_, rfl⟩
      have t7 : (n : Int).tdiv 10 = (q : Int) := by rw [hqq, Int.tdiv_eq_ediv_of_nonneg (by omega)]; rfl
      have t7b : n / 10 = q := hqq.symm
      have t7c : (n : Int) / 10 = (q : Int) := by rw [hqq]; rfl
      have t9 : (n : Int).tmod 10 = (k : Int) := by rw [hk, Int.tmod_eq_emod_of_nonneg (by omega)]; rfl
      have t9b : n % 10 = k := hk.symm
      have t9c : (n : Int) % 10 = (k : Int) := by rw [hk]; rfl
      have hk10 : k < 10 := by omega
      rw [t7b] at hq hqm
      have hz := numT_size f 10 q
      have z1 : (strOfNums [48 + (k : Int)]).size = 1 := by rw [strOfNums_size]; rfl
      have c1 : ¬ 9223372036854775807 < (numT f 10 q).size + 1 := by omega
      have t8 : IntKind.i64.wrap (q : Int) = q := IntWalk.i64_in _ (by omega)
      have t10 : IntKind.i64.wrap (48 + (k : Int)) = 48 + k := IntWalk.i64_in _ (by omega)
      have t11 : IntKind.u8.wrap (48 + (k : Int)) = 48 + k := by rw [IntKind.wrap_u8']; omega
      have hd := Lib.hid (dec_num k hk10)
      have hs1 := str_new1
      have hs2 := str_new1_drew
      have hB := Below.refl w.heap.size w
      clear hk hnb hn hqq
      go_enter Try.func32, Try.ntmps32
      go_wp2
      refine wp_region_held_drew (S := (fun w' => Below w.heap.size w w')) (by kernel_rfl) ?_ (fun hHeld => ?_)
      · (repeat (first | assumption | exact Below.refl _ _ | with_reducible apply below_drew | with_reducible apply below_alloc | (with_reducible refine below_on (by assumption) ?_)))
      refine wpAnyH_take (i := 0) (v := ?_) rfl (by kernel_rfl) (by kernel_rfl) (by kernel_rfl) (fun _ _ _ h => h) (Or.inl ⟨by kernel_rfl, ?_⟩) (by assumption) ?_
      rotate_left
      · (intro w hSw; (try dsimp only at hSw); go_simp); with_reducible rfl
      try simp only [Act.put, List.setIfInBounds_toArray, List.set_cons_zero, List.set_cons_succ, List.getElem_toArray, List.getElem_cons_zero, List.getElem_cons_succ]
      refine wpAnyH_take (i := 1) (v := ?_) rfl (by kernel_rfl) (by kernel_rfl) (by kernel_rfl) (fun _ _ _ h => h) (Or.inl ⟨by kernel_rfl, ?_⟩) (by assumption) ?_
      rotate_left
      · (intro w hSw; (try dsimp only at hSw); go_simp); with_reducible rfl
      try simp only [Act.put, List.setIfInBounds_toArray, List.set_cons_zero, List.set_cons_succ, List.getElem_toArray, List.getElem_cons_zero, List.getElem_cons_succ]
      refine wpAnyH_take (i := 3) (v := ?_) rfl (by kernel_rfl) (by kernel_rfl) (by kernel_rfl) (fun _ _ _ h => h) (Or.inl ⟨by kernel_rfl, ?_⟩) (by assumption) ?_
      rotate_left
      · (intro w hSw; (try dsimp only at hSw); go_simp); with_reducible rfl
      try simp only [Act.put, List.setIfInBounds_toArray, List.set_cons_zero, List.set_cons_succ, List.getElem_toArray, List.getElem_cons_zero, List.getElem_cons_succ]
      refine wpAnyH_take (i := 4) (v := ?_) rfl (by kernel_rfl) (by kernel_rfl) (by kernel_rfl) (fun _ _ _ h => h) (Or.inl ⟨by kernel_rfl, ?_⟩) (by assumption) ?_
      rotate_left
      · (intro w hSw; (try dsimp only at hSw); go_simp); with_reducible rfl
      try simp only [Act.put, List.setIfInBounds_toArray, List.set_cons_zero, List.set_cons_succ, List.getElem_toArray, List.getElem_cons_zero, List.getElem_cons_succ]
      refine wpAnyH_take (i := 5) (v := ?_) rfl (by kernel_rfl) (by kernel_rfl) (by kernel_rfl) (fun _ _ _ h => h) (Or.inl ⟨by kernel_rfl, ?_⟩) (by assumption) ?_
      rotate_left
      · (intro w hSw; (try dsimp only at hSw); go_simp); with_reducible rfl
      try simp only [Act.put, List.setIfInBounds_toArray, List.set_cons_zero, List.set_cons_succ, List.getElem_toArray, List.getElem_cons_zero, List.getElem_cons_succ]
      refine wpAnyH_take (i := 6) (v := ?_) rfl (by kernel_rfl) (by kernel_rfl) (by kernel_rfl) (fun _ _ _ h => h) (Or.inl ⟨by kernel_rfl, ?_⟩) (by assumption) ?_
      rotate_left
      · (intro w hSw; (try dsimp only at hSw); go_simp); with_reducible rfl
      try simp only [Act.put, List.setIfInBounds_toArray, List.set_cons_zero, List.set_cons_succ, List.getElem_toArray, List.getElem_cons_zero, List.getElem_cons_succ]
      refine wpAnyH_ready (rs := [2, 7]) (by kernel_rfl) (by simp) (AllReadyH.cons rfl (fun K hK => ?_) (AllReadyH.cons rfl (fun K hK => ?_) AllReadyH.nil))
      go_simp
      (go_at_call 32; with_reducible refine (ih q _ hq (by omega) (by omega)).mono ?_; rintro e w2 ⟨rfl, hb2⟩; try (have hcv := str_later1 hb2))
      refine hK.out _ _ ?_ (fun hHeld => ?_)
      · (repeat (first | assumption | exact Below.refl _ _ | with_reducible apply below_drew | with_reducible apply below_alloc | (with_reducible refine below_on (by assumption) ?_)))
      clear hK K
      try simp only [Act.put, List.setIfInBounds_toArray, List.set_cons_zero, List.set_cons_succ, List.getElem_toArray, List.getElem_cons_zero, List.getElem_cons_succ]
      refine wpAnyH_ready (rs := [7]) (by kernel_rfl) (by simp) (AllReadyH.cons rfl (fun K hK => ?_) AllReadyH.nil)
      go_simp
      refine hK.out _ _ ?_ (fun hHeld => ?_)
      · (repeat (first | assumption | exact Below.refl _ _ | with_reducible apply below_drew | with_reducible apply below_alloc | (with_reducible refine below_on (by assumption) ?_)))
      clear hK K
      try simp only [Act.put, List.setIfInBounds_toArray, List.set_cons_zero, List.set_cons_succ, List.getElem_toArray, List.getElem_cons_zero, List.getElem_cons_succ]
      refine wpAnyH_ready (rs := [8]) (by kernel_rfl) (by simp) (AllReadyH.cons rfl (fun K hK => ?_) AllReadyH.nil)
      go_simp
      refine hK.out _ _ ?_ (fun hHeld => ?_)
      · (repeat (first | assumption | exact Below.refl _ _ | with_reducible apply below_drew | with_reducible apply below_alloc | (with_reducible refine below_on (by assumption) ?_)))
      clear hK K
      try simp only [Act.put, List.setIfInBounds_toArray, List.set_cons_zero, List.set_cons_succ, List.getElem_toArray, List.getElem_cons_zero, List.getElem_cons_succ]
      refine wpAnyH_take (i := 9) (v := ?_) rfl (by kernel_rfl) (by kernel_rfl) (by kernel_rfl) (fun _ _ _ h => h) (Or.inl ⟨by kernel_rfl, ?_⟩) (by assumption) ?_
      rotate_left
      · (intro w hSw; (try dsimp only at hSw); go_simp); with_reducible rfl
      try simp only [Act.put, List.setIfInBounds_toArray, List.set_cons_zero, List.set_cons_succ, List.getElem_toArray, List.getElem_cons_zero, List.getElem_cons_succ]
      refine wpAnyH_take (i := 10) (v := ?_) rfl (by kernel_rfl) (by kernel_rfl) (by kernel_rfl) (fun _ _ _ h => h) (Or.inl ⟨by kernel_rfl, ?_⟩) (by assumption) ?_
      rotate_left
      · (intro w hSw; (try dsimp only at hSw); go_simp); with_reducible rfl
      try simp only [Act.put, List.setIfInBounds_toArray, List.set_cons_zero, List.set_cons_succ, List.getElem_toArray, List.getElem_cons_zero, List.getElem_cons_succ]
      refine wpAnyH_done (by kernel_rfl) ?_ _
      rotate_left
      go_simp
      refine hK.out _ _ ?_ (fun hHeld => ?_)
      · (repeat (first | assumption | exact Below.refl _ _ | with_reducible apply below_drew | with_reducible apply below_alloc | (with_reducible refine below_on (by assumption) ?_)))
      clear hK K
      try simp only [Act.put, List.setIfInBounds_toArray, List.set_cons_zero, List.set_cons_succ, List.getElem_toArray, List.getElem_cons_zero, List.getElem_cons_succ]
      refine wpAnyH_ready (rs := [2, 8]) (by kernel_rfl) (by simp) (AllReadyH.cons rfl (fun K hK => ?_) (AllReadyH.cons rfl (fun K hK => ?_) AllReadyH.nil))
      go_simp
      (go_at_call 32; with_reducible refine (ih q _ hq (by omega) (by omega)).mono ?_; rintro e w2 ⟨rfl, hb2⟩; try (have hcv := str_later1 hb2))
      refine hK.out _ _ ?_ (fun hHeld => ?_)
      · (repeat (first | assumption | exact Below.refl _ _ | with_reducible apply below_drew | with_reducible apply below_alloc | (with_reducible refine below_on (by assumption) ?_)))
      clear hK K
      try simp only [Act.put, List.setIfInBounds_toArray, List.set_cons_zero, List.set_cons_succ, List.getElem_toArray, List.getElem_cons_zero, List.getElem_cons_succ]
      refine wpAnyH_ready (rs := [8]) (by kernel_rfl) (by simp) (AllReadyH.cons rfl (fun K hK => ?_) AllReadyH.nil)
      go_simp
      refine hK.out _ _ ?_ (fun hHeld => ?_)
      · (repeat (first | assumption | exact Below.refl _ _ | with_reducible apply below_drew | with_reducible apply below_alloc | (with_reducible refine below_on (by assumption) ?_)))
      clear hK K
      try simp only [Act.put, List.setIfInBounds_toArray, List.set_cons_zero, List.set_cons_succ, List.getElem_toArray, List.getElem_cons_zero, List.getElem_cons_succ]
      refine wpAnyH_take (i := 9) (v := ?_) rfl (by kernel_rfl) (by kernel_rfl) (by kernel_rfl) (fun _ _ _ h => h) (Or.inl ⟨by kernel_rfl, ?_⟩) (by assumption) ?_
      rotate_left
      · (intro w hSw; (try dsimp only at hSw); go_simp); with_reducible rfl
      try simp only [Act.put, List.setIfInBounds_toArray, List.set_cons_zero, List.set_cons_succ, List.getElem_toArray, List.getElem_cons_zero, List.getElem_cons_succ]
      refine wpAnyH_take (i := 10) (v := ?_) rfl (by kernel_rfl) (by kernel_rfl) (by kernel_rfl) (fun _ _ _ h => h) (Or.inl ⟨by kernel_rfl, ?_⟩) (by assumption) ?_
      rotate_left
      · (intro w hSw; (try dsimp only at hSw); go_simp); with_reducible rfl
      try simp only [Act.put, List.setIfInBounds_toArray, List.set_cons_zero, List.set_cons_succ, List.getElem_toArray, List.getElem_cons_zero, List.getElem_cons_succ]
      refine wpAnyH_done (by kernel_rfl) ?_ _
      rotate_left
      go_simp
      refine hK.out _ _ ?_ (fun hHeld => ?_)
      · (repeat (first | assumption | exact Below.refl _ _ | with_reducible apply below_drew | with_reducible apply below_alloc | (with_reducible refine below_on (by assumption) ?_)))
      clear hK K
      try simp only [Act.put, List.setIfInBounds_toArray, List.set_cons_zero, List.set_cons_succ, List.getElem_toArray, List.getElem_cons_zero, List.getElem_cons_succ]
      refine wpAnyH_ready (rs := [2]) (by kernel_rfl) (by simp) (AllReadyH.cons rfl (fun K hK => ?_) AllReadyH.nil)
      go_simp
      (go_at_call 32; with_reducible refine (ih q _ hq (by omega) (by omega)).mono ?_; rintro e w2 ⟨rfl, hb2⟩; try (have hcv := str_later1 hb2))
      refine hK.out _ _ ?_ (fun hHeld => ?_)
      · (repeat (first | assumption | exact Below.refl _ _ | with_reducible apply below_drew | with_reducible apply below_alloc | (with_reducible refine below_on (by assumption) ?_)))
      clear hK K
      try simp only [Act.put, List.setIfInBounds_toArray, List.set_cons_zero, List.set_cons_succ, List.getElem_toArray, List.getElem_cons_zero, List.getElem_cons_succ]
      refine wpAnyH_take (i := 9) (v := ?_) rfl (by kernel_rfl) (by kernel_rfl) (by kernel_rfl) (fun _ _ _ h => h) (Or.inl ⟨by kernel_rfl, ?_⟩) (by assumption) ?_
      rotate_left
      · (intro w hSw; (try dsimp only at hSw); go_simp); with_reducible rfl
      try simp only [Act.put, List.setIfInBounds_toArray, List.set_cons_zero, List.set_cons_succ, List.getElem_toArray, List.getElem_cons_zero, List.getElem_cons_succ]
      refine wpAnyH_take (i := 10) (v := ?_) rfl (by kernel_rfl) (by kernel_rfl) (by kernel_rfl) (fun _ _ _ h => h) (Or.inl ⟨by kernel_rfl, ?_⟩) (by assumption) ?_
      rotate_left
      · (intro w hSw; (try dsimp only at hSw); go_simp); with_reducible rfl
      try simp only [Act.put, List.setIfInBounds_toArray, List.set_cons_zero, List.set_cons_succ, List.getElem_toArray, List.getElem_cons_zero, List.getElem_cons_succ]
      refine wpAnyH_done (by kernel_rfl) ?_ _
      all_goals
        have hH := hHeld
        go_wp2
        go_ret
        rw [hl.out, t9b, t7b, ← hd.out]
        exact ⟨rfl, hH⟩


set_option maxRecDepth 100000 in
set_option maxHeartbeats 1000000 in
theorem digits_any : ∀ (f n : Nat) (w : World), n < 10 ^ (f + 1) → n ≤ 9223372036854775807 → f ≤ 100 →
    Calls Try.prog 26 #[.int .i64 n] w fun e w' => e = .returned (.string (numT f 10 n)) ∧ Below w.heap.size w w' := by
  intro f
  induction f with
  | zero =>
    intro n w hn hm hf
    have hnb : n < 10 := by simpa using hn
    have t6 : (n : Int) < 10 := by omega
    have t60 : ¬ (n : Int) < 0 := by omega
    have hl := Lib.hid ((numT_low 0 10 n hnb).trans (by rw [Nat.mod_eq_of_lt hnb, ← dec_num n hnb]))
    have t10 : IntKind.i64.wrap (48 + (n : Int)) = 48 + n := IntWalk.i64_in _ (by omega)
    have t11 : IntKind.u8.wrap (48 + (n : Int)) = 48 + n := by rw [IntKind.wrap_u8']; omega
    have hs1 := str_new1
    clear hnb hn
    go_enter Try.func26, Try.ntmps26
    go_wp2
    go_ret
    rw [hl.out]
    exact ⟨rfl, below_alloc (Below.refl _ _) _⟩
  | succ f ih =>
    intro n w hn hm hf
    by_cases hnb : n < 10
    · have t6 : (n : Int) < 10 := by omega
      have t60 : ¬ (n : Int) < 0 := by omega
      have hl := Lib.hid ((numT_low (f + 1) 10 n hnb).trans (by rw [Nat.mod_eq_of_lt hnb, ← dec_num n hnb]))
      have t10 : IntKind.i64.wrap (48 + (n : Int)) = 48 + n := IntWalk.i64_in _ (by omega)
      have t11 : IntKind.u8.wrap (48 + (n : Int)) = 48 + n := by rw [IntKind.wrap_u8']; omega
      have hs1 := str_new1
      clear hnb hn
      go_enter Try.func26, Try.ntmps26
      go_wp2
      go_ret
      rw [hl.out]
      exact ⟨rfl, below_alloc (Below.refl _ _) _⟩
    · have t6 : ¬ (n : Int) < 10 := by omega
      have t60 : ¬ (n : Int) < 0 := by omega
      have hl := Lib.hid (numT_high f 10 n hnb)
      have hq := below_base f 10 n hn
      have hqm : n / 10 ≤ n := Nat.div_le_self _ _
      obtain ⟨q, hqq⟩ : ∃ q, q = n / 10 := ⟨_, rfl⟩
      obtain ⟨k, hk⟩ : ∃ k, k = n % 10 := ⟨_, rfl⟩
      have t7 : (n : Int).tdiv 10 = (q : Int) := by rw [hqq, Int.tdiv_eq_ediv_of_nonneg (by omega)]; rfl
      have t7b : n / 10 = q := hqq.symm
      have t7c : (n : Int) / 10 = (q : Int) := by rw [hqq]; rfl
      have t9 : (n : Int).tmod 10 = (k : Int) := by rw [hk, Int.tmod_eq_emod_of_nonneg (by omega)]; rfl
      have t9b : n % 10 = k := hk.symm
      have t9c : (n : Int) % 10 = (k : Int) := by rw [hk]; rfl
      have hk10 : k < 10 := by omega
      rw [t7b] at hq hqm
      have hz := numT_size f 10 q
      have z1 : (strOfNums [48 + (k : Int)]).size = 1 := by rw [strOfNums_size]; rfl
      have c1 : ¬ 9223372036854775807 < (numT f 10 q).size + 1 := by omega
      have t8 : IntKind.i64.wrap (q : Int) = q := IntWalk.i64_in _ (by omega)
      have t10 : IntKind.i64.wrap (48 + (k : Int)) = 48 + k := IntWalk.i64_in _ (by omega)
      have t11 : IntKind.u8.wrap (48 + (k : Int)) = 48 + k := by rw [IntKind.wrap_u8']; omega
      have hd := Lib.hid (dec_num k hk10)
      have hs1 := str_new1
      have hs2 := str_new1_drew
      have hB := Below.refl w.heap.size w
      clear hk hnb hn hqq
      go_enter Try.func26, Try.ntmps26
      go_wp2
      refine wp_region_held_drew (S := (fun w' => Below w.heap.size w w')) (by kernel_rfl) ?_ (fun hHeld => ?_)
      · (repeat (first | assumption | exact Below.refl _ _ | with_reducible apply below_drew | with_reducible apply below_alloc | (with_reducible refine below_on (by assumption) ?_)))
      refine wpAnyH_take (i := 0) (v := ?_) rfl (by kernel_rfl) (by kernel_rfl) (by kernel_rfl) (fun _ _ _ h => h) (Or.inl ⟨by kernel_rfl, ?_⟩) (by assumption) ?_
      rotate_left
      · (intro w hSw; (try dsimp only at hSw); go_simp); with_reducible rfl
      try simp only [Act.put, List.setIfInBounds_toArray, List.set_cons_zero, List.set_cons_succ, List.getElem_toArray, List.getElem_cons_zero, List.getElem_cons_succ]
      refine wpAnyH_take (i := 1) (v := ?_) rfl (by kernel_rfl) (by kernel_rfl) (by kernel_rfl) (fun _ _ _ h => h) (Or.inl ⟨by kernel_rfl, ?_⟩) (by assumption) ?_
      rotate_left
      · (intro w hSw; (try dsimp only at hSw); go_simp); with_reducible rfl
      try simp only [Act.put, List.setIfInBounds_toArray, List.set_cons_zero, List.set_cons_succ, List.getElem_toArray, List.getElem_cons_zero, List.getElem_cons_succ]
      refine wpAnyH_take (i := 3) (v := ?_) rfl (by kernel_rfl) (by kernel_rfl) (by kernel_rfl) (fun _ _ _ h => h) (Or.inl ⟨by kernel_rfl, ?_⟩) (by assumption) ?_
      rotate_left
      · (intro w hSw; (try dsimp only at hSw); go_simp); with_reducible rfl
      try simp only [Act.put, List.setIfInBounds_toArray, List.set_cons_zero, List.set_cons_succ, List.getElem_toArray, List.getElem_cons_zero, List.getElem_cons_succ]
      refine wpAnyH_take (i := 4) (v := ?_) rfl (by kernel_rfl) (by kernel_rfl) (by kernel_rfl) (fun _ _ _ h => h) (Or.inl ⟨by kernel_rfl, ?_⟩) (by assumption) ?_
      rotate_left
      · (intro w hSw; (try dsimp only at hSw); go_simp); with_reducible rfl
      try simp only [Act.put, List.setIfInBounds_toArray, List.set_cons_zero, List.set_cons_succ, List.getElem_toArray, List.getElem_cons_zero, List.getElem_cons_succ]
      refine wpAnyH_take (i := 5) (v := ?_) rfl (by kernel_rfl) (by kernel_rfl) (by kernel_rfl) (fun _ _ _ h => h) (Or.inl ⟨by kernel_rfl, ?_⟩) (by assumption) ?_
      rotate_left
      · (intro w hSw; (try dsimp only at hSw); go_simp); with_reducible rfl
      try simp only [Act.put, List.setIfInBounds_toArray, List.set_cons_zero, List.set_cons_succ, List.getElem_toArray, List.getElem_cons_zero, List.getElem_cons_succ]
      refine wpAnyH_take (i := 6) (v := ?_) rfl (by kernel_rfl) (by kernel_rfl) (by kernel_rfl) (fun _ _ _ h => h) (Or.inl ⟨by kernel_rfl, ?_⟩) (by assumption) ?_
      rotate_left
      · (intro w hSw; (try dsimp only at hSw); go_simp); with_reducible rfl
      try simp only [Act.put, List.setIfInBounds_toArray, List.set_cons_zero, List.set_cons_succ, List.getElem_toArray, List.getElem_cons_zero, List.getElem_cons_succ]
      refine wpAnyH_ready (rs := [2, 7]) (by kernel_rfl) (by simp) (AllReadyH.cons rfl (fun K hK => ?_) (AllReadyH.cons rfl (fun K hK => ?_) AllReadyH.nil))
      go_simp
      (go_at_call 26; with_reducible refine (ih q _ hq (by omega) (by omega)).mono ?_; rintro e w2 ⟨rfl, hb2⟩; try (have hcv := str_later1 hb2))
      refine hK.out _ _ ?_ (fun hHeld => ?_)
      · (repeat (first | assumption | exact Below.refl _ _ | with_reducible apply below_drew | with_reducible apply below_alloc | (with_reducible refine below_on (by assumption) ?_)))
      clear hK K
      try simp only [Act.put, List.setIfInBounds_toArray, List.set_cons_zero, List.set_cons_succ, List.getElem_toArray, List.getElem_cons_zero, List.getElem_cons_succ]
      refine wpAnyH_ready (rs := [7]) (by kernel_rfl) (by simp) (AllReadyH.cons rfl (fun K hK => ?_) AllReadyH.nil)
      go_simp
      refine hK.out _ _ ?_ (fun hHeld => ?_)
      · (repeat (first | assumption | exact Below.refl _ _ | with_reducible apply below_drew | with_reducible apply below_alloc | (with_reducible refine below_on (by assumption) ?_)))
      clear hK K
      try simp only [Act.put, List.setIfInBounds_toArray, List.set_cons_zero, List.set_cons_succ, List.getElem_toArray, List.getElem_cons_zero, List.getElem_cons_succ]
      refine wpAnyH_ready (rs := [8]) (by kernel_rfl) (by simp) (AllReadyH.cons rfl (fun K hK => ?_) AllReadyH.nil)
      go_simp
      refine hK.out _ _ ?_ (fun hHeld => ?_)
      · (repeat (first | assumption | exact Below.refl _ _ | with_reducible apply below_drew | with_reducible apply below_alloc | (with_reducible refine below_on (by assumption) ?_)))
      clear hK K
      try simp only [Act.put, List.setIfInBounds_toArray, List.set_cons_zero, List.set_cons_succ, List.getElem_toArray, List.getElem_cons_zero, List.getElem_cons_succ]
      refine wpAnyH_take (i := 9) (v := ?_) rfl (by kernel_rfl) (by kernel_rfl) (by kernel_rfl) (fun _ _ _ h => h) (Or.inl ⟨by kernel_rfl, ?_⟩) (by assumption) ?_
      rotate_left
      · (intro w hSw; (try dsimp only at hSw); go_simp); with_reducible rfl
      try simp only [Act.put, List.setIfInBounds_toArray, List.set_cons_zero, List.set_cons_succ, List.getElem_toArray, List.getElem_cons_zero, List.getElem_cons_succ]
      refine wpAnyH_take (i := 10) (v := ?_) rfl (by kernel_rfl) (by kernel_rfl) (by kernel_rfl) (fun _ _ _ h => h) (Or.inl ⟨by kernel_rfl, ?_⟩) (by assumption) ?_
      rotate_left
      · (intro w hSw; (try dsimp only at hSw); go_simp); with_reducible rfl
      try simp only [Act.put, List.setIfInBounds_toArray, List.set_cons_zero, List.set_cons_succ, List.getElem_toArray, List.getElem_cons_zero, List.getElem_cons_succ]
      refine wpAnyH_done (by kernel_rfl) ?_ _
      rotate_left
      go_simp
      refine hK.out _ _ ?_ (fun hHeld => ?_)
      · (repeat (first | assumption | exact Below.refl _ _ | with_reducible apply below_drew | with_reducible apply below_alloc | (with_reducible refine below_on (by assumption) ?_)))
      clear hK K
      try simp only [Act.put, List.setIfInBounds_toArray, List.set_cons_zero, List.set_cons_succ, List.getElem_toArray, List.getElem_cons_zero, List.getElem_cons_succ]
      refine wpAnyH_ready (rs := [2, 8]) (by kernel_rfl) (by simp) (AllReadyH.cons rfl (fun K hK => ?_) (AllReadyH.cons rfl (fun K hK => ?_) AllReadyH.nil))
      go_simp
      (go_at_call 26; with_reducible refine (ih q _ hq (by omega) (by omega)).mono ?_; rintro e w2 ⟨rfl, hb2⟩; try (have hcv := str_later1 hb2))
      refine hK.out _ _ ?_ (fun hHeld => ?_)
      · (repeat (first | assumption | exact Below.refl _ _ | with_reducible apply below_drew | with_reducible apply below_alloc | (with_reducible refine below_on (by assumption) ?_)))
      clear hK K
      try simp only [Act.put, List.setIfInBounds_toArray, List.set_cons_zero, List.set_cons_succ, List.getElem_toArray, List.getElem_cons_zero, List.getElem_cons_succ]
      refine wpAnyH_ready (rs := [8]) (by kernel_rfl) (by simp) (AllReadyH.cons rfl (fun K hK => ?_) AllReadyH.nil)
      go_simp
      refine hK.out _ _ ?_ (fun hHeld => ?_)
      · (repeat (first | assumption | exact Below.refl _ _ | with_reducible apply below_drew | with_reducible apply below_alloc | (with_reducible refine below_on (by assumption) ?_)))
      clear hK K
      try simp only [Act.put, List.setIfInBounds_toArray, List.set_cons_zero, List.set_cons_succ, List.getElem_toArray, List.getElem_cons_zero, List.getElem_cons_succ]
      refine wpAnyH_take (i := 9) (v := ?_) rfl (by kernel_rfl) (by kernel_rfl) (by kernel_rfl) (fun _ _ _ h => h) (Or.inl ⟨by kernel_rfl, ?_⟩) (by assumption) ?_
      rotate_left
      · (intro w hSw; (try dsimp only at hSw); go_simp); with_reducible rfl
      try simp only [Act.put, List.setIfInBounds_toArray, List.set_cons_zero, List.set_cons_succ, List.getElem_toArray, List.getElem_cons_zero, List.getElem_cons_succ]
      refine wpAnyH_take (i := 10) (v := ?_) rfl (by kernel_rfl) (by kernel_rfl) (by kernel_rfl) (fun _ _ _ h => h) (Or.inl ⟨by kernel_rfl, ?_⟩) (by assumption) ?_
      rotate_left
      · (intro w hSw; (try dsimp only at hSw); go_simp); with_reducible rfl
      try simp only [Act.put, List.setIfInBounds_toArray, List.set_cons_zero, List.set_cons_succ, List.getElem_toArray, List.getElem_cons_zero, List.getElem_cons_succ]
      refine wpAnyH_done (by kernel_rfl) ?_ _
      rotate_left
      go_simp
      refine hK.out _ _ ?_ (fun hHeld => ?_)
      · (repeat (first | assumption | exact Below.refl _ _ | with_reducible apply below_drew | with_reducible apply below_alloc | (with_reducible refine below_on (by assumption) ?_)))
      clear hK K
      try simp only [Act.put, List.setIfInBounds_toArray, List.set_cons_zero, List.set_cons_succ, List.getElem_toArray, List.getElem_cons_zero, List.getElem_cons_succ]
      refine wpAnyH_ready (rs := [2]) (by kernel_rfl) (by simp) (AllReadyH.cons rfl (fun K hK => ?_) AllReadyH.nil)
      go_simp
      (go_at_call 26; with_reducible refine (ih q _ hq (by omega) (by omega)).mono ?_; rintro e w2 ⟨rfl, hb2⟩; try (have hcv := str_later1 hb2))
      refine hK.out _ _ ?_ (fun hHeld => ?_)
      · (repeat (first | assumption | exact Below.refl _ _ | with_reducible apply below_drew | with_reducible apply below_alloc | (with_reducible refine below_on (by assumption) ?_)))
      clear hK K
      try simp only [Act.put, List.setIfInBounds_toArray, List.set_cons_zero, List.set_cons_succ, List.getElem_toArray, List.getElem_cons_zero, List.getElem_cons_succ]
      refine wpAnyH_take (i := 9) (v := ?_) rfl (by kernel_rfl) (by kernel_rfl) (by kernel_rfl) (fun _ _ _ h => h) (Or.inl ⟨by kernel_rfl, ?_⟩) (by assumption) ?_
      rotate_left
      · (intro w hSw; (try dsimp only at hSw); go_simp); with_reducible rfl
      try simp only [Act.put, List.setIfInBounds_toArray, List.set_cons_zero, List.set_cons_succ, List.getElem_toArray, List.getElem_cons_zero, List.getElem_cons_succ]
      refine wpAnyH_take (i := 10) (v := ?_) rfl (by kernel_rfl) (by kernel_rfl) (by kernel_rfl) (fun _ _ _ h => h) (Or.inl ⟨by kernel_rfl, ?_⟩) (by assumption) ?_
      rotate_left
      · (intro w hSw; (try dsimp only at hSw); go_simp); with_reducible rfl
      try simp only [Act.put, List.setIfInBounds_toArray, List.set_cons_zero, List.set_cons_succ, List.getElem_toArray, List.getElem_cons_zero, List.getElem_cons_succ]
      refine wpAnyH_done (by kernel_rfl) ?_ _
      all_goals
        have hH := hHeld
        go_wp2
        go_ret
        rw [hl.out, t9b, t7b, ← hd.out]
        exact ⟨rfl, hH⟩


theorem hex_cut : ∀ k : Nat, k < 16 → (⟨#[48, 49, 50, 51, 52, 53, 54, 55, 56, 57, 97, 98, 99, 100, 101, 102]⟩ : ByteArray).extract k (k + 1) = ⟨#[dgB k]⟩ := by decide +kernel

set_option maxRecDepth 100000 in
set_option maxHeartbeats 1000000 in
theorem group_any : ∀ (f n : Nat) (w : World), n < 16 ^ (f + 1) → n ≤ 9223372036854775807 → f ≤ 100 →
    Calls Try.prog 33 #[.int .i64 n] w fun e w' => e = .returned (.string (numT f 16 n)) ∧ Below w.heap.size w w' := by
  intro f
  induction f with
  | zero =>
    intro n w hn hm hf
    have hnb : n < 16 := by simpa using hn
    have t6 : (n : Int) < 16 := by omega
    have hl := Lib.hid ((numT_low 0 16 n hnb).trans (by rw [Nat.mod_eq_of_lt hnb]))
    have t10 : IntKind.i64.wrap ((n : Int) + 1) = n + 1 := IntWalk.i64_in _ (by omega)
    have hc := hex_cut n hnb
    have zh : (⟨#[48, 49, 50, 51, 52, 53, 54, 55, 56, 57, 97, 98, 99, 100, 101, 102]⟩ : ByteArray).size = 16 := rfl
    have b1 : (n : Int) ≤ n + 1 := by omega
    have b2 : (n : Int) + 1 ≤ 16 := by omega
    have b3 : (0 : Int) ≤ n + 1 := by omega
    have b4 : ((n : Int) + 1).toNat = n + 1 := by omega
    clear hnb hn
    go_enter Try.func33, Try.ntmps33
    go_wp2
    go_ret
    rw [hl.out]
    exact ⟨rfl, Below.refl _ _⟩
  | succ f ih =>
    intro n w hn hm hf
    by_cases hnb : n < 16
    · have t6 : (n : Int) < 16 := by omega
      have hl := Lib.hid ((numT_low (f + 1) 16 n hnb).trans (by rw [Nat.mod_eq_of_lt hnb]))
      have t10 : IntKind.i64.wrap ((n : Int) + 1) = n + 1 := IntWalk.i64_in _ (by omega)
      have hc := hex_cut n hnb
      have zh : (⟨#[48, 49, 50, 51, 52, 53, 54, 55, 56, 57, 97, 98, 99, 100, 101, 102]⟩ : ByteArray).size = 16 := rfl
      have b1 : (n : Int) ≤ n + 1 := by omega
      have b2 : (n : Int) + 1 ≤ 16 := by omega
      have b3 : (0 : Int) ≤ n + 1 := by omega
      have b4 : ((n : Int) + 1).toNat = n + 1 := by omega
      clear hnb hn
      go_enter Try.func33, Try.ntmps33
      go_wp2
      go_ret
      rw [hl.out]
      exact ⟨rfl, Below.refl _ _⟩
    · have t6 : ¬ (n : Int) < 16 := by omega
      have hl := Lib.hid (numT_high f 16 n hnb)
      have hq := below_base f 16 n hn
      have hqm : n / 16 ≤ n := Nat.div_le_self _ _
      obtain ⟨q, hqq⟩ : ∃ q, q = n / 16 := ⟨_, rfl⟩
      obtain ⟨k, hk⟩ : ∃ k, k = n % 16 := ⟨_, rfl⟩
      have t7 : (n : Int).tdiv 16 = (q : Int) := by rw [hqq, Int.tdiv_eq_ediv_of_nonneg (by omega)]; rfl
      have t7b : n / 16 = q := hqq.symm
      have t7c : (n : Int) / 16 = (q : Int) := by rw [hqq]; rfl
      have t9 : (n : Int).tmod 16 = (k : Int) := by rw [hk, Int.tmod_eq_emod_of_nonneg (by omega)]; rfl
      have t9b : n % 16 = k := hk.symm
      have t9c : (n : Int) % 16 = (k : Int) := by rw [hk]; rfl
      have hk10 : k < 16 := by omega
      rw [t7b] at hq hqm
      have hz := numT_size f 16 q
      have hc := hex_cut k hk10
      have z1 : (⟨#[dgB k]⟩ : ByteArray).size = 1 := rfl
      have zh : (⟨#[48, 49, 50, 51, 52, 53, 54, 55, 56, 57, 97, 98, 99, 100, 101, 102]⟩ : ByteArray).size = 16 := rfl
      have c1 : ¬ 9223372036854775807 < (numT f 16 q).size + 1 := by omega
      have t8 : IntKind.i64.wrap (q : Int) = q := IntWalk.i64_in _ (by omega)
      have t10 : IntKind.i64.wrap ((k : Int) + 1) = k + 1 := IntWalk.i64_in _ (by omega)
      have b1 : (k : Int) ≤ k + 1 := by omega
      have b2 : (k : Int) + 1 ≤ 16 := by omega
      have b3 : (0 : Int) ≤ k + 1 := by omega
      have b4 : ((k : Int) + 1).toNat = k + 1 := by omega
      have b5 : k + 1 ≤ 16 := by omega
      have hB := Below.refl w.heap.size w
      clear hk hnb hn hqq
      go_enter Try.func33, Try.ntmps33
      go_wp2
      go_region_held3 (fun w' => Below w.heap.size w w')
        (first | assumption | exact Below.drew (by assumption) | (apply below_on <;> assumption))
        (first | (go_at_call 33; with_reducible refine (ih q _ hq (by omega) (by omega)).mono ?_; rintro e w1 ⟨rfl, hb1⟩))
      go_wp2
      go_ret
      rw [hl.out, t9b, t7b]
      exact ⟨rfl, by assumption⟩

end Go.Proofs.Ytkkifdmelajioaa
