/- The statements of chapter 2 on changed bytes. -/
import Derived.Test.YtcghgleaembanaaSumLaws
import Derived.Test.YtcghgleaembanaaRefPut
import Derived.Deep.QuietTactic
import Derived.BigQuiet
import Derived.Deep.RegionHeld3
import Derived.Lib.Strings
import Derived.Lib.IndexBytes
namespace Go.Proofs.Ytcghgleaembanaa
open Go.RowKit

theorem ps_le (l : List UInt8) : ∀ e, ps e l ≤ 65280 * l.length := by
  induction l with
  | nil => intro e; simp [ps]
  | cons b l ih =>
    intro e
    have := ih (!e)
    have := b.toNat_lt
    simp only [ps, List.length_cons]
    split <;> omega
theorem addV_small (p : Nat) (h : p < 18446744073709551616) : addV 0 p = p := by
  unfold addV; rw [IntKind.wrap_u64]; omega
theorem ofV_small (s : ByteArray) (h : s.size ≤ 5000) : ofV s = 65535 - foldV (ps true s.data.toList : Nat) := by
  unfold ofV psB
  rw [addV_small]
  have := ps_le s.data.toList true
  have e : s.data.toList.length = s.size := by simp
  rw [e] at this; omega
theorem ps_put2 (n : Nat) (h : n ≤ 65535) : ps true (putS 2 n).data.toList = n := by
  have e : (putS 2 n).data.toList = [UInt8.ofNat (n / 256 % 256), UInt8.ofNat (n % 256)] := by simp [putS, putL]
  rw [e]; simp [ps]; omega
theorem ps_split (s : ByteArray) (k : Nat) (hk : k % 2 = 0) (h : k + 1 < s.size) : ps true s.data.toList = ps true (s.data.toList.take k) + (256 * s[k].toNat + s[k + 1].toNat) + ps true (s.data.toList.drop (k + 2)) := by
  conv => lhs; rw [← List.take_append_drop (k + 2) s.data.toList]
  rw [ps_append, ps_odd s (k + 1) h (by omega), ps_even s k (by omega) hk, if_pos (by simp; omega)]
  omega
theorem ps_repl (s u : ByteArray) (k : Nat) (hk : k % 2 = 0) (h : k + 1 < s.size) (hu : u.size = 2) :
    ps true (s.extract 0 k ++ u ++ s.extract (k + 2) s.size).data.toList = ps true (s.data.toList.take k) + ps true u.data.toList + ps true (s.data.toList.drop (k + 2)) := by
  have e1 : (s.extract 0 k).data.toList = s.data.toList.take k := by rw [Lib.extract_data]; simp
  have e2 : (s.extract (k + 2) s.size).data.toList = s.data.toList.drop (k + 2) := Lib.extract_to_end s (k + 2)
  have e3 : (s.extract 0 k ++ u ++ s.extract (k + 2) s.size).data.toList = s.data.toList.take k ++ u.data.toList ++ s.data.toList.drop (k + 2) := by
    simp only [ByteArray.data_append, Array.toList_append, e1, e2]
  have l1 : (s.data.toList.take k).length = k := by simp; omega
  have l2 : u.data.toList.length = 2 := by simpa using hu
  rw [e3, ps_append, ps_append, l1, if_pos hk, if_pos (by simp [l2]; omega)]
theorem repl_size (s u : ByteArray) (k : Nat) (h : k + 1 < s.size) (hu : u.size = 2) : (s.extract 0 k ++ u ++ s.extract (k + 2) s.size).size = s.size := by
  simp [ByteArray.size_append, ByteArray.size_extract, hu]; omega
/-- The checksum of bytes in which a pair at an even place is another one. -/
theorem of_repl (s u : ByteArray) (k : Nat) (hk : k % 2 = 0) (h : k + 1 < s.size) (hu : u.size = 2) (hs : s.size ≤ 5000) :
    ofV (s.extract 0 k ++ u ++ s.extract (k + 2) s.size) = 65535 - foldV ((ps true s.data.toList - (256 * s[k].toNat + s[k + 1].toNat) + ps true u.data.toList : Nat) : Int) := by
  rw [ofV_small _ (by rw [repl_size s u k h hu]; exact hs), ps_repl s u k hk h hu, ps_split s k hk h]
  congr 3; omega
theorem patch_core (p q n : Nat) (hq : q ≤ 65535) (hqp : q ≤ p) (hn : n ≤ 65535) :
    patchV (65535 - foldV p) q n = 65535 - foldV ((p - q + n : Nat) : Int) ∨ (patchV (65535 - foldV p) q n = 0 ∧ 65535 - foldV ((p - q + n : Nat) : Int) = 65535) ∨ (patchV (65535 - foldV p) q n = 65535 ∧ 65535 - foldV ((p - q + n : Nat) : Int) = 0) := by
  unfold patchV foldV
  split <;> split <;> split <;> omega

theorem patch_all (s : ByteArray) (k N : Nat) (hk : k % 2 = 0) (h : k + 1 < s.size) (hs : s.size ≤ 5000) (hN : N ≤ 65535) :
    ∃ P O : Int, patchV (ofV s) ((s[k].toNat : Int) * 256 + s[k + 1].toNat) N = P ∧ ofV (s.extract 0 k ++ putS 2 N ++ s.extract (k + 2) s.size) = O ∧ (P = O ∨ (P = 0 ∧ O = 65535) ∨ (P = 65535 ∧ O = 0)) := by
  refine ⟨_, _, rfl, rfl, ?_⟩
  rw [of_repl s _ k hk h (putS_size 2 N) hs, ps_put2 N hN, ofV_small s hs]
  have hp := ps_split s k hk h
  have := patch_core (ps true s.data.toList) (256 * s[k].toNat + s[k + 1].toNat) N (by have := s[k].toNat_lt; have := s[k + 1].toNat_lt; omega) (by omega) hN
  rw [show ((s[k].toNat : Int) * 256 + s[k + 1].toNat) = ((256 * s[k].toNat + s[k + 1].toNat : Nat) : Int) from by omega]
  exact this

set_option maxHeartbeats 400000 in
theorem sumPatches_walk (s : ByteArray) (a n : Int) (w : World) (ws : s.size ≤ maxLen) (wa : (Lit.int .u16 a).wf = true) (wn : (Lit.int .u16 n).wf = true) :
    Calls Try.prog 4 #[.string s, .int .u16 a, .int .u16 n] w fun e w' => e = .returned (.bool true) ∧ Below w.heap.size w w' := by
  have hB := Below.refl w.heap.size w
  unfold maxLen at ws
  obtain ⟨a0, a1⟩ := wf_u16 wa
  obtain ⟨n0, n1⟩ := wf_u16 wn
  clear wa wn
  by_cases hc : s.size < 2 ∨ 2000 < s.size
  · by_cases hc1 : s.size < 2
    all_goals
      go_enter Try.func4, Try.ntmps4
      go_wp2_with (first
        | (go_at_call 8; refine (sumKnown_any _).mono ?_; rintro e w1 ⟨rfl, hb1⟩; replace hB := below_next hB hb1 hB.size)
        | (go_at_call 17; refine (patch_any _ _ _ _ a0 a1 n0 n1 (by decide) (by decide)).mono ?_; rintro e w1 ⟨rfl, rfl⟩)
        | (go_at_call 18; refine (refPatch_any _ _ _ _ a0 a1 n0 n1 (by decide) (by decide)).mono ?_; rintro e w1 ⟨rfl, rfl⟩))
      go_ret
      exact ⟨rfl, hB⟩
  · have g1 : 2 ≤ s.size := by omega
    have g2 : s.size ≤ 2000 := by omega
    clear hc
    have m0 : 0 ≤ 2 * (a % ((s.size : Int) / 2)) := by have := Int.emod_nonneg a (b := (s.size : Int) / 2) (by omega); omega
    have m1 : 2 * (a % ((s.size : Int) / 2)) + 1 < s.size := by have := Int.emod_lt_of_pos a (b := (s.size : Int) / 2) (by omega); omega
    obtain ⟨k, hk⟩ : ∃ k : Nat, 2 * (a % ((s.size : Int) / 2)) = k := ⟨(2 * (a % ((s.size : Int) / 2))).toNat, by omega⟩
    have hk2 : k % 2 = 0 := by omega
    have hk3 : k + 1 < s.size := by omega
    clear m0 m1
    obtain ⟨N, rfl⟩ := Int.eq_ofNat_of_zero_le n0
    go_enter Try.func4, Try.ntmps4
    go_wp2_with fail
    have b1 : 0 ≤ (k : Int) ∧ (k : Int) < s.size := by omega
    have b2 : 0 ≤ (k : Int) + 1 ∧ (k : Int) + 1 < s.size := by omega
    have b3 : ((k : Int) + 1).toNat = k + 1 := by omega
    have b4 : IntKind.i64.wrap ((k : Int) + 1) = k + 1 := IntWalk.i64_in _ (by omega)
    obtain ⟨x, hx⟩ : ∃ x : Nat, s[k].toNat = x := ⟨_, rfl⟩
    obtain ⟨y, hy⟩ : ∃ y : Nat, s[k + 1].toNat = y := ⟨_, rfl⟩
    have hx1 : x < 256 := by have := s[k].toNat_lt; omega
    have hy1 : y < 256 := by have := s[k + 1].toNat_lt; omega
    have b5 : IntKind.u16.wrap (x : Int) = x := by rw [IntKind.wrap_u16]; omega
    have b6 : IntKind.u16.wrap (y : Int) = y := by rw [IntKind.wrap_u16]; omega
    have b7 : IntKind.u16.wrap ((x : Int) * 256) = x * 256 := by rw [IntKind.wrap_u16]; omega
    have b8 : IntKind.u16.wrap ((x : Int) * 256 + y) = x * 256 + y := by rw [IntKind.wrap_u16]; omega
    go_quiet (fail)
    replace hB := below_drewN hB nq
    have Hx := Lib.hid hx
    have Hy := Lib.hid hy
    clear b4 b5 b6 b7 b8 hx hy
    have hz := putS_size 2 N
    have b9 : IntKind.i64.wrap ((k : Int) + 2) = k + 2 := IntWalk.i64_in _ (by omega)
    have b10 : IntKind.u64.wrap (N : Int) = N := by rw [IntKind.wrap_u64]; omega
    have b11 : ((k : Int) + 2).toNat = k + 2 := by omega
    have c1 : k ≤ s.size := by omega
    have c2 : ¬ 9223372036854775807 < k + 2 := by omega
    have c3 : 0 ≤ (k : Int) + 2 ∧ (k : Int) + 2 ≤ s.size := by omega
    have c4 : ¬ 9223372036854775807 < k + 2 + (s.size - (k + 2)) := by omega
    go_wp2_with fail
    go_region_held3 (fun w' => Below w.heap.size w w') (first | assumption | exact Below.drew (by assumption) | (apply below_on <;> assumption))
      (first | (go_at_call 19; refine (refPut_any _ 2 _ (by decide) (by omega)).mono ?_; rintro e w1 ⟨rfl, hb1⟩))
    have hB2 : Below w.heap.size w w1 := by assumption
    obtain ⟨P, O, hP, hO, hR⟩ := patch_all s k N hk2 hk3 (by omega) (by omega)
    rw [Hx.out, Hy.out] at hP
    have hof := ofV_bd s
    have hsz := repl_size s (putS 2 N) k hk3 hz
    generalize s.extract 0 k ++ putS 2 N ++ s.extract (k + 2) s.size = t at *
    have ht : t.size ≤ 140737488351232 := by omega
    clear Hx Hy
    clear hsz b1 b2 b9 b10 b11 c1 c2 c3 c4 hz hk hB
    rcases hR with rfl | ⟨rfl, rfl⟩ | ⟨rfl, rfl⟩
    all_goals
      go_wp2_with (first
        | (go_at_call 8; refine (sumKnown_any _).mono ?_; rintro e w1 ⟨rfl, hb1⟩; replace hB2 := below_on hb1 hB2)
        | (go_at_call 13; refine (of_any _ _ (by omega)).mono ?_; rintro e w1 ⟨rfl, hb1⟩; replace hB2 := below_on hb1 hB2)
        | (go_at_call 14; refine (refOf_any _ _ (by omega)).mono ?_; rintro e w1 ⟨rfl, rfl⟩)
        | (go_at_call 17; refine (patch_any _ _ _ _ (by omega) (by omega) (by omega) (by omega) (by omega) (by omega)).mono ?_; rintro e w1 ⟨rfl, rfl⟩)
        | (go_at_call 18; refine (refPatch_any _ _ _ _ (by omega) (by omega) (by omega) (by omega) (by omega) (by omega)).mono ?_; rintro e w1 ⟨rfl, rfl⟩))
      go_ret
      exact ⟨rfl, hB2⟩

theorem inside_core (z : Nat) : 65535 - foldV ((z + (65535 - foldV (z : Nat)).toNat : Nat) : Int) = 0 := by
  unfold foldV
  split <;> split <;> omega
theorem inside_all (s : ByteArray) (k : Nat) (hk : k % 2 = 0) (h : k + 1 < s.size) (hs : s.size ≤ 5000) :
    ∃ O : Nat, ofV (s.extract 0 k ++ ⟨#[0, 0]⟩ ++ s.extract (k + 2) s.size) = O ∧ O ≤ 65535 ∧ ofV (s.extract 0 k ++ putS 2 O ++ s.extract (k + 2) s.size) = 0 := by
  have h0 := of_repl s ⟨#[0, 0]⟩ k hk h rfl hs
  have e0 : ps true (⟨#[0, 0]⟩ : ByteArray).data.toList = 0 := by decide
  rw [e0] at h0
  simp only [Nat.add_zero] at h0
  have hb := foldV_le ((ps true s.data.toList - (256 * s[k].toNat + s[k + 1].toNat) : Nat) : Int) (by omega)
  refine ⟨(65535 - foldV ((ps true s.data.toList - (256 * s[k].toNat + s[k + 1].toNat) : Nat) : Int)).toNat, by rw [h0]; omega, by omega, ?_⟩
  rw [of_repl s _ k hk h (putS_size 2 _) hs, ps_put2 _ (by omega)]
  exact inside_core _

set_option maxHeartbeats 1000000 in
theorem sumInside_walk (s : ByteArray) (a : Int) (w : World) (ws : s.size ≤ maxLen) (wa : (Lit.int .u16 a).wf = true) :
    Calls Try.prog 5 #[.string s, .int .u16 a] w fun e w' => e = .returned (.bool true) ∧ Below w.heap.size w w' := by
  have hB := Below.refl w.heap.size w
  unfold maxLen at ws
  obtain ⟨a0, a1⟩ := wf_u16 wa
  clear wa
  by_cases hc : s.size < 2 ∨ 2000 < s.size
  · by_cases hc1 : s.size < 2
    all_goals
      go_enter Try.func5, Try.ntmps5
      go_wp2_with (go_at_call 8; refine (sumKnown_any _).mono ?_; rintro e w1 ⟨rfl, hb1⟩; replace hB := below_next hB hb1 hB.size)
      go_ret
      exact ⟨rfl, hB⟩
  · have g1 : 2 ≤ s.size := by omega
    have g2 : s.size ≤ 2000 := by omega
    clear hc
    have m0 : 0 ≤ 2 * (a % ((s.size : Int) / 2)) := by have := Int.emod_nonneg a (b := (s.size : Int) / 2) (by omega); omega
    have m1 : 2 * (a % ((s.size : Int) / 2)) + 1 < s.size := by have := Int.emod_lt_of_pos a (b := (s.size : Int) / 2) (by omega); omega
    obtain ⟨k, hk⟩ : ∃ k : Nat, 2 * (a % ((s.size : Int) / 2)) = k := ⟨(2 * (a % ((s.size : Int) / 2))).toNat, by omega⟩
    have hk2 : k % 2 = 0 := by omega
    have hk3 : k + 1 < s.size := by omega
    clear m0 m1
    have b9 : IntKind.i64.wrap ((k : Int) + 2) = k + 2 := IntWalk.i64_in _ (by omega)
    have b11 : ((k : Int) + 2).toNat = k + 2 := by omega
    have c0 : 0 ≤ (k : Int) ∧ (k : Int) ≤ s.size := by omega
    have c1 : k ≤ s.size := by omega
    have c2 : ¬ 9223372036854775807 < k + 2 := by omega
    have c3 : 0 ≤ (k : Int) + 2 ∧ (k : Int) + 2 ≤ s.size := by omega
    have c4 : ¬ 9223372036854775807 < k + 2 + (s.size - (k + 2)) := by omega
    have hz0 : (⟨#[0, 0]⟩ : ByteArray).size = 2 := rfl
    obtain ⟨O, hO, hO1, hU⟩ := inside_all s k hk2 hk3 (by omega)
    have hsz0 := repl_size s ⟨#[0, 0]⟩ k hk3 rfl
    have hsz := repl_size s (putS 2 O) k hk3 (putS_size _ _)
    have hz := putS_size 2 O
    have b10 : IntKind.u64.wrap (O : Int) = O := by rw [IntKind.wrap_u64]; omega
    have HO := Lib.hid hO
    have HU := Lib.hid hU
    have HS0 := Lib.hid hsz0
    have HS := Lib.hid hsz
    clear hO hU hsz hsz0
    go_enter Try.func5, Try.ntmps5
    go_wp2_with fail
    go_quiet (fail)
    replace hB := below_drewN hB nq
    go_wp2_with fail
    have hO := HO.out
    generalize s.extract 0 k ++ ⟨#[0, 0]⟩ ++ s.extract (k + 2) s.size = t at *
    have ht : t.size ≤ 140737488351232 := by rw [HS0.out]; omega
    go_region_held3 (fun w' => Below w.heap.size w w') (first | assumption | exact Below.drew (by assumption) | (apply below_on <;> assumption))
      (first
        | (go_at_call 19; refine (refPut_any _ 2 _ (by decide) (by omega)).mono ?_; rintro e w1 ⟨rfl, hb1⟩)
        | (go_at_call 13; refine (of_any _ _ (by assumption)).mono ?_; rintro e w1 ⟨rfl, hb1⟩))
    have hB2 : Below w.heap.size w w1 := by assumption
    have hU := HU.out
    have hsu := HS.out
    generalize s.extract 0 k ++ putS 2 O ++ s.extract (k + 2) s.size = u at *
    have hu : u.size ≤ 140737488351232 := by omega
    clear hsu HS HU hO HO
    go_wp2_with (first
      | (go_at_call 8; refine (sumKnown_any _).mono ?_; rintro e w1 ⟨rfl, hb1⟩; replace hB2 := below_on hb1 hB2)
      | (go_at_call 15; refine (right_any _ _ (by assumption)).mono ?_; rintro e w1 ⟨rfl, hb1⟩; replace hB2 := below_on hb1 hB2))
    go_ret
    exact ⟨rfl, hB2⟩

theorem addV_two (n : Int) (p q : Nat) : addV (addV n p) q = addV n (p + q) := addV_add n p q
theorem ps_cat (a b : ByteArray) (h : a.size % 2 = 0) : psB (a ++ b) = psB a + psB b := by
  unfold psB
  simp only [ByteArray.data_append, Array.toList_append]
  rw [ps_append, if_pos (by simpa using h)]
theorem order_all (a b : ByteArray) (n : Int) (ha : a.size % 2 = 0) :
    ∃ x : Int, addV (addV n (psB a)) (psB b) = x ∧ addV n (psB (a ++ b)) = x :=
  ⟨_, rfl, by rw [ps_cat a b ha, addV_two]⟩
theorem order_even (a b : ByteArray) (ha : a.size % 2 = 0) (hb : b.size % 2 = 0) : ∃ x : Int, ofV (a ++ b) = x ∧ ofV (b ++ a) = x :=
  ⟨_, rfl, by unfold ofV; rw [ps_cat a b ha, ps_cat b a hb, Nat.add_comm]⟩
theorem order_tail0 (c : ByteArray) (h : c.size % 2 = 0) : ∃ x : Int, ofV (c ++ ⟨#[0, 0]⟩) = x ∧ ofV (c ++ (⟨#[0]⟩ : ByteArray).extract 0 0) = x := by
  refine ⟨_, rfl, ?_⟩
  unfold ofV
  rw [ps_cat c _ h, ps_cat c _ h]
  congr 2
theorem order_tail1 (c : ByteArray) (h : ¬ c.size % 2 = 0) : ∃ x : Int, ofV (c ++ ⟨#[0, 0]⟩) = x ∧ ofV (c ++ (⟨#[0]⟩ : ByteArray).extract 0 1) = x := by
  refine ⟨_, rfl, ?_⟩
  unfold ofV
  unfold psB
  simp only [ByteArray.data_append, Array.toList_append]
  rw [ps_append, ps_append]
  have e : c.data.toList.length % 2 ≠ 0 := by simpa using h
  rw [if_neg e]
  congr 2

set_option maxHeartbeats 2000000 in
theorem sumOrder_walk (a b : ByteArray) (n : Int) (w : World) (ws : a.size ≤ maxLen) (wb : b.size ≤ maxLen) (wn : (Lit.int .u64 n).wf = true) :
    Calls Try.prog 6 #[.string a, .string b, .int .u64 n] w fun e w' => e = .returned (.bool true) ∧ Below w.heap.size w w' := by
  have hB := Below.refl w.heap.size w
  unfold maxLen at ws wb
  obtain ⟨n0, n1⟩ := wf_u64 wn
  clear wn
  by_cases h1 : a.size % 2 = 1
  · have e1 : ((a.size : Int) % 2 == 1) = true := by simp; omega
    go_enter Try.func6, Try.ntmps6
    go_wp2_with (go_at_call 8; refine (sumKnown_any _).mono ?_; rintro e w1 ⟨rfl, hb1⟩; replace hB := below_next hB hb1 hB.size)
    go_ret
    exact ⟨rfl, hB⟩
  have e1 : ((a.size : Int) % 2 == 1) = false := by simp; omega
  by_cases h2 : 2000 < a.size
  · go_enter Try.func6, Try.ntmps6
    go_wp2_with (go_at_call 8; refine (sumKnown_any _).mono ?_; rintro e w1 ⟨rfl, hb1⟩; replace hB := below_next hB hb1 hB.size)
    go_ret
    exact ⟨rfl, hB⟩
  by_cases h3 : 2000 < b.size
  · go_enter Try.func6, Try.ntmps6
    go_wp2_with (go_at_call 8; refine (sumKnown_any _).mono ?_; rintro e w1 ⟨rfl, hb1⟩; replace hB := below_next hB hb1 hB.size)
    go_ret
    exact ⟨rfl, hB⟩
  have ha0 : a.size % 2 = 0 := by omega
  have la : a.size ≤ 140737488351232 := by omega
  have lb : b.size ≤ 140737488351232 := by omega
  have hbd := addV_bd n (psB a)
  obtain ⟨x, hx1, hx2⟩ := order_all a b n ha0
  have c1 : ¬ 9223372036854775807 < a.size + b.size := by omega
  have c2 : ¬ 9223372036854775807 < a.size + b.size + 2 := by omega
  have c3 : ¬ 9223372036854775807 < b.size + a.size := by omega
  have c5 : ¬ 9223372036854775807 < a.size + b.size + 1 := by omega
  have hz0 : (⟨#[0, 0]⟩ : ByteArray).size = 2 := rfl
  have hz1 : (⟨#[0]⟩ : ByteArray).size = 1 := rfl
  have l1 : (a ++ b).size ≤ 140737488351232 := by rw [ByteArray.size_append]; omega
  have l2 : (b ++ a).size ≤ 140737488351232 := by rw [ByteArray.size_append]; omega
  have l3 : (a ++ b ++ ⟨#[0, 0]⟩).size ≤ 140737488351232 := by rw [ByteArray.size_append, ByteArray.size_append]; omega
  by_cases h4 : b.size % 2 = 1
  · have e4 : ((b.size : Int) % 2 == 1) = true := by simp; omega
    have e6 : (b.size : Int).tmod 2 = 1 := by rw [Int.tmod_eq_emod_of_nonneg (by omega)]; omega
    obtain ⟨y, hy1, hy2⟩ := order_tail1 (a ++ b) (by rw [ByteArray.size_append]; omega)
    have l4 : (a ++ b ++ (⟨#[0]⟩ : ByteArray).extract 0 1).size ≤ 140737488351232 := by rw [ByteArray.size_append, ByteArray.size_append, ByteArray.size_extract]; omega
    go_enter Try.func6, Try.ntmps6
    go_wp2_with fail
    refine wp_region_held_drew (S := (fun w' => Below w.heap.size w w')) (by kernel_rfl) ?_ (fun hHeld => ?_)
    · (first | assumption | exact Below.drew (by assumption) | (apply below_on <;> assumption))
    refine wpAnyH_take (i := 0) (v := ?_) rfl (by kernel_rfl) (by kernel_rfl) (by kernel_rfl) (fun _ _ _ h => h) (Or.inl ⟨by kernel_rfl, ?_⟩) (by assumption) ?_
    rotate_left
    · (intro w hSw; (try dsimp only at hSw); go_simp); with_reducible rfl
    try simp only [Act.put, List.setIfInBounds_toArray, List.set_cons_zero, List.set_cons_succ, List.getElem_toArray, List.getElem_cons_zero, List.getElem_cons_succ]
    refine wpAnyH_take (i := 1) (v := ?_) rfl (by kernel_rfl) (by kernel_rfl) (by kernel_rfl) (fun _ _ _ h => h) (Or.inl ⟨by kernel_rfl, ?_⟩) (by assumption) ?_
    rotate_left
    · (intro w hSw; (try dsimp only at hSw); go_simp); with_reducible rfl
    try simp only [Act.put, List.setIfInBounds_toArray, List.set_cons_zero, List.set_cons_succ, List.getElem_toArray, List.getElem_cons_zero, List.getElem_cons_succ]
    refine wpAnyH_take (i := 3) (v := ?_) rfl (by kernel_rfl) (by kernel_rfl) (by kernel_rfl) (fun _ _ _ h => h) (Or.inl ⟨by kernel_rfl, ?_⟩) (by assumption) ?_
    rotate_left
    · (intro w hSw; (try dsimp only at hSw); go_simp); with_reducible rfl
    try simp only [Act.put, List.setIfInBounds_toArray, List.set_cons_zero, List.set_cons_succ, List.getElem_toArray, List.getElem_cons_zero, List.getElem_cons_succ]
    refine wpAnyH_take (i := 5) (v := ?_) rfl (by kernel_rfl) (by kernel_rfl) (by kernel_rfl) (fun _ _ _ h => h) (Or.inl ⟨by kernel_rfl, ?_⟩) (by assumption) ?_
    rotate_left
    · (intro w hSw; (try dsimp only at hSw); go_simp); with_reducible rfl
    try simp only [Act.put, List.setIfInBounds_toArray, List.set_cons_zero, List.set_cons_succ, List.getElem_toArray, List.getElem_cons_zero, List.getElem_cons_succ]
    refine wpAnyH_take (i := 6) (v := ?_) rfl (by kernel_rfl) (by kernel_rfl) (by kernel_rfl) (fun _ _ _ h => h) (Or.inl ⟨by kernel_rfl, ?_⟩) (by assumption) ?_
    rotate_left
    · (intro w hSw; (try dsimp only at hSw); go_simp); with_reducible rfl
    try simp only [Act.put, List.setIfInBounds_toArray, List.set_cons_zero, List.set_cons_succ, List.getElem_toArray, List.getElem_cons_zero, List.getElem_cons_succ]
    refine wpAnyH_take (i := 7) (v := ?_) rfl (by kernel_rfl) (by kernel_rfl) (by kernel_rfl) (fun _ _ _ h => h) (Or.inl ⟨by kernel_rfl, ?_⟩) (by assumption) ?_
    rotate_left
    · (intro w hSw; (try dsimp only at hSw); go_simp); with_reducible rfl
    try simp only [Act.put, List.setIfInBounds_toArray, List.set_cons_zero, List.set_cons_succ, List.getElem_toArray, List.getElem_cons_zero, List.getElem_cons_succ]
    refine wpAnyH_take (i := 8) (v := ?_) rfl (by kernel_rfl) (by kernel_rfl) (by kernel_rfl) (fun _ _ _ h => h) (Or.inl ⟨by kernel_rfl, ?_⟩) (by assumption) ?_
    rotate_left
    · (intro w hSw; (try dsimp only at hSw); go_simp); with_reducible rfl
    try simp only [Act.put, List.setIfInBounds_toArray, List.set_cons_zero, List.set_cons_succ, List.getElem_toArray, List.getElem_cons_zero, List.getElem_cons_succ]
    refine wpAnyH_ready (rs := [2]) (by kernel_rfl) (by simp) (AllReadyH.cons rfl (fun K hK => ?_) AllReadyH.nil)
    go_simp
    first | (go_at_call 8; refine (sumKnown_any _).mono ?_; rintro e w1 ⟨rfl, hb1⟩) | (go_at_call 9; refine (add_any _ _ _ (by assumption) (by omega) (by omega)).mono ?_; rintro e w1 ⟨rfl, hb1⟩) | (go_at_call 13; refine (of_any _ _ (by assumption)).mono ?_; rintro e w1 ⟨rfl, hb1⟩)
    refine hK.out _ _ ?_ (fun hHeld => ?_)
    · (first | assumption | exact Below.drew (by assumption) | (apply below_on <;> assumption))
    clear hK K
    try simp only [Act.put, List.setIfInBounds_toArray, List.set_cons_zero, List.set_cons_succ, List.getElem_toArray, List.getElem_cons_zero, List.getElem_cons_succ]
    refine wpAnyH_ready (rs := [4]) (by kernel_rfl) (by simp) (AllReadyH.cons rfl (fun K hK => ?_) AllReadyH.nil)
    go_simp
    first | (go_at_call 8; refine (sumKnown_any _).mono ?_; rintro e w1 ⟨rfl, hb1⟩) | (go_at_call 9; refine (add_any _ _ _ (by assumption) (by omega) (by omega)).mono ?_; rintro e w1 ⟨rfl, hb1⟩) | (go_at_call 13; refine (of_any _ _ (by assumption)).mono ?_; rintro e w1 ⟨rfl, hb1⟩)
    refine hK.out _ _ ?_ (fun hHeld => ?_)
    · (first | assumption | exact Below.drew (by assumption) | (apply below_on <;> assumption))
    clear hK K
    try simp only [Act.put, List.setIfInBounds_toArray, List.set_cons_zero, List.set_cons_succ, List.getElem_toArray, List.getElem_cons_zero, List.getElem_cons_succ]
    refine wpAnyH_ready (rs := [9]) (by kernel_rfl) (by simp) (AllReadyH.cons rfl (fun K hK => ?_) AllReadyH.nil)
    go_simp
    first | (go_at_call 8; refine (sumKnown_any _).mono ?_; rintro e w1 ⟨rfl, hb1⟩) | (go_at_call 9; refine (add_any _ _ _ (by assumption) (by omega) (by omega)).mono ?_; rintro e w1 ⟨rfl, hb1⟩) | (go_at_call 13; refine (of_any _ _ (by assumption)).mono ?_; rintro e w1 ⟨rfl, hb1⟩)
    refine hK.out _ _ ?_ (fun hHeld => ?_)
    · (first | assumption | exact Below.drew (by assumption) | (apply below_on <;> assumption))
    clear hK K
    try simp only [Act.put, List.setIfInBounds_toArray, List.set_cons_zero, List.set_cons_succ, List.getElem_toArray, List.getElem_cons_zero, List.getElem_cons_succ]
    refine wpAnyH_take (i := 10) (v := ?_) rfl (by kernel_rfl) (by kernel_rfl) (by kernel_rfl) (fun _ _ _ h => h) (Or.inl ⟨by kernel_rfl, ?_⟩) (by assumption) ?_
    rotate_left
    · (intro w hSw; (try dsimp only at hSw); go_simp); with_reducible rfl
    try simp only [Act.put, List.setIfInBounds_toArray, List.set_cons_zero, List.set_cons_succ, List.getElem_toArray, List.getElem_cons_zero, List.getElem_cons_succ]
    refine wpAnyH_take (i := 11) (v := ?_) rfl (by kernel_rfl) (by kernel_rfl) (by kernel_rfl) (fun _ _ _ h => h) (Or.inl ⟨by kernel_rfl, ?_⟩) (by assumption) ?_
    rotate_left
    · (intro w hSw; (try dsimp only at hSw); go_simp); with_reducible rfl
    try simp only [Act.put, List.setIfInBounds_toArray, List.set_cons_zero, List.set_cons_succ, List.getElem_toArray, List.getElem_cons_zero, List.getElem_cons_succ]
    refine wpAnyH_take (i := 12) (v := ?_) rfl (by kernel_rfl) (by kernel_rfl) (by kernel_rfl) (fun _ _ _ h => h) (Or.inl ⟨by kernel_rfl, ?_⟩) (by assumption) ?_
    rotate_left
    · (intro w hSw; (try dsimp only at hSw); go_simp); with_reducible rfl
    try simp only [Act.put, List.setIfInBounds_toArray, List.set_cons_zero, List.set_cons_succ, List.getElem_toArray, List.getElem_cons_zero, List.getElem_cons_succ]
    refine wpAnyH_take (i := 13) (v := ?_) rfl (by kernel_rfl) (by kernel_rfl) (by kernel_rfl) (fun _ _ _ h => h) (Or.inl ⟨by kernel_rfl, ?_⟩) (by assumption) ?_
    rotate_left
    · (intro w hSw; (try dsimp only at hSw); go_simp); with_reducible rfl
    try simp only [Act.put, List.setIfInBounds_toArray, List.set_cons_zero, List.set_cons_succ, List.getElem_toArray, List.getElem_cons_zero, List.getElem_cons_succ]
    refine wpAnyH_take (i := 14) (v := ?_) rfl (by kernel_rfl) (by kernel_rfl) (by kernel_rfl) (fun _ _ _ h => h) (Or.inl ⟨by kernel_rfl, ?_⟩) (by assumption) ?_
    rotate_left
    · (intro w hSw; (try dsimp only at hSw); go_simp); with_reducible rfl
    try simp only [Act.put, List.setIfInBounds_toArray, List.set_cons_zero, List.set_cons_succ, List.getElem_toArray, List.getElem_cons_zero, List.getElem_cons_succ]
    refine wpAnyH_take (i := 15) (v := ?_) rfl (by kernel_rfl) (by kernel_rfl) (by kernel_rfl) (fun _ _ _ h => h) (Or.inl ⟨by kernel_rfl, ?_⟩) (by assumption) ?_
    rotate_left
    · (intro w hSw; (try dsimp only at hSw); go_simp); with_reducible rfl
    try simp only [Act.put, List.setIfInBounds_toArray, List.set_cons_zero, List.set_cons_succ, List.getElem_toArray, List.getElem_cons_zero, List.getElem_cons_succ]
    refine wpAnyH_take (i := 16) (v := ?_) rfl (by kernel_rfl) (by kernel_rfl) (by kernel_rfl) (fun _ _ _ h => h) (Or.inl ⟨by kernel_rfl, ?_⟩) (by assumption) ?_
    rotate_left
    · (intro w hSw; (try dsimp only at hSw); go_simp); with_reducible rfl
    try simp only [Act.put, List.setIfInBounds_toArray, List.set_cons_zero, List.set_cons_succ, List.getElem_toArray, List.getElem_cons_zero, List.getElem_cons_succ]
    refine wpAnyH_take (i := 17) (v := undef) rfl (by kernel_rfl) (by kernel_rfl) (by kernel_rfl) (fun _ _ _ h => h) (Or.inr ⟨by kernel_rfl, rfl⟩) (by assumption) ?_
    try simp only [Act.put, List.setIfInBounds_toArray, List.set_cons_zero, List.set_cons_succ, List.getElem_toArray, List.getElem_cons_zero, List.getElem_cons_succ]
    refine wpAnyH_take (i := 18) (v := undef) rfl (by kernel_rfl) (by kernel_rfl) (by kernel_rfl) (fun _ _ _ h => h) (Or.inr ⟨by kernel_rfl, rfl⟩) (by assumption) ?_
    try simp only [Act.put, List.setIfInBounds_toArray, List.set_cons_zero, List.set_cons_succ, List.getElem_toArray, List.getElem_cons_zero, List.getElem_cons_succ]
    refine wpAnyH_take (i := 19) (v := undef) rfl (by kernel_rfl) (by kernel_rfl) (by kernel_rfl) (fun _ _ _ h => h) (Or.inr ⟨by kernel_rfl, rfl⟩) (by assumption) ?_
    try simp only [Act.put, List.setIfInBounds_toArray, List.set_cons_zero, List.set_cons_succ, List.getElem_toArray, List.getElem_cons_zero, List.getElem_cons_succ]
    refine wpAnyH_take (i := 20) (v := undef) rfl (by kernel_rfl) (by kernel_rfl) (by kernel_rfl) (fun _ _ _ h => h) (Or.inr ⟨by kernel_rfl, rfl⟩) (by assumption) ?_
    try simp only [Act.put, List.setIfInBounds_toArray, List.set_cons_zero, List.set_cons_succ, List.getElem_toArray, List.getElem_cons_zero, List.getElem_cons_succ]
    refine wpAnyH_take (i := 21) (v := undef) rfl (by kernel_rfl) (by kernel_rfl) (by kernel_rfl) (fun _ _ _ h => h) (Or.inr ⟨by kernel_rfl, rfl⟩) (by assumption) ?_
    try simp only [Act.put, List.setIfInBounds_toArray, List.set_cons_zero, List.set_cons_succ, List.getElem_toArray, List.getElem_cons_zero, List.getElem_cons_succ]
    refine wpAnyH_take (i := 22) (v := undef) rfl (by kernel_rfl) (by kernel_rfl) (by kernel_rfl) (fun _ _ _ h => h) (Or.inr ⟨by kernel_rfl, rfl⟩) (by assumption) ?_
    try simp only [Act.put, List.setIfInBounds_toArray, List.set_cons_zero, List.set_cons_succ, List.getElem_toArray, List.getElem_cons_zero, List.getElem_cons_succ]
    refine wpAnyH_take (i := 23) (v := undef) rfl (by kernel_rfl) (by kernel_rfl) (by kernel_rfl) (fun _ _ _ h => h) (Or.inr ⟨by kernel_rfl, rfl⟩) (by assumption) ?_
    try simp only [Act.put, List.setIfInBounds_toArray, List.set_cons_zero, List.set_cons_succ, List.getElem_toArray, List.getElem_cons_zero, List.getElem_cons_succ]
    refine wpAnyH_take (i := 24) (v := undef) rfl (by kernel_rfl) (by kernel_rfl) (by kernel_rfl) (fun _ _ _ h => h) (Or.inr ⟨by kernel_rfl, rfl⟩) (by assumption) ?_
    try simp only [Act.put, List.setIfInBounds_toArray, List.set_cons_zero, List.set_cons_succ, List.getElem_toArray, List.getElem_cons_zero, List.getElem_cons_succ]
    refine wpAnyH_take (i := 25) (v := undef) rfl (by kernel_rfl) (by kernel_rfl) (by kernel_rfl) (fun _ _ _ h => h) (Or.inr ⟨by kernel_rfl, rfl⟩) (by assumption) ?_
    try simp only [Act.put, List.setIfInBounds_toArray, List.set_cons_zero, List.set_cons_succ, List.getElem_toArray, List.getElem_cons_zero, List.getElem_cons_succ]
    refine wpAnyH_take (i := 26) (v := ?_) rfl (by kernel_rfl) (by kernel_rfl) (by kernel_rfl) (fun _ _ _ h => h) (Or.inl ⟨by kernel_rfl, ?_⟩) (by assumption) ?_
    rotate_left
    · (intro w hSw; (try dsimp only at hSw); go_simp); with_reducible rfl
    try simp only [Act.put, List.setIfInBounds_toArray, List.set_cons_zero, List.set_cons_succ, List.getElem_toArray, List.getElem_cons_zero, List.getElem_cons_succ]
    refine wpAnyH_take (i := 27) (v := ?_) rfl (by kernel_rfl) (by kernel_rfl) (by kernel_rfl) (fun _ _ _ h => h) (Or.inl ⟨by kernel_rfl, ?_⟩) (by assumption) ?_
    rotate_left
    · (intro w hSw; (try dsimp only at hSw); go_simp); with_reducible rfl
    try simp only [Act.put, List.setIfInBounds_toArray, List.set_cons_zero, List.set_cons_succ, List.getElem_toArray, List.getElem_cons_zero, List.getElem_cons_succ]
    refine wpAnyH_take (i := 28) (v := ?_) rfl (by kernel_rfl) (by kernel_rfl) (by kernel_rfl) (fun _ _ _ h => h) (Or.inl ⟨by kernel_rfl, ?_⟩) (by assumption) ?_
    rotate_left
    · (intro w hSw; (try dsimp only at hSw); go_simp); with_reducible rfl
    try simp only [Act.put, List.setIfInBounds_toArray, List.set_cons_zero, List.set_cons_succ, List.getElem_toArray, List.getElem_cons_zero, List.getElem_cons_succ]
    refine wpAnyH_take (i := 29) (v := ?_) rfl (by kernel_rfl) (by kernel_rfl) (by kernel_rfl) (fun _ _ _ h => h) (Or.inl ⟨by kernel_rfl, ?_⟩) (by assumption) ?_
    rotate_left
    · (intro w hSw; (try dsimp only at hSw); go_simp); with_reducible rfl
    try simp only [Act.put, List.setIfInBounds_toArray, List.set_cons_zero, List.set_cons_succ, List.getElem_toArray, List.getElem_cons_zero, List.getElem_cons_succ]
    refine wpAnyH_take (i := 30) (v := ?_) rfl (by kernel_rfl) (by kernel_rfl) (by kernel_rfl) (fun _ _ _ h => h) (Or.inl ⟨by kernel_rfl, ?_⟩) (by assumption) ?_
    rotate_left
    · (intro w hSw; (try dsimp only at hSw); go_simp); with_reducible rfl
    try simp only [Act.put, List.setIfInBounds_toArray, List.set_cons_zero, List.set_cons_succ, List.getElem_toArray, List.getElem_cons_zero, List.getElem_cons_succ]
    refine wpAnyH_take (i := 31) (v := ?_) rfl (by kernel_rfl) (by kernel_rfl) (by kernel_rfl) (fun _ _ _ h => h) (Or.inl ⟨by kernel_rfl, ?_⟩) (by assumption) ?_
    rotate_left
    · (intro w hSw; (try dsimp only at hSw); go_simp); with_reducible rfl
    try simp only [Act.put, List.setIfInBounds_toArray, List.set_cons_zero, List.set_cons_succ, List.getElem_toArray, List.getElem_cons_zero, List.getElem_cons_succ]
    refine wpAnyH_take (i := 32) (v := ?_) rfl (by kernel_rfl) (by kernel_rfl) (by kernel_rfl) (fun _ _ _ h => h) (Or.inl ⟨by kernel_rfl, ?_⟩) (by assumption) ?_
    rotate_left
    · (intro w hSw; (try dsimp only at hSw); go_simp); with_reducible rfl
    try simp only [Act.put, List.setIfInBounds_toArray, List.set_cons_zero, List.set_cons_succ, List.getElem_toArray, List.getElem_cons_zero, List.getElem_cons_succ]
    refine wpAnyH_take (i := 34) (v := ?_) rfl (by kernel_rfl) (by kernel_rfl) (by kernel_rfl) (fun _ _ _ h => h) (Or.inl ⟨by kernel_rfl, ?_⟩) (by assumption) ?_
    rotate_left
    · (intro w hSw; (try dsimp only at hSw); go_simp); with_reducible rfl
    try simp only [Act.put, List.setIfInBounds_toArray, List.set_cons_zero, List.set_cons_succ, List.getElem_toArray, List.getElem_cons_zero, List.getElem_cons_succ]
    refine wpAnyH_take (i := 35) (v := ?_) rfl (by kernel_rfl) (by kernel_rfl) (by kernel_rfl) (fun _ _ _ h => h) (Or.inl ⟨by kernel_rfl, ?_⟩) (by assumption) ?_
    rotate_left
    · (intro w hSw; (try dsimp only at hSw); go_simp); with_reducible rfl
    try simp only [Act.put, List.setIfInBounds_toArray, List.set_cons_zero, List.set_cons_succ, List.getElem_toArray, List.getElem_cons_zero, List.getElem_cons_succ]
    refine wpAnyH_take (i := 36) (v := ?_) rfl (by kernel_rfl) (by kernel_rfl) (by kernel_rfl) (fun _ _ _ h => h) (Or.inl ⟨by kernel_rfl, ?_⟩) (by assumption) ?_
    rotate_left
    · (intro w hSw; (try dsimp only at hSw); go_simp); with_reducible rfl
    try simp only [Act.put, List.setIfInBounds_toArray, List.set_cons_zero, List.set_cons_succ, List.getElem_toArray, List.getElem_cons_zero, List.getElem_cons_succ]
    refine wpAnyH_take (i := 37) (v := ?_) rfl (by kernel_rfl) (by kernel_rfl) (by kernel_rfl) (fun _ _ _ h => h) (Or.inl ⟨by kernel_rfl, ?_⟩) (by assumption) ?_
    rotate_left
    · (intro w hSw; (try dsimp only at hSw); go_simp); with_reducible rfl
    try simp only [Act.put, List.setIfInBounds_toArray, List.set_cons_zero, List.set_cons_succ, List.getElem_toArray, List.getElem_cons_zero, List.getElem_cons_succ]
    refine wpAnyH_take (i := 38) (v := ?_) rfl (by kernel_rfl) (by kernel_rfl) (by kernel_rfl) (fun _ _ _ h => h) (Or.inl ⟨by kernel_rfl, ?_⟩) (by assumption) ?_
    rotate_left
    · (intro w hSw; (try dsimp only at hSw); go_simp); with_reducible rfl
    try simp only [Act.put, List.setIfInBounds_toArray, List.set_cons_zero, List.set_cons_succ, List.getElem_toArray, List.getElem_cons_zero, List.getElem_cons_succ]
    refine wpAnyH_take (i := 39) (v := ?_) rfl (by kernel_rfl) (by kernel_rfl) (by kernel_rfl) (fun _ _ _ h => h) (Or.inl ⟨by kernel_rfl, ?_⟩) (by assumption) ?_
    rotate_left
    · (intro w hSw; (try dsimp only at hSw); go_simp); with_reducible rfl
    try simp only [Act.put, List.setIfInBounds_toArray, List.set_cons_zero, List.set_cons_succ, List.getElem_toArray, List.getElem_cons_zero, List.getElem_cons_succ]
    refine wpAnyH_take (i := 40) (v := ?_) rfl (by kernel_rfl) (by kernel_rfl) (by kernel_rfl) (fun _ _ _ h => h) (Or.inl ⟨by kernel_rfl, ?_⟩) (by assumption) ?_
    rotate_left
    · (intro w hSw; (try dsimp only at hSw); go_simp); with_reducible rfl
    try simp only [Act.put, List.setIfInBounds_toArray, List.set_cons_zero, List.set_cons_succ, List.getElem_toArray, List.getElem_cons_zero, List.getElem_cons_succ]
    refine wpAnyH_take (i := 41) (v := ?_) rfl (by kernel_rfl) (by kernel_rfl) (by kernel_rfl) (fun _ _ _ h => h) (Or.inl ⟨by kernel_rfl, ?_⟩) (by assumption) ?_
    rotate_left
    · (intro w hSw; (try dsimp only at hSw); go_simp); with_reducible rfl
    try simp only [Act.put, List.setIfInBounds_toArray, List.set_cons_zero, List.set_cons_succ, List.getElem_toArray, List.getElem_cons_zero, List.getElem_cons_succ]
    refine wpAnyH_ready (rs := [33]) (by kernel_rfl) (by simp) (AllReadyH.cons rfl (fun K hK => ?_) AllReadyH.nil)
    go_simp
    first | (go_at_call 8; refine (sumKnown_any _).mono ?_; rintro e w1 ⟨rfl, hb1⟩) | (go_at_call 9; refine (add_any _ _ _ (by assumption) (by omega) (by omega)).mono ?_; rintro e w1 ⟨rfl, hb1⟩) | (go_at_call 13; refine (of_any _ _ (by assumption)).mono ?_; rintro e w1 ⟨rfl, hb1⟩)
    refine hK.out _ _ ?_ (fun hHeld => ?_)
    · (first | assumption | exact Below.drew (by assumption) | (apply below_on <;> assumption))
    clear hK K
    try simp only [Act.put, List.setIfInBounds_toArray, List.set_cons_zero, List.set_cons_succ, List.getElem_toArray, List.getElem_cons_zero, List.getElem_cons_succ]
    refine wpAnyH_ready (rs := [42]) (by kernel_rfl) (by simp) (AllReadyH.cons rfl (fun K hK => ?_) AllReadyH.nil)
    go_simp
    first | (go_at_call 8; refine (sumKnown_any _).mono ?_; rintro e w1 ⟨rfl, hb1⟩) | (go_at_call 9; refine (add_any _ _ _ (by assumption) (by omega) (by omega)).mono ?_; rintro e w1 ⟨rfl, hb1⟩) | (go_at_call 13; refine (of_any _ _ (by assumption)).mono ?_; rintro e w1 ⟨rfl, hb1⟩)
    refine hK.out _ _ ?_ (fun hHeld => ?_)
    · (first | assumption | exact Below.drew (by assumption) | (apply below_on <;> assumption))
    clear hK K
    try simp only [Act.put, List.setIfInBounds_toArray, List.set_cons_zero, List.set_cons_succ, List.getElem_toArray, List.getElem_cons_zero, List.getElem_cons_succ]
    refine wpAnyH_take (i := 43) (v := ?_) rfl (by kernel_rfl) (by kernel_rfl) (by kernel_rfl) (fun _ _ _ h => h) (Or.inl ⟨by kernel_rfl, ?_⟩) (by assumption) ?_
    rotate_left
    · (intro w hSw; (try dsimp only at hSw); go_simp); with_reducible rfl
    try simp only [Act.put, List.setIfInBounds_toArray, List.set_cons_zero, List.set_cons_succ, List.getElem_toArray, List.getElem_cons_zero, List.getElem_cons_succ]
    refine wpAnyH_take (i := 44) (v := ?_) rfl (by kernel_rfl) (by kernel_rfl) (by kernel_rfl) (fun _ _ _ h => h) (Or.inl ⟨by kernel_rfl, ?_⟩) (by assumption) ?_
    rotate_left
    · (intro w hSw; (try dsimp only at hSw); go_simp); with_reducible rfl
    try simp only [Act.put, List.setIfInBounds_toArray, List.set_cons_zero, List.set_cons_succ, List.getElem_toArray, List.getElem_cons_zero, List.getElem_cons_succ]
    refine wpAnyH_take (i := 45) (v := ?_) rfl (by kernel_rfl) (by kernel_rfl) (by kernel_rfl) (fun _ _ _ h => h) (Or.inl ⟨by kernel_rfl, ?_⟩) (by assumption) ?_
    rotate_left
    · (intro w hSw; (try dsimp only at hSw); go_simp); with_reducible rfl
    try simp only [Act.put, List.setIfInBounds_toArray, List.set_cons_zero, List.set_cons_succ, List.getElem_toArray, List.getElem_cons_zero, List.getElem_cons_succ]
    refine wpAnyH_ready (rs := [46]) (by kernel_rfl) (by simp) (AllReadyH.cons rfl (fun K hK => ?_) AllReadyH.nil)
    go_simp
    first | (go_at_call 8; refine (sumKnown_any _).mono ?_; rintro e w1 ⟨rfl, hb1⟩) | (go_at_call 9; refine (add_any _ _ _ (by assumption) (by omega) (by omega)).mono ?_; rintro e w1 ⟨rfl, hb1⟩) | (go_at_call 13; refine (of_any _ _ (by assumption)).mono ?_; rintro e w1 ⟨rfl, hb1⟩)
    refine hK.out _ _ ?_ (fun hHeld => ?_)
    · (first | assumption | exact Below.drew (by assumption) | (apply below_on <;> assumption))
    clear hK K
    try simp only [Act.put, List.setIfInBounds_toArray, List.set_cons_zero, List.set_cons_succ, List.getElem_toArray, List.getElem_cons_zero, List.getElem_cons_succ]
    refine wpAnyH_take (i := 47) (v := ?_) rfl (by kernel_rfl) (by kernel_rfl) (by kernel_rfl) (fun _ _ _ h => h) (Or.inl ⟨by kernel_rfl, ?_⟩) (by assumption) ?_
    rotate_left
    · (intro w hSw; (try dsimp only at hSw); go_simp); with_reducible rfl
    try simp only [Act.put, List.setIfInBounds_toArray, List.set_cons_zero, List.set_cons_succ, List.getElem_toArray, List.getElem_cons_zero, List.getElem_cons_succ]
    refine wpAnyH_take (i := 48) (v := ?_) rfl (by kernel_rfl) (by kernel_rfl) (by kernel_rfl) (fun _ _ _ h => h) (Or.inl ⟨by kernel_rfl, ?_⟩) (by assumption) ?_
    rotate_left
    · (intro w hSw; (try dsimp only at hSw); go_simp); with_reducible rfl
    try simp only [Act.put, List.setIfInBounds_toArray, List.set_cons_zero, List.set_cons_succ, List.getElem_toArray, List.getElem_cons_zero, List.getElem_cons_succ]
    refine wpAnyH_done (by kernel_rfl) ?_ _
    go_wp2
    go_ret
    exact ⟨rfl, by assumption⟩
  · have e4 : ((b.size : Int) % 2 == 1) = false := by simp; omega
    have e6 : (b.size : Int).tmod 2 = 0 := by rw [Int.tmod_eq_emod_of_nonneg (by omega)]; omega
    obtain ⟨y, hy1, hy2⟩ := order_tail0 (a ++ b) (by rw [ByteArray.size_append]; omega)
    have hy3 : ofV (a ++ b) = y := by rw [← hy2]; congr 1; simp
    have hy4 : ofV (b ++ a) = y := by obtain ⟨z, hz1, hz2⟩ := order_even a b ha0 (by omega); rw [hz2, ← hz1, hy3]
    have l4 : (a ++ b ++ (⟨#[0]⟩ : ByteArray).extract 0 0).size ≤ 140737488351232 := by rw [ByteArray.size_append, ByteArray.size_append, ByteArray.size_extract]; omega
    go_enter Try.func6, Try.ntmps6
    go_wp2_with fail
    go_region_held3 (fun w' => Below w.heap.size w w') (first | assumption | exact Below.drew (by assumption) | (apply below_on <;> assumption))
      (first
        | (go_at_call 8; refine (sumKnown_any _).mono ?_; rintro e w1 ⟨rfl, hb1⟩)
        | (go_at_call 9; refine (add_any _ _ _ (by assumption) (by omega) (by omega)).mono ?_; rintro e w1 ⟨rfl, hb1⟩)
        | (go_at_call 13; refine (of_any _ _ (by assumption)).mono ?_; rintro e w1 ⟨rfl, hb1⟩))
    go_wp2
    go_ret
    exact ⟨rfl, by assumption⟩

end Go.Proofs.Ytcghgleaembanaa
