/- The statement of chapter 2 on noughts at the end. -/
import Derived.Test.YtcghgleaembanaaSumLaws2
namespace Go.Proofs.Ytcghgleaembanaa
open Go.RowKit

theorem ofV_nought (u : ByteArray) : ofV (u ++ ⟨#[0]⟩) = ofV u := by
  unfold ofV psB
  simp only [ByteArray.data_append, Array.toList_append]
  rw [ps_append]
  simp [ps]
theorem opp_ofV (N : Nat) (h : N ≤ 65535) : psB (putS 2 N ++ putS 2 (65535 - N)) = 65535 := by
  rw [ps_cat _ _ (by rw [putS_size])]
  unfold psB
  rw [ps_put2 N h, ps_put2 _ (by omega)]
  omega
theorem opp_core (p : Nat) (hp : p < 1000000000) :
    (65535 - foldV (p + 65535) = 0 ∧ 65535 - foldV p = 0) ∨ (65535 - foldV ((p : Int) + 65535) ≠ 0 ∧ 65535 - foldV p ≠ 0) ∨ 65535 - foldV p = 65535 := by
  unfold foldV
  split <;> split <;> omega
theorem opp_all (s p : ByteArray) (hs : s.size % 2 = 0) (h : s.size ≤ 1000) (hp : psB p = 65535) (hz : p.size = 4) :
    (ofV (s ++ p) = 0 ∧ ofV s = 0) ∨ (ofV (s ++ p) ≠ 0 ∧ ofV s ≠ 0) ∨ ofV s = 65535 := by
  have e : psB (s ++ p) = psB s + 65535 := by rw [ps_cat s p hs, hp]
  have b : psB s < 1000000000 := by
    have := ps_le s.data.toList true
    have e : s.data.toList.length = s.size := by simp
    unfold psB; rw [e] at this; omega
  unfold ofV
  rw [e, addV_small _ (by omega), addV_small _ (by omega)]
  exact opp_core _ b

set_option maxHeartbeats 1000000 in
theorem sumNoughts_walk (s : ByteArray) (n x : Int) (w : World) (ws : s.size ≤ maxLen) (wn : (Lit.int .u16 n).wf = true) (wx : (Lit.int .u16 x).wf = true) :
    Calls Try.prog 7 #[.string s, .int .u16 n, .int .u16 x] w fun e w' => e = .returned (.bool true) ∧ Below w.heap.size w w' := by
  have hB := Below.refl w.heap.size w
  unfold maxLen at ws
  obtain ⟨n0, n1⟩ := wf_u16 wn
  obtain ⟨x0, x1⟩ := wf_u16 wx
  clear wn wx
  by_cases h1 : s.size % 2 = 1
  · have e1 : ((s.size : Int) % 2 == 1) = true := by simp; omega
    go_enter Try.func7, Try.ntmps7
    go_wp2_with (go_at_call 8; refine (sumKnown_any _).mono ?_; rintro e w1 ⟨rfl, hb1⟩; replace hB := below_next hB hb1 hB.size)
    go_ret
    exact ⟨rfl, hB⟩
  have e1 : ((s.size : Int) % 2 == 1) = false := by simp; omega
  by_cases h2 : 1000 < s.size
  · go_enter Try.func7, Try.ntmps7
    go_wp2_with (go_at_call 8; refine (sumKnown_any _).mono ?_; rintro e w1 ⟨rfl, hb1⟩; replace hB := below_next hB hb1 hB.size)
    go_ret
    exact ⟨rfl, hB⟩
  have hd : decide (1000 < (s.size : Int)) = false := by simp; omega
  obtain ⟨X, rfl⟩ := Int.eq_ofNat_of_zero_le x0
  have b1 : IntKind.u64.wrap (65535 - (X : Int)) = ((65535 - X : Nat) : Int) := by rw [IntKind.wrap_u64]; omega
  have b2 : IntKind.u64.wrap (X : Int) = X := by rw [IntKind.wrap_u64]; omega
  go_enter Try.func7, Try.ntmps7
  go_wp2
  go_loop [7, 8] (fun t i => ∃ (k : Nat) (u : ByteArray), k ≤ 9 ∧ t = .string u ∧ i = .int .i64 k ∧ u.size = s.size + k ∧ ofV u = ofV s) (fun _ i => (9 - intOf i).toNat)
  case atStart => exact ⟨0, s, by omega, rfl, rfl, rfl, rfl⟩
  case round =>
    obtain ⟨k, u, hk, rfl, rfl, hu, ho⟩ := hrel
    have HU := Lib.hid hu
    have HO := Lib.hid ho
    have hus : u.size ≤ 1009 := by omega
    clear hu ho
    by_cases hlt : (k : Int) < n % 9
    · go_wp2
      go_round
      case rel => exact ⟨k + 1, _, by omega, rfl, by go_num, by rw [ByteArray.size_append, HU.out]; rfl, by rw [ofV_nought, HO.out]⟩
      case measure => simp [intOf]; omega
    · have hP := opp_ofV X (by omega)
      have hR : ofV (putS 2 X ++ putS 2 (65535 - X)) = 0 := by
        unfold ofV; rw [hP]; decide
      have hz : (putS 2 X ++ putS 2 (65535 - X)).size = 4 := by rw [ByteArray.size_append, putS_size, putS_size]
      have hA := opp_all s _ (by omega) (by omega) hP hz
      have z1 := putS_size 2 X
      have z2 := putS_size 2 (65535 - X)
      have HR := Lib.hid hR
      have HZ := Lib.hid hz
      clear hR hz hP
      have l1 : u.size ≤ 140737488351232 := by omega
      have l2 : s.size ≤ 140737488351232 := by omega
      go_wp2_with (go_at_call 19; refine (refPut_any _ 2 _ (by decide) (by omega)).mono ?_; rintro e w1 ⟨rfl, hb1⟩; replace hB := below_on hb1 hB)
      have hR := HR.out
      have hZ := HZ.out
      have hU := HO.out
      generalize putS 2 X ++ putS 2 (65535 - X) = p at *
      have l3 : p.size ≤ 140737488351232 := by omega
      have l4 : (s ++ p).size ≤ 140737488351232 := by rw [ByteArray.size_append]; omega
      have c1 : ¬ 9223372036854775807 < s.size + 4 := by omega
      clear HR HZ HO HU hk l1 hd z1 z2 b1 b2
      have hV := ofV_bd s
      have l1 : u.size ≤ 140737488351232 := by omega
      clear hus
      have hC : (∃ O, ofV (s ++ p) = O ∧ (O == 0) = true ∧ (ofV s == 0) = true) ∨ (∃ O, ofV (s ++ p) = O ∧ (O == 0) = false ∧ (ofV s == 0) = false) ∨ (∃ O, ofV (s ++ p) = O ∧ (O == 0) = true ∧ ofV s = 65535) := by
        rcases hA with ⟨ha, hb⟩ | ⟨ha, hb⟩ | ha
        · exact .inl ⟨_, rfl, by simp [ha], by simp [hb]⟩
        · exact .inr (.inl ⟨_, rfl, by simp [ha], by simp [hb]⟩)
        · by_cases hq : ofV (s ++ p) = 0
          · exact .inr (.inr ⟨_, rfl, by simp [hq], ha⟩)
          · exact .inr (.inl ⟨_, rfl, by simp [hq], by simp [ha]⟩)
      clear hA hV
      by_cases hE : s.toList.isEmpty = true
      · rcases hC with ⟨O, hO, hO1, hO2⟩ | ⟨O, hO, hO1, hO2⟩ | ⟨O, hO, hO1, hO2⟩
        all_goals
          go_wp2_with (first
            | (go_at_call 8; refine (sumKnown_any _).mono ?_; rintro e w1 ⟨rfl, hb1⟩; replace hB := below_on hb1 hB)
            | (go_at_call 13; refine (of_any _ _ (by assumption)).mono ?_; rintro e w1 ⟨rfl, hb1⟩; replace hB := below_on hb1 hB)
            | (go_at_call 15; refine (right_any _ _ (by assumption)).mono ?_; rintro e w1 ⟨rfl, hb1⟩; replace hB := below_on hb1 hB))
          go_ret
          exact ⟨rfl, hB⟩
      · have hE' : s.toList.isEmpty = false := by simpa using hE
        rcases hC with ⟨O, hO, hO1, hO2⟩ | ⟨O, hO, hO1, hO2⟩ | ⟨O, hO, hO1, hO2⟩
        all_goals
          go_wp2_with (first
            | (go_at_call 8; refine (sumKnown_any _).mono ?_; rintro e w1 ⟨rfl, hb1⟩; replace hB := below_on hb1 hB)
            | (go_at_call 13; refine (of_any _ _ (by assumption)).mono ?_; rintro e w1 ⟨rfl, hb1⟩; replace hB := below_on hb1 hB)
            | (go_at_call 15; refine (right_any _ _ (by assumption)).mono ?_; rintro e w1 ⟨rfl, hb1⟩; replace hB := below_on hb1 hB))
          go_ret
          exact ⟨rfl, hB⟩

end Go.Proofs.Ytcghgleaembanaa
