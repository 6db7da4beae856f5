/- SixSkipped. -/
import Derived.Test.YtpalmjejihakeaaSixLaws
namespace Go.Proofs.Ytpalmjejihakeaa
open Go.RowKit

/-- An extension, with so many words laid behind it. -/
def extR (p : Int) (m : Nat) : Nat → ByteArray
  | 0 => strOfNums [p, (m : Int)] ++ ⟨#[48, 49, 50, 51, 52, 53]⟩
  | j + 1 => extR p m j ++ ⟨#[97, 98, 99, 100, 101, 102, 103, 104]⟩
/-- Extensions, one ahead of the other. -/
def extS (m : Nat) : Nat → ByteArray
  | 0 => ⟨#[]⟩
  | i + 1 => extR (if i = 0 then 17 else 60) m m ++ extS m i
theorem extR_size (p : Int) (m j : Nat) : (extR p m j).size = 8 + 8 * j := by
  induction j with
  | zero => unfold extR; rw [ByteArray.size_append, strOfNums_size]; rfl
  | succ j ih =>
    unfold extR; rw [ByteArray.size_append, ih]
    have : (⟨#[97, 98, 99, 100, 101, 102, 103, 104]⟩ : ByteArray).size = 8 := rfl
    omega
theorem extS_size (m i : Nat) : (extS m i).size = i * (8 + 8 * m) := by
  induction i with
  | zero => unfold extS; simp; rfl
  | succ i ih => unfold extS; rw [ByteArray.size_append, ih, extR_size, Nat.add_mul]; omega
theorem ext_skips : ∀ m < 3, ∀ i < 10, sk (extS m i ++ ⟨#[114, 101, 115, 116]⟩) 8 0 (if i = 0 then 17 else 60) false = if i = 9 then (0, 0, false, 2) else (((extS m i).size : Int), 17, false, 0) := by
  decide +kernel
theorem extR_zero (p : Int) (m : Nat) : strOfNums [p, (m : Int)] ++ ⟨#[48, 49, 50, 51, 52, 53]⟩ = extR p m 0 := rfl
theorem extR_succ (p : Int) (m j : Nat) : extR p m j ++ ⟨#[97, 98, 99, 100, 101, 102, 103, 104]⟩ = extR p m (j + 1) := rfl
theorem extS_one (m : Nat) : extR 17 m m ++ extS m 0 = extS m 1 := rfl
theorem extS_more (m i : Nat) (h : i ≠ 0) : extR 60 m m ++ extS m i = extS m (i + 1) := by
  show _ = extR (if i = 0 then 17 else 60) m m ++ extS m i
  rw [if_neg h]

theorem str_two (x y : Int) (c g : Nat) (w : World) (hg : g = w.heap.size) :
    (convert 44 9 (.slice (some ⟨g, 0, none⟩) 2 c)).run Try.prog (w.alloc (.cells #[.int .u8 x, .int .u8 y] 5)) = .ok (.string (strOfNums [x, y])) (w.alloc (.cells #[.int .u8 x, .int .u8 y] 5)) :=
  str_new [x, y] 2 c _ w rfl hg

set_option maxRecDepth 100000 in
set_option maxHeartbeats 2000000 in
theorem sixSkipped_any (n z m i : Nat) (w : World) (hn : n < 256) (hz : z < 256) (hm : z % 3 = m) (hi : n % 10 = i) :
    Calls Try.prog 7 #[.int .u8 n, .int .u8 z] w fun e w' => e = .returned (.bool true) ∧ Below w.heap.size w w' := by
  have m3 : m < 3 := by omega
  have i10 : i < 10 := by omega
  have hsk := ext_skips m m3 i i10
  have w1 : IntKind.i64.wrap (n : Int) = n := IntWalk.i64_in _ (by omega)
  have w2 : IntKind.i64.wrap (z : Int) = z := IntWalk.i64_in _ (by omega)
  have w3 : IntKind.u8.wrap (m : Int) = m := by rw [IntKind.wrap_u8']; omega
  have t1 : (n : Int).tmod 10 = i := by rw [Int.tmod_eq_emod_of_nonneg (by omega)]; omega
  have t2 : (z : Int).tmod 3 = m := by rw [Int.tmod_eq_emod_of_nonneg (by omega)]; omega
  have t3 : n % 10 = i := hi
  have t4 : z % 3 = m := hm
  have t5 : (n : Int) % 10 = i := by omega
  have t6 : (z : Int) % 3 = m := by omega
  have hs2 := str_new2
  have HS := Lib.hid hsk
  clear hsk hm hi
  go_enter Try.func7, Try.ntmps7
  go_wp2
  go_loopw [7, 8] (fun s k wr => ∃ j : Nat, j ≤ i ∧ s = .string (extS m j) ∧ k = .int .i64 j ∧ Below w.heap.size w wr) (fun _ k _ => i - (intOf k).toNat)
  case atStart => exact ⟨0, Nat.zero_le _, rfl, rfl, Below.refl _ _⟩
  case round =>
    obtain ⟨j, hj, rfl, rfl, hb⟩ := hrel
    by_cases hlt : j < i
    · have r1 : IntKind.i64.wrap ((j : Int) + 1) = j + 1 := IntWalk.i64_in _ (by omega)
      have zz : ∀ x : Int, (strOfNums [x, (m : Int)]).size = 2 := fun x => by rw [strOfNums_size]; rfl
      have c0 : ¬ 9223372036854775807 < 2 + 6 := by omega
      have z6 : (⟨#[48, 49, 50, 51, 52, 53]⟩ : ByteArray).size = 6 := rfl
      by_cases h0 : j = 0
      · have hs3 := fun a => str_two 17 m 2 (wr.heap.size + 1) (wr.alloc a) (by simp)
        have z0 := extS_size m 0
        have hj0 := extS_one m
        have hjk := Lib.hid h0
        subst h0
        go_wp2
        go_loopw [9, 10] (fun o k wr2 => ∃ c : Nat, c ≤ m ∧ o = .string (extR 17 m c) ∧ k = .int .i64 c ∧ Below w.heap.size w wr2) (fun _ k _ => m - (intOf k).toNat)
        case atStart => exact ⟨0, Nat.zero_le _, by rw [← extR_zero], rfl, below_alloc (below_alloc hb _) _⟩
        case round =>
          obtain ⟨c, hc, rfl, rfl, hb2⟩ := hrel
          have zr := extR_size 17 m c
          by_cases hlc : c < m
          · have c8 : ¬ 9223372036854775807 < 8 + 8 * c + 8 := by omega
            have z8 : (⟨#[97, 98, 99, 100, 101, 102, 103, 104]⟩ : ByteArray).size = 8 := rfl
            have r2 : IntKind.i64.wrap ((c : Int) + 1) = c + 1 := IntWalk.i64_in _ (by omega)
            go_wp2
            go_roundw
            case rel => exact ⟨c + 1, by omega, by rw [← extR_succ], by go_num, hb2⟩
            case measure => simp [intOf]; omega
          · obtain rfl : c = m := by omega
            have zs := extS_size c 0
            have hmul : 0 * (8 + 8 * c) ≤ 9 * 24 := Nat.mul_le_mul (by omega) (by omega)
            have c9 : ¬ 9223372036854775807 < 8 + 8 * c + 0 * (8 + 8 * c) := by omega
            go_wp2
            go_roundw
            case rel => exact ⟨0 + 1, by omega, by rw [← extS_one], by go_num, hb2⟩
            case measure => simp [intOf]; omega
      · have h0i : ((j : Int) == 0) = false := by rw [beq_eq_false_iff_ne]; omega
        go_wp2
        go_loopw [9, 10] (fun o k wr2 => ∃ c : Nat, c ≤ m ∧ o = .string (extR 60 m c) ∧ k = .int .i64 c ∧ Below w.heap.size w wr2) (fun _ k _ => m - (intOf k).toNat)
        case atStart => exact ⟨0, Nat.zero_le _, by rw [← extR_zero], rfl, below_alloc hb _⟩
        case round =>
          obtain ⟨c, hc, rfl, rfl, hb2⟩ := hrel
          have zr := extR_size 60 m c
          by_cases hlc : c < m
          · have c8 : ¬ 9223372036854775807 < 8 + 8 * c + 8 := by omega
            have z8 : (⟨#[97, 98, 99, 100, 101, 102, 103, 104]⟩ : ByteArray).size = 8 := rfl
            have r2 : IntKind.i64.wrap ((c : Int) + 1) = c + 1 := IntWalk.i64_in _ (by omega)
            go_wp2
            go_roundw
            case rel => exact ⟨c + 1, by omega, by rw [← extR_succ], by go_num, hb2⟩
            case measure => simp [intOf]; omega
          · obtain rfl : c = m := by omega
            have zs := extS_size c j
            have hmul : j * (8 + 8 * c) ≤ 9 * 24 := Nat.mul_le_mul (by omega) (by omega)
            have c9 : ¬ 9223372036854775807 < 8 + 8 * c + j * (8 + 8 * c) := by omega
            go_wp2
            go_roundw
            case rel => exact ⟨j + 1, by omega, by rw [← extS_more c j h0], by go_num, hb2⟩
            case measure => simp [intOf]; omega
    · obtain rfl : j = i := by omega
      have zs := extS_size m j
      have hmul : j * (8 + 8 * m) ≤ 9 * 24 := Nat.mul_le_mul (by omega) (by omega)
      replace HS := HS.out
      generalize extS m j = S at *
      have hS : S.size ≤ 216 := by omega
      have z4 : (⟨#[114, 101, 115, 116]⟩ : ByteArray).size = 4 := rfl
      have c9 : ¬ 9223372036854775807 < S.size + 4 := by omega
      clear zs hmul t1 t2 t3 t4 t5 t6 w1 w2 w3 hs2 hlt
      by_cases h9 : j = 9
      · subst h9
        rw [if_neg (by decide), if_pos rfl] at HS
        replace HS := Lib.hid HS
        go_wp2_with (first
          | (go_at_call 12; with_reducible refine (skips_any (S ++ ⟨#[114, 101, 115, 116]⟩) 60 _ (by rw [ByteArray.size_append]; omega) (by decide) _ _ _ _ HS.out).mono ?_; rintro e w4 ⟨rfl, hb4⟩; replace hb := below_on hb4 hb)
          | (go_at_call 8; refine (sixKnown_any _).mono ?_; rintro e w5 ⟨rfl, hb5⟩; replace hb := below_on hb5 hb))
        go_ret
        exact ⟨rfl, hb⟩
      · rw [if_neg h9] at HS
        have h9i : ((j : Int) == 9) = false := by rw [beq_eq_false_iff_ne]; omega
        by_cases h0 : j = 0
        · subst h0
          rw [if_pos rfl] at HS
          replace HS := Lib.hid HS
          go_wp2_with (first
            | (go_at_call 12; with_reducible refine (skips_any (S ++ ⟨#[114, 101, 115, 116]⟩) 17 _ (by rw [ByteArray.size_append]; omega) (by decide) _ _ _ _ HS.out).mono ?_; rintro e w4 ⟨rfl, hb4⟩; replace hb := below_on hb4 hb)
            | (go_at_call 8; refine (sixKnown_any _).mono ?_; rintro e w5 ⟨rfl, hb5⟩; replace hb := below_on hb5 hb))
          go_ret
          exact ⟨rfl, hb⟩
        · rw [if_neg h0] at HS
          have h0i : ((j : Int) == 0) = false := by rw [beq_eq_false_iff_ne]; omega
          replace HS := Lib.hid HS
          go_wp2_with (first
            | (go_at_call 12; with_reducible refine (skips_any (S ++ ⟨#[114, 101, 115, 116]⟩) 60 _ (by rw [ByteArray.size_append]; omega) (by decide) _ _ _ _ HS.out).mono ?_; rintro e w4 ⟨rfl, hb4⟩; replace hb := below_on hb4 hb)
            | (go_at_call 8; refine (sixKnown_any _).mono ?_; rintro e w5 ⟨rfl, hb5⟩; replace hb := below_on hb5 hb))
          go_ret
          exact ⟨rfl, hb⟩

theorem sixSkipped_walk (n z : Int) (w : World) (wn : (Lit.int .u8 n).wf = true) (wz : (Lit.int .u8 z).wf = true) :
    Calls Try.prog 7 #[.int .u8 n, .int .u8 z] w fun e w' => e = .returned (.bool true) ∧ Below w.heap.size w w' := by
  have h1 := wf_u8 wn
  have h2 := wf_u8 wz
  obtain ⟨n, rfl⟩ := Int.eq_ofNat_of_zero_le h1.1
  obtain ⟨z, rfl⟩ := Int.eq_ofNat_of_zero_le h2.1
  exact sixSkipped_any n z _ _ w (by omega) (by omega) rfl rfl

end Go.Proofs.Ytpalmjejihakeaa
