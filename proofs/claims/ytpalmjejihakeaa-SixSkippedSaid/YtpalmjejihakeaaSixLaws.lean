/- The statements of chapter 6. -/
import Derived.Test.YtpalmjejihakeaaSixMake
import Derived.Test.YtpalmjejihakeaaSixRead
namespace Go.Proofs.Ytpalmjejihakeaa
open Go.RowKit

def sA : ByteArray := ⟨#[48, 49, 50, 51, 52, 53, 54, 55, 56, 57, 97, 98, 99, 100, 101, 102]⟩
def sB : ByteArray := ⟨#[102, 101, 100, 99, 98, 97, 57, 56, 55, 54, 53, 52, 51, 50, 49, 48]⟩
def sD : ByteArray := ⟨#[97, 98]⟩

set_option maxHeartbeats 1000000 in
theorem small_any (w : World) :
    Calls Try.prog 18 #[] w fun e w' => e = .returned (.agg #[.string sA, .string sB, .int .i64 6, .int .i64 64, .bool false, .string sD]) ∧ Below w.heap.size w w' := by
  go_enter Try.func18, Try.ntmps18
  go_wp2
  exact bodyPost_ret (v := .agg #[.string sA, .string sB, .int .i64 6, .int .i64 64, .bool false, .string sD]) (by simp [results, Try.results18, go_sem]; exact ⟨rfl, rfl, rfl⟩) rfl ⟨rfl, (Below.refl _ _).alloc (Nat.le_refl _) _⟩

theorem make_small (w : World) :
    Calls Try.prog 14 #[.agg #[.string sA, .string sB, .int .i64 6, .int .i64 64, .bool false, .string sD]] w fun e w' => e = .returned (.tuple #[.string (mkS sA sB 6 64 sD), .int .i64 0]) ∧ Below w.heap.size w w' :=
  make_yes sA sB 6 64 false sD w (by decide +kernel)
theorem known_read : rdV (mkS sA sB 6 64 sD ++ ⟨#[109, 111, 114, 101]⟩) = ((sA, sB, 6, 64, false, sD), 0) := by decide +kernel
theorem known_skip1 : sk ⟨#[44, 0, 120, 120, 120, 120, 120, 120, 6, 0, 0, 1, 120, 120, 120, 120, 100]⟩ 8 0 60 false = (16, 6, true, 0) := by decide +kernel
theorem known_skip2 : sk ⟨#[6, 1, 120, 120, 120, 120, 120, 120]⟩ 8 0 0 false = (0, 0, false, 3) := by decide +kernel
theorem known_read2 : rdV ⟨#[]⟩ = ((⟨#[]⟩, ⟨#[]⟩, 0, 0, false, ⟨#[]⟩), 3) := by decide +kernel
theorem known_bad : fitsB sA sB 44 64 false sD = false := by decide +kernel
theorem known_size : (mkS sA sB 6 64 sD).size = 42 := by decide +kernel
theorem known_first : bt (mkS sA sB 6 64 sD) 0 = 96 := by decide +kernel


set_option maxHeartbeats 2000000 in
theorem sixKnown_any (w : World) :
    Calls Try.prog 8 #[] w fun e w' => e = .returned (.bool true) ∧ Below w.heap.size w w' := by
  have hB := Below.refl w.heap.size w
  obtain ⟨L, hL⟩ : ∃ L, mkS sA sB 6 64 sD = L := ⟨_, rfl⟩
  have hmake := Lib.hid (fun w => make_small w)
  have hread := Lib.hid known_read
  have hsz := known_size
  have hfb := known_first
  have wp6 : (Lit.int .i64 44).wf = true := by decide
  rw [hL] at hmake hread hsz hfb
  have hfirst : L[0].toNat = 96 := (bt_eq L 0 (by omega)).trans hfb
  have hbad := known_bad
  have c1 : ¬ 9223372036854775807 < 42 + 4 := by omega
  have z4 : (⟨#[109, 111, 114, 101]⟩ : ByteArray).size = 4 := rfl
  clear hL
  go_enter Try.func8, Try.ntmps8
  go_wp2_with (first
    | (go_at_call 18; refine (small_any _).mono ?_; rintro e w1 ⟨rfl, hb1⟩; replace hB := below_on hb1 (by first | exact hB | exact below_alloc hB _))
    | (go_at_call 14; with_reducible refine (hmake.out _).mono ?_; rintro e w1 ⟨rfl, hb1⟩; replace hB := below_on hb1 (by first | exact hB | exact below_alloc hB _))
    | (go_at_call 9; with_reducible refine (read_any (L ++ ⟨#[109, 111, 114, 101]⟩) _ (by rw [ByteArray.size_append]; omega) _ _ _ _ _ _ _ hread.out).mono ?_; rintro e w1 ⟨rfl, hb1⟩; replace hB := below_on hb1 (by first | exact hB | exact below_alloc hB _)))
  obtain ⟨g, hg⟩ : ∃ g, g = w1.heap.size := ⟨_, rfl⟩
  have hG := Lib.hid (blk_new w1 (.cells #[.string sA, .string sB, .int .i64 6, .int .i64 64, .bool false, .string sD] 26))
  rw [← hg] at hG
  simp only [← hg]
  clear hg
  go_wp2_with (first
    | (go_at_call 18; refine (small_any _).mono ?_; rintro e w1 ⟨rfl, hb1⟩; replace hB := below_on hb1 (by first | exact hB | exact below_alloc hB _); replace hG := Lib.hid (by first | exact blk_below hb1 hG.out | exact blk_below hb1 (blk_alloc hG.out _)))
    | (go_at_call 12; with_reducible refine (skips_any _ _ _ (by decide) (by decide) _ _ _ _ known_skip1).mono ?_; rintro e w1 ⟨rfl, hb1⟩; replace hB := below_on hb1 (by first | exact hB | exact below_alloc hB _); replace hG := Lib.hid (by first | exact blk_below hb1 hG.out | exact blk_below hb1 (blk_alloc hG.out _)))
    | (go_at_call 12; with_reducible refine (skips_any _ _ _ (by decide) (by decide) _ _ _ _ known_skip2).mono ?_; rintro e w1 ⟨rfl, hb1⟩; replace hB := below_on hb1 (by first | exact hB | exact below_alloc hB _); replace hG := Lib.hid (by first | exact blk_below hb1 hG.out | exact blk_below hb1 (blk_alloc hG.out _))))
  obtain ⟨h, hh⟩ : ∃ h, h = w1.heap.size := ⟨_, rfl⟩
  have hH := Lib.hid (blk_new w1 (.cells #[.string sA, .string sB, .int .i64 44, .int .i64 64, .bool false, .string sD] 26))
  rw [← hh] at hH
  simp only [← hh]
  clear hh
  go_wp2_with (first
    | (go_at_call 14; with_reducible refine (make_no _ _ _ _ _ _ _ wp6 known_bad).mono ?_; rintro e w1 ⟨rfl, hb1⟩; replace hB := below_on hb1 (by first | exact hB | exact below_alloc hB _); replace hH := Lib.hid (by first | exact blk_below hb1 hH.out | exact blk_below hb1 (blk_alloc hH.out _)); replace hG := Lib.hid (blk_below hb1 (blk_alloc hG.out _)))
    | (go_at_call 9; with_reducible refine (read_any _ _ (by decide) _ _ _ _ _ _ _ known_read2).mono ?_; rintro e w1 ⟨rfl, hb1⟩; replace hB := below_on hb1 (by first | exact hB | exact below_alloc hB _); replace hG := Lib.hid (by first | exact blk_below hb1 hG.out | exact blk_below hb1 (blk_alloc hG.out _)); replace hH := Lib.hid (by first | exact blk_below hb1 hH.out | exact blk_below hb1 (blk_alloc hH.out _))))
  have lg := blk_lt hG.out
  have lh := blk_lt hH.out
  have g0 := blk_cell hG.out 0 _ rfl
  have g1 := blk_cell hG.out 1 _ rfl
  have g2 := blk_cell hG.out 2 _ rfl
  have g3 := blk_cell hG.out 3 _ rfl
  have g4 := blk_cell hG.out 4 _ rfl
  have g5 := blk_cell hG.out 5 _ rfl
  have h0 := blk_cell hH.out 0 _ rfl
  have h1 := blk_cell hH.out 1 _ rfl
  have h2 := blk_cell hH.out 2 _ rfl
  have h3 := blk_cell hH.out 3 _ rfl
  have h4 := blk_cell hH.out 4 _ rfl
  have h5 := blk_cell hH.out 5 _ rfl
  clear hmake hread
  go_region_held3 (fun w' => Below w1.heap.size w1 w' ∧ ∀ b o, b < w1.heap.size → w'.cell? ⟨b, o, none⟩ = w1.cell? ⟨b, o, none⟩)
    ((apply held_of; repeat (first | exact Below.refl _ _ | exact And.left (by assumption) | with_reducible apply below_drew | with_reducible apply below_alloc | (with_reducible refine below_on (by assumption) ?_))))
    (first
      | (go_at_call 18; refine (small_any _).mono ?_; rintro e w2 ⟨rfl, hb2⟩)
      | (go_at_call 16; refine (fits_any _ _ _ _ _ _ _ wp6).mono ?_; rintro e w2 ⟨rfl, hb2⟩))
  go_wp2
  go_ret
  exact ⟨rfl, below_on (And.left (by assumption)) hB⟩

set_option maxHeartbeats 1000000 in
theorem plain_any (A B : ByteArray) (p h : Int) (f : Bool) (D : ByteArray) (w : World) :
    Calls Try.prog 11 #[.agg #[.string A, .string B, .int .i64 p, .int .i64 h, .bool f, .string D]] w fun e w' => e = .returned (.agg #[.string A, .string B, .int .i64 p, .int .i64 h, .bool f, .string D]) ∧ Below w.heap.size w w' := by
  go_enter Try.func11, Try.ntmps11
  go_wp2
  exact bodyPost_ret (v := .agg #[.string A, .string B, .int .i64 p, .int .i64 h, .bool f, .string D]) (by simp [results, Try.results11, go_sem]) rfl ⟨rfl, ((Below.refl _ _).alloc (Nat.le_refl _) _).alloc (by simp) _⟩

set_option maxHeartbeats 1000000 in
theorem sixReads_walk (s : ByteArray) (w : World) (ws : s.size ≤ maxLen) :
    Calls Try.prog 3 #[.string s] w fun e w' => e = .returned (.bool true) ∧ Below w.heap.size w w' := by
  have hB := Below.refl w.heap.size w
  unfold maxLen at ws
  by_cases hc : 5000 < s.size
  · go_enter Try.func3, Try.ntmps3
    go_wp2_with (go_at_call 8; refine (sixKnown_any _).mono ?_; rintro e w1 ⟨rfl, hb1⟩; replace hB := below_on hb1 hB)
    go_ret
    exact ⟨rfl, hB⟩
  · have hs : s.size ≤ 140737488351232 := by omega
    rcases hr : rdV s with ⟨⟨A, B, p, h, f, D⟩, q⟩
    have HR := Lib.hid hr
    clear hr
    go_enter Try.func3, Try.ntmps3
    go_wp2_with (go_at_call 9; refine (read_any s _ hs _ _ _ _ _ _ _ HR.out).mono ?_; rintro e w1 ⟨rfl, hb1⟩; replace hB := below_on hb1 hB)
    obtain ⟨g, hg⟩ : ∃ g, g = w1.heap.size := ⟨_, rfl⟩
    have hG := Lib.hid (blk_new w1 (.cells #[.string A, .string B, .int .i64 p, .int .i64 h, .bool f, .string D] 26))
    rw [← hg] at hG
    simp only [← hg]
    clear hg
    refine (refread_any s _ hs _ _ _ _ _ _ _ HR.out).mono ?_
    rintro e w2 ⟨rfl, hb2⟩
    replace hB := below_on hb2 (below_alloc hB _)
    replace hG := Lib.hid (blk_below hb2 hG.out)
    go_wp2_with fail
    have hK := blk_new w2 (.cells #[.string A, .string B, .int .i64 p, .int .i64 h, .bool f, .string D] 30)
    have hG1 := blk_alloc hG.out (.cells #[.string A, .string B, .int .i64 p, .int .i64 h, .bool f, .string D] 30)
    replace hB := below_alloc hB (.cells #[.string A, .string B, .int .i64 p, .int .i64 h, .bool f, .string D] 30)
    generalize World.alloc w2 (.cells #[.string A, .string B, .int .i64 p, .int .i64 h, .bool f, .string D] 30) = W at *
    generalize w2.heap.size = k at *
    have lg := blk_lt hG1
    have lk := blk_lt hK
    have g0 := blk_cell hG1 0 _ rfl
    have g1 := blk_cell hG1 1 _ rfl
    have g2 := blk_cell hG1 2 _ rfl
    have g3 := blk_cell hG1 3 _ rfl
    have g4 := blk_cell hG1 4 _ rfl
    have g5 := blk_cell hG1 5 _ rfl
    have k0 := blk_cell hK 0 _ rfl
    have k1 := blk_cell hK 1 _ rfl
    have k2 := blk_cell hK 2 _ rfl
    have k3 := blk_cell hK 3 _ rfl
    have k4 := blk_cell hK 4 _ rfl
    have k5 := blk_cell hK 5 _ rfl
    clear hG hG1 hK hb2
    go_region_held3 (fun w' => Below W.heap.size W w' ∧ ∀ b o, b < W.heap.size → w'.cell? ⟨b, o, none⟩ = W.cell? ⟨b, o, none⟩)
      ((apply held_of; repeat (first | exact Below.refl _ _ | exact And.left (by assumption) | with_reducible apply below_drew | with_reducible apply below_alloc | (with_reducible refine below_on (by assumption) ?_))))
      (first
        | (go_at_call 11; refine (plain_any _ _ _ _ _ _ _).mono ?_; rintro e w2 ⟨rfl, hb2⟩)
        | (go_at_call 8; refine (sixKnown_any _).mono ?_; rintro e w2 ⟨rfl, hb2⟩))
    go_wp2
    go_ret
    exact ⟨rfl, below_on (And.left (by assumption)) hB⟩

set_option maxHeartbeats 1000000 in
theorem sixSkips_walk (s : ByteArray) (n : Int) (w : World) (ws : s.size ≤ maxLen) (wn : (Lit.int .i64 n).wf = true) :
    Calls Try.prog 4 #[.string s, .int .i64 n] w fun e w' => e = .returned (.bool true) ∧ Below w.heap.size w w' := by
  have hB := Below.refl w.heap.size w
  unfold maxLen at ws
  by_cases hc : 5000 < s.size
  · go_enter Try.func4, Try.ntmps4
    go_wp2_with (go_at_call 8; refine (sixKnown_any _).mono ?_; rintro e w1 ⟨rfl, hb1⟩; replace hB := below_on hb1 hB)
    go_ret
    exact ⟨rfl, hB⟩
  · have hs : s.size ≤ 140737488351232 := by omega
    rcases hr : sk s 8 0 n false with ⟨x, y, z, q⟩
    have HR := Lib.hid hr
    clear hr
    go_enter Try.func4, Try.ntmps4
    go_wp2_with (first
      | (go_at_call 12; refine (skips_any s n _ hs wn _ _ _ _ HR.out).mono ?_; rintro e w1 ⟨rfl, hb1⟩; replace hB := below_on hb1 hB)
      | (go_at_call 13; refine (refSkips_any s n _ hs wn _ _ _ _ HR.out).mono ?_; rintro e w1 ⟨rfl, rfl⟩)
      | (go_at_call 8; refine (sixKnown_any _).mono ?_; rintro e w1 ⟨rfl, hb1⟩; replace hB := below_on hb1 hB))
    go_ret
    exact ⟨rfl, hB⟩

set_option maxHeartbeats 1000000 in
theorem sixMakes_big (A B : ByteArray) (p h : Int) (f : Bool) (D : ByteArray) (w : World) (wA : A.size ≤ 9223372036854775807) (wB : B.size ≤ 9223372036854775807) (wD : D.size ≤ 9223372036854775807) (hc : 5000 < D.size ∨ 100 < A.size ∨ 100 < B.size) :
    Calls Try.prog 5 #[.agg #[.string A, .string B, .int .i64 p, .int .i64 h, .bool f, .string D]] w fun e w' => e = .returned (.bool true) ∧ Below w.heap.size w w' := by
  have hB := below_alloc (Below.refl w.heap.size w) (.cells #[.string A, .string B, .int .i64 p, .int .i64 h, .bool f, .string D] 26)
  by_cases h1 : 5000 < D.size
  all_goals
    by_cases h2 : 100 < A.size
  all_goals
    by_cases h3 : 100 < B.size
  all_goals first
    | (exfalso; omega)
    | (go_enter Try.func5, Try.ntmps5
       go_wp2_with (go_at_call 8; refine (sixKnown_any _).mono ?_; rintro e w1 ⟨rfl, hb1⟩; replace hB := below_on hb1 hB)
       go_ret
       exact ⟨rfl, hB⟩)

set_option maxHeartbeats 1000000 in
theorem sixMakes_walk (A B : ByteArray) (p h : Int) (f : Bool) (D : ByteArray) (w : World) (wA : A.size ≤ maxLen) (wB : B.size ≤ maxLen) (wp : (Lit.int .i64 p).wf = true) (wh : (Lit.int .i64 h).wf = true) (wD : D.size ≤ maxLen) :
    Calls Try.prog 5 #[.agg #[.string A, .string B, .int .i64 p, .int .i64 h, .bool f, .string D]] w fun e w' => e = .returned (.bool true) ∧ Below w.heap.size w w' := by
  unfold maxLen at wA wB wD
  by_cases hc : 5000 < D.size ∨ 100 < A.size ∨ 100 < B.size
  · exact sixMakes_big A B p h f D w wA wB wD hc
  have h1 : ¬ 5000 < D.size := by omega
  have h2 : ¬ 100 < A.size := by omega
  have h3 : ¬ 100 < B.size := by omega
  clear hc
  cases hfit : fitsB A B p h f D
  · have HF := Lib.hid hfit
    have hB := below_alloc (Below.refl w.heap.size w) (.cells #[.string A, .string B, .int .i64 p, .int .i64 h, .bool f, .string D] 26)
    have hK := Lib.hid (blk_new w (.cells #[.string A, .string B, .int .i64 p, .int .i64 h, .bool f, .string D] 26))
    go_enter Try.func5, Try.ntmps5
    go_wp2_with (first
      | (go_at_call 11; refine (plain_any _ _ _ _ _ _ _).mono ?_; rintro e w1 ⟨rfl, hb1⟩; replace hB := below_on hb1 (by first | exact hB | exact below_alloc hB _); replace hK := Lib.hid (blk_below hb1 hK.out); have k0 := blk_cell hK.out 0 _ rfl; have k1 := blk_cell hK.out 1 _ rfl; have k2 := blk_cell hK.out 2 _ rfl; have k3 := blk_cell hK.out 3 _ rfl; have k4 := blk_cell hK.out 4 _ rfl; have k5 := blk_cell hK.out 5 _ rfl)
      | (go_at_call 14; refine (make_no _ _ _ _ _ _ _ wp HF.out).mono ?_; rintro e w1 ⟨rfl, hb1⟩; replace hB := below_on hb1 (by first | exact hB | exact below_alloc hB _); replace hK := Lib.hid (blk_below hb1 hK.out); have k0 := blk_cell hK.out 0 _ rfl; have k1 := blk_cell hK.out 1 _ rfl; have k2 := blk_cell hK.out 2 _ rfl; have k3 := blk_cell hK.out 3 _ rfl; have k4 := blk_cell hK.out 4 _ rfl; have k5 := blk_cell hK.out 5 _ rfl)
      | (go_at_call 15; refine (refmake_no _ _ _ _ _ _ _ HF.out).mono ?_; rintro e w1 ⟨rfl, hb1⟩; replace hB := below_on hb1 (by first | exact hB | exact below_alloc hB _); replace hK := Lib.hid (blk_below hb1 hK.out); have k0 := blk_cell hK.out 0 _ rfl; have k1 := blk_cell hK.out 1 _ rfl; have k2 := blk_cell hK.out 2 _ rfl; have k3 := blk_cell hK.out 3 _ rfl; have k4 := blk_cell hK.out 4 _ rfl; have k5 := blk_cell hK.out 5 _ rfl))
    have lk := blk_lt hK.out
    clear hb1
    go_region_held3 (fun w' => Below w1.heap.size w1 w' ∧ ∀ b o, b < w1.heap.size → w'.cell? ⟨b, o, none⟩ = w1.cell? ⟨b, o, none⟩)
      ((apply held_of; repeat (first | exact Below.refl _ _ | exact And.left (by assumption) | with_reducible apply below_drew | with_reducible apply below_alloc | (with_reducible refine below_on (by assumption) ?_))))
      (first
        | (go_at_call 11; refine (plain_any _ _ _ _ _ _ _).mono ?_; rintro e w2 ⟨rfl, hb2⟩)
        | (go_at_call 16; refine (fits_any _ _ _ _ _ _ _ wp).mono ?_; rintro e w2 ⟨rfl, hb2⟩)
        | (go_at_call 17; refine (refFits_any _ _ _ _ _ _ _).mono ?_; rintro e w2 ⟨rfl, hb2⟩)
        | (go_at_call 8; refine (sixKnown_any _).mono ?_; rintro e w2 ⟨rfl, hb2⟩))
    go_wp2
    go_ret
    exact ⟨rfl, below_on (And.left (by assumption)) hB⟩
  · have HF := Lib.hid hfit
    obtain ⟨e1, e2, e3, e4, e5, e6, e7, e8, e9⟩ := fits_out hfit
    obtain ⟨p, rfl⟩ := Int.eq_ofNat_of_zero_le e3
    obtain ⟨h, rfl⟩ := Int.eq_ofNat_of_zero_le e6
    clear e1 e2 e3 e4 e5 e6 e7 e8 e9
    have hB := below_alloc (Below.refl w.heap.size w) (.cells #[.string A, .string B, .int .i64 p, .int .i64 h, .bool f, .string D] 26)
    have hK := Lib.hid (blk_new w (.cells #[.string A, .string B, .int .i64 p, .int .i64 h, .bool f, .string D] 26))
    go_enter Try.func5, Try.ntmps5
    go_wp2_with (first
      | (go_at_call 11; refine (plain_any _ _ _ _ _ _ _).mono ?_; rintro e w1 ⟨rfl, hb1⟩; replace hB := below_on hb1 (by first | exact hB | exact below_alloc hB _); replace hK := Lib.hid (blk_below hb1 hK.out); have k0 := blk_cell hK.out 0 _ rfl; have k1 := blk_cell hK.out 1 _ rfl; have k2 := blk_cell hK.out 2 _ rfl; have k3 := blk_cell hK.out 3 _ rfl; have k4 := blk_cell hK.out 4 _ rfl; have k5 := blk_cell hK.out 5 _ rfl)
      | (go_at_call 14; refine (make_yes _ _ _ _ _ _ _ HF.out).mono ?_; rintro e w1 ⟨rfl, hb1⟩; replace hB := below_on hb1 (by first | exact hB | exact below_alloc hB _); replace hK := Lib.hid (blk_below hb1 hK.out); have k0 := blk_cell hK.out 0 _ rfl; have k1 := blk_cell hK.out 1 _ rfl; have k2 := blk_cell hK.out 2 _ rfl; have k3 := blk_cell hK.out 3 _ rfl; have k4 := blk_cell hK.out 4 _ rfl; have k5 := blk_cell hK.out 5 _ rfl)
      | (go_at_call 15; refine (refmake_yes _ _ _ _ _ _ _ HF.out).mono ?_; rintro e w1 ⟨rfl, hb1⟩; replace hB := below_on hb1 (by first | exact hB | exact below_alloc hB _); replace hK := Lib.hid (blk_below hb1 hK.out); have k0 := blk_cell hK.out 0 _ rfl; have k1 := blk_cell hK.out 1 _ rfl; have k2 := blk_cell hK.out 2 _ rfl; have k3 := blk_cell hK.out 3 _ rfl; have k4 := blk_cell hK.out 4 _ rfl; have k5 := blk_cell hK.out 5 _ rfl))
    have lk := blk_lt hK.out
    clear hb1
    go_region_held3 (fun w' => Below w1.heap.size w1 w' ∧ ∀ b o, b < w1.heap.size → w'.cell? ⟨b, o, none⟩ = w1.cell? ⟨b, o, none⟩)
      ((apply held_of; repeat (first | exact Below.refl _ _ | exact And.left (by assumption) | with_reducible apply below_drew | with_reducible apply below_alloc | (with_reducible refine below_on (by assumption) ?_))))
      (first
        | (go_at_call 11; refine (plain_any _ _ _ _ _ _ _).mono ?_; rintro e w2 ⟨rfl, hb2⟩)
        | (go_at_call 16; refine (fits_any _ _ _ _ _ _ _ wp).mono ?_; rintro e w2 ⟨rfl, hb2⟩)
        | (go_at_call 17; refine (refFits_any _ _ _ _ _ _ _).mono ?_; rintro e w2 ⟨rfl, hb2⟩)
        | (go_at_call 8; refine (sixKnown_any _).mono ?_; rintro e w2 ⟨rfl, hb2⟩))
    go_wp2
    go_ret
    exact ⟨rfl, below_on (And.left (by assumption)) hB⟩

end Go.Proofs.Ytpalmjejihakeaa
