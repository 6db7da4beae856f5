/- The statements of chapter 5. -/
import Derived.Test.YthapajhaehdleaaFourMake
import Derived.Test.YthapajhaehdleaaFourRead
namespace Go.Proofs.Ythapajhaehdleaa
open Go.RowKit

def sA : ByteArray := ⟨#[10, 0, 0, 1]⟩
def sB : ByteArray := ⟨#[10, 0, 0, 2]⟩
def sD : ByteArray := ⟨#[97, 98]⟩

set_option maxHeartbeats 1000000 in
theorem small_any (w : World) :
    Calls Try.prog 18 #[] w fun e w' => e = .returned (.agg #[.string sA, .string sB, .int .i64 6, .int .i64 64, .int .i64 7, .int .i64 0, .bool false, .string sD]) ∧ Below w.heap.size w w' := by
  go_enter Try.func18, Try.ntmps18
  go_wp2
  exact bodyPost_ret (v := .agg #[.string sA, .string sB, .int .i64 6, .int .i64 64, .int .i64 7, .int .i64 0, .bool false, .string sD]) (by simp [results, Try.results18, go_sem]; exact ⟨rfl, rfl, rfl⟩) rfl ⟨rfl, (Below.refl _ _).alloc (Nat.le_refl _) _⟩

theorem make_small (w : World) :
    Calls Try.prog 12 #[.agg #[.string sA, .string sB, .int .i64 6, .int .i64 64, .int .i64 7, .int .i64 0, .bool false, .string sD]] w fun e w' => e = .returned (.tuple #[.string (mk4 sA sB 6 64 7 0 sD), .int .i64 0]) ∧ Below w.heap.size w w' :=
  make4_yes sA sB 6 64 7 0 sD w (by decide +kernel)
theorem known_read : rd4 (mk4 sA sB 6 64 7 0 sD ++ ⟨#[109, 111, 114, 101]⟩) = ((sA, sB, 6, 64, 7, 0, false, sD), 0) := by kernel_rfl
theorem known_read2 : rd4 (⟨#[101]⟩ ++ mk4 sA sB 6 64 7 0 sD) = ((⟨#[]⟩, ⟨#[]⟩, 0, 0, 0, 0, false, ⟨#[]⟩), 5) := by kernel_rfl
theorem known_read3 : rd4 ⟨#[]⟩ = ((⟨#[]⟩, ⟨#[]⟩, 0, 0, 0, 0, false, ⟨#[]⟩), 3) := by kernel_rfl
theorem known_bad : fits4 sA sB 6 256 7 0 false sD = false := by decide +kernel
theorem known_good : fits4 sA sB 6 64 7 0 false sD = true := by decide +kernel
theorem known_size : (mk4 sA sB 6 64 7 0 sD).size = 22 := by decide +kernel
theorem known_first : beAt (mk4 sA sB 6 64 7 0 sD) 0 1 = 69 := by decide +kernel

set_option maxRecDepth 100000 in
set_option maxHeartbeats 2000000 in
theorem ipvKnown_any (w : World) :
    Calls Try.prog 8 #[] w fun e w' => e = .returned (.bool true) ∧ Below w.heap.size w w' := by
  have hB := Below.refl w.heap.size w
  obtain ⟨L, hL⟩ : ∃ L, mk4 sA sB 6 64 7 0 sD = L := ⟨_, rfl⟩
  have hmake := Lib.hid (fun w => make_small w)
  have hread := Lib.hid known_read
  have hread2 := Lib.hid known_read2
  have hsz := known_size
  have hfb := known_first
  rw [hL] at hmake hread hread2 hsz hfb
  have hfirst : L[0].toNat = 69 := (beAt_one L 0 (by omega)).trans hfb
  have hbad := known_bad
  have hgood := known_good
  have c1 : ¬ 9223372036854775807 < 22 + 4 := by omega
  have c2 : ¬ 9223372036854775807 < 1 + 22 := by omega
  have z4 : (⟨#[109, 111, 114, 101]⟩ : ByteArray).size = 4 := rfl
  have z1 : (⟨#[101]⟩ : ByteArray).size = 1 := rfl
  clear hL hfb
  go_enter Try.func8, Try.ntmps8
  go_wp2_with (first
    | (go_at_call 18; refine (small_any _).mono ?_; rintro e w1 ⟨rfl, hb1⟩; replace hB := below_on hb1 (by first | exact hB | exact below_alloc hB _))
    | (go_at_call 12; with_reducible refine (hmake.out _).mono ?_; rintro e w1 ⟨rfl, hb1⟩; replace hB := below_on hb1 (by first | exact hB | exact below_alloc hB _))
    | (go_at_call 9; with_reducible refine (read4_any (L ++ ⟨#[109, 111, 114, 101]⟩) _ (by rw [ByteArray.size_append]; omega) _ _ _ _ _ _ _ _ _ hread.out).mono ?_; rintro e w1 ⟨rfl, hb1⟩; replace hB := below_on hb1 (by first | exact hB | exact below_alloc hB _)))
  obtain ⟨g, hg⟩ : ∃ g, g = w1.heap.size := ⟨_, rfl⟩
  have hG := Lib.hid (blk_new w1 (.cells #[.string sA, .string sB, .int .i64 6, .int .i64 64, .int .i64 7, .int .i64 0, .bool false, .string sD] 26))
  rw [← hg] at hG
  simp only [← hg]
  clear hg
  go_wp2_with (first
    | (go_at_call 9; with_reducible refine (read4_any (⟨#[101]⟩ ++ L) _ (by rw [ByteArray.size_append]; omega) _ _ _ _ _ _ _ _ _ hread2.out).mono ?_; rintro e w1 ⟨rfl, hb1⟩; replace hB := below_on hb1 (by first | exact hB | exact below_alloc hB _); replace hG := Lib.hid (by first | exact blk_below hb1 hG.out | exact blk_below hb1 (blk_alloc hG.out _)))
    | (go_at_call 9; with_reducible refine (read4_any ⟨#[]⟩ _ (by decide) _ _ _ _ _ _ _ _ _ known_read3).mono ?_; rintro e w1 ⟨rfl, hb1⟩; replace hB := below_on hb1 (by first | exact hB | exact below_alloc hB _); replace hG := Lib.hid (by first | exact blk_below hb1 hG.out | exact blk_below hb1 (blk_alloc hG.out _)))
    | (go_at_call 18; refine (small_any _).mono ?_; rintro e w1 ⟨rfl, hb1⟩; replace hB := below_on hb1 (by first | exact hB | exact below_alloc hB _); replace hG := Lib.hid (by first | exact blk_below hb1 hG.out | exact blk_below hb1 (blk_alloc hG.out _))))
  obtain ⟨h, hh⟩ : ∃ h, h = w1.heap.size := ⟨_, rfl⟩
  have hH := Lib.hid (blk_new w1 (.cells #[.string sA, .string sB, .int .i64 6, .int .i64 256, .int .i64 7, .int .i64 0, .bool false, .string sD] 26))
  rw [← hh] at hH
  simp only [← hh]
  clear hh
  go_wp2_with (go_at_call 12; with_reducible refine (make4_no _ _ _ _ _ _ _ _ _ hbad).mono ?_; rintro e w1 ⟨rfl, hb1⟩; replace hB := below_on hb1 (by first | exact hB | exact below_alloc hB _); replace hH := Lib.hid (by first | exact blk_below hb1 hH.out | exact blk_below hb1 (blk_alloc hH.out _)); replace hG := Lib.hid (blk_below hb1 (blk_alloc hG.out _)))
  obtain ⟨lg, g0, g1, g2, g3, g4, g5, g6, g7⟩ := blk8 hG.out
  obtain ⟨lh, h0, h1, h2, h3, h4, h5, h6, h7⟩ := blk8 hH.out
  clear hmake hread
  go_region_held3 (fun w' => Below w1.heap.size w1 w' ∧ ∀ b o, b < w1.heap.size → w'.cell? ⟨b, o, none⟩ = w1.cell? ⟨b, o, none⟩)
    ((apply held_of; repeat (first | exact Below.refl _ _ | exact And.left (by assumption) | with_reducible apply below_drew | with_reducible apply below_alloc | (with_reducible refine below_on (by assumption) ?_))))
    (first
      | (go_at_call 18; refine (small_any _).mono ?_; rintro e w2 ⟨rfl, hb2⟩)
      | (go_at_call 14; refine (fits4_any _ _ _ _ _ _ _ _ _).mono ?_; rintro e w2 ⟨rfl, hb2⟩))
  go_wp2
  go_ret
  exact ⟨rfl, below_on (And.left (by assumption)) hB⟩

set_option maxHeartbeats 1000000 in
theorem plain_any (A B : ByteArray) (p t i o : Int) (f : Bool) (D : ByteArray) (w : World) :
    Calls Try.prog 11 #[.agg #[.string A, .string B, .int .i64 p, .int .i64 t, .int .i64 i, .int .i64 o, .bool f, .string D]] w fun e w' => e = .returned (.agg #[.string A, .string B, .int .i64 p, .int .i64 t, .int .i64 i, .int .i64 o, .bool f, .string D]) ∧ Below w.heap.size w w' := by
  go_enter Try.func11, Try.ntmps11
  go_wp2
  exact bodyPost_ret (v := .agg #[.string A, .string B, .int .i64 p, .int .i64 t, .int .i64 i, .int .i64 o, .bool f, .string D]) (by simp [results, Try.results11, go_sem]) rfl ⟨rfl, ((Below.refl _ _).alloc (Nat.le_refl _) _).alloc (by simp) _⟩

set_option maxHeartbeats 1000000 in
theorem ipvReads_walk (s : ByteArray) (w : World) (ws : s.size ≤ maxLen) :
    Calls Try.prog 3 #[.string s] w fun e w' => e = .returned (.bool true) ∧ Below w.heap.size w w' := by
  have hB := Below.refl w.heap.size w
  unfold maxLen at ws
  by_cases hc : 5000 < s.size
  · go_enter Try.func3, Try.ntmps3
    go_wp2_with (go_at_call 8; refine (ipvKnown_any _).mono ?_; rintro e w1 ⟨rfl, hb1⟩; replace hB := below_on hb1 hB)
    go_ret
    exact ⟨rfl, hB⟩
  · have hs : s.size ≤ 140737488351232 := by omega
    rcases hr : rd4 s with ⟨⟨A, B, p, t, i, o, f, D⟩, q⟩
    have HR := Lib.hid hr
    clear hr
    go_enter Try.func3, Try.ntmps3
    go_wp2_with (go_at_call 9; refine (read4_any s _ hs _ _ _ _ _ _ _ _ _ HR.out).mono ?_; rintro e w1 ⟨rfl, hb1⟩; replace hB := below_on hb1 hB)
    obtain ⟨g, hg⟩ : ∃ g, g = w1.heap.size := ⟨_, rfl⟩
    have hG := Lib.hid (blk_new w1 (.cells #[.string A, .string B, .int .i64 p, .int .i64 t, .int .i64 i, .int .i64 o, .bool f, .string D] 26))
    rw [← hg] at hG
    simp only [← hg]
    clear hg
    refine (refread4_any s _ hs _ _ _ _ _ _ _ _ _ HR.out).mono ?_
    rintro e w2 ⟨rfl, hb2⟩
    replace hB := below_on hb2 (below_alloc hB _)
    replace hG := Lib.hid (blk_below hb2 hG.out)
    go_wp2_with fail
    have hK := blk_new w2 (.cells #[.string A, .string B, .int .i64 p, .int .i64 t, .int .i64 i, .int .i64 o, .bool f, .string D] 30)
    have hG1 := blk_alloc hG.out (.cells #[.string A, .string B, .int .i64 p, .int .i64 t, .int .i64 i, .int .i64 o, .bool f, .string D] 30)
    replace hB := below_alloc hB (.cells #[.string A, .string B, .int .i64 p, .int .i64 t, .int .i64 i, .int .i64 o, .bool f, .string D] 30)
    generalize World.alloc w2 (.cells #[.string A, .string B, .int .i64 p, .int .i64 t, .int .i64 i, .int .i64 o, .bool f, .string D] 30) = W at *
    generalize w2.heap.size = k at *
    obtain ⟨lg, g0, g1, g2, g3, g4, g5, g6, g7⟩ := blk8 hG1
    obtain ⟨lk, k0, k1, k2, k3, k4, k5, k6, k7⟩ := blk8 hK
    clear hG hG1 hK hb2
    go_region_held3 (fun w' => Below W.heap.size W w' ∧ ∀ b o, b < W.heap.size → w'.cell? ⟨b, o, none⟩ = W.cell? ⟨b, o, none⟩)
      ((apply held_of; repeat (first | exact Below.refl _ _ | exact And.left (by assumption) | with_reducible apply below_drew | with_reducible apply below_alloc | (with_reducible refine below_on (by assumption) ?_))))
      (first
        | (go_at_call 11; refine (plain_any _ _ _ _ _ _ _ _ _).mono ?_; rintro e w2 ⟨rfl, hb2⟩)
        | (go_at_call 8; refine (ipvKnown_any _).mono ?_; rintro e w2 ⟨rfl, hb2⟩))
    go_wp2
    go_ret
    exact ⟨rfl, below_on (And.left (by assumption)) hB⟩

set_option maxRecDepth 100000 in
set_option maxHeartbeats 1000000 in
theorem ipvMakes_big (A B : ByteArray) (p t i o : Int) (f : Bool) (D : ByteArray) (w : World) (wA : A.size ≤ 9223372036854775807) (wB : B.size ≤ 9223372036854775807) (wD : D.size ≤ 9223372036854775807) (hc : 5000 < D.size ∨ 100 < A.size ∨ 100 < B.size) :
    Calls Try.prog 4 #[.agg #[.string A, .string B, .int .i64 p, .int .i64 t, .int .i64 i, .int .i64 o, .bool f, .string D]] w fun e w' => e = .returned (.bool true) ∧ Below w.heap.size w w' := by
  have hB := below_alloc (Below.refl w.heap.size w) (.cells #[.string A, .string B, .int .i64 p, .int .i64 t, .int .i64 i, .int .i64 o, .bool f, .string D] 26)
  by_cases h1 : 5000 < D.size
  all_goals
    by_cases h2 : 100 < A.size
  all_goals
    by_cases h3 : 100 < B.size
  all_goals first
    | (exfalso; omega)
    | (go_enter Try.func4, Try.ntmps4
       go_wp2_with (go_at_call 8; refine (ipvKnown_any _).mono ?_; rintro e w1 ⟨rfl, hb1⟩; replace hB := below_on hb1 hB)
       go_ret
       exact ⟨rfl, hB⟩)

set_option maxRecDepth 100000 in
set_option maxHeartbeats 1000000 in
theorem ipvMakes_no (A B : ByteArray) (p t i o : Int) (f : Bool) (D : ByteArray) (w : World) (h1 : ¬ 5000 < D.size) (h2 : ¬ 100 < A.size) (h3 : ¬ 100 < B.size) (hfit : fits4 A B p t i o f D = false) :
    Calls Try.prog 4 #[.agg #[.string A, .string B, .int .i64 p, .int .i64 t, .int .i64 i, .int .i64 o, .bool f, .string D]] w fun e w' => e = .returned (.bool true) ∧ Below w.heap.size w w' := by
  have HF := Lib.hid hfit
  have hB := below_alloc (Below.refl w.heap.size w) (.cells #[.string A, .string B, .int .i64 p, .int .i64 t, .int .i64 i, .int .i64 o, .bool f, .string D] 26)
  have hK := Lib.hid (blk_new w (.cells #[.string A, .string B, .int .i64 p, .int .i64 t, .int .i64 i, .int .i64 o, .bool f, .string D] 26))
  go_enter Try.func4, Try.ntmps4
  go_wp2_with (first
    | (go_at_call 11; refine (plain_any _ _ _ _ _ _ _ _ _).mono ?_; rintro e w1 ⟨rfl, hb1⟩; replace hB := below_on hb1 (by first | exact hB | exact below_alloc hB _); replace hK := Lib.hid (blk_below hb1 hK.out); obtain ⟨lk, k0, k1, k2, k3, k4, k5, k6, k7⟩ := blk8 hK.out)
    | (go_at_call 12; refine (make4_no _ _ _ _ _ _ _ _ _ HF.out).mono ?_; rintro e w1 ⟨rfl, hb1⟩; replace hB := below_on hb1 (by first | exact hB | exact below_alloc hB _); replace hK := Lib.hid (blk_below hb1 hK.out); obtain ⟨lk, k0, k1, k2, k3, k4, k5, k6, k7⟩ := blk8 hK.out)
    | (go_at_call 13; refine (refmake4_no _ _ _ _ _ _ _ _ _ HF.out).mono ?_; rintro e w1 ⟨rfl, hb1⟩; replace hB := below_on hb1 (by first | exact hB | exact below_alloc hB _); replace hK := Lib.hid (blk_below hb1 hK.out); obtain ⟨lk, k0, k1, k2, k3, k4, k5, k6, k7⟩ := blk8 hK.out))
  clear hb1
  go_region_held3 (fun w' => Below w1.heap.size w1 w' ∧ ∀ b o, b < w1.heap.size → w'.cell? ⟨b, o, none⟩ = w1.cell? ⟨b, o, none⟩)
    ((apply held_of; repeat (first | exact Below.refl _ _ | exact And.left (by assumption) | with_reducible apply below_drew | with_reducible apply below_alloc | (with_reducible refine below_on (by assumption) ?_))))
    (first
      | (go_at_call 11; refine (plain_any _ _ _ _ _ _ _ _ _).mono ?_; rintro e w2 ⟨rfl, hb2⟩)
      | (go_at_call 14; refine (fits4_any _ _ _ _ _ _ _ _ _).mono ?_; rintro e w2 ⟨rfl, hb2⟩)
      | (go_at_call 15; refine (refFits4_any _ _ _ _ _ _ _ _ _).mono ?_; rintro e w2 ⟨rfl, hb2⟩)
      | (go_at_call 8; refine (ipvKnown_any _).mono ?_; rintro e w2 ⟨rfl, hb2⟩))
  go_wp2
  go_ret
  exact ⟨rfl, below_on (And.left (by assumption)) hB⟩

set_option maxRecDepth 100000 in
set_option maxHeartbeats 1000000 in
theorem ipvMakes_yes (A B : ByteArray) (p t i o : Nat) (D : ByteArray) (w : World) (h1 : ¬ 5000 < D.size) (h2 : ¬ 100 < A.size) (h3 : ¬ 100 < B.size) (hfit : fits4 A B p t i o false D = true) :
    Calls Try.prog 4 #[.agg #[.string A, .string B, .int .i64 p, .int .i64 t, .int .i64 i, .int .i64 o, .bool false, .string D]] w fun e w' => e = .returned (.bool true) ∧ Below w.heap.size w w' := by
  have HF := Lib.hid hfit
  have hB := below_alloc (Below.refl w.heap.size w) (.cells #[.string A, .string B, .int .i64 p, .int .i64 t, .int .i64 i, .int .i64 o, .bool false, .string D] 26)
  have hK := Lib.hid (blk_new w (.cells #[.string A, .string B, .int .i64 p, .int .i64 t, .int .i64 i, .int .i64 o, .bool false, .string D] 26))
  go_enter Try.func4, Try.ntmps4
  go_wp2_with (first
    | (go_at_call 11; refine (plain_any _ _ _ _ _ _ _ _ _).mono ?_; rintro e w1 ⟨rfl, hb1⟩; replace hB := below_on hb1 (by first | exact hB | exact below_alloc hB _); replace hK := Lib.hid (blk_below hb1 hK.out); obtain ⟨lk, k0, k1, k2, k3, k4, k5, k6, k7⟩ := blk8 hK.out)
    | (go_at_call 12; refine (make4_yes _ _ _ _ _ _ _ _ HF.out).mono ?_; rintro e w1 ⟨rfl, hb1⟩; replace hB := below_on hb1 (by first | exact hB | exact below_alloc hB _); replace hK := Lib.hid (blk_below hb1 hK.out); obtain ⟨lk, k0, k1, k2, k3, k4, k5, k6, k7⟩ := blk8 hK.out)
    | (go_at_call 13; refine (refmake4_yes _ _ _ _ _ _ _ _ HF.out).mono ?_; rintro e w1 ⟨rfl, hb1⟩; replace hB := below_on hb1 (by first | exact hB | exact below_alloc hB _); replace hK := Lib.hid (blk_below hb1 hK.out); obtain ⟨lk, k0, k1, k2, k3, k4, k5, k6, k7⟩ := blk8 hK.out))
  clear hb1
  go_region_held3 (fun w' => Below w1.heap.size w1 w' ∧ ∀ b o, b < w1.heap.size → w'.cell? ⟨b, o, none⟩ = w1.cell? ⟨b, o, none⟩)
    ((apply held_of; repeat (first | exact Below.refl _ _ | exact And.left (by assumption) | with_reducible apply below_drew | with_reducible apply below_alloc | (with_reducible refine below_on (by assumption) ?_))))
    (first
      | (go_at_call 11; refine (plain_any _ _ _ _ _ _ _ _ _).mono ?_; rintro e w2 ⟨rfl, hb2⟩)
      | (go_at_call 14; refine (fits4_any _ _ _ _ _ _ _ _ _).mono ?_; rintro e w2 ⟨rfl, hb2⟩)
      | (go_at_call 15; refine (refFits4_any _ _ _ _ _ _ _ _ _).mono ?_; rintro e w2 ⟨rfl, hb2⟩)
      | (go_at_call 8; refine (ipvKnown_any _).mono ?_; rintro e w2 ⟨rfl, hb2⟩))
  go_wp2
  go_ret
  exact ⟨rfl, below_on (And.left (by assumption)) hB⟩

theorem ipvMakes_walk (A B : ByteArray) (p t i o : Int) (f : Bool) (D : ByteArray) (w : World) (wA : A.size ≤ maxLen) (wB : B.size ≤ maxLen) (wp : (Lit.int .i64 p).wf = true) (wt : (Lit.int .i64 t).wf = true) (wi : (Lit.int .i64 i).wf = true) (wo : (Lit.int .i64 o).wf = true) (wD : D.size ≤ maxLen) :
    Calls Try.prog 4 #[.agg #[.string A, .string B, .int .i64 p, .int .i64 t, .int .i64 i, .int .i64 o, .bool f, .string D]] w fun e w' => e = .returned (.bool true) ∧ Below w.heap.size w w' := by
  unfold maxLen at wA wB wD
  by_cases hc : 5000 < D.size ∨ 100 < A.size ∨ 100 < B.size
  · exact ipvMakes_big A B p t i o f D w wA wB wD hc
  have h1 : ¬ 5000 < D.size := by omega
  have h2 : ¬ 100 < A.size := by omega
  have h3 : ¬ 100 < B.size := by omega
  cases hfit : fits4 A B p t i o f D
  · exact ipvMakes_no A B p t i o f D w h1 h2 h3 hfit
  · obtain ⟨e1, e2, e3, e4, e5, e6, e7, e8, e9, e10, e11, e12⟩ := fits4_out hfit
    subst e11
    obtain ⟨p, rfl⟩ := Int.eq_ofNat_of_zero_le e3
    obtain ⟨t, rfl⟩ := Int.eq_ofNat_of_zero_le e5
    obtain ⟨o, rfl⟩ := Int.eq_ofNat_of_zero_le e7
    obtain ⟨i, rfl⟩ := Int.eq_ofNat_of_zero_le e9
    exact ipvMakes_yes A B p t i o D w h1 h2 h3 hfit

end Go.Proofs.Ythapajhaehdleaa
