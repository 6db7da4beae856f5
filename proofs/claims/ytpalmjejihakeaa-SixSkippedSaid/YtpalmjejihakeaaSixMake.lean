/- The contracts of ipv6's Fits and Make, and of the reference's. -/
import Derived.Test.YtpalmjejihakeaaSix
import Derived.Test.YtpalmjejihakeaaCellPut
import Derived.Deep.RegionHeld3
namespace Go.Proofs.Ytpalmjejihakeaa
open Go.RowKit

/-- Whether a packet can be written. -/
def fitsB (a b : ByteArray) (p h : Int) (f : Bool) (d : ByteArray) : Bool :=
  decide (a.size = 16 ∧ b.size = 16 ∧ 0 ≤ p ∧ p ≤ 255 ∧ extB p = false ∧ 0 ≤ h ∧ h ≤ 255 ∧ f = false ∧ d.size ≤ 3960)

theorem fits_no {a b : ByteArray} {p h : Int} {f : Bool} {d : ByteArray} (k : ¬ (a.size = 16 ∧ b.size = 16 ∧ 0 ≤ p ∧ p ≤ 255 ∧ extB p = false ∧ 0 ≤ h ∧ h ≤ 255 ∧ f = false ∧ d.size ≤ 3960)) : false = fitsB a b p h f d := by
  unfold fitsB; rw [decide_eq_false k]
theorem fits_last {a b : ByteArray} {p h : Int} {f : Bool} {d : ByteArray} (k : a.size = 16 ∧ b.size = 16 ∧ 0 ≤ p ∧ p ≤ 255 ∧ extB p = false ∧ 0 ≤ h ∧ h ≤ 255 ∧ f = false) : decide ((d.size : Int) ≤ 3960) = fitsB a b p h f d := by
  unfold fitsB
  obtain ⟨k1, k2, k3, k4, k5, k6, k7, k8⟩ := k
  rw [Bool.eq_iff_iff]; simp [*]; omega

set_option maxHeartbeats 1000000 in
theorem refFits_any (a b : ByteArray) (p h : Int) (f : Bool) (d : ByteArray) (w : World) :
    Calls Try.prog 17 #[.agg #[.string a, .string b, .int .i64 p, .int .i64 h, .bool f, .string d]] w fun e w' => e = .returned (.bool (fitsB a b p h f d)) ∧ Below w.heap.size w w' := by
  have hB := Below.refl w.heap.size w
  go_enter Try.func17, Try.ntmps17
  go_wp2_with (go_at_call 23; refine (refExtends_any _ _).mono ?_; rintro e w1 ⟨rfl, rfl⟩)
  all_goals
    go_ret
    refine ⟨ret_bool ?_, hB.alloc (Nat.le_refl _) _⟩
    first
      | (refine fits_no ?_; rintro ⟨k1, k2, k3, k4, k5, k6, k7, k8, k9⟩; first | omega | (simp_all; done))
      | (refine fits_last ⟨?_, ?_, ?_, ?_, ?_, ?_, ?_, ?_⟩ <;> first | omega | (simp_all; done))

set_option maxHeartbeats 1000000 in
theorem fits_any (a b : ByteArray) (p h : Int) (f : Bool) (d : ByteArray) (w : World) (wp : (Lit.int .i64 p).wf = true) :
    Calls Try.prog 16 #[.agg #[.string a, .string b, .int .i64 p, .int .i64 h, .bool f, .string d]] w fun e w' => e = .returned (.bool (fitsB a b p h f d)) ∧ Below w.heap.size w w' := by
  have hB := (Below.refl w.heap.size w).alloc (Nat.le_refl _) (.cells #[.string a, .string b, .int .i64 p, .int .i64 h, .bool f, .string d] 26)
  go_enter Try.func16, Try.ntmps16
  go_wp2_with (go_at_call 21; refine (extends_any _ _ wp).mono ?_; rintro e w1 ⟨rfl, hb1⟩; replace hB := below_on hb1 hB; obtain ⟨hc, hf⟩ := bcell hb1)
  all_goals
    go_ret
    refine ⟨ret_bool ?_, by first | exact hB | exact (Below.refl _ _).alloc (Nat.le_refl _) _⟩
    first
      | (refine fits_no ?_; rintro ⟨k1, k2, k3, k4, k5, k6, k7, k8, k9⟩; first | omega | (simp_all; done))
      | (refine fits_last ⟨?_, ?_, ?_, ?_, ?_, ?_, ?_, ?_⟩ <;> first | omega | (simp_all; done))

/-- A packet's bytes. -/
def mkS (a b : ByteArray) (p h : Nat) (d : ByteArray) : ByteArray := putS 4 1610612736 ++ putS 2 d.size ++ putS 1 p ++ putS 1 h ++ a ++ b ++ d

theorem fits_out {a b : ByteArray} {p h : Int} {f : Bool} {d : ByteArray} (hf : fitsB a b p h f d = true) : a.size = 16 ∧ b.size = 16 ∧ 0 ≤ p ∧ p ≤ 255 ∧ extB p = false ∧ 0 ≤ h ∧ h ≤ 255 ∧ f = false ∧ d.size ≤ 3960 := by
  unfold fitsB at hf
  simpa only [decide_eq_true_eq] using hf

set_option maxHeartbeats 1000000 in
theorem make_no (a b : ByteArray) (p h : Int) (f : Bool) (d : ByteArray) (w : World) (wp : (Lit.int .i64 p).wf = true) (hf : fitsB a b p h f d = false) :
    Calls Try.prog 14 #[.agg #[.string a, .string b, .int .i64 p, .int .i64 h, .bool f, .string d]] w fun e w' => e = .returned (.tuple #[.string ⟨#[]⟩, .int .i64 4]) ∧ Below w.heap.size w w' := by
  have hB := (Below.refl w.heap.size w).alloc (Nat.le_refl _) (.cells #[.string a, .string b, .int .i64 p, .int .i64 h, .bool f, .string d] 26)
  go_enter Try.func14, Try.ntmps14
  go_wp2_with (go_at_call 16; refine (fits_any _ _ _ _ _ _ _ wp).mono ?_; rintro e w1 ⟨rfl, hb1⟩; replace hB := below_on hb1 hB)
  go_ret2
  exact ⟨rfl, hB⟩

set_option maxHeartbeats 1000000 in
theorem refmake_no (a b : ByteArray) (p h : Int) (f : Bool) (d : ByteArray) (w : World) (hf : fitsB a b p h f d = false) :
    Calls Try.prog 15 #[.agg #[.string a, .string b, .int .i64 p, .int .i64 h, .bool f, .string d]] w fun e w' => e = .returned (.tuple #[.string ⟨#[]⟩, .int .i64 4]) ∧ Below w.heap.size w w' := by
  have hB := (Below.refl w.heap.size w).alloc (Nat.le_refl _) (.cells #[.string a, .string b, .int .i64 p, .int .i64 h, .bool f, .string d] 30)
  go_enter Try.func15, Try.ntmps15
  go_wp2_with (go_at_call 17; refine (refFits_any _ _ _ _ _ _ _).mono ?_; rintro e w1 ⟨rfl, hb1⟩; replace hB := below_on hb1 hB)
  go_ret2
  exact ⟨rfl, hB⟩

set_option maxHeartbeats 2000000 in
theorem make_yes (a b : ByteArray) (p h : Nat) (f : Bool) (d : ByteArray) (w : World) (hf : fitsB a b p h f d = true) :
    Calls Try.prog 14 #[.agg #[.string a, .string b, .int .i64 p, .int .i64 h, .bool f, .string d]] w fun e w' => e = .returned (.tuple #[.string (mkS a b p h d), .int .i64 0]) ∧ Below w.heap.size w w' := by
  have hB := (Below.refl w.heap.size w).alloc (Nat.le_refl _) (.cells #[.string a, .string b, .int .i64 p, .int .i64 h, .bool f, .string d] 26)
  obtain ⟨k1, k2, k3, k4, k5, k6, k7, k8, k9⟩ := fits_out hf
  have z1 := putS_size 4 1610612736
  have z2 := putS_size 2 d.size
  have z3 := putS_size 1 p
  have z4 := putS_size 1 h
  have b1 : IntKind.u64.wrap (d.size : Int) = d.size := by rw [IntKind.wrap_u64]; omega
  have b2 : IntKind.u64.wrap (p : Int) = p := by rw [IntKind.wrap_u64]; omega
  have b3 : IntKind.u64.wrap (h : Int) = h := by rw [IntKind.wrap_u64]; omega
  have c1 : ¬ 9223372036854775807 < 4 + 2 := by omega
  have c2 : ¬ 9223372036854775807 < 4 + 2 + 1 := by omega
  have c3 : ¬ 9223372036854775807 < 4 + 2 + 1 + 1 := by omega
  have c4 : ¬ 9223372036854775807 < 4 + 2 + 1 + 1 + 16 := by omega
  have c5 : ¬ 9223372036854775807 < 4 + 2 + 1 + 1 + 16 + 16 := by omega
  have c6 : ¬ 9223372036854775807 < 4 + 2 + 1 + 1 + 16 + 16 + d.size := by omega
  clear k3 k6 k8 k5
  go_enter Try.func14, Try.ntmps14
  go_wp2_with (go_at_call 16; refine (fits_any _ _ _ _ _ _ _ (WalkArith.wf_i64 (by omega))).mono ?_; rintro e w1 ⟨rfl, hb1⟩; replace hB := below_on hb1 hB; obtain ⟨hc, hx⟩ := bcell hb1)
  have hz : w.heap.size < w1.heap.size := by have := hb1.size; simp at this; omega
  have q2 : w1.cell? ⟨w.heap.size, 2, none⟩ = some (.int .i64 p) := by rw [hc _ _ (by simp)]; simp
  have q3 : w1.cell? ⟨w.heap.size, 3, none⟩ = some (.int .i64 h) := by rw [hc _ _ (by simp)]; simp
  have q5 : w1.cell? ⟨w.heap.size, 5, none⟩ = some (.string d) := by rw [hc _ _ (by simp)]; simp
  have q0 : w1.cell? ⟨w.heap.size, 0, none⟩ = some (.string a) := by rw [hc _ _ (by simp)]; simp
  have q1 : w1.cell? ⟨w.heap.size, 1, none⟩ = some (.string b) := by rw [hc _ _ (by simp)]; simp
  clear hc hx hb1
  go_region_held3 (fun w' => Below w1.heap.size w1 w' ∧ ∀ b o, b < w1.heap.size → w'.cell? ⟨b, o, none⟩ = w1.cell? ⟨b, o, none⟩)
    ((apply held_of; repeat (first | exact Below.refl _ _ | exact And.left (by assumption) | with_reducible apply below_drew | with_reducible apply below_alloc | (with_reducible refine below_on (by assumption) ?_))))
    (first | (go_at_call 25; refine (put_i _ _ _ (by decide) (by decide) (by omega) (by omega)).mono ?_; rintro e w2 ⟨rfl, hb2⟩))
  have hH : Below w1.heap.size w1 w2 ∧ ∀ b o, b < w1.heap.size → w2.cell? ⟨b, o, none⟩ = w1.cell? ⟨b, o, none⟩ := by assumption
  obtain ⟨hB2, hc2⟩ := hH
  go_wp2
  go_ret2
  exact ⟨rfl, below_on hB2 hB⟩

theorem two_bytes (p h : Nat) (hp : p ≤ 255) (hh : h ≤ 255) : putS 1 p ++ putS 1 h = strOfNums [(p : Int), (h : Int)] := by
  unfold putS strOfNums
  simp [putL]
  rw [Nat.mod_eq_of_lt (by omega), Nat.mod_eq_of_lt (by omega)]
  rfl
theorem mkS_two (a b : ByteArray) (p h : Nat) (d : ByteArray) (hp : p ≤ 255) (hh : h ≤ 255) : ⟨#[96, 0, 0, 0]⟩ ++ putS 2 d.size ++ strOfNums [(p : Int), (h : Int)] ++ a ++ b ++ d = mkS a b p h d := by
  unfold mkS
  have e : putS 4 1610612736 = ⟨#[96, 0, 0, 0]⟩ := by decide +kernel
  rw [← two_bytes p h hp hh, e]
  simp only [ByteArray.append_assoc]

set_option maxHeartbeats 2000000 in
theorem refmake_yes (a b : ByteArray) (p h : Nat) (f : Bool) (d : ByteArray) (w : World) (hf : fitsB a b p h f d = true) :
    Calls Try.prog 15 #[.agg #[.string a, .string b, .int .i64 p, .int .i64 h, .bool f, .string d]] w fun e w' => e = .returned (.tuple #[.string (mkS a b p h d), .int .i64 0]) ∧ Below w.heap.size w w' := by
  have hB := (Below.refl w.heap.size w).alloc (Nat.le_refl _) (.cells #[.string a, .string b, .int .i64 p, .int .i64 h, .bool f, .string d] 30)
  obtain ⟨k1, k2, k3, k4, k5, k6, k7, k8, k9⟩ := fits_out hf
  have z1 : (⟨#[96, 0, 0, 0]⟩ : ByteArray).size = 4 := rfl
  have z2 := putS_size 2 d.size
  have z3 : (strOfNums [(p : Int), (h : Int)]).size = 2 := by rw [strOfNums_size]; rfl
  have b1 : IntKind.u64.wrap (d.size : Int) = d.size := by rw [IntKind.wrap_u64]; omega
  have b2 : IntKind.u8.wrap (p : Int) = p := by rw [IntKind.wrap_u8']; omega
  have b3 : IntKind.u8.wrap (h : Int) = h := by rw [IntKind.wrap_u8']; omega
  have b4 : (p : Int) % 256 = p := by omega
  have b5 : (h : Int) % 256 = h := by omega
  have c1 : ¬ 9223372036854775807 < 4 + 2 := by omega
  have c2 : ¬ 9223372036854775807 < 4 + 2 + 2 := by omega
  have c3 : ¬ 9223372036854775807 < 4 + 2 + 2 + 16 := by omega
  have c4 : ¬ 9223372036854775807 < 4 + 2 + 2 + 16 + 16 := by omega
  have c5 : ¬ 9223372036854775807 < 4 + 2 + 2 + 16 + 16 + d.size := by omega
  have hs1 := str_new2
  have hs2 := str_new2_drew
  have HM := Lib.hid (mkS_two a b p h d (by omega) (by omega))
  clear k3 k6 k8 k5
  go_enter Try.func15, Try.ntmps15
  go_wp2_with (go_at_call 17; refine (refFits_any _ _ _ _ _ _ _).mono ?_; rintro e w1 ⟨rfl, hb1⟩; replace hB := below_on hb1 hB; obtain ⟨hc, hx⟩ := bcell hb1)
  have hz : w.heap.size < w1.heap.size := by have := hb1.size; simp at this; omega
  have q2 : w1.cell? ⟨w.heap.size, 2, none⟩ = some (.int .i64 p) := by rw [hc _ _ (by simp)]; simp
  have q3 : w1.cell? ⟨w.heap.size, 3, none⟩ = some (.int .i64 h) := by rw [hc _ _ (by simp)]; simp
  have q5 : w1.cell? ⟨w.heap.size, 5, none⟩ = some (.string d) := by rw [hc _ _ (by simp)]; simp
  have q0 : w1.cell? ⟨w.heap.size, 0, none⟩ = some (.string a) := by rw [hc _ _ (by simp)]; simp
  have q1 : w1.cell? ⟨w.heap.size, 1, none⟩ = some (.string b) := by rw [hc _ _ (by simp)]; simp
  clear hc hx hb1
  refine wp_region_held_drew (S := (fun w' => Below w1.heap.size w1 w' ∧ ∀ b o, b < w1.heap.size → w'.cell? ⟨b, o, none⟩ = w1.cell? ⟨b, o, none⟩)) (by kernel_rfl) ?_ (fun hHeld => ?_)
  · ((apply held_of; repeat (first | exact Below.refl _ _ | exact And.left (by assumption) | with_reducible apply below_drew | with_reducible apply below_alloc | (with_reducible refine below_on (by assumption) ?_))))
  refine wpAnyH_take (i := 0) (v := ?_) rfl (by kernel_rfl) (by kernel_rfl) (by kernel_rfl) (fun _ _ _ h => h) (Or.inl ⟨by kernel_rfl, ?_⟩) (by assumption) ?_
  rotate_left
  · (intro w hSw; (try dsimp only at hSw); go_simp); with_reducible rfl
  try simp only [Act.put, List.setIfInBounds_toArray, List.set_cons_zero, List.set_cons_succ, List.getElem_toArray, List.getElem_cons_zero, List.getElem_cons_succ]
  refine wpAnyH_take (i := 1) (v := ?_) rfl (by kernel_rfl) (by kernel_rfl) (by kernel_rfl) (fun _ _ _ h => h) (Or.inl ⟨by kernel_rfl, ?_⟩) (by assumption) ?_
  rotate_left
  · (intro w hSw; (try dsimp only at hSw); go_simp); with_reducible rfl
  try simp only [Act.put, List.setIfInBounds_toArray, List.set_cons_zero, List.set_cons_succ, List.getElem_toArray, List.getElem_cons_zero, List.getElem_cons_succ]
  refine wpAnyH_take (i := 2) (v := ?_) rfl (by kernel_rfl) (by kernel_rfl) (by kernel_rfl) (fun _ _ _ h => h) (Or.inl ⟨by kernel_rfl, ?_⟩) (by assumption) ?_
  rotate_left
  · (intro w hSw; (try dsimp only at hSw); go_simp); with_reducible rfl
  try simp only [Act.put, List.setIfInBounds_toArray, List.set_cons_zero, List.set_cons_succ, List.getElem_toArray, List.getElem_cons_zero, List.getElem_cons_succ]
  refine wpAnyH_take (i := 3) (v := ?_) rfl (by kernel_rfl) (by kernel_rfl) (by kernel_rfl) (fun _ _ _ h => h) (Or.inl ⟨by kernel_rfl, ?_⟩) (by assumption) ?_
  rotate_left
  · (intro w hSw; (try dsimp only at hSw); go_simp); with_reducible rfl
  try simp only [Act.put, List.setIfInBounds_toArray, List.set_cons_zero, List.set_cons_succ, List.getElem_toArray, List.getElem_cons_zero, List.getElem_cons_succ]
  refine wpAnyH_take (i := 6) (v := ?_) rfl (by kernel_rfl) (by kernel_rfl) (by kernel_rfl) (fun _ _ _ h => h) (Or.inl ⟨by kernel_rfl, ?_⟩) (by assumption) ?_
  rotate_left
  · (intro w hSw; (try dsimp only at hSw); go_simp); with_reducible rfl
  try simp only [Act.put, List.setIfInBounds_toArray, List.set_cons_zero, List.set_cons_succ, List.getElem_toArray, List.getElem_cons_zero, List.getElem_cons_succ]
  refine wpAnyH_take (i := 7) (v := ?_) rfl (by kernel_rfl) (by kernel_rfl) (by kernel_rfl) (fun _ _ _ h => h) (Or.inl ⟨by kernel_rfl, ?_⟩) (by assumption) ?_
  rotate_left
  · (intro w hSw; (try dsimp only at hSw); go_simp); with_reducible rfl
  try simp only [Act.put, List.setIfInBounds_toArray, List.set_cons_zero, List.set_cons_succ, List.getElem_toArray, List.getElem_cons_zero, List.getElem_cons_succ]
  refine wpAnyH_take (i := 8) (v := ?_) rfl (by kernel_rfl) (by kernel_rfl) (by kernel_rfl) (fun _ _ _ h => h) (Or.inl ⟨by kernel_rfl, ?_⟩) (by assumption) ?_
  rotate_left
  · (intro w hSw; (try dsimp only at hSw); go_simp); with_reducible rfl
  try simp only [Act.put, List.setIfInBounds_toArray, List.set_cons_zero, List.set_cons_succ, List.getElem_toArray, List.getElem_cons_zero, List.getElem_cons_succ]
  refine wpAnyH_take (i := 9) (v := ?_) rfl (by kernel_rfl) (by kernel_rfl) (by kernel_rfl) (fun _ _ _ h => h) (Or.inl ⟨by kernel_rfl, ?_⟩) (by assumption) ?_
  rotate_left
  · (intro w hSw; (try dsimp only at hSw); go_simp); with_reducible rfl
  try simp only [Act.put, List.setIfInBounds_toArray, List.set_cons_zero, List.set_cons_succ, List.getElem_toArray, List.getElem_cons_zero, List.getElem_cons_succ]
  refine wpAnyH_take (i := 10) (v := ?_) rfl (by kernel_rfl) (by kernel_rfl) (by kernel_rfl) (fun _ _ _ h => h) (Or.inl ⟨by kernel_rfl, ?_⟩) (by assumption) ?_
  rotate_left
  · (intro w hSw; (try dsimp only at hSw); go_simp); with_reducible rfl
  try simp only [Act.put, List.setIfInBounds_toArray, List.set_cons_zero, List.set_cons_succ, List.getElem_toArray, List.getElem_cons_zero, List.getElem_cons_succ]
  refine wpAnyH_take (i := 11) (v := ?_) rfl (by kernel_rfl) (by kernel_rfl) (by kernel_rfl) (fun _ _ _ h => h) (Or.inl ⟨by kernel_rfl, ?_⟩) (by assumption) ?_
  rotate_left
  · (intro w hSw; (try dsimp only at hSw); go_simp); with_reducible rfl
  try simp only [Act.put, List.setIfInBounds_toArray, List.set_cons_zero, List.set_cons_succ, List.getElem_toArray, List.getElem_cons_zero, List.getElem_cons_succ]
  refine wpAnyH_take (i := 15) (v := ?_) rfl (by kernel_rfl) (by kernel_rfl) (by kernel_rfl) (fun _ _ _ h => h) (Or.inl ⟨by kernel_rfl, ?_⟩) (by assumption) ?_
  rotate_left
  · (intro w hSw; (try dsimp only at hSw); go_simp); with_reducible rfl
  try simp only [Act.put, List.setIfInBounds_toArray, List.set_cons_zero, List.set_cons_succ, List.getElem_toArray, List.getElem_cons_zero, List.getElem_cons_succ]
  refine wpAnyH_take (i := 16) (v := ?_) rfl (by kernel_rfl) (by kernel_rfl) (by kernel_rfl) (fun _ _ _ h => h) (Or.inl ⟨by kernel_rfl, ?_⟩) (by assumption) ?_
  rotate_left
  · (intro w hSw; (try dsimp only at hSw); go_simp); with_reducible rfl
  try simp only [Act.put, List.setIfInBounds_toArray, List.set_cons_zero, List.set_cons_succ, List.getElem_toArray, List.getElem_cons_zero, List.getElem_cons_succ]
  refine wpAnyH_take (i := 17) (v := ?_) rfl (by kernel_rfl) (by kernel_rfl) (by kernel_rfl) (fun _ _ _ h => h) (Or.inl ⟨by kernel_rfl, ?_⟩) (by assumption) ?_
  rotate_left
  · (intro w hSw; (try dsimp only at hSw); go_simp); with_reducible rfl
  try simp only [Act.put, List.setIfInBounds_toArray, List.set_cons_zero, List.set_cons_succ, List.getElem_toArray, List.getElem_cons_zero, List.getElem_cons_succ]
  refine wpAnyH_take (i := 19) (v := ?_) rfl (by kernel_rfl) (by kernel_rfl) (by kernel_rfl) (fun _ _ _ h => h) (Or.inl ⟨by kernel_rfl, ?_⟩) (by assumption) ?_
  rotate_left
  · (intro w hSw; (try dsimp only at hSw); go_simp); with_reducible rfl
  try simp only [Act.put, List.setIfInBounds_toArray, List.set_cons_zero, List.set_cons_succ, List.getElem_toArray, List.getElem_cons_zero, List.getElem_cons_succ]
  refine wpAnyH_take (i := 20) (v := ?_) rfl (by kernel_rfl) (by kernel_rfl) (by kernel_rfl) (fun _ _ _ h => h) (Or.inl ⟨by kernel_rfl, ?_⟩) (by assumption) ?_
  rotate_left
  · (intro w hSw; (try dsimp only at hSw); go_simp); with_reducible rfl
  try simp only [Act.put, List.setIfInBounds_toArray, List.set_cons_zero, List.set_cons_succ, List.getElem_toArray, List.getElem_cons_zero, List.getElem_cons_succ]
  refine wpAnyH_take (i := 21) (v := ?_) rfl (by kernel_rfl) (by kernel_rfl) (by kernel_rfl) (fun _ _ _ h => h) (Or.inl ⟨by kernel_rfl, ?_⟩) (by assumption) ?_
  rotate_left
  · (intro w hSw; (try dsimp only at hSw); go_simp); with_reducible rfl
  try simp only [Act.put, List.setIfInBounds_toArray, List.set_cons_zero, List.set_cons_succ, List.getElem_toArray, List.getElem_cons_zero, List.getElem_cons_succ]
  refine wpAnyH_take (i := 23) (v := ?_) rfl (by kernel_rfl) (by kernel_rfl) (by kernel_rfl) (fun _ _ _ h => h) (Or.inl ⟨by kernel_rfl, ?_⟩) (by assumption) ?_
  rotate_left
  · (intro w hSw; (try dsimp only at hSw); go_simp); with_reducible rfl
  try simp only [Act.put, List.setIfInBounds_toArray, List.set_cons_zero, List.set_cons_succ, List.getElem_toArray, List.getElem_cons_zero, List.getElem_cons_succ]
  refine wpAnyH_take (i := 24) (v := ?_) rfl (by kernel_rfl) (by kernel_rfl) (by kernel_rfl) (fun _ _ _ h => h) (Or.inl ⟨by kernel_rfl, ?_⟩) (by assumption) ?_
  rotate_left
  · (intro w hSw; (try dsimp only at hSw); go_simp); with_reducible rfl
  try simp only [Act.put, List.setIfInBounds_toArray, List.set_cons_zero, List.set_cons_succ, List.getElem_toArray, List.getElem_cons_zero, List.getElem_cons_succ]
  refine wpAnyH_ready (rs := [4, 12]) (by kernel_rfl) (by simp) (AllReadyH.cons rfl (fun K hK => ?_) (AllReadyH.cons rfl (fun K hK => ?_) AllReadyH.nil))
  go_simp
  (go_at_call 26; refine (refPut_any _ 2 _ (by decide) (by omega)).mono ?_; rintro e w2 ⟨rfl, hb2⟩; try (have hcv := str_later2 hb2))
  refine hK.out _ _ ?_ (fun hHeld => ?_)
  · ((apply held_of; repeat (first | exact Below.refl _ _ | exact And.left (by assumption) | with_reducible apply below_drew | with_reducible apply below_alloc | (with_reducible refine below_on (by assumption) ?_))))
  clear hK K
  try simp only [Act.put, List.setIfInBounds_toArray, List.set_cons_zero, List.set_cons_succ, List.getElem_toArray, List.getElem_cons_zero, List.getElem_cons_succ]
  refine wpAnyH_take (i := 5) (v := ?_) rfl (by kernel_rfl) (by kernel_rfl) (by kernel_rfl) (fun _ _ _ h => h) (Or.inl ⟨by kernel_rfl, ?_⟩) (by assumption) ?_
  rotate_left
  · (intro w hSw; (try dsimp only at hSw); go_simp); with_reducible rfl
  try simp only [Act.put, List.setIfInBounds_toArray, List.set_cons_zero, List.set_cons_succ, List.getElem_toArray, List.getElem_cons_zero, List.getElem_cons_succ]
  refine wpAnyH_ready (rs := [12]) (by kernel_rfl) (by simp) (AllReadyH.cons rfl (fun K hK => ?_) AllReadyH.nil)
  go_simp
  refine hK.out _ _ ?_ (fun hHeld => ?_)
  · ((apply held_of; repeat (first | exact Below.refl _ _ | exact And.left (by assumption) | with_reducible apply below_drew | with_reducible apply below_alloc | (with_reducible refine below_on (by assumption) ?_))))
  clear hK K
  try simp only [Act.put, List.setIfInBounds_toArray, List.set_cons_zero, List.set_cons_succ, List.getElem_toArray, List.getElem_cons_zero, List.getElem_cons_succ]
  refine wpAnyH_ready (rs := [13]) (by kernel_rfl) (by simp) (AllReadyH.cons rfl (fun K hK => ?_) AllReadyH.nil)
  go_simp
  refine hK.out _ _ ?_ (fun hHeld => ?_)
  · ((apply held_of; repeat (first | exact Below.refl _ _ | exact And.left (by assumption) | with_reducible apply below_drew | with_reducible apply below_alloc | (with_reducible refine below_on (by assumption) ?_))))
  clear hK K
  try simp only [Act.put, List.setIfInBounds_toArray, List.set_cons_zero, List.set_cons_succ, List.getElem_toArray, List.getElem_cons_zero, List.getElem_cons_succ]
  refine wpAnyH_take (i := 14) (v := ?_) rfl (by kernel_rfl) (by kernel_rfl) (by kernel_rfl) (fun _ _ _ h => h) (Or.inl ⟨by kernel_rfl, ?_⟩) (by assumption) ?_
  rotate_left
  · (intro w hSw; (try dsimp only at hSw); go_simp); with_reducible rfl
  try simp only [Act.put, List.setIfInBounds_toArray, List.set_cons_zero, List.set_cons_succ, List.getElem_toArray, List.getElem_cons_zero, List.getElem_cons_succ]
  refine wpAnyH_take (i := 18) (v := ?_) rfl (by kernel_rfl) (by kernel_rfl) (by kernel_rfl) (fun _ _ _ h => h) (Or.inl ⟨by kernel_rfl, ?_⟩) (by assumption) ?_
  rotate_left
  · (intro w hSw; (try dsimp only at hSw); go_simp); with_reducible rfl
  try simp only [Act.put, List.setIfInBounds_toArray, List.set_cons_zero, List.set_cons_succ, List.getElem_toArray, List.getElem_cons_zero, List.getElem_cons_succ]
  refine wpAnyH_take (i := 22) (v := ?_) rfl (by kernel_rfl) (by kernel_rfl) (by kernel_rfl) (fun _ _ _ h => h) (Or.inl ⟨by kernel_rfl, ?_⟩) (by assumption) ?_
  rotate_left
  · (intro w hSw; (try dsimp only at hSw); go_simp); with_reducible rfl
  try simp only [Act.put, List.setIfInBounds_toArray, List.set_cons_zero, List.set_cons_succ, List.getElem_toArray, List.getElem_cons_zero, List.getElem_cons_succ]
  refine wpAnyH_take (i := 25) (v := ?_) rfl (by kernel_rfl) (by kernel_rfl) (by kernel_rfl) (fun _ _ _ h => h) (Or.inl ⟨by kernel_rfl, ?_⟩) (by assumption) ?_
  rotate_left
  · (intro w hSw; (try dsimp only at hSw); go_simp); with_reducible rfl
  try simp only [Act.put, List.setIfInBounds_toArray, List.set_cons_zero, List.set_cons_succ, List.getElem_toArray, List.getElem_cons_zero, List.getElem_cons_succ]
  refine wpAnyH_take (i := 26) (v := ?_) rfl (by kernel_rfl) (by kernel_rfl) (by kernel_rfl) (fun _ _ _ h => h) (Or.inl ⟨by kernel_rfl, ?_⟩) (by assumption) ?_
  rotate_left
  · (intro w hSw; (try dsimp only at hSw); go_simp); with_reducible rfl
  try simp only [Act.put, List.setIfInBounds_toArray, List.set_cons_zero, List.set_cons_succ, List.getElem_toArray, List.getElem_cons_zero, List.getElem_cons_succ]
  refine wpAnyH_take (i := 27) (v := ?_) rfl (by kernel_rfl) (by kernel_rfl) (by kernel_rfl) (fun _ _ _ h => h) (Or.inl ⟨by kernel_rfl, ?_⟩) (by assumption) ?_
  rotate_left
  · (intro w hSw; (try dsimp only at hSw); go_simp); with_reducible rfl
  try simp only [Act.put, List.setIfInBounds_toArray, List.set_cons_zero, List.set_cons_succ, List.getElem_toArray, List.getElem_cons_zero, List.getElem_cons_succ]
  refine wpAnyH_done (by kernel_rfl) ?_ _
  rotate_left
  go_simp
  refine hK.out _ _ ?_ (fun hHeld => ?_)
  · ((apply held_of; repeat (first | exact Below.refl _ _ | exact And.left (by assumption) | with_reducible apply below_drew | with_reducible apply below_alloc | (with_reducible refine below_on (by assumption) ?_))))
  clear hK K
  try simp only [Act.put, List.setIfInBounds_toArray, List.set_cons_zero, List.set_cons_succ, List.getElem_toArray, List.getElem_cons_zero, List.getElem_cons_succ]
  refine wpAnyH_ready (rs := [4, 13]) (by kernel_rfl) (by simp) (AllReadyH.cons rfl (fun K hK => ?_) (AllReadyH.cons rfl (fun K hK => ?_) AllReadyH.nil))
  go_simp
  (go_at_call 26; refine (refPut_any _ 2 _ (by decide) (by omega)).mono ?_; rintro e w2 ⟨rfl, hb2⟩; try (have hcv := str_later2 hb2))
  refine hK.out _ _ ?_ (fun hHeld => ?_)
  · ((apply held_of; repeat (first | exact Below.refl _ _ | exact And.left (by assumption) | with_reducible apply below_drew | with_reducible apply below_alloc | (with_reducible refine below_on (by assumption) ?_))))
  clear hK K
  try simp only [Act.put, List.setIfInBounds_toArray, List.set_cons_zero, List.set_cons_succ, List.getElem_toArray, List.getElem_cons_zero, List.getElem_cons_succ]
  refine wpAnyH_take (i := 5) (v := ?_) rfl (by kernel_rfl) (by kernel_rfl) (by kernel_rfl) (fun _ _ _ h => h) (Or.inl ⟨by kernel_rfl, ?_⟩) (by assumption) ?_
  rotate_left
  · (intro w hSw; (try dsimp only at hSw); go_simp); with_reducible rfl
  try simp only [Act.put, List.setIfInBounds_toArray, List.set_cons_zero, List.set_cons_succ, List.getElem_toArray, List.getElem_cons_zero, List.getElem_cons_succ]
  refine wpAnyH_ready (rs := [13]) (by kernel_rfl) (by simp) (AllReadyH.cons rfl (fun K hK => ?_) AllReadyH.nil)
  go_simp
  refine hK.out _ _ ?_ (fun hHeld => ?_)
  · ((apply held_of; repeat (first | exact Below.refl _ _ | exact And.left (by assumption) | with_reducible apply below_drew | with_reducible apply below_alloc | (with_reducible refine below_on (by assumption) ?_))))
  clear hK K
  try simp only [Act.put, List.setIfInBounds_toArray, List.set_cons_zero, List.set_cons_succ, List.getElem_toArray, List.getElem_cons_zero, List.getElem_cons_succ]
  refine wpAnyH_take (i := 14) (v := ?_) rfl (by kernel_rfl) (by kernel_rfl) (by kernel_rfl) (fun _ _ _ h => h) (Or.inl ⟨by kernel_rfl, ?_⟩) (by assumption) ?_
  rotate_left
  · (intro w hSw; (try dsimp only at hSw); go_simp); with_reducible rfl
  try simp only [Act.put, List.setIfInBounds_toArray, List.set_cons_zero, List.set_cons_succ, List.getElem_toArray, List.getElem_cons_zero, List.getElem_cons_succ]
  refine wpAnyH_take (i := 18) (v := ?_) rfl (by kernel_rfl) (by kernel_rfl) (by kernel_rfl) (fun _ _ _ h => h) (Or.inl ⟨by kernel_rfl, ?_⟩) (by assumption) ?_
  rotate_left
  · (intro w hSw; (try dsimp only at hSw); go_simp); with_reducible rfl
  try simp only [Act.put, List.setIfInBounds_toArray, List.set_cons_zero, List.set_cons_succ, List.getElem_toArray, List.getElem_cons_zero, List.getElem_cons_succ]
  refine wpAnyH_take (i := 22) (v := ?_) rfl (by kernel_rfl) (by kernel_rfl) (by kernel_rfl) (fun _ _ _ h => h) (Or.inl ⟨by kernel_rfl, ?_⟩) (by assumption) ?_
  rotate_left
  · (intro w hSw; (try dsimp only at hSw); go_simp); with_reducible rfl
  try simp only [Act.put, List.setIfInBounds_toArray, List.set_cons_zero, List.set_cons_succ, List.getElem_toArray, List.getElem_cons_zero, List.getElem_cons_succ]
  refine wpAnyH_take (i := 25) (v := ?_) rfl (by kernel_rfl) (by kernel_rfl) (by kernel_rfl) (fun _ _ _ h => h) (Or.inl ⟨by kernel_rfl, ?_⟩) (by assumption) ?_
  rotate_left
  · (intro w hSw; (try dsimp only at hSw); go_simp); with_reducible rfl
  try simp only [Act.put, List.setIfInBounds_toArray, List.set_cons_zero, List.set_cons_succ, List.getElem_toArray, List.getElem_cons_zero, List.getElem_cons_succ]
  refine wpAnyH_take (i := 26) (v := ?_) rfl (by kernel_rfl) (by kernel_rfl) (by kernel_rfl) (fun _ _ _ h => h) (Or.inl ⟨by kernel_rfl, ?_⟩) (by assumption) ?_
  rotate_left
  · (intro w hSw; (try dsimp only at hSw); go_simp); with_reducible rfl
  try simp only [Act.put, List.setIfInBounds_toArray, List.set_cons_zero, List.set_cons_succ, List.getElem_toArray, List.getElem_cons_zero, List.getElem_cons_succ]
  refine wpAnyH_take (i := 27) (v := ?_) rfl (by kernel_rfl) (by kernel_rfl) (by kernel_rfl) (fun _ _ _ h => h) (Or.inl ⟨by kernel_rfl, ?_⟩) (by assumption) ?_
  rotate_left
  · (intro w hSw; (try dsimp only at hSw); go_simp); with_reducible rfl
  try simp only [Act.put, List.setIfInBounds_toArray, List.set_cons_zero, List.set_cons_succ, List.getElem_toArray, List.getElem_cons_zero, List.getElem_cons_succ]
  refine wpAnyH_done (by kernel_rfl) ?_ _
  rotate_left
  go_simp
  refine hK.out _ _ ?_ (fun hHeld => ?_)
  · ((apply held_of; repeat (first | exact Below.refl _ _ | exact And.left (by assumption) | with_reducible apply below_drew | with_reducible apply below_alloc | (with_reducible refine below_on (by assumption) ?_))))
  clear hK K
  try simp only [Act.put, List.setIfInBounds_toArray, List.set_cons_zero, List.set_cons_succ, List.getElem_toArray, List.getElem_cons_zero, List.getElem_cons_succ]
  refine wpAnyH_ready (rs := [4]) (by kernel_rfl) (by simp) (AllReadyH.cons rfl (fun K hK => ?_) AllReadyH.nil)
  go_simp
  (go_at_call 26; refine (refPut_any _ 2 _ (by decide) (by omega)).mono ?_; rintro e w2 ⟨rfl, hb2⟩; try (have hcv := str_later2 hb2))
  refine hK.out _ _ ?_ (fun hHeld => ?_)
  · ((apply held_of; repeat (first | exact Below.refl _ _ | exact And.left (by assumption) | with_reducible apply below_drew | with_reducible apply below_alloc | (with_reducible refine below_on (by assumption) ?_))))
  clear hK K
  try simp only [Act.put, List.setIfInBounds_toArray, List.set_cons_zero, List.set_cons_succ, List.getElem_toArray, List.getElem_cons_zero, List.getElem_cons_succ]
  refine wpAnyH_take (i := 5) (v := ?_) rfl (by kernel_rfl) (by kernel_rfl) (by kernel_rfl) (fun _ _ _ h => h) (Or.inl ⟨by kernel_rfl, ?_⟩) (by assumption) ?_
  rotate_left
  · (intro w hSw; (try dsimp only at hSw); go_simp); with_reducible rfl
  try simp only [Act.put, List.setIfInBounds_toArray, List.set_cons_zero, List.set_cons_succ, List.getElem_toArray, List.getElem_cons_zero, List.getElem_cons_succ]
  refine wpAnyH_take (i := 14) (v := ?_) rfl (by kernel_rfl) (by kernel_rfl) (by kernel_rfl) (fun _ _ _ h => h) (Or.inl ⟨by kernel_rfl, ?_⟩) (by assumption) ?_
  rotate_left
  · (intro w hSw; (try dsimp only at hSw); go_simp); with_reducible rfl
  try simp only [Act.put, List.setIfInBounds_toArray, List.set_cons_zero, List.set_cons_succ, List.getElem_toArray, List.getElem_cons_zero, List.getElem_cons_succ]
  refine wpAnyH_take (i := 18) (v := ?_) rfl (by kernel_rfl) (by kernel_rfl) (by kernel_rfl) (fun _ _ _ h => h) (Or.inl ⟨by kernel_rfl, ?_⟩) (by assumption) ?_
  rotate_left
  · (intro w hSw; (try dsimp only at hSw); go_simp); with_reducible rfl
  try simp only [Act.put, List.setIfInBounds_toArray, List.set_cons_zero, List.set_cons_succ, List.getElem_toArray, List.getElem_cons_zero, List.getElem_cons_succ]
  refine wpAnyH_take (i := 22) (v := ?_) rfl (by kernel_rfl) (by kernel_rfl) (by kernel_rfl) (fun _ _ _ h => h) (Or.inl ⟨by kernel_rfl, ?_⟩) (by assumption) ?_
  rotate_left
  · (intro w hSw; (try dsimp only at hSw); go_simp); with_reducible rfl
  try simp only [Act.put, List.setIfInBounds_toArray, List.set_cons_zero, List.set_cons_succ, List.getElem_toArray, List.getElem_cons_zero, List.getElem_cons_succ]
  refine wpAnyH_take (i := 25) (v := ?_) rfl (by kernel_rfl) (by kernel_rfl) (by kernel_rfl) (fun _ _ _ h => h) (Or.inl ⟨by kernel_rfl, ?_⟩) (by assumption) ?_
  rotate_left
  · (intro w hSw; (try dsimp only at hSw); go_simp); with_reducible rfl
  try simp only [Act.put, List.setIfInBounds_toArray, List.set_cons_zero, List.set_cons_succ, List.getElem_toArray, List.getElem_cons_zero, List.getElem_cons_succ]
  refine wpAnyH_take (i := 26) (v := ?_) rfl (by kernel_rfl) (by kernel_rfl) (by kernel_rfl) (fun _ _ _ h => h) (Or.inl ⟨by kernel_rfl, ?_⟩) (by assumption) ?_
  rotate_left
  · (intro w hSw; (try dsimp only at hSw); go_simp); with_reducible rfl
  try simp only [Act.put, List.setIfInBounds_toArray, List.set_cons_zero, List.set_cons_succ, List.getElem_toArray, List.getElem_cons_zero, List.getElem_cons_succ]
  refine wpAnyH_take (i := 27) (v := ?_) rfl (by kernel_rfl) (by kernel_rfl) (by kernel_rfl) (fun _ _ _ h => h) (Or.inl ⟨by kernel_rfl, ?_⟩) (by assumption) ?_
  rotate_left
  · (intro w hSw; (try dsimp only at hSw); go_simp); with_reducible rfl
  try simp only [Act.put, List.setIfInBounds_toArray, List.set_cons_zero, List.set_cons_succ, List.getElem_toArray, List.getElem_cons_zero, List.getElem_cons_succ]
  refine wpAnyH_done (by kernel_rfl) ?_ _
  all_goals
    have hH := And.left hHeld
    go_wp2
    go_ret2
    exact ⟨ret_t2 (congrArg Value.string HM.out) rfl, below_on hH hB⟩

end Go.Proofs.Ytpalmjejihakeaa
