/- IpvSpoils. -/
import Derived.Test.YthapajhaehdleaaFourLaws
import Derived.Test.YthapajhaehdleaaFourPlain
namespace Go.Proofs.Ythapajhaehdleaa
open Go.RowKit

theorem str_kind (x : Int) (c g : Nat) (w : World) (hg : g = w.heap.size) :
    (convert 42 9 (.slice (some ⟨g, 0, none⟩) 1 c)).run Try.prog (w.alloc (.cells #[.int .u8 x] 5)).drew = .ok (.string (strOfNums [x])) (w.alloc (.cells #[.int .u8 x] 5)).drew :=
  str_new [x] 1 c _ w.drew rfl hg

set_option maxRecDepth 100000 in
set_option maxHeartbeats 1000000 in
theorem ipvSpoils_big (A B : ByteArray) (p t i o : Int) (f : Bool) (D : ByteArray) (k y : Int) (w : World) (wA : A.size ≤ 9223372036854775807) (wB : B.size ≤ 9223372036854775807) (wD : D.size ≤ 9223372036854775807) (hc : 500 < D.size ∨ 100 < A.size ∨ 100 < B.size ∨ y = 0) :
    Calls Try.prog 6 #[.agg #[.string A, .string B, .int .i64 p, .int .i64 t, .int .i64 i, .int .i64 o, .bool f, .string D], .int .u8 k, .int .u8 y] w fun e w' => e = .returned (.bool true) ∧ Below w.heap.size w w' := by
  have hB := below_alloc (Below.refl w.heap.size w) (.cells #[.string A, .string B, .int .i64 p, .int .i64 t, .int .i64 i, .int .i64 o, .bool f, .string D] 26)
  by_cases h1 : 500 < D.size
  all_goals
    by_cases h2 : 100 < A.size
  all_goals
    by_cases h3 : 100 < B.size
  all_goals
    by_cases h4 : y = 0
  all_goals first
    | (exfalso; omega)
    | (go_enter Try.func6, Try.ntmps6
       go_wp2_with (go_at_call 8; refine (ipvKnown_any _).mono ?_; rintro e w9 ⟨rfl, hb9⟩; replace hB := below_on hb9 (by first | exact hB | exact below_alloc hB _))
       go_ret
       exact ⟨rfl, hB⟩)

set_option maxRecDepth 100000 in
set_option maxHeartbeats 1000000 in
theorem ipvSpoils_no (A B : ByteArray) (p t i o : Int) (f : Bool) (D : ByteArray) (k y : Int) (w : World) (h1 : ¬ 500 < D.size) (h2 : ¬ 100 < A.size) (h3 : ¬ 100 < B.size) (h4 : ¬ y = 0) (hfit : fits4 A B p t i o f D = false) :
    Calls Try.prog 6 #[.agg #[.string A, .string B, .int .i64 p, .int .i64 t, .int .i64 i, .int .i64 o, .bool f, .string D], .int .u8 k, .int .u8 y] w fun e w' => e = .returned (.bool true) ∧ Below w.heap.size w w' := by
  have HF := Lib.hid hfit
  have h5 : (y == 0) = false := beq_eq_false_iff_ne.2 h4
  have hB := below_alloc (Below.refl w.heap.size w) (.cells #[.string A, .string B, .int .i64 p, .int .i64 t, .int .i64 i, .int .i64 o, .bool f, .string D] 26)
  go_enter Try.func6, Try.ntmps6
  go_wp2_with (first
    | (go_at_call 12; refine (make4_no _ _ _ _ _ _ _ _ _ HF.out).mono ?_; rintro e w1 ⟨rfl, hb1⟩; replace hB := below_on hb1 hB)
    | (go_at_call 8; refine (ipvKnown_any _).mono ?_; rintro e w9 ⟨rfl, hb9⟩; replace hB := below_on hb9 (by first | exact hB | exact below_alloc hB _)))
  go_ret
  exact ⟨rfl, hB⟩

set_option maxRecDepth 100000 in
set_option maxHeartbeats 4000000 in
theorem ipvSpoils_head (A B : ByteArray) (p t i o : Nat) (D : ByteArray) (k y : Nat) (w : World) (h1 : ¬ 500 < D.size) (h2 : ¬ 100 < A.size) (h3 : ¬ 100 < B.size) (h4 : ¬ y = 0) (hk : k < 256) (hy : y < 256) (hfit : fits4 A B p t i o false D = true) (m : Nat) (hm : k % (19 + D.size) = m) (h20 : 1 + m < 20) :
    Calls Try.prog 6 #[.agg #[.string A, .string B, .int .i64 p, .int .i64 t, .int .i64 i, .int .i64 o, .bool false, .string D], .int .u8 k, .int .u8 y] w fun e w' => e = .returned (.bool true) ∧ Below w.heap.size w w' := by
  obtain ⟨e1, e2, e3, e4, e5, e6, e7, e8, e9, e10, e11, e12⟩ := fits4_out hfit
  have hsz := mk4_size A B p t i o D e1 e2
  have hm2 : m < 19 + D.size := by rw [← hm]; exact Nat.mod_lt _ (by omega)
  have hlt : 1 + m < (mk4 A B p t i o D).size := by omega
  obtain ⟨v, hv1, hv2, hv3⟩ := xor_other (mk4 A B p t i o D)[1 + m].toNat y (UInt8.toNat_lt _) hy h4
  obtain ⟨q, hq, HS⟩ : ∃ q : Int, q ≠ 0 ∧ rd4 ((mk4 A B p t i o D).extract 0 (1 + m) ++ ⟨#[UInt8.ofNat v]⟩ ++ (mk4 A B p t i o D).extract (1 + m + 1) (mk4 A B p t i o D).size) = (((⟨#[]⟩, ⟨#[]⟩, 0, 0, 0, 0, false, ⟨#[]⟩), q) : (ByteArray × ByteArray × Int × Int × Int × Int × Bool × ByteArray) × Int) :=
    spoil_mk4 A B p t i o D e1 e2 (by omega) (by omega) (by omega) (by omega) (by omega) (1 + m) v (by omega) h20 hlt hv1 hv2
  rw [← one_num] at HS
  have HM := Lib.hid (fun w => make4_yes A B p t i o D w hfit)
  have HR := Lib.hid HS
  clear HS hv2 hm2
  generalize mk4 A B p t i o D = L at *
  have t0 : (k : Int).tmod ((L.size : Int) - 1) = m := by
    rw [Int.tmod_eq_emod_of_nonneg (by omega), ← hm, show (L.size : Int) - 1 = ((19 + D.size : Nat) : Int) from by omega]; rfl
  have t1 : IntKind.i64.wrap (k : Int) = k := IntWalk.i64_in _ (by omega)
  have t2 : IntKind.i64.wrap ((L.size : Int) - 1) = (L.size : Int) - 1 := IntWalk.i64_in _ (by omega)
  have t3 : IntKind.i64.wrap (1 + (m : Int)) = 1 + m := IntWalk.i64_in _ (by omega)
  have t4 : IntKind.i64.wrap (1 + (m : Int) + 1) = 1 + m + 1 := IntWalk.i64_in _ (by omega)
  have t5 : (1 + (m : Int)).toNat = 1 + m := by omega
  have t6 : (1 + (m : Int) + 1).toNat = 1 + m + 1 := by omega
  have t7 : (1 : Int) + m < L.size := by omega
  have t8 : (1 : Int) + m + 1 ≤ L.size := by omega
  have t9 : (1 : Int) + m ≤ L.size := by omega
  have t10 : (0 : Int) ≤ 1 + m := by omega
  have t11 : (0 : Int) ≤ 1 + m + 1 := by omega
  have t12 : (((L.size : Int) - 1) == 0) = false := by rw [beq_eq_false_iff_ne]; omega
  have h5 : ((y : Int) == 0) = false := by rw [beq_eq_false_iff_ne]; omega
  have HQ := Lib.hid hq
  clear hq
  have t13 : ¬ (L.size : Int) < 20 := by omega
  have z1 : (strOfNums [(v : Int)]).size = 1 := by rw [strOfNums_size]; rfl
  have z2 : (L.extract 0 (1 + m)).size = 1 + m := by rw [ByteArray.size_extract]; omega
  have z3 : (L.extract (1 + m + 1) L.size).size = L.size - (1 + m + 1) := by rw [ByteArray.size_extract, Nat.min_self]
  have c1 : ¬ 9223372036854775807 < 1 + m + 1 := by omega
  have c2 : ¬ 9223372036854775807 < 1 + m + 1 + (L.size - (1 + m + 1)) := by omega
  have hszH := Lib.hid hsz
  clear hsz
  have hB := below_alloc (Below.refl w.heap.size w) (.cells #[.string A, .string B, .int .i64 p, .int .i64 t, .int .i64 i, .int .i64 o, .bool false, .string D] 26)
  have hK := Lib.hid (blk_new w (.cells #[.string A, .string B, .int .i64 p, .int .i64 t, .int .i64 i, .int .i64 o, .bool false, .string D] 26))
  go_enter Try.func6, Try.ntmps6
  go_wp2_with (go_at_call 12; with_reducible refine (HM.out _).mono ?_; rintro e w1 ⟨rfl, hb1⟩; replace hB := below_on hb1 hB; replace hK := Lib.hid (blk_below hb1 hK.out); have hs1 := str_kind (v : Int) 1 w1.heap.size w1 rfl)
  refine wp_region_held_drew (S := (fun w' => Below w1.heap.size w1 w' ∧ ∀ b o, b < w1.heap.size → w'.cell? ⟨b, o, none⟩ = w1.cell? ⟨b, o, none⟩)) (by kernel_rfl) ?_ (fun hHeld => ?_)
  · ((apply held_of; repeat (first | exact Below.refl _ _ | exact And.left (by assumption) | with_reducible apply below_drew | with_reducible apply below_alloc | (with_reducible refine below_on (by assumption) ?_))))
  refine wpAnyH_take (i := 0) (v := ?_) rfl (by kernel_rfl) (by kernel_rfl) (by kernel_rfl) (fun _ _ _ h => h) (Or.inl ⟨by kernel_rfl, ?_⟩) (by assumption) ?_
  rotate_left
  · (intro w hSw; (try dsimp only at hSw); go_simp); with_reducible rfl
  try simp only [Act.put, List.setIfInBounds_toArray, List.set_cons_zero, List.set_cons_succ, List.getElem_toArray, List.getElem_cons_zero, List.getElem_cons_succ]
  refine wpAnyH_take (i := 1) (v := ?_) rfl (by kernel_rfl) (by kernel_rfl) (by kernel_rfl) (fun _ _ _ h => h) (Or.inl ⟨by kernel_rfl, ?_⟩) (by assumption) ?_
  rotate_left
  · (intro w hSw; (try dsimp only at hSw); go_simp); with_reducible rfl
  try simp only [Act.put, List.setIfInBounds_toArray, List.set_cons_zero, List.set_cons_succ, List.getElem_toArray, List.getElem_cons_zero, List.getElem_cons_succ]
  refine wpAnyH_take (i := 2) (v := ?_) rfl (by kernel_rfl) (by kernel_rfl) (by kernel_rfl) (fun _ _ _ h => h) (Or.inl ⟨by kernel_rfl, ?_⟩) (by assumption) ?_
  rotate_left
  · (intro w hSw; (try dsimp only at hSw); go_simp); with_reducible rfl
  try simp only [Act.put, List.setIfInBounds_toArray, List.set_cons_zero, List.set_cons_succ, List.getElem_toArray, List.getElem_cons_zero, List.getElem_cons_succ]
  refine wpAnyH_take (i := 3) (v := ?_) rfl (by kernel_rfl) (by kernel_rfl) (by kernel_rfl) (fun _ _ _ h => h) (Or.inl ⟨by kernel_rfl, ?_⟩) (by assumption) ?_
  rotate_left
  · (intro w hSw; (try dsimp only at hSw); go_simp); with_reducible rfl
  try simp only [Act.put, List.setIfInBounds_toArray, List.set_cons_zero, List.set_cons_succ, List.getElem_toArray, List.getElem_cons_zero, List.getElem_cons_succ]
  refine wpAnyH_take (i := 4) (v := ?_) rfl (by kernel_rfl) (by kernel_rfl) (by kernel_rfl) (fun _ _ _ h => h) (Or.inl ⟨by kernel_rfl, ?_⟩) (by assumption) ?_
  rotate_left
  · (intro w hSw; (try dsimp only at hSw); go_simp); with_reducible rfl
  try simp only [Act.put, List.setIfInBounds_toArray, List.set_cons_zero, List.set_cons_succ, List.getElem_toArray, List.getElem_cons_zero, List.getElem_cons_succ]
  refine wpAnyH_take (i := 5) (v := ?_) rfl (by kernel_rfl) (by kernel_rfl) (by kernel_rfl) (fun _ _ _ h => h) (Or.inl ⟨by kernel_rfl, ?_⟩) (by assumption) ?_
  rotate_left
  · (intro w hSw; (try dsimp only at hSw); go_simp); with_reducible rfl
  try simp only [Act.put, List.setIfInBounds_toArray, List.set_cons_zero, List.set_cons_succ, List.getElem_toArray, List.getElem_cons_zero, List.getElem_cons_succ]
  refine wpAnyH_take (i := 6) (v := ?_) rfl (by kernel_rfl) (by kernel_rfl) (by kernel_rfl) (fun _ _ _ h => h) (Or.inl ⟨by kernel_rfl, ?_⟩) (by assumption) ?_
  rotate_left
  · (intro w hSw; (try dsimp only at hSw); go_simp); with_reducible rfl
  try simp only [Act.put, List.setIfInBounds_toArray, List.set_cons_zero, List.set_cons_succ, List.getElem_toArray, List.getElem_cons_zero, List.getElem_cons_succ]
  refine wpAnyH_take (i := 7) (v := ?_) rfl (by kernel_rfl) (by kernel_rfl) (by kernel_rfl) (fun _ _ _ h => h) (Or.inl ⟨by kernel_rfl, ?_⟩) (by assumption) ?_
  rotate_left
  · (intro w hSw; (try dsimp only at hSw); go_simp); with_reducible rfl
  try simp only [Act.put, List.setIfInBounds_toArray, List.set_cons_zero, List.set_cons_succ, List.getElem_toArray, List.getElem_cons_zero, List.getElem_cons_succ]
  refine wpAnyH_take (i := 11) (v := ?_) rfl (by kernel_rfl) (by kernel_rfl) (by kernel_rfl) (fun _ _ _ h => h) (Or.inl ⟨by kernel_rfl, ?_⟩) (by assumption) ?_
  rotate_left
  · (intro w hSw; (try dsimp only at hSw); go_simp); with_reducible rfl
  try simp only [Act.put, List.setIfInBounds_toArray, List.set_cons_zero, List.set_cons_succ, List.getElem_toArray, List.getElem_cons_zero, List.getElem_cons_succ]
  refine wpAnyH_take (i := 12) (v := ?_) rfl (by kernel_rfl) (by kernel_rfl) (by kernel_rfl) (fun _ _ _ h => h) (Or.inl ⟨by kernel_rfl, ?_⟩) (by assumption) ?_
  rotate_left
  · (intro w hSw; (try dsimp only at hSw); go_simp); with_reducible rfl
  try simp only [Act.put, List.setIfInBounds_toArray, List.set_cons_zero, List.set_cons_succ, List.getElem_toArray, List.getElem_cons_zero, List.getElem_cons_succ]
  refine wpAnyH_take (i := 13) (v := ?_) rfl (by kernel_rfl) (by kernel_rfl) (by kernel_rfl) (fun _ _ _ h => h) (Or.inl ⟨by kernel_rfl, ?_⟩) (by assumption) ?_
  rotate_left
  · (intro w hSw; (try dsimp only at hSw); go_simp); with_reducible rfl
  try simp only [Act.put, List.setIfInBounds_toArray, List.set_cons_zero, List.set_cons_succ, List.getElem_toArray, List.getElem_cons_zero, List.getElem_cons_succ]
  refine wpAnyH_take (i := 14) (v := ?_) rfl (by kernel_rfl) (by kernel_rfl) (by kernel_rfl) (fun _ _ _ h => h) (Or.inl ⟨by kernel_rfl, ?_⟩) (by assumption) ?_
  rotate_left
  · (intro w hSw; (try dsimp only at hSw); go_simp); with_reducible rfl
  try simp only [Act.put, List.setIfInBounds_toArray, List.set_cons_zero, List.set_cons_succ, List.getElem_toArray, List.getElem_cons_zero, List.getElem_cons_succ]
  refine wpAnyH_ready (rs := [8]) (by kernel_rfl) (by simp) (AllReadyH.cons rfl (fun K hK => ?_) AllReadyH.nil)
  go_simp
  refine hK.out _ _ ?_ (fun hHeld => ?_)
  · ((apply held_of; repeat (first | exact Below.refl _ _ | exact And.left (by assumption) | with_reducible apply below_drew | with_reducible apply below_alloc | (with_reducible refine below_on (by assumption) ?_))))
  clear hK K
  try simp only [Act.put, List.setIfInBounds_toArray, List.set_cons_zero, List.set_cons_succ, List.getElem_toArray, List.getElem_cons_zero, List.getElem_cons_succ]
  refine wpAnyH_ready (rs := [9]) (by kernel_rfl) (by simp) (AllReadyH.cons rfl (fun K hK => ?_) AllReadyH.nil)
  go_simp
  refine hK.out _ _ ?_ (fun hHeld => ?_)
  · ((apply held_of; repeat (first | exact Below.refl _ _ | exact And.left (by assumption) | with_reducible apply below_drew | with_reducible apply below_alloc | (with_reducible refine below_on (by assumption) ?_))))
  clear hK K
  try simp only [Act.put, List.setIfInBounds_toArray, List.set_cons_zero, List.set_cons_succ, List.getElem_toArray, List.getElem_cons_zero, List.getElem_cons_succ]
  refine wpAnyH_take (i := 10) (v := ?_) rfl (by kernel_rfl) (by kernel_rfl) (by kernel_rfl) (fun _ _ _ h => h) (Or.inl ⟨by kernel_rfl, ?_⟩) (by assumption) ?_
  rotate_left
  · (intro w hSw; (try dsimp only at hSw); go_simp); with_reducible rfl
  try simp only [Act.put, List.setIfInBounds_toArray, List.set_cons_zero, List.set_cons_succ, List.getElem_toArray, List.getElem_cons_zero, List.getElem_cons_succ]
  refine wpAnyH_take (i := 15) (v := ?_) rfl (by kernel_rfl) (by kernel_rfl) (by kernel_rfl) (fun _ _ _ h => h) (Or.inl ⟨by kernel_rfl, ?_⟩) (by assumption) ?_
  rotate_left
  · (intro w hSw; (try dsimp only at hSw); go_simp); with_reducible rfl
  try simp only [Act.put, List.setIfInBounds_toArray, List.set_cons_zero, List.set_cons_succ, List.getElem_toArray, List.getElem_cons_zero, List.getElem_cons_succ]
  refine wpAnyH_take (i := 16) (v := ?_) rfl (by kernel_rfl) (by kernel_rfl) (by kernel_rfl) (fun _ _ _ h => h) (Or.inl ⟨by kernel_rfl, ?_⟩) (by assumption) ?_
  rotate_left
  · (intro w hSw; (try dsimp only at hSw); go_simp); with_reducible rfl
  try simp only [Act.put, List.setIfInBounds_toArray, List.set_cons_zero, List.set_cons_succ, List.getElem_toArray, List.getElem_cons_zero, List.getElem_cons_succ]
  refine wpAnyH_done (by kernel_rfl) ?_ _
  clear hs1 hHeld
  go_wp2_with fail
  with_reducible refine (read4_any _ _ (by rw [ByteArray.size_append, ByteArray.size_append, z1, z2, z3]; have := hszH.out; omega) _ _ _ _ _ _ _ _ _ HR.out).mono ?_
  rintro e w6 ⟨rfl, hb6⟩
  replace hB := below_on hb6 (below_drew (below_alloc hB _))
  replace hK := Lib.hid (blk_below hb6 (blk_drew (blk_alloc hK.out _)))
  clear hb6
  have h21 : (1 : Int) + m < 20 := by omega
  have hq2 : (q != 0) = true := bne_iff_ne.2 HQ.out
  obtain ⟨lk, k0, k1, k2, k3, k4, k5, k6, k7⟩ := blk8 hK.out
  go_wp2_with (go_at_call 8; refine (ipvKnown_any _).mono ?_; rintro e w9 ⟨rfl, hb9⟩; replace hB := below_on hb9 (by first | exact hB | exact below_alloc hB _))
  go_ret
  exact ⟨rfl, hB⟩

set_option maxRecDepth 100000 in
set_option maxHeartbeats 4000000 in
theorem ipvSpoils_data (A B : ByteArray) (p t i o : Nat) (D : ByteArray) (k y : Nat) (w : World) (h1 : ¬ 500 < D.size) (h2 : ¬ 100 < A.size) (h3 : ¬ 100 < B.size) (h4 : ¬ y = 0) (hk : k < 256) (hy : y < 256) (hfit : fits4 A B p t i o false D = true) (m : Nat) (hm : k % (19 + D.size) = m) (h20 : ¬ 1 + m < 20) :
    Calls Try.prog 6 #[.agg #[.string A, .string B, .int .i64 p, .int .i64 t, .int .i64 i, .int .i64 o, .bool false, .string D], .int .u8 k, .int .u8 y] w fun e w' => e = .returned (.bool true) ∧ Below w.heap.size w w' := by
  obtain ⟨e1, e2, e3, e4, e5, e6, e7, e8, e9, e10, e11, e12⟩ := fits4_out hfit
  have hsz := mk4_size A B p t i o D e1 e2
  have hm2 : m < 19 + D.size := by rw [← hm]; exact Nat.mod_lt _ (by omega)
  have hlt : 1 + m < (mk4 A B p t i o D).size := by omega
  obtain ⟨v, hv1, hv2, hv3⟩ := xor_other (mk4 A B p t i o D)[1 + m].toNat y (UInt8.toNat_lt _) hy h4
  obtain ⟨D', HS⟩ := spoil_dat A B p t i o D e1 e2 (by omega) (by omega) (by omega) (by omega) (by omega) (1 + m) v (by omega) hlt
  rw [← one_num] at HS
  have HM := Lib.hid (fun w => make4_yes A B p t i o D w hfit)
  have HR := Lib.hid HS
  clear HS hv2 hm2
  generalize mk4 A B p t i o D = L at *
  have t0 : (k : Int).tmod ((L.size : Int) - 1) = m := by
    rw [Int.tmod_eq_emod_of_nonneg (by omega), ← hm, show (L.size : Int) - 1 = ((19 + D.size : Nat) : Int) from by omega]; rfl
  have t1 : IntKind.i64.wrap (k : Int) = k := IntWalk.i64_in _ (by omega)
  have t2 : IntKind.i64.wrap ((L.size : Int) - 1) = (L.size : Int) - 1 := IntWalk.i64_in _ (by omega)
  have t3 : IntKind.i64.wrap (1 + (m : Int)) = 1 + m := IntWalk.i64_in _ (by omega)
  have t4 : IntKind.i64.wrap (1 + (m : Int) + 1) = 1 + m + 1 := IntWalk.i64_in _ (by omega)
  have t5 : (1 + (m : Int)).toNat = 1 + m := by omega
  have t6 : (1 + (m : Int) + 1).toNat = 1 + m + 1 := by omega
  have t7 : (1 : Int) + m < L.size := by omega
  have t8 : (1 : Int) + m + 1 ≤ L.size := by omega
  have t9 : (1 : Int) + m ≤ L.size := by omega
  have t10 : (0 : Int) ≤ 1 + m := by omega
  have t11 : (0 : Int) ≤ 1 + m + 1 := by omega
  have t12 : (((L.size : Int) - 1) == 0) = false := by rw [beq_eq_false_iff_ne]; omega
  have h5 : ((y : Int) == 0) = false := by rw [beq_eq_false_iff_ne]; omega
  have h21 : ¬ (1 : Int) + m < 20 := by omega
  have t13 : ¬ (L.size : Int) < 20 := by omega
  have z1 : (strOfNums [(v : Int)]).size = 1 := by rw [strOfNums_size]; rfl
  have z2 : (L.extract 0 (1 + m)).size = 1 + m := by rw [ByteArray.size_extract]; omega
  have z3 : (L.extract (1 + m + 1) L.size).size = L.size - (1 + m + 1) := by rw [ByteArray.size_extract, Nat.min_self]
  have c1 : ¬ 9223372036854775807 < 1 + m + 1 := by omega
  have c2 : ¬ 9223372036854775807 < 1 + m + 1 + (L.size - (1 + m + 1)) := by omega
  have hszH := Lib.hid hsz
  clear hsz
  have hB := below_alloc (Below.refl w.heap.size w) (.cells #[.string A, .string B, .int .i64 p, .int .i64 t, .int .i64 i, .int .i64 o, .bool false, .string D] 26)
  have hK := Lib.hid (blk_new w (.cells #[.string A, .string B, .int .i64 p, .int .i64 t, .int .i64 i, .int .i64 o, .bool false, .string D] 26))
  go_enter Try.func6, Try.ntmps6
  go_wp2_with (go_at_call 12; with_reducible refine (HM.out _).mono ?_; rintro e w1 ⟨rfl, hb1⟩; replace hB := below_on hb1 hB; replace hK := Lib.hid (blk_below hb1 hK.out); have hs1 := str_kind (v : Int) 1 w1.heap.size w1 rfl)
  refine wp_region_held_drew (S := (fun w' => Below w1.heap.size w1 w' ∧ ∀ b o, b < w1.heap.size → w'.cell? ⟨b, o, none⟩ = w1.cell? ⟨b, o, none⟩)) (by kernel_rfl) ?_ (fun hHeld => ?_)
  · ((apply held_of; repeat (first | exact Below.refl _ _ | exact And.left (by assumption) | with_reducible apply below_drew | with_reducible apply below_alloc | (with_reducible refine below_on (by assumption) ?_))))
  refine wpAnyH_take (i := 0) (v := ?_) rfl (by kernel_rfl) (by kernel_rfl) (by kernel_rfl) (fun _ _ _ h => h) (Or.inl ⟨by kernel_rfl, ?_⟩) (by assumption) ?_
  rotate_left
  · (intro w hSw; (try dsimp only at hSw); go_simp); with_reducible rfl
  try simp only [Act.put, List.setIfInBounds_toArray, List.set_cons_zero, List.set_cons_succ, List.getElem_toArray, List.getElem_cons_zero, List.getElem_cons_succ]
  refine wpAnyH_take (i := 1) (v := ?_) rfl (by kernel_rfl) (by kernel_rfl) (by kernel_rfl) (fun _ _ _ h => h) (Or.inl ⟨by kernel_rfl, ?_⟩) (by assumption) ?_
  rotate_left
  · (intro w hSw; (try dsimp only at hSw); go_simp); with_reducible rfl
  try simp only [Act.put, List.setIfInBounds_toArray, List.set_cons_zero, List.set_cons_succ, List.getElem_toArray, List.getElem_cons_zero, List.getElem_cons_succ]
  refine wpAnyH_take (i := 2) (v := ?_) rfl (by kernel_rfl) (by kernel_rfl) (by kernel_rfl) (fun _ _ _ h => h) (Or.inl ⟨by kernel_rfl, ?_⟩) (by assumption) ?_
  rotate_left
  · (intro w hSw; (try dsimp only at hSw); go_simp); with_reducible rfl
  try simp only [Act.put, List.setIfInBounds_toArray, List.set_cons_zero, List.set_cons_succ, List.getElem_toArray, List.getElem_cons_zero, List.getElem_cons_succ]
  refine wpAnyH_take (i := 3) (v := ?_) rfl (by kernel_rfl) (by kernel_rfl) (by kernel_rfl) (fun _ _ _ h => h) (Or.inl ⟨by kernel_rfl, ?_⟩) (by assumption) ?_
  rotate_left
  · (intro w hSw; (try dsimp only at hSw); go_simp); with_reducible rfl
  try simp only [Act.put, List.setIfInBounds_toArray, List.set_cons_zero, List.set_cons_succ, List.getElem_toArray, List.getElem_cons_zero, List.getElem_cons_succ]
  refine wpAnyH_take (i := 4) (v := ?_) rfl (by kernel_rfl) (by kernel_rfl) (by kernel_rfl) (fun _ _ _ h => h) (Or.inl ⟨by kernel_rfl, ?_⟩) (by assumption) ?_
  rotate_left
  · (intro w hSw; (try dsimp only at hSw); go_simp); with_reducible rfl
  try simp only [Act.put, List.setIfInBounds_toArray, List.set_cons_zero, List.set_cons_succ, List.getElem_toArray, List.getElem_cons_zero, List.getElem_cons_succ]
  refine wpAnyH_take (i := 5) (v := ?_) rfl (by kernel_rfl) (by kernel_rfl) (by kernel_rfl) (fun _ _ _ h => h) (Or.inl ⟨by kernel_rfl, ?_⟩) (by assumption) ?_
  rotate_left
  · (intro w hSw; (try dsimp only at hSw); go_simp); with_reducible rfl
  try simp only [Act.put, List.setIfInBounds_toArray, List.set_cons_zero, List.set_cons_succ, List.getElem_toArray, List.getElem_cons_zero, List.getElem_cons_succ]
  refine wpAnyH_take (i := 6) (v := ?_) rfl (by kernel_rfl) (by kernel_rfl) (by kernel_rfl) (fun _ _ _ h => h) (Or.inl ⟨by kernel_rfl, ?_⟩) (by assumption) ?_
  rotate_left
  · (intro w hSw; (try dsimp only at hSw); go_simp); with_reducible rfl
  try simp only [Act.put, List.setIfInBounds_toArray, List.set_cons_zero, List.set_cons_succ, List.getElem_toArray, List.getElem_cons_zero, List.getElem_cons_succ]
  refine wpAnyH_take (i := 7) (v := ?_) rfl (by kernel_rfl) (by kernel_rfl) (by kernel_rfl) (fun _ _ _ h => h) (Or.inl ⟨by kernel_rfl, ?_⟩) (by assumption) ?_
  rotate_left
  · (intro w hSw; (try dsimp only at hSw); go_simp); with_reducible rfl
  try simp only [Act.put, List.setIfInBounds_toArray, List.set_cons_zero, List.set_cons_succ, List.getElem_toArray, List.getElem_cons_zero, List.getElem_cons_succ]
  refine wpAnyH_take (i := 11) (v := ?_) rfl (by kernel_rfl) (by kernel_rfl) (by kernel_rfl) (fun _ _ _ h => h) (Or.inl ⟨by kernel_rfl, ?_⟩) (by assumption) ?_
  rotate_left
  · (intro w hSw; (try dsimp only at hSw); go_simp); with_reducible rfl
  try simp only [Act.put, List.setIfInBounds_toArray, List.set_cons_zero, List.set_cons_succ, List.getElem_toArray, List.getElem_cons_zero, List.getElem_cons_succ]
  refine wpAnyH_take (i := 12) (v := ?_) rfl (by kernel_rfl) (by kernel_rfl) (by kernel_rfl) (fun _ _ _ h => h) (Or.inl ⟨by kernel_rfl, ?_⟩) (by assumption) ?_
  rotate_left
  · (intro w hSw; (try dsimp only at hSw); go_simp); with_reducible rfl
  try simp only [Act.put, List.setIfInBounds_toArray, List.set_cons_zero, List.set_cons_succ, List.getElem_toArray, List.getElem_cons_zero, List.getElem_cons_succ]
  refine wpAnyH_take (i := 13) (v := ?_) rfl (by kernel_rfl) (by kernel_rfl) (by kernel_rfl) (fun _ _ _ h => h) (Or.inl ⟨by kernel_rfl, ?_⟩) (by assumption) ?_
  rotate_left
  · (intro w hSw; (try dsimp only at hSw); go_simp); with_reducible rfl
  try simp only [Act.put, List.setIfInBounds_toArray, List.set_cons_zero, List.set_cons_succ, List.getElem_toArray, List.getElem_cons_zero, List.getElem_cons_succ]
  refine wpAnyH_take (i := 14) (v := ?_) rfl (by kernel_rfl) (by kernel_rfl) (by kernel_rfl) (fun _ _ _ h => h) (Or.inl ⟨by kernel_rfl, ?_⟩) (by assumption) ?_
  rotate_left
  · (intro w hSw; (try dsimp only at hSw); go_simp); with_reducible rfl
  try simp only [Act.put, List.setIfInBounds_toArray, List.set_cons_zero, List.set_cons_succ, List.getElem_toArray, List.getElem_cons_zero, List.getElem_cons_succ]
  refine wpAnyH_ready (rs := [8]) (by kernel_rfl) (by simp) (AllReadyH.cons rfl (fun K hK => ?_) AllReadyH.nil)
  go_simp
  refine hK.out _ _ ?_ (fun hHeld => ?_)
  · ((apply held_of; repeat (first | exact Below.refl _ _ | exact And.left (by assumption) | with_reducible apply below_drew | with_reducible apply below_alloc | (with_reducible refine below_on (by assumption) ?_))))
  clear hK K
  try simp only [Act.put, List.setIfInBounds_toArray, List.set_cons_zero, List.set_cons_succ, List.getElem_toArray, List.getElem_cons_zero, List.getElem_cons_succ]
  refine wpAnyH_ready (rs := [9]) (by kernel_rfl) (by simp) (AllReadyH.cons rfl (fun K hK => ?_) AllReadyH.nil)
  go_simp
  refine hK.out _ _ ?_ (fun hHeld => ?_)
  · ((apply held_of; repeat (first | exact Below.refl _ _ | exact And.left (by assumption) | with_reducible apply below_drew | with_reducible apply below_alloc | (with_reducible refine below_on (by assumption) ?_))))
  clear hK K
  try simp only [Act.put, List.setIfInBounds_toArray, List.set_cons_zero, List.set_cons_succ, List.getElem_toArray, List.getElem_cons_zero, List.getElem_cons_succ]
  refine wpAnyH_take (i := 10) (v := ?_) rfl (by kernel_rfl) (by kernel_rfl) (by kernel_rfl) (fun _ _ _ h => h) (Or.inl ⟨by kernel_rfl, ?_⟩) (by assumption) ?_
  rotate_left
  · (intro w hSw; (try dsimp only at hSw); go_simp); with_reducible rfl
  try simp only [Act.put, List.setIfInBounds_toArray, List.set_cons_zero, List.set_cons_succ, List.getElem_toArray, List.getElem_cons_zero, List.getElem_cons_succ]
  refine wpAnyH_take (i := 15) (v := ?_) rfl (by kernel_rfl) (by kernel_rfl) (by kernel_rfl) (fun _ _ _ h => h) (Or.inl ⟨by kernel_rfl, ?_⟩) (by assumption) ?_
  rotate_left
  · (intro w hSw; (try dsimp only at hSw); go_simp); with_reducible rfl
  try simp only [Act.put, List.setIfInBounds_toArray, List.set_cons_zero, List.set_cons_succ, List.getElem_toArray, List.getElem_cons_zero, List.getElem_cons_succ]
  refine wpAnyH_take (i := 16) (v := ?_) rfl (by kernel_rfl) (by kernel_rfl) (by kernel_rfl) (fun _ _ _ h => h) (Or.inl ⟨by kernel_rfl, ?_⟩) (by assumption) ?_
  rotate_left
  · (intro w hSw; (try dsimp only at hSw); go_simp); with_reducible rfl
  try simp only [Act.put, List.setIfInBounds_toArray, List.set_cons_zero, List.set_cons_succ, List.getElem_toArray, List.getElem_cons_zero, List.getElem_cons_succ]
  refine wpAnyH_done (by kernel_rfl) ?_ _
  clear hs1 hHeld
  go_wp2_with fail
  with_reducible refine (read4_any _ _ (by rw [ByteArray.size_append, ByteArray.size_append, z1, z2, z3]; have := hszH.out; omega) _ _ _ _ _ _ _ _ _ HR.out).mono ?_
  rintro e w6 ⟨rfl, hb6⟩
  replace hB := below_on hb6 (below_drew (below_alloc hB _))
  replace hK := Lib.hid (blk_below hb6 (blk_drew (blk_alloc hK.out _)))
  clear hb6
  obtain ⟨lk, k0, k1, k2, k3, k4, k5, k6, k7⟩ := blk8 hK.out
  go_wp2_with (go_at_call 8; refine (ipvKnown_any _).mono ?_; rintro e w9 ⟨rfl, hb9⟩; replace hB := below_on hb9 (by first | exact hB | exact below_alloc hB _))
  go_ret
  exact ⟨rfl, hB⟩

theorem ipvSpoils_walk (A B : ByteArray) (p t i o : Int) (f : Bool) (D : ByteArray) (k y : Int) (w : World) (wA : A.size ≤ maxLen) (wB : B.size ≤ maxLen) (wp : (Lit.int .i64 p).wf = true) (wt : (Lit.int .i64 t).wf = true) (wi : (Lit.int .i64 i).wf = true) (wo : (Lit.int .i64 o).wf = true) (wD : D.size ≤ maxLen) (wk : (Lit.int .u8 k).wf = true) (wy : (Lit.int .u8 y).wf = true) :
    Calls Try.prog 6 #[.agg #[.string A, .string B, .int .i64 p, .int .i64 t, .int .i64 i, .int .i64 o, .bool f, .string D], .int .u8 k, .int .u8 y] w fun e w' => e = .returned (.bool true) ∧ Below w.heap.size w w' := by
  unfold maxLen at wA wB wD
  by_cases hc : 500 < D.size ∨ 100 < A.size ∨ 100 < B.size ∨ y = 0
  · exact ipvSpoils_big A B p t i o f D k y w wA wB wD hc
  have h1 : ¬ 500 < D.size := by omega
  have h2 : ¬ 100 < A.size := by omega
  have h3 : ¬ 100 < B.size := by omega
  have h4 : ¬ y = 0 := by omega
  cases hfit : fits4 A B p t i o f D
  · exact ipvSpoils_no A B p t i o f D k y w h1 h2 h3 h4 hfit
  · obtain ⟨e1, e2, e3, e4, e5, e6, e7, e8, e9, e10, e11, e12⟩ := fits4_out hfit
    subst e11
    have h5 := wf_u8 wk
    have h6 := wf_u8 wy
    obtain ⟨p, rfl⟩ := Int.eq_ofNat_of_zero_le e3
    obtain ⟨t, rfl⟩ := Int.eq_ofNat_of_zero_le e5
    obtain ⟨o, rfl⟩ := Int.eq_ofNat_of_zero_le e7
    obtain ⟨i, rfl⟩ := Int.eq_ofNat_of_zero_le e9
    obtain ⟨k, rfl⟩ := Int.eq_ofNat_of_zero_le h5.1
    obtain ⟨y, rfl⟩ := Int.eq_ofNat_of_zero_le h6.1
    by_cases h20 : 1 + k % (19 + D.size) < 20
    · exact ipvSpoils_head A B p t i o D k y w h1 h2 h3 (by omega) (by omega) (by omega) hfit _ rfl h20
    · exact ipvSpoils_data A B p t i o D k y w h1 h2 h3 (by omega) (by omega) (by omega) hfit _ rfl h20

end Go.Proofs.Ythapajhaehdleaa
