/- SixBack. -/
import Derived.Test.YtpalmjejihakeaaSixLaws
import Derived.Test.YtpalmjejihakeaaSixPlain
namespace Go.Proofs.Ytpalmjejihakeaa
open Go.RowKit

set_option maxRecDepth 100000 in
set_option maxHeartbeats 1000000 in
theorem sixBack_big (A B : ByteArray) (p h : Int) (f : Bool) (D : ByteArray) (k kd : Int) (w : World) (wA : A.size ≤ 9223372036854775807) (wB : B.size ≤ 9223372036854775807) (wD : D.size ≤ 9223372036854775807) (hc : 1000 < D.size ∨ 100 < A.size ∨ 100 < B.size) :
    Calls Try.prog 6 #[.agg #[.string A, .string B, .int .i64 p, .int .i64 h, .bool f, .string D], .int .u16 k, .int .u8 kd] w fun e w' => e = .returned (.bool true) ∧ Below w.heap.size w w' := by
  have hB := below_alloc (Below.refl w.heap.size w) (.cells #[.string A, .string B, .int .i64 p, .int .i64 h, .bool f, .string D] 26)
  by_cases h1 : 1000 < D.size
  all_goals
    by_cases h2 : 100 < A.size
  all_goals
    by_cases h3 : 100 < B.size
  all_goals first
    | (exfalso; omega)
    | (go_enter Try.func6, Try.ntmps6
       go_wp2_with (go_at_call 8; refine (sixKnown_any _).mono ?_; rintro e w1 ⟨rfl, hb1⟩; replace hB := below_on hb1 hB)
       go_ret
       exact ⟨rfl, hB⟩)

set_option maxRecDepth 100000 in
set_option maxHeartbeats 1000000 in
theorem sixBack_no (A B : ByteArray) (p h : Int) (f : Bool) (D : ByteArray) (k kd : Int) (w : World) (wp : (Lit.int .i64 p).wf = true) (h1 : ¬ 1000 < D.size) (h2 : ¬ 100 < A.size) (h3 : ¬ 100 < B.size) (hfit : fitsB A B p h f D = false) :
    Calls Try.prog 6 #[.agg #[.string A, .string B, .int .i64 p, .int .i64 h, .bool f, .string D], .int .u16 k, .int .u8 kd] w fun e w' => e = .returned (.bool true) ∧ Below w.heap.size w w' := by
  have HF := Lib.hid hfit
  have hB := below_alloc (Below.refl w.heap.size w) (.cells #[.string A, .string B, .int .i64 p, .int .i64 h, .bool f, .string D] 26)
  have hK := Lib.hid (blk_new w (.cells #[.string A, .string B, .int .i64 p, .int .i64 h, .bool f, .string D] 26))
  go_enter Try.func6, Try.ntmps6
  go_wp2_with (first
    | (go_at_call 14; refine (make_no _ _ _ _ _ _ _ wp HF.out).mono ?_; rintro e w1 ⟨rfl, hb1⟩; replace hB := below_on hb1 hB; replace hK := Lib.hid (blk_below hb1 hK.out); have k0 := blk_cell hK.out 0 _ rfl; have k1 := blk_cell hK.out 1 _ rfl; have k2 := blk_cell hK.out 2 _ rfl; have k3 := blk_cell hK.out 3 _ rfl; have k4 := blk_cell hK.out 4 _ rfl; have k5 := blk_cell hK.out 5 _ rfl)
    | (go_at_call 16; refine (fits_any _ _ _ _ _ _ _ wp).mono ?_; rintro e w2 ⟨rfl, hb2⟩; replace hB := below_on hb2 hB)
    | (go_at_call 8; refine (sixKnown_any _).mono ?_; rintro e w2 ⟨rfl, hb2⟩; replace hB := below_on hb2 hB))
  go_ret
  exact ⟨rfl, hB⟩

theorem make_ext (A B : ByteArray) (p h : Nat) (D : ByteArray) (e1 : A.size = 16) (e2 : B.size = 16) (hh : h ≤ 255) (hd : D.size ≤ 900) (w : World) :
    Calls Try.prog 14 #[.agg #[.string A, .string B, .int .i64 59, .int .i64 h, .bool false, .string (strOfNums [(p : Int), 0, 0, 0, 0, 0, 0, 0] ++ D)]] w fun e w' => e = .returned (.tuple #[.string (mkS A B 59 h (strOfNums [(p : Int), 0, 0, 0, 0, 0, 0, 0] ++ D)), .int .i64 0]) ∧ Below w.heap.size w w' :=
  make_yes A B 59 h false _ w (fits_ext e1 e2 hh hd)
theorem blk_drew {w : World} {g : Nat} {O : Obj} (h : w.heap[g]? = some O) : w.drew.heap[g]? = some O := h
theorem str_kind (x : Int) (c g : Nat) (w : World) (hg : g = w.heap.size) :
    (convert 44 9 (.slice (some ⟨g, 0, none⟩) 1 c)).run Try.prog (w.alloc (.cells #[.int .u8 x] 5)).drew = .ok (.string (strOfNums [x])) (w.alloc (.cells #[.int .u8 x] 5)).drew :=
  str_new [x] 1 c _ w.drew rfl hg

set_option maxRecDepth 100000 in
set_option maxHeartbeats 4000000 in
theorem sixBack_yes (A B : ByteArray) (p h : Nat) (D : ByteArray) (k kd : Nat) (w : World) (h1 : ¬ 1000 < D.size) (h2 : ¬ 100 < A.size) (h3 : ¬ 100 < B.size) (hk : k < 65536) (hkd : kd < 256) (hfit : fitsB A B p h false D = true) (i kk : Int) (hik : (kd : Int) % 4 = i ∧ (i = 0 ∧ kk = 0 ∨ i = 1 ∧ kk = 43 ∨ i = 2 ∧ kk = 60 ∨ i = 3 ∧ kk = 44)) :
    Calls Try.prog 6 #[.agg #[.string A, .string B, .int .i64 p, .int .i64 h, .bool false, .string D], .int .u16 k, .int .u8 kd] w fun e w' => e = .returned (.bool true) ∧ Below w.heap.size w w' := by
  obtain ⟨e1, e2, e3, e4, e5, e6, e7, e8, e9⟩ := fits_out hfit
  have hsz := mkS_size A B p h D
  obtain ⟨L, hL⟩ : ∃ L, mkS A B p h D = L := ⟨_, rfl⟩
  have HM := Lib.hid (fun w => make_yes A B p h false D w hfit)
  have HR := Lib.hid (rd_mk A B p h D ⟨#[120, 121, 122]⟩ e1 e2 (by omega) (by omega) (by have : (⟨#[120, 121, 122]⟩ : ByteArray).size = 3 := rfl; omega) 0 p false (sk_no _ _ _ _ _ e5) (Nat.zero_le _))
  rw [hL, e1, e2] at hsz
  replace hsz : L.size = 40 + D.size := by omega
  have hm2 : k % (40 + D.size) < L.size := by rw [hsz]; exact Nat.mod_lt _ (by omega)
  have HC := Lib.hid (rd_cut A B p h D e1 e2 (by omega) (k % (40 + D.size)) (by rw [hL]; exact hm2))
  rw [hL] at HM HR HC
  rw [ByteArray.extract_zero_size] at HR
  have z3 : (⟨#[120, 121, 122]⟩ : ByteArray).size = 3 := rfl
  have c1 : ¬ 9223372036854775807 < L.size + 3 := by omega
  have d1 : (0 : Int) < L.size := by omega
  have d2 : ((L.size : Int) == 0) = false := by rw [beq_eq_false_iff_ne]; omega
  have d3 : ((k % (40 + D.size) : Nat) : Int) ≤ L.size := by omega
  have d4 : (0 : Int) ≤ (k : Int) % (40 + (D.size : Int)) := Int.emod_nonneg _ (by omega)
  have d5 : (k : Int) % (40 + (D.size : Int)) ≤ 40 + (D.size : Int) := Int.le_of_lt (Int.emod_lt_of_pos _ (by omega))
  have wk : IntKind.i64.wrap (k : Int) = k := IntWalk.i64_in _ (by omega)
  clear hL
  have z8 : (strOfNums [(p : Int), 0, 0, 0, 0, 0, 0, 0]).size = 8 := by rw [strOfNums_size]; rfl
  have b8 : IntKind.u8.wrap (p : Int) = p := by rw [IntKind.wrap_u8']; omega
  have b9 : (p : Int) % 256 = p := by omega
  have c2 : ¬ 9223372036854775807 < 8 + D.size := by omega
  have hB := below_alloc (Below.refl w.heap.size w) (.cells #[.string A, .string B, .int .i64 p, .int .i64 h, .bool false, .string D] 26)
  have hK := Lib.hid (blk_new w (.cells #[.string A, .string B, .int .i64 p, .int .i64 h, .bool false, .string D] 26))
  go_enter Try.func6, Try.ntmps6
  go_wp2_with (first
    | (go_at_call 14; with_reducible refine (HM.out _).mono ?_; rintro e w1 ⟨rfl, hb1⟩; replace hB := below_on hb1 hB; replace hK := Lib.hid (blk_below hb1 hK.out)))
  clear hb1
  with_reducible refine (read_any (L ++ ⟨#[120, 121, 122]⟩) _ (by rw [ByteArray.size_append, z3]; omega) _ _ _ _ _ _ _ HR.out).mono ?_
  rintro e w2 ⟨rfl, hb2⟩
  replace hB := below_on hb2 hB
  replace hK := Lib.hid (blk_below hb2 hK.out)
  clear hb2
  go_wp2_with fail
  obtain ⟨g, hg⟩ : ∃ g, g = w2.heap.size := ⟨_, rfl⟩
  have hG := Lib.hid (blk_new w2 (.cells #[.string A, .string B, .int .i64 p, .int .i64 h, .bool false, .string D] 26))
  rw [← hg] at hG
  simp only [← hg]
  clear hg
  with_reducible refine (read_any (L.extract 0 (k % (40 + D.size))) _ (by rw [ByteArray.size_extract]; omega) _ _ _ _ _ _ _ HC.out).mono ?_
  rintro e w3 ⟨rfl, hb3⟩
  replace hB := below_on hb3 (below_alloc hB _)
  replace hK := Lib.hid (blk_below hb3 (blk_alloc hK.out _))
  replace hG := Lib.hid (blk_below hb3 hG.out)
  clear hb3
  obtain ⟨lg, g0, g1, g2, g3, g4, g5⟩ := blk6 hG.out
  obtain ⟨lk, k0, k1, k2, k3, k4, k5⟩ := blk6 hK.out
  have k5c : ∀ a b c, (((w3.alloc a).alloc b).alloc c).cell? ⟨w.heap.size, 5, none⟩ = some (.string D) := fun a b c => blk_cell (blk_alloc (blk_alloc (blk_alloc hK.out a) b) c) 5 _ rfl
  have hs8 := fun a b => str_new8 (p : Int) 8 (w3.heap.size + 1 + 1) ((w3.alloc a).alloc b) (by simp)
  go_wp2_with (go_at_call 8; refine (sixKnown_any _).mono ?_; rintro e w4 ⟨rfl, hb4⟩; replace hB := below_on hb4 (below_alloc hB _))
  · go_ret
    exact ⟨rfl, hB⟩
  have hd9 : D.size ≤ 900 := by omega
  obtain ⟨T, hT⟩ : ∃ T, T = mkS A B 59 h (strOfNums [(p : Int), 0, 0, 0, 0, 0, 0, 0] ++ D) := ⟨_, rfl⟩
  have HM2 := Lib.hid (make_ext A B p h D e1 e2 (by omega) hd9)
  have HX := Lib.hid (rd_extI A B p h D kk e1 e2 (by omega) e5 (by omega) hd9 (by omega) T hT)
  have hTz := size_ext A B p h D e1 e2
  rw [← hT] at HM2 hTz
  rw [hTz] at HX
  clear hT hs8 k5c HM HR HC
  with_reducible refine (HM2.out _).mono ?_
  rintro e w5 ⟨rfl, hb5⟩
  replace hB := below_on hb5 (below_alloc (below_alloc (below_alloc hB _) _) _)
  replace hK := Lib.hid (blk_below hb5 (blk_alloc (blk_alloc (blk_alloc hK.out _) _) _))
  clear hb5 HM2 lg g0 g1 g2 g3 g4 g5 lk k0 k1 k2 k3 k4 k5
  have t1 : ¬ ((T.size : Int) < 40) := by omega
  have t2 : (6 : Int) ≤ 48 + D.size := by omega
  have t3 : (7 : Int) ≤ 48 + D.size := by omega
  have t4 : IntKind.i64.wrap (kd : Int) = kd := IntWalk.i64_in _ (by omega)
  have hs1 := fun a => str_kind kk 1 (w5.heap.size + 1) (w5.alloc a) (by simp)
  have z1 : (strOfNums [kk]).size = 1 := by rw [strOfNums_size]; rfl
  have z6 : (T.extract 0 6).size = 6 := by rw [ByteArray.size_extract]; omega
  have z7 : (T.extract 7 (48 + D.size)).size = 41 + D.size := by rw [ByteArray.size_extract]; omega
  have c5 : ¬ 9223372036854775807 < 6 + 1 := by omega
  have c6 : ¬ 9223372036854775807 < 6 + 1 + (41 + D.size) := by omega
  obtain ⟨m1, hik⟩ := hik
  have m2 : (kd : Int).tmod 4 = i := by rw [Int.tmod_eq_emod_of_nonneg (by omega)]; exact m1
  go_wp2_with fail
  rcases hik with ⟨rfl, rfl⟩ | ⟨rfl, rfl⟩ | ⟨rfl, rfl⟩ | ⟨rfl, rfl⟩
  all_goals
    refine wp_region_held_drew (S := (fun w' => Below w5.heap.size w5 w' ∧ ∀ b o, b < w5.heap.size → w'.cell? ⟨b, o, none⟩ = w5.cell? ⟨b, o, none⟩)) (by kernel_rfl) ?_ (fun hHeld => ?_)
    · ((apply held_of; repeat (first | exact Below.refl _ _ | exact And.left (by assumption) | with_reducible apply below_drew | with_reducible apply below_alloc | (with_reducible refine below_on (by assumption) ?_))))
    refine wpAnyH_take (i := 0) (v := ?_) rfl (by kernel_rfl) (by kernel_rfl) (by kernel_rfl) (fun _ _ _ h => h) (Or.inl ⟨by kernel_rfl, ?_⟩) (by assumption) ?_
    rotate_left
    · (intro w hSw; (try dsimp only at hSw); go_simp); with_reducible rfl
    try simp only [Act.put, List.setIfInBounds_toArray, List.set_cons_zero, List.set_cons_succ, List.getElem_toArray, List.getElem_cons_zero, List.getElem_cons_succ]
    refine wpAnyH_take (i := 1) (v := ?_) rfl (by kernel_rfl) (by kernel_rfl) (by kernel_rfl) (fun _ _ _ h => h) (Or.inl ⟨by kernel_rfl, ?_⟩) (by assumption) ?_
    rotate_left
    · (intro w hSw; (try dsimp only at hSw); go_simp); with_reducible rfl
    try simp only [Act.put, List.setIfInBounds_toArray, List.set_cons_zero, List.set_cons_succ, List.getElem_toArray, List.getElem_cons_zero, List.getElem_cons_succ]
    refine wpAnyH_take (i := 3) (v := ?_) rfl (by kernel_rfl) (by kernel_rfl) (by kernel_rfl) (fun _ _ _ h => h) (Or.inl ⟨by kernel_rfl, ?_⟩) (by assumption) ?_
    rotate_left
    · (intro w hSw; (try dsimp only at hSw); go_simp); with_reducible rfl
    try simp only [Act.put, List.setIfInBounds_toArray, List.set_cons_zero, List.set_cons_succ, List.getElem_toArray, List.getElem_cons_zero, List.getElem_cons_succ]
    refine wpAnyH_take (i := 4) (v := ?_) rfl (by kernel_rfl) (by kernel_rfl) (by kernel_rfl) (fun _ _ _ h => h) (Or.inl ⟨by kernel_rfl, ?_⟩) (by assumption) ?_
    rotate_left
    · (intro w hSw; (try dsimp only at hSw); go_simp); with_reducible rfl
    try simp only [Act.put, List.setIfInBounds_toArray, List.set_cons_zero, List.set_cons_succ, List.getElem_toArray, List.getElem_cons_zero, List.getElem_cons_succ]
    refine wpAnyH_take (i := 5) (v := ?_) rfl (by kernel_rfl) (by kernel_rfl) (by kernel_rfl) (fun _ _ _ h => h) (Or.inl ⟨by kernel_rfl, ?_⟩) (by assumption) ?_
    rotate_left
    · (intro w hSw; (try dsimp only at hSw); go_simp); with_reducible rfl
    try simp only [Act.put, List.setIfInBounds_toArray, List.set_cons_zero, List.set_cons_succ, List.getElem_toArray, List.getElem_cons_zero, List.getElem_cons_succ]
    refine wpAnyH_take (i := 11) (v := ?_) rfl (by kernel_rfl) (by kernel_rfl) (by kernel_rfl) (fun _ _ _ h => h) (Or.inl ⟨by kernel_rfl, ?_⟩) (by assumption) ?_
    rotate_left
    · (intro w hSw; (try dsimp only at hSw); go_simp); with_reducible rfl
    try simp only [Act.put, List.setIfInBounds_toArray, List.set_cons_zero, List.set_cons_succ, List.getElem_toArray, List.getElem_cons_zero, List.getElem_cons_succ]
    refine wpAnyH_take (i := 12) (v := ?_) rfl (by kernel_rfl) (by kernel_rfl) (by kernel_rfl) (fun _ _ _ h => h) (Or.inl ⟨by kernel_rfl, ?_⟩) (by assumption) ?_
    rotate_left
    · (intro w hSw; (try dsimp only at hSw); go_simp); with_reducible rfl
    try simp only [Act.put, List.setIfInBounds_toArray, List.set_cons_zero, List.set_cons_succ, List.getElem_toArray, List.getElem_cons_zero, List.getElem_cons_succ]
    refine wpAnyH_ready (rs := [2]) (by kernel_rfl) (by simp) (AllReadyH.cons rfl (fun K hK => ?_) AllReadyH.nil)
    go_simp
    refine hK.out _ _ ?_ (fun hHeld => ?_)
    · ((apply held_of; repeat (first | exact Below.refl _ _ | exact And.left (by assumption) | with_reducible apply below_drew | with_reducible apply below_alloc | (with_reducible refine below_on (by assumption) ?_))))
    clear hK K
    try simp only [Act.put, List.setIfInBounds_toArray, List.set_cons_zero, List.set_cons_succ, List.getElem_toArray, List.getElem_cons_zero, List.getElem_cons_succ]
    refine wpAnyH_take (i := 6) (v := ?_) rfl (by kernel_rfl) (by kernel_rfl) (by kernel_rfl) (fun _ _ _ h => h) (Or.inl ⟨by kernel_rfl, ?_⟩) (by assumption) ?_
    rotate_left
    · (intro w hSw; (try dsimp only at hSw); go_simp); with_reducible rfl
    try simp only [Act.put, List.setIfInBounds_toArray, List.set_cons_zero, List.set_cons_succ, List.getElem_toArray, List.getElem_cons_zero, List.getElem_cons_succ]
    refine wpAnyH_ready (rs := [7]) (by kernel_rfl) (by simp) (AllReadyH.cons rfl (fun K hK => ?_) AllReadyH.nil)
    go_simp
    refine hK.out _ _ ?_ (fun hHeld => ?_)
    · ((apply held_of; repeat (first | exact Below.refl _ _ | exact And.left (by assumption) | with_reducible apply below_drew | with_reducible apply below_alloc | (with_reducible refine below_on (by assumption) ?_))))
    clear hK K
    try simp only [Act.put, List.setIfInBounds_toArray, List.set_cons_zero, List.set_cons_succ, List.getElem_toArray, List.getElem_cons_zero, List.getElem_cons_succ]
    refine wpAnyH_ready (rs := [8]) (by kernel_rfl) (by simp) (AllReadyH.cons rfl (fun K hK => ?_) AllReadyH.nil)
    go_simp
    refine hK.out _ _ ?_ (fun hHeld => ?_)
    · ((apply held_of; repeat (first | exact Below.refl _ _ | exact And.left (by assumption) | with_reducible apply below_drew | with_reducible apply below_alloc | (with_reducible refine below_on (by assumption) ?_))))
    clear hK K
    try simp only [Act.put, List.setIfInBounds_toArray, List.set_cons_zero, List.set_cons_succ, List.getElem_toArray, List.getElem_cons_zero, List.getElem_cons_succ]
    refine wpAnyH_ready (rs := [9]) (by kernel_rfl) (by simp) (AllReadyH.cons rfl (fun K hK => ?_) AllReadyH.nil)
    go_simp
    refine hK.out _ _ ?_ (fun hHeld => ?_)
    · ((apply held_of; repeat (first | exact Below.refl _ _ | exact And.left (by assumption) | with_reducible apply below_drew | with_reducible apply below_alloc | (with_reducible refine below_on (by assumption) ?_))))
    clear hK K
    try simp only [Act.put, List.setIfInBounds_toArray, List.set_cons_zero, List.set_cons_succ, List.getElem_toArray, List.getElem_cons_zero, List.getElem_cons_succ]
    refine wpAnyH_take (i := 10) (v := ?_) rfl (by kernel_rfl) (by kernel_rfl) (by kernel_rfl) (fun _ _ _ h => h) (Or.inl ⟨by kernel_rfl, ?_⟩) (by assumption) ?_
    rotate_left
    · (intro w hSw; (try dsimp only at hSw); go_simp); with_reducible rfl
    try simp only [Act.put, List.setIfInBounds_toArray, List.set_cons_zero, List.set_cons_succ, List.getElem_toArray, List.getElem_cons_zero, List.getElem_cons_succ]
    refine wpAnyH_take (i := 13) (v := ?_) rfl (by kernel_rfl) (by kernel_rfl) (by kernel_rfl) (fun _ _ _ h => h) (Or.inl ⟨by kernel_rfl, ?_⟩) (by assumption) ?_
    rotate_left
    · (intro w hSw; (try dsimp only at hSw); go_simp); with_reducible rfl
    try simp only [Act.put, List.setIfInBounds_toArray, List.set_cons_zero, List.set_cons_succ, List.getElem_toArray, List.getElem_cons_zero, List.getElem_cons_succ]
    refine wpAnyH_take (i := 14) (v := ?_) rfl (by kernel_rfl) (by kernel_rfl) (by kernel_rfl) (fun _ _ _ h => h) (Or.inl ⟨by kernel_rfl, ?_⟩) (by assumption) ?_
    rotate_left
    · (intro w hSw; (try dsimp only at hSw); go_simp); with_reducible rfl
    try simp only [Act.put, List.setIfInBounds_toArray, List.set_cons_zero, List.set_cons_succ, List.getElem_toArray, List.getElem_cons_zero, List.getElem_cons_succ]
    refine wpAnyH_done (by kernel_rfl) ?_ _
    clear hs1 hHeld
    go_wp2_with fail
    with_reducible refine (read_any _ _ (by rw [ByteArray.size_append, ByteArray.size_append, z1, z6, z7]; omega) _ _ _ _ _ _ _ HX.out).mono ?_
    rintro e w6 ⟨rfl, hb6⟩
    replace hB := below_on hb6 (below_drew (below_alloc (below_alloc hB _) _))
    replace hK := Lib.hid (blk_below hb6 (blk_drew (blk_alloc (blk_alloc hK.out _) _)))
    clear hb6
    obtain ⟨lk, k0, k1, k2, k3, k4, k5⟩ := blk6 hK.out
    go_wp2_with (go_at_call 8; refine (sixKnown_any _).mono ?_; rintro e w7 ⟨rfl, hb7⟩; replace hB := below_on hb7 (below_alloc hB _))
    go_ret
    exact ⟨rfl, hB⟩

set_option maxHeartbeats 1000000 in
theorem sixBack_walk (A B : ByteArray) (p h : Int) (f : Bool) (D : ByteArray) (k kd : Int) (w : World) (wA : A.size ≤ maxLen) (wB : B.size ≤ maxLen) (wp : (Lit.int .i64 p).wf = true) (wh : (Lit.int .i64 h).wf = true) (wD : D.size ≤ maxLen) (wk : (Lit.int .u16 k).wf = true) (wkd : (Lit.int .u8 kd).wf = true) :
    Calls Try.prog 6 #[.agg #[.string A, .string B, .int .i64 p, .int .i64 h, .bool f, .string D], .int .u16 k, .int .u8 kd] w fun e w' => e = .returned (.bool true) ∧ Below w.heap.size w w' := by
  unfold maxLen at wA wB wD
  by_cases hc : 1000 < D.size ∨ 100 < A.size ∨ 100 < B.size
  · exact sixBack_big A B p h f D k kd w wA wB wD hc
  have h1 : ¬ 1000 < D.size := by omega
  have h2 : ¬ 100 < A.size := by omega
  have h3 : ¬ 100 < B.size := by omega
  cases hfit : fitsB A B p h f D
  · exact sixBack_no A B p h f D k kd w wp h1 h2 h3 hfit
  obtain ⟨e1, e2, e3, e4, e5, e6, e7, e8, e9⟩ := fits_out hfit
  subst e8
  obtain ⟨p, rfl⟩ := Int.eq_ofNat_of_zero_le e3
  obtain ⟨h, rfl⟩ := Int.eq_ofNat_of_zero_le e6
  have h5 := wf_u16 wk
  have h6 := wf_u8 wkd
  obtain ⟨k, rfl⟩ := Int.eq_ofNat_of_zero_le h5.1
  obtain ⟨kd, rfl⟩ := Int.eq_ofNat_of_zero_le h6.1
  have h7 : (kd : Int) % 4 = 0 ∨ (kd : Int) % 4 = 1 ∨ (kd : Int) % 4 = 2 ∨ (kd : Int) % 4 = 3 := by omega
  rcases h7 with h7 | h7 | h7 | h7
  · exact sixBack_yes A B p h D k kd w h1 h2 h3 (by omega) (by omega) hfit 0 0 ⟨h7, by omega⟩
  · exact sixBack_yes A B p h D k kd w h1 h2 h3 (by omega) (by omega) hfit 1 43 ⟨h7, by omega⟩
  · exact sixBack_yes A B p h D k kd w h1 h2 h3 (by omega) (by omega) hfit 2 60 ⟨h7, by omega⟩
  · exact sixBack_yes A B p h D k kd w h1 h2 h3 (by omega) (by omega) hfit 3 44 ⟨h7, by omega⟩

end Go.Proofs.Ytpalmjejihakeaa
