/- The contracts of ipv6's Read and of the reference's. -/
import Derived.Test.YtpalmjejihakeaaSix
import Derived.Deep.RegionHeld3
namespace Go.Proofs.Ytpalmjejihakeaa
open Go.RowKit

/-- What bytes are as a packet, or what is wrong. -/
def rdV (s : ByteArray) : (ByteArray × ByteArray × Int × Int × Bool × ByteArray) × Int :=
  if 4000 < s.size then ((⟨#[]⟩, ⟨#[]⟩, 0, 0, false, ⟨#[]⟩), 2)
  else if s.size < 40 then ((⟨#[]⟩, ⟨#[]⟩, 0, 0, false, ⟨#[]⟩), 3)
  else if bt s 0 / 16 ≠ 6 then ((⟨#[]⟩, ⟨#[]⟩, 0, 0, false, ⟨#[]⟩), 5)
  else if s.size < 40 + beAt s 4 2 then ((⟨#[]⟩, ⟨#[]⟩, 0, 0, false, ⟨#[]⟩), 3)
  else
    let r := sk (s.extract 40 (40 + beAt s 4 2)) 8 0 (bt s 6) false
    if r.2.2.2 ≠ 0 then ((⟨#[]⟩, ⟨#[]⟩, 0, 0, false, ⟨#[]⟩), r.2.2.2)
    else ((s.extract 8 24, s.extract 24 40, r.2.1, bt s 7, r.2.2.1, s.extract (40 + r.1.toNat) (40 + beAt s 4 2)), 0)

theorem sk_at (s : ByteArray) : ∀ (f a : Nat) (p : Int) (fr : Bool), a ≤ s.size → ∃ (n : Nat), (sk s f a p fr).1 = n ∧ n ≤ s.size := by
  intro f
  induction f with
  | zero =>
    intro a p fr ha
    cases h : extB p
    · rw [sk_no _ _ _ _ _ h]; exact ⟨a, rfl, ha⟩
    · rw [sk_big _ _ _ _ h]; exact ⟨0, rfl, by omega⟩
  | succ f ih =>
    intro a p fr ha
    cases h : extB p
    · rw [sk_no _ _ _ _ _ h]; exact ⟨a, rfl, ha⟩
    · cases ho : oneOk (s.extract a s.size) p
      · rw [sk_short _ _ _ _ _ h ho ha]; exact ⟨0, rfl, by omega⟩
      · obtain ⟨e, k1, k2, k3⟩ := sk_step s f a p fr h ho ha
        rw [e]; exact ih _ _ _ k3

theorem cut_size (s : ByteArray) (a m : Nat) (h : a + m ≤ s.size) : (s.extract a (a + m)).size = m := by
  rw [ByteArray.size_extract]; omega
theorem cut_to (s : ByteArray) (a m : Nat) (h : a + m ≤ s.size) : (s.extract a s.size).extract 0 m = s.extract a (a + m) := by
  rw [ByteArray.extract_extract, Nat.add_zero, Nat.min_eq_left (by omega)]
theorem cut_from (s : ByteArray) (a m n : Nat) : (s.extract a (a + m)).extract n m = s.extract (a + n) (a + m) := by
  rw [ByteArray.extract_extract, Nat.min_self]

set_option maxHeartbeats 1000000 in
theorem read_big (s : ByteArray) (w : World) (hs : s.size ≤ 140737488351232) (h1 : 4000 < s.size) :
    Calls Try.prog 9 #[.string s] w fun e w' => e = .returned (.tuple #[.agg #[.string ⟨#[]⟩, .string ⟨#[]⟩, .int .i64 0, .int .i64 0, .bool false, .string ⟨#[]⟩], .int .i64 2]) ∧ Below w.heap.size w w' := by
  have hB := Below.refl w.heap.size w
  go_enter Try.func9, Try.ntmps9
  go_wp2
  refine bodyPost_ret (v := .tuple #[.agg #[.string ⟨#[]⟩, .string ⟨#[]⟩, .int .i64 0, .int .i64 0, .bool false, .string ⟨#[]⟩], .int .i64 2]) (by simp [results, Try.results9, go_sem]) rfl ⟨rfl, hB.alloc (Nat.le_refl _) _⟩

set_option maxHeartbeats 1000000 in
theorem read_short (s : ByteArray) (w : World) (h2 : s.size < 40) :
    Calls Try.prog 9 #[.string s] w fun e w' => e = .returned (.tuple #[.agg #[.string ⟨#[]⟩, .string ⟨#[]⟩, .int .i64 0, .int .i64 0, .bool false, .string ⟨#[]⟩], .int .i64 3]) ∧ Below w.heap.size w w' := by
  have hB := Below.refl w.heap.size w
  go_enter Try.func9, Try.ntmps9
  go_wp2
  refine bodyPost_ret (v := .tuple #[.agg #[.string ⟨#[]⟩, .string ⟨#[]⟩, .int .i64 0, .int .i64 0, .bool false, .string ⟨#[]⟩], .int .i64 3]) (by simp [results, Try.results9, go_sem]) rfl ⟨rfl, hB.alloc (Nat.le_refl _) _⟩

set_option maxHeartbeats 1000000 in
theorem read_kind (s : ByteArray) (w : World) (h1 : ¬ 4000 < s.size) (h2 : ¬ s.size < 40) (h3 : bt s 0 / 16 ≠ 6) :
    Calls Try.prog 9 #[.string s] w fun e w' => e = .returned (.tuple #[.agg #[.string ⟨#[]⟩, .string ⟨#[]⟩, .int .i64 0, .int .i64 0, .bool false, .string ⟨#[]⟩], .int .i64 5]) ∧ Below w.heap.size w w' := by
  have hB := Below.refl w.heap.size w
  have hb0 := bt_eq s 0 (by omega)
  have hl0 := bt_lt s 0
  go_enter Try.func9, Try.ntmps9
  go_wp2
  refine bodyPost_ret (v := .tuple #[.agg #[.string ⟨#[]⟩, .string ⟨#[]⟩, .int .i64 0, .int .i64 0, .bool false, .string ⟨#[]⟩], .int .i64 5]) (by simp [results, Try.results9, go_sem]) rfl ⟨rfl, hB.alloc (Nat.le_refl _) _⟩

set_option maxHeartbeats 1000000 in
theorem read_less (s : ByteArray) (w : World) (h1 : ¬ 4000 < s.size) (h2 : ¬ s.size < 40) (h3 : bt s 0 / 16 = 6) (h4 : s.size < 40 + beAt s 4 2) :
    Calls Try.prog 9 #[.string s] w fun e w' => e = .returned (.tuple #[.agg #[.string ⟨#[]⟩, .string ⟨#[]⟩, .int .i64 0, .int .i64 0, .bool false, .string ⟨#[]⟩], .int .i64 3]) ∧ Below w.heap.size w w' := by
  have hB := Below.refl w.heap.size w
  have hb0 := bt_eq s 0 (by omega)
  have hl0 := bt_lt s 0
  have h3b : (bt s 0 : Int) / 16 = 6 := by omega
  have hpl : beAt s 4 2 < 65536 := pairN_lt s 4
  clear h3
  go_enter Try.func9, Try.ntmps9
  go_wp2_with (go_at_call 19; refine (get_yes s 4 2 _ (by omega) (by omega) (by omega) (by omega)).mono ?_; rintro e w' ⟨rfl, rfl⟩)
  refine bodyPost_ret (v := .tuple #[.agg #[.string ⟨#[]⟩, .string ⟨#[]⟩, .int .i64 0, .int .i64 0, .bool false, .string ⟨#[]⟩], .int .i64 3]) (by simp [results, Try.results9, go_sem]) rfl ⟨rfl, hB.alloc (Nat.le_refl _) _⟩

set_option maxHeartbeats 1000000 in
theorem read_skip (s : ByteArray) (w : World) (h1 : ¬ 4000 < s.size) (h2 : ¬ s.size < 40) (h3 : bt s 0 / 16 = 6) (h4 : ¬ s.size < 40 + beAt s 4 2) (x y : Int) (z : Bool) (q : Int) (hq : q ≠ 0) (hsk : sk (s.extract 40 (40 + beAt s 4 2)) 8 0 (bt s 6) false = (x, y, z, q)) :
    Calls Try.prog 9 #[.string s] w fun e w' => e = .returned (.tuple #[.agg #[.string ⟨#[]⟩, .string ⟨#[]⟩, .int .i64 0, .int .i64 0, .bool false, .string ⟨#[]⟩], .int .i64 q]) ∧ Below w.heap.size w w' := by
  have hB := Below.refl w.heap.size w
  have hb0 := bt_eq s 0 (by omega)
  have hl0 := bt_lt s 0
  have h3b : (bt s 0 : Int) / 16 = 6 := by omega
  have hpl : beAt s 4 2 < 65536 := pairN_lt s 4
  clear h3
  have hb6 := bt_eq s 6 (by omega)
  have hl6 := bt_lt s 6
  have hsz := cut_size s 40 (beAt s 4 2) (by omega)
  have hrest := cut_to s 40 (beAt s 4 2) (by omega)
  have hqb : (q != 0) = true := by simpa using hq
  have HS := Lib.hid hsk
  clear hsk hq
  go_enter Try.func9, Try.ntmps9
  go_wp2_with (go_at_call 19; refine (get_yes s 4 2 _ (by omega) (by omega) (by omega) (by omega)).mono ?_; rintro e w' ⟨rfl, rfl⟩)
  generalize s.extract 40 (40 + beAt s 4 2) = t at *
  refine (skips_any t _ _ (by omega) (WalkArith.wf_i64 (by omega)) _ _ _ _ HS.out).mono ?_
  rintro e w1 ⟨rfl, hb1⟩
  obtain ⟨hc, hf⟩ := bcell hb1
  have hz : w.heap.size < w1.heap.size := by have := hb1.size; simp at this; omega
  go_wp2
  refine bodyPost_ret (v := .tuple #[.agg #[.string ⟨#[]⟩, .string ⟨#[]⟩, .int .i64 0, .int .i64 0, .bool false, .string ⟨#[]⟩], .int .i64 q]) (by simp [results, Try.results9, go_sem, hc, hz]) rfl ⟨rfl, ?_⟩
  iterate 6 (apply below_set)
  exact below_on hb1 (hB.alloc (Nat.le_refl _) _)

set_option maxHeartbeats 1000000 in
theorem read_ok (s : ByteArray) (w : World) (h1 : ¬ 4000 < s.size) (h2 : ¬ s.size < 40) (h3 : bt s 0 / 16 = 6) (h4 : ¬ s.size < 40 + beAt s 4 2) (n : Nat) (y : Int) (z : Bool) (hn : n ≤ beAt s 4 2) (hsk : sk (s.extract 40 (40 + beAt s 4 2)) 8 0 (bt s 6) false = ((n : Int), y, z, 0)) :
    Calls Try.prog 9 #[.string s] w fun e w' => e = .returned (.tuple #[.agg #[.string (s.extract 8 24), .string (s.extract 24 40), .int .i64 y, .int .i64 (bt s 7), .bool z, .string (s.extract (40 + n) (40 + beAt s 4 2))], .int .i64 0]) ∧ Below w.heap.size w w' := by
  have hB := Below.refl w.heap.size w
  have hb0 := bt_eq s 0 (by omega)
  have hl0 := bt_lt s 0
  have h3b : (bt s 0 : Int) / 16 = 6 := by omega
  have hpl : beAt s 4 2 < 65536 := pairN_lt s 4
  clear h3
  have hb6 := bt_eq s 6 (by omega)
  have hl6 := bt_lt s 6
  have hsz := cut_size s 40 (beAt s 4 2) (by omega)
  have hrest := cut_to s 40 (beAt s 4 2) (by omega)
  have hb7 := bt_eq s 7 (by omega)
  have hl7 := bt_lt s 7
  have hcut := cut_from s 40 (beAt s 4 2) n
  have HS := Lib.hid hsk
  clear hsk
  go_enter Try.func9, Try.ntmps9
  go_wp2_with (go_at_call 19; refine (get_yes s 4 2 _ (by omega) (by omega) (by omega) (by omega)).mono ?_; rintro e w' ⟨rfl, rfl⟩)
  generalize s.extract 40 (40 + beAt s 4 2) = t at *
  refine (skips_any t _ _ (by omega) (WalkArith.wf_i64 (by omega)) _ _ _ _ HS.out).mono ?_
  rintro e w1 ⟨rfl, hb1⟩
  obtain ⟨hc, hf⟩ := bcell hb1
  have hz : w.heap.size < w1.heap.size := by have := hb1.size; simp at this; omega
  have hnn : 0 ≤ (n : Int) ∧ (n : Int) ≤ t.size := by omega
  have b24 : 24 ≤ s.size := by omega
  have b24i : (24 : Int) ≤ s.size := by omega
  have b7i : (7 : Int) < s.size := by omega
  have w7 : IntKind.i64.wrap (bt s 7 : Int) = bt s 7 := IntWalk.i64_in _ (by omega)
  have b40 : 40 ≤ s.size := by omega
  go_wp2
  go_region_held3 (fun _ => True) (trivial) (first | fail)
  go_wp2
  refine bodyPost_ret (v := .tuple #[.agg #[.string (s.extract 8 24), .string (s.extract 24 40), .int .i64 y, .int .i64 (bt s 7), .bool z, .string (s.extract (40 + n) (40 + beAt s 4 2))], .int .i64 0]) (by simp [results, Try.results9, go_sem, hc, hz]) rfl ⟨rfl, ?_⟩
  refine Below.drew ?_
  iterate 6 (apply below_set)
  exact below_on hb1 (hB.alloc (Nat.le_refl _) _)

set_option maxHeartbeats 1000000 in
theorem refread_big (s : ByteArray) (w : World) (hs : s.size ≤ 140737488351232) (h1 : 4000 < s.size) :
    Calls Try.prog 10 #[.string s] w fun e w' => e = .returned (.tuple #[.agg #[.string ⟨#[]⟩, .string ⟨#[]⟩, .int .i64 0, .int .i64 0, .bool false, .string ⟨#[]⟩], .int .i64 2]) ∧ Below w.heap.size w w' := by
  have hB := Below.refl w.heap.size w
  go_enter Try.func10, Try.ntmps10
  go_wp2
  refine bodyPost_ret (v := .tuple #[.agg #[.string ⟨#[]⟩, .string ⟨#[]⟩, .int .i64 0, .int .i64 0, .bool false, .string ⟨#[]⟩], .int .i64 2]) (by simp [results, Try.results10, go_sem]) rfl ⟨rfl, hB.alloc (Nat.le_refl _) _⟩

set_option maxHeartbeats 1000000 in
theorem refread_short (s : ByteArray) (w : World) (h2 : s.size < 40) :
    Calls Try.prog 10 #[.string s] w fun e w' => e = .returned (.tuple #[.agg #[.string ⟨#[]⟩, .string ⟨#[]⟩, .int .i64 0, .int .i64 0, .bool false, .string ⟨#[]⟩], .int .i64 3]) ∧ Below w.heap.size w w' := by
  have hB := Below.refl w.heap.size w
  go_enter Try.func10, Try.ntmps10
  go_wp2
  refine bodyPost_ret (v := .tuple #[.agg #[.string ⟨#[]⟩, .string ⟨#[]⟩, .int .i64 0, .int .i64 0, .bool false, .string ⟨#[]⟩], .int .i64 3]) (by simp [results, Try.results10, go_sem]) rfl ⟨rfl, hB.alloc (Nat.le_refl _) _⟩

set_option maxHeartbeats 1000000 in
theorem refread_kind (s : ByteArray) (w : World) (h1 : ¬ 4000 < s.size) (h2 : ¬ s.size < 40) (h3 : bt s 0 / 16 ≠ 6) :
    Calls Try.prog 10 #[.string s] w fun e w' => e = .returned (.tuple #[.agg #[.string ⟨#[]⟩, .string ⟨#[]⟩, .int .i64 0, .int .i64 0, .bool false, .string ⟨#[]⟩], .int .i64 5]) ∧ Below w.heap.size w w' := by
  have hB := Below.refl w.heap.size w
  have hb0 := bt_eq s 0 (by omega)
  have hl0 := bt_lt s 0
  go_enter Try.func10, Try.ntmps10
  go_wp2
  refine bodyPost_ret (v := .tuple #[.agg #[.string ⟨#[]⟩, .string ⟨#[]⟩, .int .i64 0, .int .i64 0, .bool false, .string ⟨#[]⟩], .int .i64 5]) (by simp [results, Try.results10, go_sem]) rfl ⟨rfl, hB.alloc (Nat.le_refl _) _⟩

set_option maxHeartbeats 1000000 in
theorem refread_less (s : ByteArray) (w : World) (h1 : ¬ 4000 < s.size) (h2 : ¬ s.size < 40) (h3 : bt s 0 / 16 = 6) (h4 : s.size < 40 + beAt s 4 2) :
    Calls Try.prog 10 #[.string s] w fun e w' => e = .returned (.tuple #[.agg #[.string ⟨#[]⟩, .string ⟨#[]⟩, .int .i64 0, .int .i64 0, .bool false, .string ⟨#[]⟩], .int .i64 3]) ∧ Below w.heap.size w w' := by
  have hB := Below.refl w.heap.size w
  have hb0 := bt_eq s 0 (by omega)
  have hl0 := bt_lt s 0
  have h3b : (bt s 0 : Int) / 16 = 6 := by omega
  have hpl : beAt s 4 2 < 65536 := pairN_lt s 4
  clear h3
  go_enter Try.func10, Try.ntmps10
  go_wp2_with (go_at_call 20; refine (refGet_yes s 4 2 _ (by omega) (by omega) (by omega) (by omega)).mono ?_; rintro e w' ⟨rfl, rfl⟩)
  refine bodyPost_ret (v := .tuple #[.agg #[.string ⟨#[]⟩, .string ⟨#[]⟩, .int .i64 0, .int .i64 0, .bool false, .string ⟨#[]⟩], .int .i64 3]) (by simp [results, Try.results10, go_sem]) rfl ⟨rfl, hB.alloc (Nat.le_refl _) _⟩

set_option maxHeartbeats 1000000 in
theorem refread_skip (s : ByteArray) (w : World) (h1 : ¬ 4000 < s.size) (h2 : ¬ s.size < 40) (h3 : bt s 0 / 16 = 6) (h4 : ¬ s.size < 40 + beAt s 4 2) (x y : Int) (z : Bool) (q : Int) (hq : q ≠ 0) (hsk : sk (s.extract 40 (40 + beAt s 4 2)) 8 0 (bt s 6) false = (x, y, z, q)) :
    Calls Try.prog 10 #[.string s] w fun e w' => e = .returned (.tuple #[.agg #[.string ⟨#[]⟩, .string ⟨#[]⟩, .int .i64 0, .int .i64 0, .bool false, .string ⟨#[]⟩], .int .i64 q]) ∧ Below w.heap.size w w' := by
  have hB := Below.refl w.heap.size w
  have hb0 := bt_eq s 0 (by omega)
  have hl0 := bt_lt s 0
  have h3b : (bt s 0 : Int) / 16 = 6 := by omega
  have hpl : beAt s 4 2 < 65536 := pairN_lt s 4
  clear h3
  have hb6 := bt_eq s 6 (by omega)
  have hl6 := bt_lt s 6
  have hsz := cut_size s 40 (beAt s 4 2) (by omega)
  have hrest := cut_to s 40 (beAt s 4 2) (by omega)
  have hqb : (q != 0) = true := by simpa using hq
  have HS := Lib.hid hsk
  clear hsk hq
  go_enter Try.func10, Try.ntmps10
  go_wp2_with (go_at_call 20; refine (refGet_yes s 4 2 _ (by omega) (by omega) (by omega) (by omega)).mono ?_; rintro e w' ⟨rfl, rfl⟩)
  generalize s.extract 40 (40 + beAt s 4 2) = t at *
  refine (refSkips_any t _ _ (by omega) (WalkArith.wf_i64 (by omega)) _ _ _ _ HS.out).mono ?_
  rintro e w1 ⟨rfl, rfl⟩
  go_wp2
  refine bodyPost_ret (v := .tuple #[.agg #[.string ⟨#[]⟩, .string ⟨#[]⟩, .int .i64 0, .int .i64 0, .bool false, .string ⟨#[]⟩], .int .i64 q]) (by simp [results, Try.results10, go_sem]) rfl ⟨rfl, hB.alloc (Nat.le_refl _) _⟩

set_option maxHeartbeats 1000000 in
theorem refread_ok (s : ByteArray) (w : World) (h1 : ¬ 4000 < s.size) (h2 : ¬ s.size < 40) (h3 : bt s 0 / 16 = 6) (h4 : ¬ s.size < 40 + beAt s 4 2) (n : Nat) (y : Int) (z : Bool) (hn : n ≤ beAt s 4 2) (hsk : sk (s.extract 40 (40 + beAt s 4 2)) 8 0 (bt s 6) false = ((n : Int), y, z, 0)) :
    Calls Try.prog 10 #[.string s] w fun e w' => e = .returned (.tuple #[.agg #[.string (s.extract 8 24), .string (s.extract 24 40), .int .i64 y, .int .i64 (bt s 7), .bool z, .string (s.extract (40 + n) (40 + beAt s 4 2))], .int .i64 0]) ∧ Below w.heap.size w w' := by
  have hB := Below.refl w.heap.size w
  have hb0 := bt_eq s 0 (by omega)
  have hl0 := bt_lt s 0
  have h3b : (bt s 0 : Int) / 16 = 6 := by omega
  have hpl : beAt s 4 2 < 65536 := pairN_lt s 4
  clear h3
  have hb6 := bt_eq s 6 (by omega)
  have hl6 := bt_lt s 6
  have hsz := cut_size s 40 (beAt s 4 2) (by omega)
  have hrest := cut_to s 40 (beAt s 4 2) (by omega)
  have hb7 := bt_eq s 7 (by omega)
  have hl7 := bt_lt s 7
  have hcut := cut_from s 40 (beAt s 4 2) n
  have HS := Lib.hid hsk
  clear hsk
  go_enter Try.func10, Try.ntmps10
  go_wp2_with (go_at_call 20; refine (refGet_yes s 4 2 _ (by omega) (by omega) (by omega) (by omega)).mono ?_; rintro e w' ⟨rfl, rfl⟩)
  generalize s.extract 40 (40 + beAt s 4 2) = t at *
  refine (refSkips_any t _ _ (by omega) (WalkArith.wf_i64 (by omega)) _ _ _ _ HS.out).mono ?_
  rintro e w1 ⟨rfl, rfl⟩
  have hnn : 0 ≤ (n : Int) ∧ (n : Int) ≤ t.size := by omega
  have b24 : 24 ≤ s.size := by omega
  have b24i : (24 : Int) ≤ s.size := by omega
  have b7i : (7 : Int) < s.size := by omega
  have w7 : IntKind.i64.wrap (bt s 7 : Int) = bt s 7 := IntWalk.i64_in _ (by omega)
  have b40 : 40 ≤ s.size := by omega
  go_wp2
  go_region_held3 (fun _ => True) (trivial) (first | fail)
  go_wp2
  refine bodyPost_ret (v := .tuple #[.agg #[.string (s.extract 8 24), .string (s.extract 24 40), .int .i64 y, .int .i64 (bt s 7), .bool z, .string (s.extract (40 + n) (40 + beAt s 4 2))], .int .i64 0]) (by simp [results, Try.results10, go_sem]) rfl ⟨rfl, (hB.alloc (Nat.le_refl _) _).drew⟩


theorem read_any (s : ByteArray) (w : World) (hs : s.size ≤ 140737488351232) (A B : ByteArray) (p h : Int) (f : Bool) (D : ByteArray) (q : Int) (hr : rdV s = ((A, B, p, h, f, D), q)) :
    Calls Try.prog 9 #[.string s] w fun e w' => e = .returned (.tuple #[.agg #[.string A, .string B, .int .i64 p, .int .i64 h, .bool f, .string D], .int .i64 q]) ∧ Below w.heap.size w w' := by
  unfold rdV at hr
  by_cases h1 : 4000 < s.size
  · rw [if_pos h1] at hr
    simp only [Prod.mk.injEq] at hr
    obtain ⟨⟨rfl, rfl, rfl, rfl, rfl, rfl⟩, rfl⟩ := hr
    exact read_big s w hs h1
  rw [if_neg h1] at hr
  by_cases h2 : s.size < 40
  · rw [if_pos h2] at hr
    simp only [Prod.mk.injEq] at hr
    obtain ⟨⟨rfl, rfl, rfl, rfl, rfl, rfl⟩, rfl⟩ := hr
    exact read_short s w h2
  rw [if_neg h2] at hr
  by_cases h3 : bt s 0 / 16 ≠ 6
  · rw [if_pos h3] at hr
    simp only [Prod.mk.injEq] at hr
    obtain ⟨⟨rfl, rfl, rfl, rfl, rfl, rfl⟩, rfl⟩ := hr
    exact read_kind s w h1 h2 h3
  rw [if_neg h3] at hr
  have h3' : bt s 0 / 16 = 6 := by omega
  by_cases h4 : s.size < 40 + beAt s 4 2
  · rw [if_pos h4] at hr
    simp only [Prod.mk.injEq] at hr
    obtain ⟨⟨rfl, rfl, rfl, rfl, rfl, rfl⟩, rfl⟩ := hr
    exact read_less s w h1 h2 h3' h4
  rw [if_neg h4] at hr
  obtain ⟨n, hn1, hn2⟩ := sk_at (s.extract 40 (40 + beAt s 4 2)) 8 0 (bt s 6) false (Nat.zero_le _)
  rw [cut_size s 40 (beAt s 4 2) (by omega)] at hn2
  rcases hsk : sk (s.extract 40 (40 + beAt s 4 2)) 8 0 (bt s 6) false with ⟨x, y, z, q'⟩
  rw [hsk] at hr hn1
  simp only at hr hn1
  subst hn1
  by_cases hq : q' = 0
  · subst hq
    rw [if_neg (by simp)] at hr
    simp only [Prod.mk.injEq] at hr
    obtain ⟨⟨rfl, rfl, rfl, rfl, rfl, rfl⟩, rfl⟩ := hr
    exact read_ok s w h1 h2 h3' h4 n y z hn2 hsk
  · rw [if_pos hq] at hr
    simp only [Prod.mk.injEq] at hr
    obtain ⟨⟨rfl, rfl, rfl, rfl, rfl, rfl⟩, rfl⟩ := hr
    exact read_skip s w h1 h2 h3' h4 _ y z _ hq hsk

theorem refread_any (s : ByteArray) (w : World) (hs : s.size ≤ 140737488351232) (A B : ByteArray) (p h : Int) (f : Bool) (D : ByteArray) (q : Int) (hr : rdV s = ((A, B, p, h, f, D), q)) :
    Calls Try.prog 10 #[.string s] w fun e w' => e = .returned (.tuple #[.agg #[.string A, .string B, .int .i64 p, .int .i64 h, .bool f, .string D], .int .i64 q]) ∧ Below w.heap.size w w' := by
  unfold rdV at hr
  by_cases h1 : 4000 < s.size
  · rw [if_pos h1] at hr
    simp only [Prod.mk.injEq] at hr
    obtain ⟨⟨rfl, rfl, rfl, rfl, rfl, rfl⟩, rfl⟩ := hr
    exact refread_big s w hs h1
  rw [if_neg h1] at hr
  by_cases h2 : s.size < 40
  · rw [if_pos h2] at hr
    simp only [Prod.mk.injEq] at hr
    obtain ⟨⟨rfl, rfl, rfl, rfl, rfl, rfl⟩, rfl⟩ := hr
    exact refread_short s w h2
  rw [if_neg h2] at hr
  by_cases h3 : bt s 0 / 16 ≠ 6
  · rw [if_pos h3] at hr
    simp only [Prod.mk.injEq] at hr
    obtain ⟨⟨rfl, rfl, rfl, rfl, rfl, rfl⟩, rfl⟩ := hr
    exact refread_kind s w h1 h2 h3
  rw [if_neg h3] at hr
  have h3' : bt s 0 / 16 = 6 := by omega
  by_cases h4 : s.size < 40 + beAt s 4 2
  · rw [if_pos h4] at hr
    simp only [Prod.mk.injEq] at hr
    obtain ⟨⟨rfl, rfl, rfl, rfl, rfl, rfl⟩, rfl⟩ := hr
    exact refread_less s w h1 h2 h3' h4
  rw [if_neg h4] at hr
  obtain ⟨n, hn1, hn2⟩ := sk_at (s.extract 40 (40 + beAt s 4 2)) 8 0 (bt s 6) false (Nat.zero_le _)
  rw [cut_size s 40 (beAt s 4 2) (by omega)] at hn2
  rcases hsk : sk (s.extract 40 (40 + beAt s 4 2)) 8 0 (bt s 6) false with ⟨x, y, z, q'⟩
  rw [hsk] at hr hn1
  simp only at hr hn1
  subst hn1
  by_cases hq : q' = 0
  · subst hq
    rw [if_neg (by simp)] at hr
    simp only [Prod.mk.injEq] at hr
    obtain ⟨⟨rfl, rfl, rfl, rfl, rfl, rfl⟩, rfl⟩ := hr
    exact refread_ok s w h1 h2 h3' h4 n y z hn2 hsk
  · rw [if_pos hq] at hr
    simp only [Prod.mk.injEq] at hr
    obtain ⟨⟨rfl, rfl, rfl, rfl, rfl, rfl⟩, rfl⟩ := hr
    exact refread_skip s w h1 h2 h3' h4 _ y z _ hq hsk

end Go.Proofs.Ytpalmjejihakeaa
