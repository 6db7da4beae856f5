/- The contracts of tuple's mix and Hash, and of the reference's Hash. -/
import Derived.Test.YtkkifdmelajioaaTuplePair
namespace Go.Proofs.Ytkkifdmelajioaa
open Go.RowKit

/-- A byte mixed into a number. -/
def mixB (h : Int) (b : UInt8) : Int := IntKind.u32.wrap (bits .xor .u32 h (b.toNat : Int) * 16777619)
def mixL (h : Int) (l : List UInt8) : Int := l.foldl mixB h
theorem mixL_snoc (h : Int) (s : ByteArray) (i : Nat) (hi : i < s.size) : mixB (mixL h (s.data.toList.take i)) s[i] = mixL h (s.data.toList.take (i + 1)) := by
  unfold mixL
  rw [List.take_succ_eq_append_getElem (by simpa using hi), List.foldl_append]
  rfl
theorem mixL_all (h : Int) (s : ByteArray) : mixL h (s.data.toList.take s.size) = mixL h s.data.toList := by
  rw [List.take_of_length_le (by simp)]
theorem mixL_app (h : Int) (a b : ByteArray) : mixL (mixL h a.data.toList) b.data.toList = mixL h (a ++ b).data.toList := by
  unfold mixL; rw [ByteArray.toList_data_append, List.foldl_append]
theorem mixL_nil (h : Int) : mixL h [] = h := rfl

/-- So many of four texts mixed. -/
def mix4 (a b c d : ByteArray) : Nat → Int
  | 0 => 2166136261
  | 1 => mixL 2166136261 a.data.toList
  | 2 => mixL 2166136261 (a ++ b).data.toList
  | 3 => mixL 2166136261 (a ++ b ++ c).data.toList
  | _ => mixL 2166136261 (a ++ b ++ c ++ d).data.toList

set_option maxRecDepth 100000 in
set_option maxHeartbeats 2000000 in
theorem mix_any (a b c d : ByteArray) (g : Nat) (w : World) (ha : a.size ≤ 9223372036854775807) (hb : b.size ≤ 9223372036854775807) (hc : c.size ≤ 9223372036854775807) (hd : d.size ≤ 9223372036854775807) (hg : w.heap[g]? = some (.cells #[.string a, .string b, .string c, .string d] 9)) :
    Calls Try.prog 27 #[.slice (some ⟨g, 0, none⟩) 4 4] w fun e w' => e = .returned (.int .u32 (mix4 a b c d 4)) ∧ w = w' := by
  have c0 := blk_cell hg 0 _ rfl
  have c1 := blk_cell hg 1 _ rfl
  have c2 := blk_cell hg 2 _ rfl
  have c3 := blk_cell hg 3 _ rfl
  have s1 : ∀ (h : Int) (x : UInt8), mixB h x = IntKind.u32.wrap (bits .xor .u32 h (x.toNat : Int) * 16777619) := fun _ _ => rfl
  have S1 := Lib.hid s1
  clear hg s1
  go_enter Try.func27, Try.ntmps27
  go_wp2
  go_loop [3, 9] (fun h j => ∃ k : Nat, k ≤ 4 ∧ h = .int .u32 (mix4 a b c d k) ∧ j = .int .i64 k) (fun _ j => 4 - (intOf j).toNat)
  case atStart => exact ⟨0, by omega, rfl, rfl⟩
  case round =>
    obtain ⟨k, hk, rfl, rfl⟩ := hrel
    by_cases hlt : k < 4
    · have hk4 : k = 0 ∨ k = 1 ∨ k = 2 ∨ k = 3 := by omega
      clear hk hlt
      rcases hk4 with rfl | rfl | rfl | rfl
      · go_wp2
        go_loop [3, 15] (fun h i => ∃ n : Nat, n ≤ a.size ∧ h = .int .u32 (mixL (mix4 a b c d 0) (a.data.toList.take n)) ∧ i = .int .i64 n) (fun _ i => a.size - (intOf i).toNat)
        case atStart => exact ⟨0, Nat.zero_le _, rfl, rfl⟩
        case round =>
          obtain ⟨n, hn, rfl, rfl⟩ := hrel
          by_cases hln : n < a.size
          · have x1 : (n : Int) < a.size := by omega
            have r1 : IntKind.i64.wrap ((n : Int) + 1) = n + 1 := IntWalk.i64_in _ (by omega)
            have hs := (S1.out (mixL (mix4 a b c d 0) (a.data.toList.take n)) a[n]).symm.trans (mixL_snoc (mix4 a b c d 0) a n hln)
            have HS := Lib.hid hs
            clear hs
            have hbt := a[n].toNat_lt
            have r2 : IntKind.u32.wrap (a[n].toNat : Int) = a[n].toNat := by rw [IntKind.wrap_u32]; omega
            generalize mixL (mix4 a b c d 0) (a.data.toList.take n) = H at *
            go_wp2
            go_round
            case rel => exact ⟨n + 1, by omega, by rw [← HS.out]; go_num, by go_num⟩
            case measure => simp [intOf]; omega
          · obtain rfl : n = a.size := by omega
            have hm : mixL (mix4 a b c d 0) (a.data.toList.take a.size) = mix4 a b c d 1 := (mixL_all _ _).trans (rfl)
            have HM := Lib.hid hm
            clear hm
            go_wp2
            go_round
            case rel => exact ⟨1, by omega, by rw [HM.out], by go_num⟩
            case measure => simp [intOf]
      · go_wp2
        go_loop [3, 15] (fun h i => ∃ n : Nat, n ≤ b.size ∧ h = .int .u32 (mixL (mix4 a b c d 1) (b.data.toList.take n)) ∧ i = .int .i64 n) (fun _ i => b.size - (intOf i).toNat)
        case atStart => exact ⟨0, Nat.zero_le _, rfl, rfl⟩
        case round =>
          obtain ⟨n, hn, rfl, rfl⟩ := hrel
          by_cases hln : n < b.size
          · have x1 : (n : Int) < b.size := by omega
            have r1 : IntKind.i64.wrap ((n : Int) + 1) = n + 1 := IntWalk.i64_in _ (by omega)
            have hs := (S1.out (mixL (mix4 a b c d 1) (b.data.toList.take n)) b[n]).symm.trans (mixL_snoc (mix4 a b c d 1) b n hln)
            have HS := Lib.hid hs
            clear hs
            have hbt := b[n].toNat_lt
            have r2 : IntKind.u32.wrap (b[n].toNat : Int) = b[n].toNat := by rw [IntKind.wrap_u32]; omega
            generalize mixL (mix4 a b c d 1) (b.data.toList.take n) = H at *
            go_wp2
            go_round
            case rel => exact ⟨n + 1, by omega, by rw [← HS.out]; go_num, by go_num⟩
            case measure => simp [intOf]; omega
          · obtain rfl : n = b.size := by omega
            have hm : mixL (mix4 a b c d 1) (b.data.toList.take b.size) = mix4 a b c d 2 := (mixL_all _ _).trans (mixL_app _ a b)
            have HM := Lib.hid hm
            clear hm
            go_wp2
            go_round
            case rel => exact ⟨2, by omega, by rw [HM.out], by go_num⟩
            case measure => simp [intOf]
      · go_wp2
        go_loop [3, 15] (fun h i => ∃ n : Nat, n ≤ c.size ∧ h = .int .u32 (mixL (mix4 a b c d 2) (c.data.toList.take n)) ∧ i = .int .i64 n) (fun _ i => c.size - (intOf i).toNat)
        case atStart => exact ⟨0, Nat.zero_le _, rfl, rfl⟩
        case round =>
          obtain ⟨n, hn, rfl, rfl⟩ := hrel
          by_cases hln : n < c.size
          · have x1 : (n : Int) < c.size := by omega
            have r1 : IntKind.i64.wrap ((n : Int) + 1) = n + 1 := IntWalk.i64_in _ (by omega)
            have hs := (S1.out (mixL (mix4 a b c d 2) (c.data.toList.take n)) c[n]).symm.trans (mixL_snoc (mix4 a b c d 2) c n hln)
            have HS := Lib.hid hs
            clear hs
            have hbt := c[n].toNat_lt
            have r2 : IntKind.u32.wrap (c[n].toNat : Int) = c[n].toNat := by rw [IntKind.wrap_u32]; omega
            generalize mixL (mix4 a b c d 2) (c.data.toList.take n) = H at *
            go_wp2
            go_round
            case rel => exact ⟨n + 1, by omega, by rw [← HS.out]; go_num, by go_num⟩
            case measure => simp [intOf]; omega
          · obtain rfl : n = c.size := by omega
            have hm : mixL (mix4 a b c d 2) (c.data.toList.take c.size) = mix4 a b c d 3 := (mixL_all _ _).trans (mixL_app _ (a ++ b) c)
            have HM := Lib.hid hm
            clear hm
            go_wp2
            go_round
            case rel => exact ⟨3, by omega, by rw [HM.out], by go_num⟩
            case measure => simp [intOf]
      · go_wp2
        go_loop [3, 15] (fun h i => ∃ n : Nat, n ≤ d.size ∧ h = .int .u32 (mixL (mix4 a b c d 3) (d.data.toList.take n)) ∧ i = .int .i64 n) (fun _ i => d.size - (intOf i).toNat)
        case atStart => exact ⟨0, Nat.zero_le _, rfl, rfl⟩
        case round =>
          obtain ⟨n, hn, rfl, rfl⟩ := hrel
          by_cases hln : n < d.size
          · have x1 : (n : Int) < d.size := by omega
            have r1 : IntKind.i64.wrap ((n : Int) + 1) = n + 1 := IntWalk.i64_in _ (by omega)
            have hs := (S1.out (mixL (mix4 a b c d 3) (d.data.toList.take n)) d[n]).symm.trans (mixL_snoc (mix4 a b c d 3) d n hln)
            have HS := Lib.hid hs
            clear hs
            have hbt := d[n].toNat_lt
            have r2 : IntKind.u32.wrap (d[n].toNat : Int) = d[n].toNat := by rw [IntKind.wrap_u32]; omega
            generalize mixL (mix4 a b c d 3) (d.data.toList.take n) = H at *
            go_wp2
            go_round
            case rel => exact ⟨n + 1, by omega, by rw [← HS.out]; go_num, by go_num⟩
            case measure => simp [intOf]; omega
          · obtain rfl : n = d.size := by omega
            have hm : mixL (mix4 a b c d 3) (d.data.toList.take d.size) = mix4 a b c d 4 := (mixL_all _ _).trans (mixL_app _ (a ++ b ++ c) d)
            have HM := Lib.hid hm
            clear hm
            go_wp2
            go_round
            case rel => exact ⟨4, by omega, by rw [HM.out], by go_num⟩
            case measure => simp [intOf]
    · obtain rfl : k = 4 := by omega
      go_wp2
      go_ret
      exact ⟨rfl, rfl⟩

theorem mixB_bd (h : Int) (b : UInt8) : 0 ≤ mixB h b ∧ mixB h b < 4294967296 := by
  unfold mixB; rw [IntKind.wrap_u32]; omega
theorem mixL_bd (h : Int) (l : List UInt8) (h0 : 0 ≤ h) (h1 : h < 4294967296) : 0 ≤ mixL h l ∧ mixL h l < 4294967296 := by
  induction l generalizing h with
  | nil => exact ⟨h0, h1⟩
  | cons b l ih => exact ih (mixB h b) (mixB_bd h b).1 (mixB_bd h b).2
/-- A port's two bytes. -/
def portS (p : Int) : ByteArray := putS 2 (IntKind.u64.wrap p).toNat
theorem portS_size (p : Int) : (portS p).size = 2 := putS_size 2 _
/-- A pair as a number. -/
def hashN (A : ByteArray) (p : Int) (B : ByteArray) (q : Int) : Int := mixL 2166136261 (A ++ portS p ++ B ++ portS q).data.toList
theorem hashN_bd (A : ByteArray) (p : Int) (B : ByteArray) (q : Int) : 0 ≤ hashN A p B q ∧ hashN A p B q < 4294967296 := mixL_bd _ _ (by decide) (by decide)
def hashV (A : ByteArray) (p : Int) (B : ByteArray) (q n : Int) : Int := if n < 1 then 0 else hashN A p B q % n
theorem hashV_no {A : ByteArray} {p : Int} {B : ByteArray} {q n : Int} (h : n < 1) : hashV A p B q n = 0 := by unfold hashV; rw [if_pos h]
theorem hashV_yes {A : ByteArray} {p : Int} {B : ByteArray} {q n : Int} (h : ¬ n < 1) : hashV A p B q n = hashN A p B q % n := by unfold hashV; rw [if_neg h]

set_option maxRecDepth 100000 in
set_option maxHeartbeats 2000000 in
theorem hash_any (A : ByteArray) (p : Int) (B : ByteArray) (q n : Int) (w : World) (ha : A.size ≤ 9223372036854775807) (hb : B.size ≤ 9223372036854775807) (hn : n ≤ 9223372036854775807) :
    Calls Try.prog 17 #[.agg #[.string A, .int .i64 p, .string B, .int .i64 q], .int .i64 n] w fun e w' => e = .returned (.int .i64 (hashV A p B q n)) ∧ Below w.heap.size w w' := by
  have hB := below_alloc (Below.refl w.heap.size w) (.cells #[.string A, .int .i64 p, .string B, .int .i64 q] 35)
  by_cases h1 : n < 1
  · have hv := Lib.hid (hashV_no (A := A) (p := p) (B := B) (q := q) h1)
    go_enter Try.func17, Try.ntmps17
    go_wp2
    go_ret
    rw [hv.out]
    exact ⟨rfl, hB⟩
  · have hv := Lib.hid (hashV_yes (A := A) (p := p) (B := B) (q := q) h1)
    have hbd := hashN_bd A p B q
    have hH : mix4 A (portS p) B (portS q) 4 = hashN A p B q := rfl
    have b1 : IntKind.i64.wrap (hashN A p B q) = hashN A p B q := IntWalk.i64_in _ (by omega)
    have b2 : (hashN A p B q).tmod n = hashN A p B q % n := Int.tmod_eq_emod_of_nonneg hbd.1
    have b3 : (n == 0) = false := by rw [beq_eq_false_iff_ne]; omega
    have b4 : 0 ≤ hashN A p B q % n := Int.emod_nonneg _ (by omega)
    have b5 : hashN A p B q % n < n := Int.emod_lt_of_pos _ (by omega)
    have b6 : IntKind.i64.wrap (hashN A p B q % n) = hashN A p B q % n := IntWalk.i64_in _ (by omega)
    have u1 : 0 ≤ IntKind.u64.wrap p ∧ IntKind.u64.wrap p < 18446744073709551616 := by rw [IntKind.wrap_u64]; omega
    have u2 : 0 ≤ IntKind.u64.wrap q ∧ IntKind.u64.wrap q < 18446744073709551616 := by rw [IntKind.wrap_u64]; omega
    have u3 : putS 2 (IntKind.u64.wrap p).toNat = portS p := rfl
    have u4 : putS 2 (IntKind.u64.wrap q).toNat = portS q := rfl
    have z1 := portS_size p
    have z2 := portS_size q
    have hK := blk_new w (.cells #[.string A, .int .i64 p, .string B, .int .i64 q] 35)
    have lk := blk_lt hK
    have k0 := blk_cell hK 0 _ rfl
    have k1 := blk_cell hK 1 _ rfl
    have k2 := blk_cell hK 2 _ rfl
    have k3 := blk_cell hK 3 _ rfl
    go_enter Try.func17, Try.ntmps17
    go_wp2
    generalize World.alloc w (.cells #[.string A, .int .i64 p, .string B, .int .i64 q] 35) = W at *
    clear hK
    go_region_held3 (fun w' => Below W.heap.size W w' ∧ ∀ b o, b < W.heap.size → w'.cell? ⟨b, o, none⟩ = W.cell? ⟨b, o, none⟩)
      ((apply held_of; repeat (first | exact Below.refl _ _ | exact And.left (by assumption) | with_reducible apply below_drew | with_reducible apply below_alloc | (with_reducible refine below_on (by assumption) ?_))))
      (first
        | (go_at_call 28; refine (put_i _ _ _ (by decide) (by decide) (by omega) (by omega)).mono ?_; rintro e w2 ⟨rfl, hb2⟩)
        | (go_at_call 27; refine (mix_any A (portS p) B (portS q) _ _ ha (by omega) hb (by omega) (by first | exact blk_new _ _ | exact blk_new _ _)).mono ?_; rw [hH]; rintro e w3 ⟨rfl, rfl⟩))
    go_wp2
    go_ret
    rw [hv.out]
    exact ⟨rfl, by first | exact below_on (And.left (by assumption)) hB | exact below_alloc (below_on (And.left (by assumption)) hB) _⟩

set_option maxRecDepth 100000 in
set_option maxHeartbeats 2000000 in
theorem refHash_any (A : ByteArray) (p : Int) (B : ByteArray) (q n : Int) (w : World) (ha : A.size ≤ 1000) (hb : B.size ≤ 1000) (hn : n ≤ 9223372036854775807) :
    Calls Try.prog 18 #[.agg #[.string A, .int .i64 p, .string B, .int .i64 q], .int .i64 n] w fun e w' => e = .returned (.int .i64 (hashV A p B q n)) ∧ Below w.heap.size w w' := by
  have hB := below_alloc (Below.refl w.heap.size w) (.cells #[.string A, .int .i64 p, .string B, .int .i64 q] 42)
  by_cases h1 : n < 1
  · have hv := Lib.hid (hashV_no (A := A) (p := p) (B := B) (q := q) h1)
    go_enter Try.func18, Try.ntmps18
    go_wp2
    go_ret
    rw [hv.out]
    exact ⟨rfl, hB⟩
  · have hv := Lib.hid (hashV_yes (A := A) (p := p) (B := B) (q := q) h1)
    have hbd := hashN_bd A p B q
    have c1 : ¬ 9223372036854775807 < A.size + 2 := by omega
    have c2 : ¬ 9223372036854775807 < A.size + 2 + B.size := by omega
    have c3 : ¬ 9223372036854775807 < A.size + 2 + B.size + 2 := by omega
    have b1 : IntKind.i64.wrap (hashN A p B q) = hashN A p B q := IntWalk.i64_in _ (by omega)
    have b2 : (hashN A p B q).tmod n = hashN A p B q % n := Int.tmod_eq_emod_of_nonneg hbd.1
    have b3 : (n == 0) = false := by rw [beq_eq_false_iff_ne]; omega
    have b4 : 0 ≤ hashN A p B q % n := Int.emod_nonneg _ (by omega)
    have b5 : hashN A p B q % n < n := Int.emod_lt_of_pos _ (by omega)
    have b6 : IntKind.i64.wrap (hashN A p B q % n) = hashN A p B q % n := IntWalk.i64_in _ (by omega)
    have u1 : 0 ≤ IntKind.u64.wrap p ∧ IntKind.u64.wrap p < 18446744073709551616 := by rw [IntKind.wrap_u64]; omega
    have u2 : 0 ≤ IntKind.u64.wrap q ∧ IntKind.u64.wrap q < 18446744073709551616 := by rw [IntKind.wrap_u64]; omega
    have u3 : putS 2 (IntKind.u64.wrap p).toNat = portS p := rfl
    have u4 : putS 2 (IntKind.u64.wrap q).toNat = portS q := rfl
    have z1 := portS_size p
    have z2 := portS_size q
    have hK := blk_new w (.cells #[.string A, .int .i64 p, .string B, .int .i64 q] 42)
    have lk := blk_lt hK
    have k0 := blk_cell hK 0 _ rfl
    have k1 := blk_cell hK 1 _ rfl
    have k2 := blk_cell hK 2 _ rfl
    have k3 := blk_cell hK 3 _ rfl
    go_enter Try.func18, Try.ntmps18
    go_wp2
    generalize World.alloc w (.cells #[.string A, .int .i64 p, .string B, .int .i64 q] 42) = W at *
    clear hK
    go_region_held3 (fun w' => Below W.heap.size W w' ∧ ∀ b o, b < W.heap.size → w'.cell? ⟨b, o, none⟩ = W.cell? ⟨b, o, none⟩)
      ((apply held_of; repeat (first | exact Below.refl _ _ | exact And.left (by assumption) | with_reducible apply below_drew | with_reducible apply below_alloc | (with_reducible refine below_on (by assumption) ?_))))
      (first | (go_at_call 29; refine (refPut_i _ _ _ (by decide) (by decide) (by omega) (by omega)).mono ?_; rintro e w2 ⟨rfl, hb2⟩))
    have hBB := below_on (And.left (show Below W.heap.size W w2 ∧ ∀ b o, b < W.heap.size → w2.cell? ⟨b, o, none⟩ = W.cell? ⟨b, o, none⟩ by assumption)) hB
    obtain ⟨S, hS⟩ : ∃ S, S = A ++ portS p ++ B ++ portS q := ⟨_, rfl⟩
    have hHN : mixL 2166136261 S.data.toList = hashN A p B q := by rw [hS]; rfl
    have hSz : S.size = A.size + 2 + B.size + 2 := by rw [hS, ByteArray.size_append, ByteArray.size_append, ByteArray.size_append, z1, z2]
    have s1 : ∀ (h : Int) (x : UInt8), mixB h x = IntKind.u32.wrap (bits .xor .u32 h (x.toNat : Int) * 16777619) := fun _ _ => rfl
    have S1 := Lib.hid s1
    have HN := Lib.hid hHN
    simp only [← hS]
    clear hS s1 hHN z1 z2 k0 k1 k2 k3 u1 u2 u3 u4
    go_wp2
    go_loop [6, 7] (fun h i => ∃ m : Nat, m ≤ S.size ∧ h = .int .u32 (mixL 2166136261 (S.data.toList.take m)) ∧ i = .int .i64 m) (fun _ i => S.size - (intOf i).toNat)
    case atStart => exact ⟨0, Nat.zero_le _, rfl, rfl⟩
    case round =>
      obtain ⟨m, hm, rfl, rfl⟩ := hrel
      by_cases hlm : m < S.size
      · have x1 : (m : Int) < S.size := by omega
        have r1 : IntKind.i64.wrap ((m : Int) + 1) = m + 1 := IntWalk.i64_in _ (by omega)
        have hs := (S1.out (mixL 2166136261 (S.data.toList.take m)) S[m]).symm.trans (mixL_snoc 2166136261 S m hlm)
        have HS := Lib.hid hs
        clear hs
        have hbt := S[m].toNat_lt
        have r2 : IntKind.u32.wrap (S[m].toNat : Int) = S[m].toNat := by rw [IntKind.wrap_u32]; omega
        generalize mixL 2166136261 (S.data.toList.take m) = H at *
        go_wp2
        go_round
        case rel => exact ⟨m + 1, by omega, by rw [← HS.out]; go_num, by go_num⟩
        case measure => simp [intOf]; omega
      · obtain rfl : m = S.size := by omega
        have hm : mixL 2166136261 (S.data.toList.take S.size) = hashN A p B q := (mixL_all _ _).trans HN.out
        rw [hm]
        clear hm
        generalize hashN A p B q = Z at *
        go_wp2
        go_ret
        rw [hv.out]
        exact ⟨rfl, hBB⟩

end Go.Proofs.Ytkkifdmelajioaa
