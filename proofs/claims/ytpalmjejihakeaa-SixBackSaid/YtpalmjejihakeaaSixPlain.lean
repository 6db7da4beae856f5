/- What is made of a packet is read as it was: plain laws, no program in sight. -/
import Derived.Test.YtpalmjejihakeaaSixMake
import Derived.Test.YtpalmjejihakeaaSixRead
namespace Go.Proofs.Ytpalmjejihakeaa
open Go.RowKit

theorem mid (x y z : ByteArray) (i j : Nat) (hi : i = x.size) (hj : j = x.size + y.size) : (x ++ (y ++ z)).extract i j = y := by
  subst hi; subst hj
  have := @ByteArray.extract_append_size_add x (y ++ z) 0 y.size
  rw [Nat.add_zero] at this
  rw [this]
  exact ByteArray.extract_append_eq_left rfl

/-- The first eight bytes of a packet. -/
def hdS (n p h : Nat) : ByteArray := putS 4 1610612736 ++ putS 2 n ++ putS 1 p ++ putS 1 h
theorem hdS_size (n p h : Nat) : (hdS n p h).size = 8 := by unfold hdS; simp only [ByteArray.size_append, putS_size]
theorem hdS_list (n p h : Nat) : (hdS n p h).data.toList = [96, 0, 0, 0, UInt8.ofNat (n / 256 % 256), UInt8.ofNat (n % 256), UInt8.ofNat (p % 256), UInt8.ofNat (h % 256)] := by
  unfold hdS putS
  simp [ByteArray.data_append, putL]
theorem mkS_hd (a b : ByteArray) (p h : Nat) (d t : ByteArray) : mkS a b p h d ++ t = hdS d.size p h ++ (a ++ (b ++ (d ++ t))) := by
  unfold mkS hdS; simp only [ByteArray.append_assoc]
theorem mkS_size (a b : ByteArray) (p h : Nat) (d : ByteArray) : (mkS a b p h d).size = 8 + a.size + b.size + d.size := by
  unfold mkS; simp only [ByteArray.size_append, putS_size]
theorem bt_hd (x : ByteArray) (n p h i : Nat) (hi : i < 8) : bt (hdS n p h ++ x) i = ([96, 0, 0, 0, UInt8.ofNat (n / 256 % 256), UInt8.ofNat (n % 256), UInt8.ofNat (p % 256), UInt8.ofNat (h % 256)].getD i 0).toNat := by
  unfold bt
  rw [ByteArray.toList_data_append, hdS_list]
  congr 1
  rw [List.getD_eq_getElem?_getD, List.getD_eq_getElem?_getD, List.getElem?_append_left (by simpa using hi)]
theorem bt_hd0 (x : ByteArray) (n p h : Nat) : bt (hdS n p h ++ x) 0 = 96 := by rw [bt_hd _ _ _ _ _ (by decide)]; rfl
theorem bt_hd6 (x : ByteArray) (n p h : Nat) (hp : p ≤ 255) : bt (hdS n p h ++ x) 6 = p := by
  rw [bt_hd _ _ _ _ _ (by decide)]
  show (UInt8.ofNat (p % 256)).toNat = p
  rw [UInt8.toNat_ofNat']; omega
theorem bt_hd7 (x : ByteArray) (n p h : Nat) (hh : h ≤ 255) : bt (hdS n p h ++ x) 7 = h := by
  rw [bt_hd _ _ _ _ _ (by decide)]
  show (UInt8.ofNat (h % 256)).toNat = h
  rw [UInt8.toNat_ofNat']; omega
theorem be_hd (x : ByteArray) (n p h : Nat) (hn : n ≤ 65535) : beAt (hdS n p h ++ x) 4 2 = n := by
  unfold beAt
  rw [ByteArray.toList_data_append, hdS_list]
  show (0 * 256 + (UInt8.ofNat (n / 256 % 256)).toNat) * 256 + (UInt8.ofNat (n % 256)).toNat = n
  rw [UInt8.toNat_ofNat', UInt8.toNat_ofNat']; omega
theorem cut_data (a b : ByteArray) (n p h : Nat) (d t : ByteArray) (ha : a.size = 16) (hb : b.size = 16) (i : Nat) (hi : i ≤ d.size) :
    (hdS n p h ++ (a ++ (b ++ (d ++ t)))).extract (40 + i) (40 + d.size) = d.extract i d.size := by
  rw [← ByteArray.append_assoc, ← ByteArray.append_assoc]
  have e : (hdS n p h ++ a ++ b).size = 40 := by simp only [ByteArray.size_append, hdS_size, ha, hb]
  rw [← e, ByteArray.extract_append_size_add, ByteArray.extract_append]
  rw [show d.size - d.size = 0 from by omega]
  have z : t.extract (i - d.size) 0 = ByteArray.empty := by
    apply ByteArray.ext; simp [ByteArray.data_extract]
  rw [z]; simp

set_option maxHeartbeats 1000000 in
theorem rd_mk (a b : ByteArray) (k h : Nat) (d t : ByteArray) (ha : a.size = 16) (hb : b.size = 16) (hk : k ≤ 255) (hh : h ≤ 255) (hd : 40 + d.size + t.size ≤ 4000) (n : Nat) (y : Int) (z : Bool) (hs : sk d 8 0 k false = ((n : Int), y, z, 0)) (hn : n ≤ d.size) :
    rdV (mkS a b k h d ++ t) = (((a, b, y, (h : Int), z, d.extract n d.size), 0) : (ByteArray × ByteArray × Int × Int × Bool × ByteArray) × Int) := by
  have sz : (hdS d.size k h ++ (a ++ (b ++ (d ++ t)))).size = 40 + d.size + t.size := by
    simp only [ByteArray.size_append, hdS_size, ha, hb]; omega
  have e0 : (hdS d.size k h ++ (a ++ (b ++ (d ++ t)))).extract 40 (40 + d.size) = d := by
    rw [show (40 : Nat) = 40 + 0 from rfl, show 40 + 0 + d.size = 40 + d.size from rfl, cut_data _ _ _ _ _ _ _ ha hb 0 (Nat.zero_le _)]
    exact ByteArray.extract_zero_size
  have e1 : (hdS d.size k h ++ (a ++ (b ++ (d ++ t)))).extract 8 24 = a := mid _ _ _ _ _ (hdS_size _ _ _).symm (by rw [hdS_size, ha])
  have e2 : (hdS d.size k h ++ (a ++ (b ++ (d ++ t)))).extract 24 40 = b := by
    rw [← ByteArray.append_assoc]
    exact mid _ _ _ _ _ (by rw [ByteArray.size_append, hdS_size, ha]) (by rw [ByteArray.size_append, hdS_size, ha, hb])
  have e3 := cut_data a b d.size k h d t ha hb n hn
  have e4 := be_hd (a ++ (b ++ (d ++ t))) d.size k h (by omega)
  have e5 := bt_hd0 (a ++ (b ++ (d ++ t))) d.size k h
  have e6 := bt_hd6 (a ++ (b ++ (d ++ t))) d.size k h hk
  have e7 := bt_hd7 (a ++ (b ++ (d ++ t))) d.size k h hh
  rw [mkS_hd]
  generalize hdS d.size k h ++ (a ++ (b ++ (d ++ t))) = L at *
  unfold rdV
  rw [if_neg (by omega), if_neg (by omega), if_neg (by rw [e5]; decide), if_neg (by omega)]
  simp only [e4, e6, e0, hs, e1, e2, e7, Int.toNat_natCast, e3]
  rfl

theorem bt_cut (s : ByteArray) (m i : Nat) (h : i < m) : bt (s.extract 0 m) i = bt s i := by
  unfold bt
  rw [ByteArray.data_extract, Array.toList_extract]
  congr 1
  rw [List.getD_eq_getElem?_getD, List.getD_eq_getElem?_getD]
  show ((s.data.toList.drop 0).take (m - 0))[i]?.getD 0 = _
  rw [List.drop_zero, List.getElem?_take_of_lt (by omega)]
theorem be_cut (s : ByteArray) (m : Nat) (h : 6 ≤ m) : beAt (s.extract 0 m) 4 2 = beAt s 4 2 := by
  unfold beAt
  rw [ByteArray.data_extract, Array.toList_extract]
  congr 1
  show (((s.data.toList.drop 0).take (m - 0)).drop 4).take 2 = _
  rw [List.drop_zero, List.drop_take, List.take_take, Nat.min_eq_left (by omega)]

theorem rd_cut (a b : ByteArray) (k h : Nat) (d : ByteArray) (ha : a.size = 16) (hb : b.size = 16) (hd : d.size ≤ 3960) (m : Nat) (hm : m < (mkS a b k h d).size) :
    rdV ((mkS a b k h d).extract 0 m) = ((⟨#[]⟩, ⟨#[]⟩, 0, 0, false, ⟨#[]⟩), 3) := by
  have sz := mkS_size a b k h d
  have e := mkS_hd a b k h d ByteArray.empty
  rw [ByteArray.append_empty] at e
  have e4 := be_hd (a ++ (b ++ (d ++ ByteArray.empty))) d.size k h (by omega)
  have e5 := bt_hd0 (a ++ (b ++ (d ++ ByteArray.empty))) d.size k h
  rw [← e] at e4 e5
  generalize mkS a b k h d = L at *
  clear e
  have sz2 : (L.extract 0 m).size = m := by rw [ByteArray.size_extract]; omega
  unfold rdV
  rw [if_neg (by omega)]
  by_cases h40 : m < 40
  · rw [if_pos (by omega)]
  · rw [if_neg (by omega), if_neg (by rw [bt_cut _ _ _ (by omega), e5]; decide), if_pos (by rw [be_cut _ _ (by omega), e4]; omega)]

/-- An extension of eight bytes, ahead of Data. -/
def oneS (p : Nat) : ByteArray := ⟨#[UInt8.ofNat p, 0, 0, 0, 0, 0, 0, 0]⟩
theorem bt_one (p i : Nat) (d : ByteArray) (hi : i < 8) : bt (oneS p ++ d) i = ([UInt8.ofNat p, 0, 0, 0, 0, 0, 0, 0].getD i 0).toNat := by
  unfold bt oneS
  rw [ByteArray.toList_data_append]
  congr 1
  rw [List.getD_eq_getElem?_getD, List.getD_eq_getElem?_getD, List.getElem?_append_left (by simpa using hi)]
theorem sk_one (p k : Nat) (d : ByteArray) (hp : p ≤ 255) (hx : extB (p : Int) = false) (hk : k = 0 ∨ k = 43 ∨ k = 60 ∨ k = 44) : sk (oneS p ++ d) 8 0 k false = ((((8 : Nat) : Int), (p : Int), false, 0) : Int × Int × Bool × Int) := by
  have sz : (oneS p ++ d).size = 8 + d.size := by rw [ByteArray.size_append]; rfl
  have b0 : bt (oneS p ++ d) 0 = p := by
    rw [bt_one _ _ _ (by decide)]
    show (UInt8.ofNat p).toNat = p
    rw [UInt8.toNat_ofNat']; omega
  have b1 : bt (oneS p ++ d) (0 + 1) = 0 := by rw [bt_one _ _ _ (by decide)]; rfl
  have b2 : beAt (oneS p ++ d) (0 + 2) 2 = 0 := by
    unfold beAt oneS
    rw [ByteArray.toList_data_append]
    rfl
  generalize oneS p ++ d = L at *
  have hk2 : extB (k : Int) = true := by rcases hk with h | h | h | h <;> subst h <;> rfl
  by_cases h44 : k = 44
  · subst h44
    rw [show (8 : Nat) = 7 + 1 from rfl]
    show sk L (7 + 1) 0 44 false = _
    rw [sk_part _ _ _ _ (by omega), b2, b0, sk_no _ _ _ _ _ hx]; rfl
  · rw [show (8 : Nat) = 7 + 1 from rfl, sk_next _ _ _ _ _ hk2 (by omega) (by omega) (by rw [b1]; omega), b1, b0, sk_no _ _ _ _ _ hx]
theorem one_data (p : Nat) (d : ByteArray) : (oneS p ++ d).extract 8 (oneS p ++ d).size = d :=
  ByteArray.extract_append_eq_right rfl (by rw [ByteArray.size_append])

/-- One byte of a head, another one. -/
theorem mk_kind (a b : ByteArray) (p k h : Nat) (d : ByteArray) : (mkS a b p h d).extract 0 6 ++ (⟨#[UInt8.ofNat k]⟩ ++ (mkS a b p h d).extract 7 (mkS a b p h d).size) = mkS a b (k % 256) h d := by
  have e := mkS_hd a b p h d ByteArray.empty
  have e' := mkS_hd a b (k % 256) h d ByteArray.empty
  rw [ByteArray.append_empty] at e e'
  rw [e, e']
  generalize a ++ (b ++ (d ++ ByteArray.empty)) = X
  generalize hn : d.size = n
  have s8 := hdS_size n p h
  have l : (hdS n p h ++ X).size = 8 + X.size := by rw [ByteArray.size_append, s8]
  have hl : (hdS n p h ++ X).data.toList = [96, 0, 0, 0, UInt8.ofNat (n / 256 % 256), UInt8.ofNat (n % 256), UInt8.ofNat (p % 256), UInt8.ofNat (h % 256)] ++ X.data.toList := by rw [ByteArray.toList_data_append, hdS_list]
  have this : X.data.toList.length = X.size := rfl
  apply ByteArray.ext
  apply Array.ext'
  rw [ByteArray.toList_data_append, ByteArray.toList_data_append, ByteArray.toList_data_append, ByteArray.data_extract, ByteArray.data_extract, Array.toList_extract, Array.toList_extract, hl, hdS_list, l]
  show (List.drop 0 ([96, 0, 0, 0, UInt8.ofNat (n / 256 % 256), UInt8.ofNat (n % 256), UInt8.ofNat (p % 256), UInt8.ofNat (h % 256)] ++ X.data.toList)).take (6 - 0) ++ ([UInt8.ofNat k] ++ (List.drop 7 ([96, 0, 0, 0, UInt8.ofNat (n / 256 % 256), UInt8.ofNat (n % 256), UInt8.ofNat (p % 256), UInt8.ofNat (h % 256)] ++ X.data.toList)).take (8 + X.size - 7)) = _
  have f : (UInt8.ofNat k) = UInt8.ofNat (k % 256 % 256) := by
    apply UInt8.toNat_inj.1; rw [UInt8.toNat_ofNat', UInt8.toNat_ofNat']; omega
  rw [← f]
  simp only [List.cons_append, List.nil_append, List.drop_zero, List.take_succ_cons, List.take_zero, List.drop_succ_cons, Nat.sub_zero]
  rw [List.take_of_length_le (by simp only [List.length_cons]; omega)]

theorem blk6 {w : World} {g : Nat} {a0 a1 a2 a3 a4 a5 : Value} {t : TypeId} {fr : Nat × Nat} (h : w.heap[g]? = some (.cells #[a0, a1, a2, a3, a4, a5] t fr)) :
    g < w.heap.size ∧ w.cell? ⟨g, 0, none⟩ = some a0 ∧ w.cell? ⟨g, 1, none⟩ = some a1 ∧ w.cell? ⟨g, 2, none⟩ = some a2 ∧ w.cell? ⟨g, 3, none⟩ = some a3 ∧ w.cell? ⟨g, 4, none⟩ = some a4 ∧ w.cell? ⟨g, 5, none⟩ = some a5 :=
  ⟨blk_lt h, blk_cell h 0 _ rfl, blk_cell h 1 _ rfl, blk_cell h 2 _ rfl, blk_cell h 3 _ rfl, blk_cell h 4 _ rfl, blk_cell h 5 _ rfl⟩
theorem one_nums (p : Nat) (hp : p ≤ 255) : strOfNums [(p : Int), 0, 0, 0, 0, 0, 0, 0] = oneS p := by
  unfold strOfNums oneS
  simp
theorem str_new8 (x : Int) (c g : Nat) (w : World) (hg : g = w.heap.size) :
    (convert 44 9 (.slice (some ⟨g, 0, none⟩) 8 c)).run Try.prog (w.alloc (.cells #[.int .u8 x, .int .u8 0, .int .u8 0, .int .u8 0, .int .u8 0, .int .u8 0, .int .u8 0, .int .u8 0] 5)) = .ok (.string (strOfNums [x, 0, 0, 0, 0, 0, 0, 0])) (w.alloc (.cells #[.int .u8 x, .int .u8 0, .int .u8 0, .int .u8 0, .int .u8 0, .int .u8 0, .int .u8 0, .int .u8 0] 5)) :=
  str_new [x, 0, 0, 0, 0, 0, 0, 0] 8 c _ w rfl hg
theorem one_kind (k : Nat) : strOfNums [(k : Int)] = ⟨#[UInt8.ofNat k]⟩ := by
  unfold strOfNums
  simp
/-- What is made with an extension ahead of its Data is read as it was. -/
theorem rd_ext (A B : ByteArray) (p h : Nat) (D : ByteArray) (kk : Nat) (e1 : A.size = 16) (e2 : B.size = 16) (hp : p ≤ 255) (hx : extB (p : Int) = false) (hh : h ≤ 255) (hd : D.size ≤ 900) (hk : kk = 0 ∨ kk = 43 ∨ kk = 60 ∨ kk = 44) (T : ByteArray) (hT : T = mkS A B 59 h (strOfNums [(p : Int), 0, 0, 0, 0, 0, 0, 0] ++ D)) :
    rdV (T.extract 0 6 ++ strOfNums [(kk : Int)] ++ T.extract 7 T.size) = (((A, B, (p : Int), (h : Int), false, D), 0) : (ByteArray × ByteArray × Int × Int × Bool × ByteArray) × Int) := by
  subst hT
  have hs : (oneS p).size = 8 := rfl
  have hz : (oneS p ++ D).size = 8 + D.size := by rw [ByteArray.size_append, hs]
  rw [one_nums p hp, one_kind, ByteArray.append_assoc, mk_kind, Nat.mod_eq_of_lt (by omega)]
  have := rd_mk A B kk h (oneS p ++ D) ByteArray.empty e1 e2 (by omega) hh (by rw [hz]; have : ByteArray.empty.size = 0 := rfl; omega) 8 p false (sk_one p kk D hp hx hk) (by omega)
  rw [ByteArray.append_empty, one_data] at this
  exact this
theorem rd_extI (A B : ByteArray) (p h : Nat) (D : ByteArray) (kk : Int) (e1 : A.size = 16) (e2 : B.size = 16) (hp : p ≤ 255) (hx : extB (p : Int) = false) (hh : h ≤ 255) (hd : D.size ≤ 900) (hk : kk = 0 ∨ kk = 43 ∨ kk = 60 ∨ kk = 44) (T : ByteArray) (hT : T = mkS A B 59 h (strOfNums [(p : Int), 0, 0, 0, 0, 0, 0, 0] ++ D)) :
    rdV (T.extract 0 6 ++ strOfNums [kk] ++ T.extract 7 T.size) = (((A, B, (p : Int), (h : Int), false, D), 0) : (ByteArray × ByteArray × Int × Int × Bool × ByteArray) × Int) := by
  obtain ⟨n, rfl⟩ := Int.eq_ofNat_of_zero_le (a := kk) (by omega)
  exact rd_ext A B p h D n e1 e2 hp hx hh hd (by omega) T hT
theorem fits_ext {A B : ByteArray} {p h : Nat} {D : ByteArray} (e1 : A.size = 16) (e2 : B.size = 16) (hh : h ≤ 255) (hd : D.size ≤ 900) : fitsB A B ((59 : Nat) : Int) (h : Int) false (strOfNums [(p : Int), 0, 0, 0, 0, 0, 0, 0] ++ D) = true := by
  have : (strOfNums [(p : Int), 0, 0, 0, 0, 0, 0, 0] ++ D).size = 8 + D.size := by rw [ByteArray.size_append, strOfNums_size]; rfl
  unfold fitsB
  rw [decide_eq_true_eq]
  exact ⟨e1, e2, by decide, by decide, by decide, by omega, by omega, rfl, by omega⟩
theorem size_ext (A B : ByteArray) (p h : Nat) (D : ByteArray) (e1 : A.size = 16) (e2 : B.size = 16) : (mkS A B 59 h (strOfNums [(p : Int), 0, 0, 0, 0, 0, 0, 0] ++ D)).size = 48 + D.size := by
  rw [mkS_size, ByteArray.size_append, strOfNums_size, e1, e2]
  show 8 + 16 + 16 + (8 + D.size) = _
  omega
end Go.Proofs.Ytpalmjejihakeaa
