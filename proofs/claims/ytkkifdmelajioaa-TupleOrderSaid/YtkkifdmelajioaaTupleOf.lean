/- The contracts of tuple's Of and Show, and of the fixed calls. -/
import Derived.Test.YtkkifdmelajioaaTupleHash
namespace Go.Proofs.Ytkkifdmelajioaa
open Go.RowKit

theorem blk_drewT {w : World} {g : Nat} {O : Obj} (h : w.heap[g]? = some O) : w.drew.heap[g]? = some O := h
theorem blk4 {w : World} {g : Nat} {a0 a1 a2 a3 : Value} {t : TypeId} (h : w.heap[g]? = some (.cells #[a0, a1, a2, a3] t (0, 0))) :
    g < w.heap.size ∧ w.cell? ⟨g, 0, none⟩ = some a0 ∧ w.cell? ⟨g, 1, none⟩ = some a1 ∧ w.cell? ⟨g, 2, none⟩ = some a2 ∧ w.cell? ⟨g, 3, none⟩ = some a3 ∧ w.frozen? ⟨g, 0, none⟩ = false ∧ w.frozen? ⟨g, 1, none⟩ = false ∧ w.frozen? ⟨g, 2, none⟩ = false ∧ w.frozen? ⟨g, 3, none⟩ = false :=
  ⟨blk_lt h, blk_cell h 0 _ rfl, blk_cell h 1 _ rfl, blk_cell h 2 _ rfl, blk_cell h 3 _ rfl, blk_free h 0, blk_free h 1, blk_free h 2, blk_free h 3⟩
set_option maxRecDepth 100000 in
set_option maxHeartbeats 2000000 in
theorem of_yes (A B : ByteArray) (p q : Int) (v4 v5 v6 v7 v8 v9 v10 v11 v12 v13 v14 v15 v16 : Value) (w : World) (h : lessV B q A p = true) :
    Calls Try.prog 10 #[.agg #[.string A, .string B, .int .i64 p, .int .i64 q, v4, v5, v6, v7, v8, v9, v10, v11, v12, v13, v14, v15, v16]] w fun e w' => e = .returned (.tuple #[.agg #[.string B, .int .i64 q, .string A, .int .i64 p], .bool false]) ∧ Below w.heap.size w w' := by
  have hB := below_alloc (below_alloc (Below.refl w.heap.size w) (.cells #[.string A, .string B, .int .i64 p, .int .i64 q, v4, v5, v6, v7, v8, v9, v10, v11, v12, v13, v14, v15, v16] 31)) (.cells #[.string ⟨#[]⟩, .int .i64 0, .string ⟨#[]⟩, .int .i64 0] 35)
  go_enter Try.func10, Try.ntmps10
  go_wp2
  have hK1 := blk_new w (.cells #[.string A, .string B, .int .i64 p, .int .i64 q, v4, v5, v6, v7, v8, v9, v10, v11, v12, v13, v14, v15, v16] 31)
  have hK := blk_alloc hK1 (.cells #[.string ⟨#[]⟩, .int .i64 0, .string ⟨#[]⟩, .int .i64 0] 35)
  have hR := blk_new (w.alloc (.cells #[.string A, .string B, .int .i64 p, .int .i64 q, v4, v5, v6, v7, v8, v9, v10, v11, v12, v13, v14, v15, v16] 31)) (.cells #[.string ⟨#[]⟩, .int .i64 0, .string ⟨#[]⟩, .int .i64 0] 35)
  have lk := blk_lt hK
  have k0 := blk_cell hK 0 _ rfl
  have k1 := blk_cell hK 1 _ rfl
  have k2 := blk_cell hK 2 _ rfl
  have k3 := blk_cell hK 3 _ rfl
  have hn : (w.alloc (.cells #[.string A, .string B, .int .i64 p, .int .i64 q, v4, v5, v6, v7, v8, v9, v10, v11, v12, v13, v14, v15, v16] 31)).heap.size = w.heap.size + 1 := by simp
  rw [hn] at hR
  have HR := Lib.hid hR
  generalize World.alloc (World.alloc w (.cells #[.string A, .string B, .int .i64 p, .int .i64 q, v4, v5, v6, v7, v8, v9, v10, v11, v12, v13, v14, v15, v16] 31)) (.cells #[.string ⟨#[]⟩, .int .i64 0, .string ⟨#[]⟩, .int .i64 0] 35) = W at *
  clear hK hK1 hn hR
  obtain ⟨lr, r0, r1, r2, r3, f0, f1, f2, f3⟩ := blk4 HR.out
  go_region_held3 (fun w' => Below W.heap.size W w' ∧ ∀ b o, b < W.heap.size → w'.cell? ⟨b, o, none⟩ = W.cell? ⟨b, o, none⟩)
    ((apply held_of; repeat (first | exact Below.refl _ _ | exact And.left (by assumption) | with_reducible apply below_drew | with_reducible apply below_alloc | (with_reducible refine below_on (by assumption) ?_) | refine below_setb (Nat.le_refl _) ?_ _ _ | refine below_setb (Nat.le_succ _) ?_ _ _)))
    (first | fail)
  all_goals
    go_wp2_with (go_at_call 19; with_reducible refine (less_any B q A p _).mono ?_; rw [h]; rintro e w1 ⟨rfl, hb1⟩; obtain ⟨hc, hz⟩ := bcell hb1)
  all_goals
    have HS := blk_below hb1 (by repeat (first | exact HR.out | with_reducible apply blk_drewT | with_reducible apply blk_alloc))
    obtain ⟨ls, s0, s1, s2, s3, x0, x1, x2, x3⟩ := blk4 HS
    refine bodyPost_ret (v := .tuple #[.agg #[.string B, .int .i64 q, .string A, .int .i64 p], .bool false]) (by simp [results, Try.results10, go_sem, ls, s0, s1, s2, s3, x0, x1, x2, x3]) rfl ⟨rfl, ?_⟩
    iterate 4 (refine below_setb (Nat.le_succ _) ?_ _ _)
    refine below_on hb1 ?_
    repeat (first | exact hB | with_reducible apply below_drew | with_reducible apply below_alloc)

set_option maxRecDepth 100000 in
set_option maxHeartbeats 2000000 in
theorem of_no (A B : ByteArray) (p q : Int) (v4 v5 v6 v7 v8 v9 v10 v11 v12 v13 v14 v15 v16 : Value) (w : World) (h : lessV B q A p = false) :
    Calls Try.prog 10 #[.agg #[.string A, .string B, .int .i64 p, .int .i64 q, v4, v5, v6, v7, v8, v9, v10, v11, v12, v13, v14, v15, v16]] w fun e w' => e = .returned (.tuple #[.agg #[.string A, .int .i64 p, .string B, .int .i64 q], .bool true]) ∧ Below w.heap.size w w' := by
  have hB := below_alloc (below_alloc (Below.refl w.heap.size w) (.cells #[.string A, .string B, .int .i64 p, .int .i64 q, v4, v5, v6, v7, v8, v9, v10, v11, v12, v13, v14, v15, v16] 31)) (.cells #[.string ⟨#[]⟩, .int .i64 0, .string ⟨#[]⟩, .int .i64 0] 35)
  go_enter Try.func10, Try.ntmps10
  go_wp2
  have hK1 := blk_new w (.cells #[.string A, .string B, .int .i64 p, .int .i64 q, v4, v5, v6, v7, v8, v9, v10, v11, v12, v13, v14, v15, v16] 31)
  have hK := blk_alloc hK1 (.cells #[.string ⟨#[]⟩, .int .i64 0, .string ⟨#[]⟩, .int .i64 0] 35)
  have hR := blk_new (w.alloc (.cells #[.string A, .string B, .int .i64 p, .int .i64 q, v4, v5, v6, v7, v8, v9, v10, v11, v12, v13, v14, v15, v16] 31)) (.cells #[.string ⟨#[]⟩, .int .i64 0, .string ⟨#[]⟩, .int .i64 0] 35)
  have lk := blk_lt hK
  have k0 := blk_cell hK 0 _ rfl
  have k1 := blk_cell hK 1 _ rfl
  have k2 := blk_cell hK 2 _ rfl
  have k3 := blk_cell hK 3 _ rfl
  have hn : (w.alloc (.cells #[.string A, .string B, .int .i64 p, .int .i64 q, v4, v5, v6, v7, v8, v9, v10, v11, v12, v13, v14, v15, v16] 31)).heap.size = w.heap.size + 1 := by simp
  rw [hn] at hR
  have HR := Lib.hid hR
  generalize World.alloc (World.alloc w (.cells #[.string A, .string B, .int .i64 p, .int .i64 q, v4, v5, v6, v7, v8, v9, v10, v11, v12, v13, v14, v15, v16] 31)) (.cells #[.string ⟨#[]⟩, .int .i64 0, .string ⟨#[]⟩, .int .i64 0] 35) = W at *
  clear hK hK1 hn hR
  obtain ⟨lr, r0, r1, r2, r3, f0, f1, f2, f3⟩ := blk4 HR.out
  go_region_held3 (fun w' => Below W.heap.size W w' ∧ ∀ b o, b < W.heap.size → w'.cell? ⟨b, o, none⟩ = W.cell? ⟨b, o, none⟩)
    ((apply held_of; repeat (first | exact Below.refl _ _ | exact And.left (by assumption) | with_reducible apply below_drew | with_reducible apply below_alloc | (with_reducible refine below_on (by assumption) ?_) | refine below_setb (Nat.le_refl _) ?_ _ _ | refine below_setb (Nat.le_succ _) ?_ _ _)))
    (first | fail)
  all_goals
    go_wp2_with (go_at_call 19; with_reducible refine (less_any B q A p _).mono ?_; rw [h]; rintro e w1 ⟨rfl, hb1⟩; obtain ⟨hc, hz⟩ := bcell hb1)
  all_goals
    have HS := blk_below hb1 (by repeat (first | exact HR.out | with_reducible apply blk_drewT | with_reducible apply blk_alloc))
    obtain ⟨ls, s0, s1, s2, s3, x0, x1, x2, x3⟩ := blk4 HS
    refine bodyPost_ret (v := .tuple #[.agg #[.string A, .int .i64 p, .string B, .int .i64 q], .bool true]) (by simp [results, Try.results10, go_sem, ls, s0, s1, s2, s3, x0, x1, x2, x3]) rfl ⟨rfl, ?_⟩
    iterate 4 (refine below_setb (Nat.le_succ _) ?_ _ _)
    refine below_on hb1 ?_
    repeat (first | exact hB | with_reducible apply below_drew | with_reducible apply below_alloc)

/-- A pair as text. -/
def showP (A : ByteArray) (p : Nat) (B : ByteArray) (q : Nat) : ByteArray := endT A p ++ ⟨#[32]⟩ ++ endT B q

set_option maxRecDepth 100000 in
set_option maxHeartbeats 2000000 in
theorem showP_no (A : ByteArray) (p : Int) (B : ByteArray) (q : Int) (w : World) (h : rightP A p B q = false) :
    Calls Try.prog 15 #[.agg #[.string A, .int .i64 p, .string B, .int .i64 q]] w fun e w' => e = .returned (.string ⟨#[]⟩) ∧ Below w.heap.size w w' := by
  have hB := below_alloc (Below.refl w.heap.size w) (.cells #[.string A, .int .i64 p, .string B, .int .i64 q] 35)
  go_enter Try.func15, Try.ntmps15
  go_wp2_with (go_at_call 13; with_reducible refine (rightP_any A p B q _).mono ?_; rw [h]; rintro e w1 ⟨rfl, hb1⟩; replace hB := below_on hb1 hB)
  go_ret
  exact ⟨rfl, hB⟩
theorem rightP_out {A B : ByteArray} {p q : Int} (h : rightP A p B q = true) : A.size = B.size ∧ rightA A.size = true ∧ rightA B.size = true ∧ 0 ≤ p ∧ p ≤ 65535 ∧ 0 ≤ q ∧ q ≤ 65535 := by
  unfold rightP endB at h
  simp only [Bool.and_eq_true, decide_eq_true_eq] at h
  obtain ⟨⟨⟨h1, ⟨h2, h3⟩, h4⟩, ⟨h5, h6⟩, h7⟩, h8⟩ := h
  exact ⟨h1, h2, h5, h3, h4, h6, h7⟩

set_option maxRecDepth 100000 in
set_option maxHeartbeats 2000000 in
theorem showP_yes (A : ByteArray) (p : Nat) (B : ByteArray) (q : Nat) (w : World) (h : rightP A p B q = true) :
    Calls Try.prog 15 #[.agg #[.string A, .int .i64 p, .string B, .int .i64 q]] w fun e w' => e = .returned (.string (showP A p B q)) ∧ Below w.heap.size w w' := by
  have hB := below_alloc (Below.refl w.heap.size w) (.cells #[.string A, .int .i64 p, .string B, .int .i64 q] 35)
  have hK := Lib.hid (blk_new w (.cells #[.string A, .int .i64 p, .string B, .int .i64 q] 35))
  obtain ⟨-, e2, e3, e4, e5, e6, e7⟩ := rightP_out h
  have z1 := endT_size A p
  have z2 := endT_size B q
  have z3 : (⟨#[32]⟩ : ByteArray).size = 1 := rfl
  have c1 : ¬ 9223372036854775807 < (endT A p).size + 1 := by omega
  have c2 : ¬ 9223372036854775807 < (endT A p).size + 1 + (endT B q).size := by omega
  have p1 : p ≤ 65535 := by omega
  have q1 : q ≤ 65535 := by omega
  clear e4 e5 e6 e7
  go_enter Try.func15, Try.ntmps15
  go_wp2_with (go_at_call 13; with_reducible refine (rightP_any A p B q _).mono ?_; rw [h]; rintro e w1 ⟨rfl, hb1⟩; replace hB := below_on hb1 hB; replace hK := Lib.hid (blk_below hb1 hK.out))
  have lk := blk_lt hK.out
  have k0 := blk_cell hK.out 0 _ rfl
  have k1 := blk_cell hK.out 1 _ rfl
  have k2 := blk_cell hK.out 2 _ rfl
  have k3 := blk_cell hK.out 3 _ rfl
  clear hb1
  go_region_held3 (fun w' => Below w1.heap.size w1 w' ∧ ∀ b o, b < w1.heap.size → w'.cell? ⟨b, o, none⟩ = w1.cell? ⟨b, o, none⟩)
    ((apply held_of; repeat (first | exact Below.refl _ _ | exact And.left (by assumption) | with_reducible apply below_drew | with_reducible apply below_alloc | (with_reducible refine below_on (by assumption) ?_))))
    (first
      | (go_at_call 24; with_reducible refine (endShow_any A p _ e2 p1).mono ?_; rintro e w2 ⟨rfl, hb2⟩)
      | (go_at_call 24; with_reducible refine (endShow_any B q _ e3 q1).mono ?_; rintro e w2 ⟨rfl, hb2⟩))
  go_wp2
  go_ret
  exact ⟨rfl, below_on (And.left (by assumption)) hB⟩

end Go.Proofs.Ytkkifdmelajioaa
