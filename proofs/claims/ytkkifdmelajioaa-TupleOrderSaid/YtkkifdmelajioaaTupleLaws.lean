/- The statements of chapter 11: fixed calls, and TupleHashes. -/
import Derived.Test.YtkkifdmelajioaaTupleOf
namespace Go.Proofs.Ytkkifdmelajioaa
open Go.RowKit

set_option maxHeartbeats 1000000 in
theorem plain_any (A : ByteArray) (p : Int) (B : ByteArray) (q : Int) (w : World) :
    Calls Try.prog 12 #[.agg #[.string A, .int .i64 p, .string B, .int .i64 q]] w fun e w' => e = .returned (.agg #[.string A, .int .i64 p, .string B, .int .i64 q]) ∧ Below w.heap.size w w' := by
  go_enter Try.func12, Try.ntmps12
  go_wp2
  exact bodyPost_ret (v := .agg #[.string A, .int .i64 p, .string B, .int .i64 q]) (by simp [results, Try.results12, go_sem]) rfl ⟨rfl, below_alloc (below_alloc (Below.refl _ _) _) _⟩

theorem kn_less : lessV ⟨#[10, 0, 0, 1]⟩ 9 ⟨#[10, 0, 0, 2]⟩ 80 = true := by decide +kernel
theorem kn_less2 : lessV ⟨#[10, 0, 0, 2]⟩ 80 ⟨#[10, 0, 0, 1]⟩ 9 = false := by decide +kernel
theorem kn_right : rightP ⟨#[10, 0, 0, 1]⟩ 9 ⟨#[10, 0, 0, 2]⟩ 80 = true := by decide +kernel
theorem kn_right0 : rightP ⟨#[]⟩ 0 ⟨#[]⟩ 0 = false := by decide +kernel
theorem kn_show : showP ⟨#[10, 0, 0, 1]⟩ 9 ⟨#[10, 0, 0, 2]⟩ 80 = ⟨#[49, 48, 46, 48, 46, 48, 46, 49, 46, 57, 32, 49, 48, 46, 48, 46, 48, 46, 50, 46, 56, 48]⟩ := by decide +kernel
theorem kn_hash : hashV ⟨#[10, 0, 0, 1]⟩ 9 ⟨#[10, 0, 0, 2]⟩ 80 1 = 0 := by
  rw [hashV_yes (by decide), Int.emod_one]
theorem kshow_any (w : World) :
    Calls Try.prog 15 #[.agg #[.string ⟨#[10, 0, 0, 1]⟩, .int .i64 9, .string ⟨#[10, 0, 0, 2]⟩, .int .i64 80]] w fun e w' => e = .returned (.string ⟨#[49, 48, 46, 48, 46, 48, 46, 49, 46, 57, 32, 49, 48, 46, 48, 46, 48, 46, 50, 46, 56, 48]⟩) ∧ Below w.heap.size w w' := by
  rw [← kn_show]
  exact showP_yes ⟨#[10, 0, 0, 1]⟩ 9 ⟨#[10, 0, 0, 2]⟩ 80 w kn_right

set_option maxRecDepth 100000 in
set_option maxHeartbeats 4000000 in
theorem tupKnown_any (w : World) :
    Calls Try.prog 9 #[] w fun e w' => e = .returned (.bool true) ∧ Below w.heap.size w w' := by
  have hB := Below.refl w.heap.size w
  have zA : (⟨#[10, 0, 0, 1]⟩ : ByteArray).size = 4 := rfl
  have zB : (⟨#[10, 0, 0, 2]⟩ : ByteArray).size = 4 := rfl
  go_enter Try.func9, Try.ntmps9
  go_wp2_with (go_at_call 10; with_reducible refine (of_yes ⟨#[10, 0, 0, 2]⟩ ⟨#[10, 0, 0, 1]⟩ 80 9 _ _ _ _ _ _ _ _ _ _ _ _ _ _ kn_less).mono ?_; rintro e w1 ⟨rfl, hb1⟩; replace hB := below_on hb1 hB)
  have hK := blk_new w1 (.cells #[.string ⟨#[10, 0, 0, 1]⟩, .int .i64 9, .string ⟨#[10, 0, 0, 2]⟩, .int .i64 80] 35)
  obtain ⟨lk, k0, k1, k2, k3, -, -, -, -⟩ := blk4 hK
  have hB2 := below_alloc hB (.cells #[.string ⟨#[10, 0, 0, 1]⟩, .int .i64 9, .string ⟨#[10, 0, 0, 2]⟩, .int .i64 80] 35)
  clear hb1
  generalize World.alloc w1 (.cells #[.string ⟨#[10, 0, 0, 1]⟩, .int .i64 9, .string ⟨#[10, 0, 0, 2]⟩, .int .i64 80] 35) = W at *
  clear hK hB
  go_region_held3 (fun w' => Below W.heap.size W w' ∧ ∀ b o, b < W.heap.size → w'.cell? ⟨b, o, none⟩ = W.cell? ⟨b, o, none⟩)
    ((apply held_of; repeat (first | exact Below.refl _ _ | exact And.left (by assumption) | with_reducible apply below_drew | with_reducible apply below_alloc | (with_reducible refine below_on (by assumption) ?_))))
    (first
      | (go_at_call 15; with_reducible refine (kshow_any _).mono ?_; rintro e w2 ⟨rfl, hb2⟩)
      | (go_at_call 15; with_reducible refine (showP_no ⟨#[]⟩ 0 ⟨#[]⟩ 0 _ kn_right0).mono ?_; rintro e w2 ⟨rfl, hb2⟩)
      | (go_at_call 13; with_reducible refine (rightP_any ⟨#[10, 0, 0, 1]⟩ 9 ⟨#[10, 0, 0, 2]⟩ 80 _).mono ?_; rw [kn_right]; rintro e w2 ⟨rfl, hb2⟩)
      | (go_at_call 13; with_reducible refine (rightP_any ⟨#[]⟩ 0 ⟨#[]⟩ 0 _).mono ?_; rw [kn_right0]; rintro e w2 ⟨rfl, hb2⟩)
      | (go_at_call 19; with_reducible refine (less_any ⟨#[10, 0, 0, 1]⟩ 9 ⟨#[10, 0, 0, 2]⟩ 80 _).mono ?_; rw [kn_less]; rintro e w2 ⟨rfl, hb2⟩)
      | (go_at_call 19; with_reducible refine (less_any ⟨#[10, 0, 0, 2]⟩ 80 ⟨#[10, 0, 0, 1]⟩ 9 _).mono ?_; rw [kn_less2]; rintro e w2 ⟨rfl, hb2⟩)
      | (go_at_call 17; with_reducible refine (hash_any ⟨#[10, 0, 0, 1]⟩ 9 ⟨#[10, 0, 0, 2]⟩ 80 1 _ (by rw [zA]; decide) (by rw [zB]; decide) (by decide)).mono ?_; rw [kn_hash]; rintro e w2 ⟨rfl, hb2⟩)
      | (go_at_call 17; with_reducible refine (hash_any ⟨#[10, 0, 0, 1]⟩ 9 ⟨#[10, 0, 0, 2]⟩ 80 1000 _ (by rw [zA]; decide) (by rw [zB]; decide) (by decide)).mono ?_; rintro e w2 ⟨rfl, hb2⟩)
      | (go_at_call 12; with_reducible refine (plain_any _ _ _ _ _).mono ?_; rintro e w2 ⟨rfl, hb2⟩)
      | (go_at_call 18; with_reducible refine (refHash_any ⟨#[10, 0, 0, 1]⟩ 9 ⟨#[10, 0, 0, 2]⟩ 80 1000 _ (by rw [zA]; decide) (by rw [zB]; decide) (by decide)).mono ?_; rintro e w2 ⟨rfl, hb2⟩))
  go_wp2
  go_ret
  exact ⟨rfl, below_on (And.left (by assumption)) hB2⟩

end Go.Proofs.Ytkkifdmelajioaa
