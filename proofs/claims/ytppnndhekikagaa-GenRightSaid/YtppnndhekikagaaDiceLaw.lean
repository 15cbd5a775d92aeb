/- The chapter's example comes; the law GenDice is walked. -/
import Derived.Test.YtppnndhekikagaaRing
namespace Go.Proofs.Ytppnndhekikagaa
open Go.RowKit

set_option maxHeartbeats 1000000 in
set_option maxRecDepth 100000 in
theorem alive_any (w : World) : Calls Try.prog 7 #[] w fun e w' => e = .returned (.bool true) ∧ Grew w w' := by
  have hr := Lib.hid (ring_yes 2 5 w (by decide) (by decide) (by decide) (by decide))
  have ht : told 1 = 908834774 := by decide
  go_enter Try.func7, Try.ntmps7
  go_wp2_with fail
  refine hr.out.mono ?_
  rintro e w1 ⟨v, rfl, hown, hK⟩
  obtain ⟨g, c, rfl⟩ := own_form hown (by decide)
  have hc3 := hown.cellAt 3 (by decide)
  have hc4 := hown.cellAt 4 (by decide)
  have hc5 := hown.cellAt 5 (by decide)
  have hlen : (ringL 2 5 2).length = 2 := rfl
  simp [ringL, List.range, List.range.loop, cellsOf, edgeCells] at hc3 hc4 hc5
  simp only [hlen] at hown
  go_wp2_with fail
  refine (new_any _ _).mono ?_
  rintro e w2 ⟨rfl, rfl⟩
  obtain ⟨W, hW⟩ : ∃ W, (w1.alloc (.cells #[i64 2, .slice (some ⟨g, 0, none⟩) 2 c] 37)).alloc (.cells #[u64 1] 55) = W := ⟨_, rfl⟩
  have hKW : Grew w1 W := by rw [← hW]; exact ((Kept.refl _ _).alloc _).alloc _
  have hc3' := hKW.cell hc3
  have hc4' := hKW.cell hc4
  have hc5' := hKW.cell hc5
  have hB : Blk W w1.heap.size 37 #[i64 2, .slice (some ⟨g, 0, none⟩) 2 c] := by rw [← hW]; exact (Blk.new w1 _ _).alloc _
  have hD : Blk W (w1.heap.size + 1) 55 #[u64 1] := by rw [← hW]; simpa using Blk.new (w1.alloc (.cells #[i64 2, .slice (some ⟨g, 0, none⟩) 2 c] 37)) 55 #[u64 1]
  have hN := Lib.hid (next_any _ 1 W hD)
  rw [ht] at hN
  have hb0 := hB.cell 0
  have hb1 := hB.cell 1
  simp at hb0 hb1
  simp only [World.size_alloc] at *
  rw [hW]
  clear hW hB hc3 hc4 hc5 ht
  go_wp2_with fail
  refine hN.out.mono ?_
  rintro e w3 ⟨rfl, rfl⟩
  go_wp2_with fail
  go_ret
  refine ⟨rfl, ?_⟩
  exact ((hK.trans hKW).setCell (p := ⟨w1.heap.size + 1, 0, none⟩) (.inr (Nat.le_trans hK.size (Nat.le_succ _))) _)

/-- A slice of integers whose cells are z. -/
def RowI (w : World) (A : Option Addr) (len : Nat) (z : Nat → Int) : Prop :=
  ∀ i, i < len → ∃ b off, A = some ⟨b, off, none⟩ ∧ w.cell? ⟨b, off + i, none⟩ = some (i64 (z i)) ∧ -9223372036854775808 ≤ z i ∧ z i ≤ 9223372036854775807

set_option maxHeartbeats 1000000 in
set_option maxRecDepth 100000 in
theorem dice_law (x : Int) (A : Option Addr) (len cap : Nat) (z : Nat → Int) (w : World) (hz : RowI w A len z) (hl : len ≤ 9223372036854775807) :
    Calls Try.prog 3 #[u64 x, .slice A len cap] w fun e w' => e = .returned (.bool true) ∧ Grew w w' := by
  have hA := Lib.hid alive_any
  rcases Nat.lt_or_ge 100 len with h100 | h100
  · go_enter Try.func3, Try.ntmps3
    go_wp2_with (go_at_call 7; refine (hA.out _).mono ?_; rintro e w' ⟨rfl, hK⟩)
    go_ret
    exact ⟨rfl, hK⟩
  · go_enter Try.func3, Try.ntmps3
    go_wp2_with (go_at_call 8; refine (new_any _ _).mono ?_; rintro e w1 ⟨rfl, rfl⟩)
    go_loopw [6, 7] (fun y i wr => ∃ (k : Nat) (s : Int), k ≤ len ∧ i = .int .i64 k ∧ y = u64 s ∧ Blk wr w.heap.size 55 #[u64 s] ∧ Grew w wr) (fun _ i _ => len - (intOf i).toNat)
    case atStart => exact ⟨0, x, by omega, rfl, rfl, Blk.new _ _ _, (Kept.refl _ _).alloc _⟩
    case round =>
      obtain ⟨k, s, hk, rfl, rfl, hB, hK⟩ := hrel
      by_cases hlt : k < len
      · obtain ⟨b, off, rfl, hc, hz1, hz2⟩ := hz k hlt
        have hc1 := hK.cell hc
        have hR := Lib.hid (refBelow_any s (z k) wr hz2)
        clear hz
        go_wp2_with fail
        refine hR.out.mono ?_
        rintro e w2 ⟨rfl, hK2⟩
        have hc2 := hK2.cell hc1
        have hD := Lib.hid (below_any w.heap.size s (z k) w2 (hB.grew hK2) hz2)
        go_wp2_with fail
        refine hD.out.mono ?_
        rintro e w3 ⟨rfl, hB3, hK3⟩
        go_wp2_with fail
        go_roundw
        case rel => exact ⟨k + 1, _, by omega, by go_num, rfl, hB3, (hK.grew hK2).then hK3 (fun i h1 h2 => by omega)⟩
        case measure => simp [intOf]; omega
      · have hN := Lib.hid (next_any _ _ wr hB)
        have hn1 := Lib.hid (refNext_any s wr)
        have hK3 : Grew w (wr.setCell ⟨w.heap.size, 0, none⟩ (u64 (nxt s))) := hK.setCell (p := ⟨w.heap.size, 0, none⟩) (.inr (Nat.le_refl _)) _
        go_wp2_with fail
        refine hn1.out.mono ?_
        rintro e w2 ⟨rfl, rfl⟩
        go_wp2_with fail
        refine hN.out.mono ?_
        rintro e w2 ⟨rfl, rfl⟩
        go_wp2_with fail
        refine (next_nil _).mono ?_
        rintro e w2 ⟨rfl, rfl⟩
        go_wp2_with fail
        refine (below_nil _ _ (by omega) (by omega)).mono ?_
        rintro e w2 ⟨rfl, rfl⟩
        go_wp2_with fail
        refine (hA.out _).mono ?_
        rintro e w2 ⟨rfl, hK4⟩
        go_wp2_with fail
        go_ret
        exact ⟨rfl, hK3.trans hK4⟩
end Go.Proofs.Ytppnndhekikagaa
