/- The chapter's example. -/
import Derived.Test.YthbcgdogmkgebaaFind
namespace Go.Proofs.Ythbcgdogmkgebaa
open Go.RowKit

abbrev L3 : List (List Ar) := [[(1, 2)], [(2, 2)], []]
abbrev G3 : List Bool := [false, false, false]
theorem arcsL_mem {ls : List (List Ar)} {v u c : Int} (h : (u, c) ∈ arcsL ls v) : ∃ (n : Nat) (l : List Ar), v = (n : Int) ∧ ls[n]? = some l ∧ (u, c) ∈ l := by
  unfold arcsL at h
  split at h
  · rename_i h0
    rw [List.getD_eq_getElem?_getD] at h
    cases hr : ls[v.toNat]? with
    | none => rw [hr] at h; simp at h
    | some row =>
      rw [hr] at h
      exact ⟨v.toNat, row, by omega, hr, h⟩
  · simp at h
theorem alive_reach {k : Nat} {v x : Int} (h : Reach (arcsL L3) (goneL G3) 0 k v x) : (v = 0 ∧ x = 0) ∨ (v = 1 ∧ x = 2) ∨ (v = 2 ∧ x = 4) := by
  induction h with
  | start => exact .inl ⟨rfl, rfl⟩
  | arc h1 h2 h3 ih =>
    obtain ⟨n, l, rfl, hl, hm⟩ := arcsL_mem h2
    rcases ih with ⟨a, b⟩ | ⟨a, b⟩ | ⟨a, b⟩
    · obtain rfl : n = 0 := by omega
      simp at hl
      subst hl
      simp at hm
      omega
    · obtain rfl : n = 1 := by omega
      simp at hl
      subst hl
      simp at hm
      omega
    · obtain rfl : n = 2 := by omega
      simp at hl
      subst hl
      simp at hm
theorem alive_way : Reach (arcsL L3) (goneL G3) 0 2 2 4 :=
  .arc (v := 1) (x := 2) (c := 2) (.arc (v := 0) (x := 0) (c := 2) .start (by decide) (by decide)) (by decide) (by decide)
theorem alive_found {w w' : World} {e : Ending} (h : FindE 3 3 L3 G3 0 2 5 3 3 w e w') : e = .returned (.tuple #[u64 4, .bool true]) ∧ Grew w w' := by
  obtain ⟨x, is, he, hk, h0, h1, h2, h3, h4⟩ := h.1 ⟨by decide, ⟨by decide, by decide⟩, ⟨by decide, by decide⟩, by decide⟩
  cases is with
  | false =>
    rcases h4 rfl (by decide) with h | h
    · exact absurd h (by decide)
    · have := h 2 4 alive_way
      omega
  | true =>
    obtain ⟨_, _, _, k, _, hr⟩ := h2 rfl
    rcases alive_reach hr with ⟨a, _⟩ | ⟨a, _⟩ | ⟨_, b⟩
    · omega
    · omega
    · subst b
      exact ⟨he, hk⟩

theorem info_bool : (Try.prog.info? 4).map (fun i => (i.zero, i.size, i.bytes)) = some (some (.bool false), 1, 1) := by kernel_rfl
set_option maxHeartbeats 4000000 in
set_option maxRecDepth 100000 in
theorem alive_any (w : World) : Calls Try.prog 7 #[] w fun e w' => e = .returned (.bool true) ∧ Grew w w' := by
  obtain ⟨i0, hi, hz0, hz1, hz2⟩ := info_parts info_bool
  have hmk := fun W => run_make (P := Try.prog) W 23 4 i0 _ Try.underlying23 hi hz0 .i64 .i64 3 3 (by omega) (Int.le_refl _) (by rw [hz2]; omega) (by omega)
  simp only [hz1, show (3 : Int).toNat = 3 from rfl] at hmk
  have hmc : madeCells (Value.bool false).cells (3 * 1) = #[Value.bool false, Value.bool false, Value.bool false] := by kernel_rfl
  simp only [hmc] at hmk
  clear hi hz0 hz1 hz2
  have b1 := Blk.new w 56 #[i64 1, u64 2]
  obtain ⟨w1, hw1⟩ : ∃ W, w.alloc (.cells #[i64 1, u64 2] 56) = W := ⟨_, rfl⟩
  have b2 := Blk.new w1 56 #[i64 2, u64 2]
  have k1 : Grew w w1 := hw1 ▸ (Kept.refl _ _).alloc _
  rw [hw1] at b1
  obtain ⟨w2, hw2⟩ : ∃ W, w1.alloc (.cells #[i64 2, u64 2] 56) = W := ⟨_, rfl⟩
  have k2 : Grew w1 w2 := hw2 ▸ (Kept.refl _ _).alloc _
  rw [hw2] at b2
  have b3 := Blk.new w2 48 #[.slice (some ⟨w.heap.size, 0, none⟩) 1 1, .slice (some ⟨w1.heap.size, 0, none⟩) 1 1, .slice none 0 0]
  obtain ⟨w3, hw3⟩ : ∃ W, w2.alloc (.cells #[.slice (some ⟨w.heap.size, 0, none⟩) 1 1, .slice (some ⟨w1.heap.size, 0, none⟩) 1 1, .slice none 0 0] 48) = W := ⟨_, rfl⟩
  have k3 : Grew w2 w3 := hw3 ▸ (Kept.refl _ _).alloc _
  rw [hw3] at b3
  have b4 := Blk.new w3 4 #[.bool false, .bool false, .bool false]
  obtain ⟨w4, hw4⟩ : ∃ W, w3.alloc (.cells #[.bool false, .bool false, .bool false] 4) = W := ⟨_, rfl⟩
  have k4 : Grew w3 w4 := hw4 ▸ (Kept.refl _ _).alloc _
  rw [hw4] at b4
  have kk := ((k1.trans k2).trans k3).trans k4
  have B1 := b1.grew ((k2.trans k3).trans k4)
  have B2 := b2.grew (k3.trans k4)
  have B3 := b3.grew k4
  have hN : RowN w4 (some ⟨w2.heap.size, 0, none⟩) L3 := by
    intro i l hl
    have hi := (List.getElem?_eq_some_iff.1 hl).1
    simp only [List.length_cons, List.length_nil] at hi
    rcases (show i = 0 ∨ i = 1 ∨ i = 2 by omega) with rfl | rfl | rfl
    · simp at hl
      subst hl
      refine ⟨_, _, _, _, rfl, B3.lt, B3.cell 0, fun j e hj => ?_⟩
      have hj0 := (List.getElem?_eq_some_iff.1 hj).1
      simp only [List.length_cons, List.length_nil] at hj0
      obtain rfl : j = 0 := by omega
      simp at hj
      subst hj
      exact ⟨_, _, rfl, B1.lt, B1.cell 0, B1.cell 1⟩
    · simp at hl
      subst hl
      refine ⟨_, _, _, _, rfl, B3.lt, B3.cell 1, fun j e hj => ?_⟩
      have hj0 := (List.getElem?_eq_some_iff.1 hj).1
      simp only [List.length_cons, List.length_nil] at hj0
      obtain rfl : j = 0 := by omega
      simp at hj
      subst hj
      exact ⟨_, _, rfl, B2.lt, B2.cell 0, B2.cell 1⟩
    · simp at hl
      subst hl
      exact ⟨_, _, _, _, rfl, B3.lt, B3.cell 2, RowA.nil _ _⟩
  have hG : RowB w4 (some ⟨w3.heap.size, 0, none⟩) G3 := by
    intro i g hg
    have hi := (List.getElem?_eq_some_iff.1 hg).1
    simp only [List.length_cons, List.length_nil] at hi
    rcases (show i = 0 ∨ i = 1 ∨ i = 2 by omega) with rfl | rfl | rfl
    · simp at hg
      subst hg
      exact ⟨_, _, rfl, b4.lt, b4.cell 0⟩
    · simp at hg
      subst hg
      exact ⟨_, _, rfl, b4.lt, b4.cell 1⟩
    · simp at hg
      subst hg
      exact ⟨_, _, rfl, b4.lt, b4.cell 2⟩
  have hF := Lib.hid ((find_any _ _ 3 3 3 3 L3 G3 0 2 5 3 3 w4 hN hG rfl rfl (by omega) (by omega) (by decide) (by omega)).mono fun e w' h => alive_found h)
  clear hN hG B1 B2 B3 b4 b1 b2 b3 k1 k2 k3 k4
  go_enter Try.func7, Try.ntmps7
  go_wp2_with fail
  refine hF.out.mono ?_
  rintro e w5 ⟨rfl, k5⟩
  go_wp2_with fail
  go_ret
  exact ⟨rfl, kk.trans k5⟩
end Go.Proofs.Ythbcgdogmkgebaa
