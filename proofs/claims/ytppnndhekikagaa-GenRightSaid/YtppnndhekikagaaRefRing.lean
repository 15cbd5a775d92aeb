/- The ring of any numbers: the document's walk. -/
import Derived.Test.YtppnndhekikagaaRing
namespace Go.Proofs.Ytppnndhekikagaa
open Go.RowKit

set_option maxHeartbeats 1000000 in
set_option maxRecDepth 100000 in
theorem refRing_yes (n : Nat) (wt : Int) (w : World) (h1 : 2 ≤ n) (h2 : n ≤ 4096) (h3 : 1 ≤ wt) (h4 : wt ≤ 4294967296) :
    Calls Try.prog 18 #[i64 n, u64 wt] w fun e w' => ∃ v, e = .returned (.tuple #[.agg #[i64 n, v], i64 0]) ∧ Edges w' w.heap.size v (ringL n wt n) ∧ Grew w w' := by
  obtain ⟨i0, hi, hz0, hz1, hz2⟩ := info_parts info_edge
  go_enter Try.func18, Try.ntmps18
  go_wp2
  go_loopw [7] (fun i wr => ∃ (k : Nat) (v : Value), k ≤ n ∧ i = .int .i64 k ∧ Blk wr w.heap.size 37 #[i64 0, .slice none 0 0] ∧ Blk wr (w.heap.size + 1) 37 #[i64 n, v] ∧ Edges wr (w.heap.size + 2) v (ringL n wt k) ∧ Grew w wr) (fun i _ => n - (intOf i).toNat)
  case atStart =>
    refine ⟨0, _, by omega, rfl, (Blk.new w _ _).alloc _, ?_, World.ownsRow_nil _ _ _ _, ((Kept.refl _ _).alloc _).alloc _⟩
    have hb := Blk.new (w.alloc (.cells #[i64 0, .slice none 0 0] 37)) 37 #[i64 n, .slice none 0 0]
    rw [World.size_alloc] at hb
    exact hb
  case round =>
    obtain ⟨k, v, hk, rfl, hR, hB, hown, hK⟩ := hrel
    have hown' := (Grew.alloc_drew wr (.cells (edgeCells ((k : Int), ((k : Int) + 1) % (n : Int), wt)).toArray 53)).own hown
    have hne : ¬ v.ownBlock = some (w.heap.size + 1) := fun h => by have := hown.lt _ h; omega
    have hneR : ¬ v.ownBlock = some w.heap.size := fun h => by have := hown.lt _ h; omega
    have hLen := Lib.hid (ringL_length n wt k)
    by_cases hlt : k < n
    · have hw1 : IntKind.i64.wrap ((k : Int) + 1) = (k : Int) + 1 := IntWalk.i64_in _ (by omega)
      have hn0 : ¬ n = 0 := by omega
      have hw2 : ((k : Int) + 1).tmod (n : Int) = ((k : Int) + 1) % (n : Int) := Int.tmod_eq_emod_of_nonneg (by omega)
      go_wp2_with fail
      refine wp_region_grow [12] (fun k => v.ownBlock = some k) (by kernel_rfl) ?_
      simp only [List.size_toArray, List.length_cons, List.length_nil, Nat.reduceAdd]
      refine wpAnyG_pure 0 29 (v := ?_) rfl (by kernel_rfl) rfl (by rfl) (fun w' => ?_) ?_
      rotate_left
      · go_simp <;> with_reducible rfl
      simp only [List.setIfInBounds_toArray, List.set_cons_zero, List.set_cons_succ]
      refine wpAnyG_take 1 30 (v := ?_) rfl (by kernel_rfl) rfl (by rfl) (fun w' hG => ?_) ?_
      rotate_left
      · have hx := (hB.drew.kept hG hne).cell 1
        simp at hx
        go_simp <;> with_reducible rfl
      simp only [List.setIfInBounds_toArray, List.set_cons_zero, List.set_cons_succ]
      refine wpAnyG_pure 2 31 (v := ?_) rfl (by kernel_rfl) rfl (by rfl) (fun w' => ?_) ?_
      rotate_left
      · go_simp <;> with_reducible rfl
      simp only [List.setIfInBounds_toArray, List.set_cons_zero, List.set_cons_succ]
      refine wpAnyG_pure 3 32 (v := ?_) rfl (by kernel_rfl) rfl (by rfl) (fun w' => ?_) ?_
      rotate_left
      · go_simp <;> with_reducible rfl
      simp only [List.setIfInBounds_toArray, List.set_cons_zero, List.set_cons_succ]
      refine wpAnyG_pure 4 33 (v := ?_) rfl (by kernel_rfl) rfl (by rfl) (fun w' => ?_) ?_
      rotate_left
      · go_simp <;> with_reducible rfl
      simp only [List.setIfInBounds_toArray, List.set_cons_zero, List.set_cons_succ]
      refine wpAnyG_pure 5 34 (v := ?_) rfl (by kernel_rfl) rfl (by rfl) (fun w' => ?_) ?_
      rotate_left
      · go_simp <;> with_reducible rfl
      simp only [List.setIfInBounds_toArray, List.set_cons_zero, List.set_cons_succ]
      refine wpAnyG_pure 6 35 (v := ?_) rfl (by kernel_rfl) rfl (by rfl) (fun w' => ?_) ?_
      rotate_left
      · go_simp <;> with_reducible rfl
      simp only [List.setIfInBounds_toArray, List.set_cons_zero, List.set_cons_succ]
      refine wpAnyG_pure 7 36 (v := ?_) rfl (by kernel_rfl) rfl (by rfl) (fun w' => ?_) ?_
      rotate_left
      · go_simp <;> with_reducible rfl
      simp only [List.setIfInBounds_toArray, List.set_cons_zero, List.set_cons_succ]
      refine wpAnyG_pure 8 37 (v := ?_) rfl (by kernel_rfl) rfl (by rfl) (fun w' => ?_) ?_
      rotate_left
      · go_simp <;> with_reducible rfl
      simp only [List.setIfInBounds_toArray, List.set_cons_zero, List.set_cons_succ]
      refine wpAnyG_step 9 38 rfl (by kernel_rfl) rfl (by rfl) (fun K hK' => ?_)
      -- 38 buildSlice - [ref.go:65]
      go_simp
      refine hK' _ _ (fun _ => (Kept.refl _ _).alloc _) ?_
      clear hK'
      simp only [List.setIfInBounds_toArray, List.set_cons_zero, List.set_cons_succ]
      refine wpAnyG_step 10 39 rfl (by kernel_rfl) rfl (by rfl) (fun K hK' => ?_)
      -- 39 builtin Go.Builtin.append - [ref.go:65]
      refine wp_append_lies _ (.tmp 30) (.tmp 38) 35 (by rfl) (w.heap.size + 2) 53 i0 (.agg #[i64 0, i64 0, u64 0]) 3 24 Try.underlying35 hi hz0 hz1 hz2 (by rfl) (by omega) v _ _ (by rfl) hown' ⟨wr.heap.size, 0, none⟩ 1 1 (edgeCells ((k : Int), ((k : Int) + 1) % (n : Int), wt)) (by rfl) (by rfl) (World.news_of_block (heap_alloc_new _ _)) ?_ (by omega) ?_ ?_ ?_ _ rfl ?_
      · intro u hu; simp [edgeCells] at hu; rcases hu with rfl | rfl | rfl <;> rfl
      · rw [hLen.out]; unfold maxLen; omega
      · rw [hLen.out]; omega
      · have := hB.lt; simp; omega
      intro g cap w1 hown1 hgrow1 hat1 hlt1
      have hB1 := ((hB.alloc (.cells #[i64 k, i64 (((k : Int) + 1) % (n : Int)), u64 wt] 53)).drew).grown hgrow1 (fun h => hne h.symm)
      have hR1 := ((hR.alloc (.cells #[i64 k, i64 (((k : Int) + 1) % (n : Int)), u64 wt] 53)).drew).grown hgrow1 (fun h => hneR h.symm)
      have hc1' := hB1.cell 1
      have hf1' := hB1.frozen 1
      simp at hc1'
      refine hK' _ _ (fun _ => (Kept.refl _ _).grown hgrow1 (fun k hk => .inl hk)) ?_
      clear hK'
      simp only [List.setIfInBounds_toArray, List.set_cons_zero, List.set_cons_succ]
      refine wpAnyG_pure 11 40 (v := ?_) rfl (by kernel_rfl) rfl (by rfl) (fun w' => ?_) ?_
      rotate_left
      · go_simp <;> with_reducible rfl
      simp only [List.setIfInBounds_toArray, List.set_cons_zero, List.set_cons_succ]
      refine wpAnyG_store 12 rfl (by kernel_rfl) rfl (by rfl) (fun K hK' => ?_)
      -- 9999 store - [ref.go:65]
      go_simp
      refine hK' _ (fun h => absurd (List.mem_singleton.2 rfl) h) ?_
      clear hK'
      refine wpAnyG_done (by kernel_rfl) ?_
      go_wp2_with fail
      go_roundw
      case rel =>
        refine ⟨k + 1, _, by omega, by go_num, hR1.far (p := ⟨w.heap.size + 1, 1, none⟩) (show w.heap.size ≠ w.heap.size + 1 by omega) _, hB1.set 1 _, ?_, ?_⟩
        · have e : Edges w1 (w.heap.size + 2) (.slice (some ⟨g, 0, none⟩) ((ringL n wt k).length + 1) cap) (ringL n wt (k + 1)) := by
            unfold Edges
            rw [ringL_succ, cellsOf_append, cellsOf_one, List.length_append]
            exact hown1
          exact Kept.own ((Kept.refl (· = w.heap.size + 1) w1).setCell (p := ⟨w.heap.size + 1, 1, none⟩) (.inl rfl) _) e (fun k hk h => by have := hown1.lt k hk; omega)
        · have hF : Kept (fun k => w.heap.size ≤ k) w w1 := (((Grew.kept hK).alloc _).drew).grown hgrow1 (fun k hk => .inr (by have := hown.lt k hk; omega))
          exact (hF.setCell (p := ⟨w.heap.size + 1, 1, none⟩) (.inl (Nat.le_succ _)) _).mono (fun k h1 h2 => by omega)
      case measure => simp [intOf]; omega
    · obtain rfl : k = n := by omega
      obtain ⟨g, c, rfl⟩ := own_form hown (by rw [ringL_length]; omega)
      have hc0' := hB.cell 0
      have hc1' := hB.cell 1
      have hr0' := hR.cell 0
      have hr1' := hR.cell 1
      have hf0' := hR.frozen 0
      have hf1' := hR.frozen 1
      simp at hc0' hc1' hr0' hr1'
      have hq0 := ((hR.set 0 (i64 k)).set 1 (.slice (some ⟨g, 0, none⟩) (ringL k wt k).length c)).cell 0
      have hq1 := ((hR.set 0 (i64 k)).set 1 (.slice (some ⟨g, 0, none⟩) (ringL k wt k).length c)).cell 1
      simp at hq0 hq1
      go_wp2
      refine bodyPost_ret (v := .tuple #[.agg #[i64 k, .slice (some ⟨g, 0, none⟩) (ringL k wt k).length c], i64 0]) (by simp [results, Try.results18, go_sem, hq0, hq1]) rfl ⟨_, rfl, ?_, ?_⟩
      · exact own_base (Kept.own (((Kept.refl (· = w.heap.size) wr).setCell (p := ⟨w.heap.size, 0, none⟩) (.inl rfl) _).setCell (p := ⟨w.heap.size, 1, none⟩) (.inl rfl) _) hown (fun k hk h => hneR (by rw [hk, h]))) (by omega)
      · exact (hK.setCell (p := ⟨w.heap.size, 0, none⟩) (.inr (Nat.le_refl _)) _).setCell (p := ⟨w.heap.size, 1, none⟩) (.inr (Nat.le_refl _)) _

/-- What the document's Ring answers where the numbers won't do. -/
theorem refRing_no (n wt : Int) (w : World) (h : n < 2 ∨ 4096 < n ∨ wt < 1 ∨ 4294967296 < wt) :
    Calls Try.prog 18 #[i64 n, u64 wt] w fun e w' => e = .returned (.tuple #[.agg #[i64 0, .slice none 0 0], i64 (ringF n wt)]) ∧ Grew w w' := by
  have hb0 := Blk.new w 37 #[i64 0, .slice none 0 0]
  have hq0 := hb0.cell 0
  have hq1 := hb0.cell 1
  simp at hq0 hq1
  by_cases h1 : n < 2 ∨ wt < 1 ∨ 4294967296 < wt
  · have hr : Hid (ringF n wt = 1) := if_pos h1
    rcases Int.lt_or_le n 2 with g1 | g1
    · go_enter Try.func18, Try.ntmps18
      go_wp2
      rw [hr.out]
      refine bodyPost_ret (v := .tuple #[.agg #[i64 0, .slice none 0 0], i64 1]) (by simp [results, Try.results18, go_sem, hq0, hq1]) rfl ⟨rfl, ?_⟩
      exact (Kept.refl _ _).alloc _
    · rcases Int.lt_or_le wt 1 with g2 | g2
      · go_enter Try.func18, Try.ntmps18
        go_wp2
        rw [hr.out]
        refine bodyPost_ret (v := .tuple #[.agg #[i64 0, .slice none 0 0], i64 1]) (by simp [results, Try.results18, go_sem, hq0, hq1]) rfl ⟨rfl, ?_⟩
        exact (Kept.refl _ _).alloc _
      · have g3 : 4294967296 < wt := by omega
        go_enter Try.func18, Try.ntmps18
        go_wp2
        rw [hr.out]
        refine bodyPost_ret (v := .tuple #[.agg #[i64 0, .slice none 0 0], i64 1]) (by simp [results, Try.results18, go_sem, hq0, hq1]) rfl ⟨rfl, ?_⟩
        exact (Kept.refl _ _).alloc _
  · have g4 : 4096 < n := by omega
    have hr : Hid (ringF n wt = 5) := (if_neg h1).trans (if_pos g4)
    have g1 : 2 ≤ n := by omega
    have g2 : 1 ≤ wt := by omega
    have g3 : wt ≤ 4294967296 := by omega
    clear h1
    go_enter Try.func18, Try.ntmps18
    go_wp2
    rw [hr.out]
    refine bodyPost_ret (v := .tuple #[.agg #[i64 0, .slice none 0 0], i64 5]) (by simp [results, Try.results18, go_sem, hq0, hq1]) rfl ⟨rfl, ?_⟩
    exact (Kept.refl _ _).alloc _
end Go.Proofs.Ytppnndhekikagaa
