/- The ladder of any number: both walks. -/
import Derived.Test.YtppnndhekikagaaRefRing
namespace Go.Proofs.Ytppnndhekikagaa
open Go.RowKit

def ladL : Nat → List Edg
  | 0 => []
  | k + 1 => ladL k ++ [((k : Int), (k : Int) + 1, 1)] ++ [((k : Int), (k : Int) + 1, 2)]
theorem ladL_length (k : Nat) : (ladL k).length = 2 * k := by
  induction k with
  | zero => rfl
  | succ k ih => simp [ladL, ih]; omega
def ladF (n : Int) : Int := if n < 1 then 1 else if 4096 ≤ n then 5 else 0

theorem edge_one (e : Edg) : ∀ u ∈ edgeCells e, u.oneCell' = true := by
  intro u hu; simp [edgeCells] at hu; rcases hu with rfl | rfl | rfl <;> rfl

theorem Edges.push {w1 : World} {B g c : Nat} {es : List Edg} {e : Edg} (h : w1.ownsRow B 53 3 (.slice (some ⟨g, 0, none⟩) (es.length + 1) c) (es.length + 1) (cellsOf es ++ edgeCells e)) :
    Edges w1 B (.slice (some ⟨g, 0, none⟩) (es.length + 1) c) (es ++ [e]) := by
  unfold Edges
  rw [cellsOf_append, cellsOf_one, List.length_append]
  exact h


set_option maxHeartbeats 1000000 in
set_option maxRecDepth 100000 in
theorem ladder_yes (n : Nat) (w : World) (h1 : 1 ≤ n) (h2 : n ≤ 4095) :
    Calls Try.prog 19 #[i64 n] w fun e w' => ∃ v, e = .returned (.tuple #[.agg #[i64 ((n : Int) + 1), v], i64 0]) ∧ Edges w' w.heap.size v (ladL n) ∧ Grew w w' := by
  obtain ⟨i0, hi, hz0, hz1, hz2⟩ := info_parts info_edge
  have hb0 := Blk.new w 37 #[i64 0, .slice none 0 0]
  have hc0 := hb0.cell 0
  have hf0 := hb0.frozen 0
  have ix0 : ∀ w, (Instr.index 65 (.agg #[.int .u64 1, .int .u64 2]) (.int .i64 0)).run Try.prog w = .ok (.int .u64 1) w := fun _ => by kernel_rfl
  have ix1 : ∀ w, (Instr.index 65 (.agg #[.int .u64 1, .int .u64 2]) (.int .i64 1)).run Try.prog w = .ok (.int .u64 2) w := fun _ => by kernel_rfl
  go_enter Try.func19, Try.ntmps19
  go_wp2
  go_loopw [19] (fun i wr => ∃ (k : Nat) (v : Value), k ≤ n ∧ i = .int .i64 k ∧ Blk wr w.heap.size 37 #[i64 ((n : Int) + 1), v] ∧ Edges wr (w.heap.size + 1) v (ladL k) ∧ Grew w wr) (fun i _ => n - (intOf i).toNat)
  case atStart => exact ⟨0, _, by omega, rfl, Blk.new w _ _, World.ownsRow_nil _ _ _ _, (Kept.refl _ _).alloc _⟩
  case round =>
    obtain ⟨k, v, hk, rfl, hB, hown, hK⟩ := hrel
    have hLen := ladL_length k
    have hL0 : (ladL k).length ≤ 10000 := by omega
    clear hLen
    have hne : ¬ v.ownBlock = some w.heap.size := fun h => by have := hown.lt _ h; omega
    have hc1 := hB.cell 1
    simp at hc1
    have hsz := hB.lt
    by_cases hlt : k < n
    · go_wp2_with fail
      refine wp_loop_rounds 3 ?_
      rw [rounds_succ]
      go_wp2_with (at_builtin; refine wpList_append_lies _ rfl _ _ 35 rfl (w.heap.size + 1) 53 i0 (.agg #[i64 0, i64 0, u64 0]) 3 24 Try.underlying35 hi hz0 hz1 hz2 rfl (by omega) v _ _ rfl (hown.alloc _) ⟨wr.heap.size, 0, none⟩ 1 1 (edgeCells ((k : Int), (k : Int) + 1, 1)) rfl rfl (World.news_of_block (heap_alloc_new _ _)) (edge_one _) (by omega) (by unfold maxLen; omega) (by omega) (by simp; omega) _ rfl ?_; intro g1 cap1 w1 hown1 hgrow1 hat1 hlt1; have hB1 := (hB.alloc (.cells #[i64 k, i64 ((k : Int) + 1), u64 1] 53)).grown hgrow1 (fun h => hne h.symm); have hc1' := hB1.cell 1; have hf1' := hB1.frozen 1; simp at hc1')
      have hB1s := hB1.set 1 (.slice (some ⟨g1, 0, none⟩) ((ladL k).length + 1) cap1)
      simp at hB1s
      have hown1' := Kept.own ((Kept.refl (· = w.heap.size) w1).setCell (p := ⟨w.heap.size, 1, none⟩) (.inl rfl) (.slice (some ⟨g1, 0, none⟩) ((ladL k).length + 1) cap1)) hown1 (fun k hk h => by have := hown1.lt k hk; omega)
      have hK1 : Grew w (w1.setCell ⟨w.heap.size, 1, none⟩ (.slice (some ⟨g1, 0, none⟩) ((ladL k).length + 1) cap1)) := ((((Grew.kept hK).alloc _).grown hgrow1 (fun k hk => .inr (by have := hown.lt k hk; omega)) : Kept (fun k => w.heap.size ≤ k) w w1).setCell (p := ⟨w.heap.size, 1, none⟩) (.inl (Nat.le_refl _)) _).mono (fun k h1 h2 => by omega)
      obtain ⟨W, hW⟩ : ∃ W, w1.setCell ⟨w.heap.size, 1, none⟩ (.slice (some ⟨g1, 0, none⟩) ((ladL k).length + 1) cap1) = W := ⟨_, rfl⟩
      rw [hW] at hB1s hown1' hK1 ⊢
      clear hW hB1 hc1' hf1' hown1 hgrow1 hat1 hlt1 hc1 hB hown hK
      have hc1 := hB1s.cell 1
      simp at hc1
      have hsz1 := hB1s.lt
      have hne1 : ¬ (Value.slice (some ⟨g1, 0, none⟩) ((ladL k).length + 1) cap1).ownBlock = some w.heap.size := fun h => by have := hown1'.lt _ h; omega
      rw [rounds_succ]
      go_wp2_with (at_builtin; refine wpList_append_lies _ rfl _ _ 35 rfl (w.heap.size + 1) 53 i0 (.agg #[i64 0, i64 0, u64 0]) 3 24 Try.underlying35 hi hz0 hz1 hz2 rfl (by omega) _ _ _ rfl (hown1'.alloc _) ⟨W.heap.size, 0, none⟩ 1 1 (edgeCells ((k : Int), (k : Int) + 1, 2)) rfl rfl (World.news_of_block (heap_alloc_new _ _)) (edge_one _) (by omega) (by unfold maxLen; omega) (by omega) (by simp; omega) _ rfl ?_; intro g2 cap2 w2 hown2 hgrow2 hat2 hlt2; have hB1 := (hB1s.alloc (.cells #[i64 k, i64 ((k : Int) + 1), u64 2] 53)).grown hgrow2 (fun h => hne1 h.symm); have hc1' := hB1.cell 1; have hf1' := hB1.frozen 1; simp at hc1')
      rw [rounds_succ]
      go_wp2_with fail
      go_roundw
      case rel =>
        have e := Edges.push (es := ladL k ++ [((k : Int), (k : Int) + 1, 1)]) (e := ((k : Int), (k : Int) + 1, 2)) (by rw [List.length_append, cellsOf_append, cellsOf_one]; exact hown2)
        refine ⟨k + 1, _, by omega, by go_num, hB1.set 1 _, ?_, ?_⟩
        · rw [List.length_append] at e
          exact Kept.own ((Kept.refl (· = w.heap.size) w2).setCell (p := ⟨w.heap.size, 1, none⟩) (.inl rfl) _) e (fun k hk h => by have := hown2.lt k hk; omega)
        · exact ((((Grew.kept hK1).alloc _).grown hgrow2 (fun k hk => .inr (by have := hown1'.lt k hk; omega)) : Kept (fun k => w.heap.size ≤ k) w w2).setCell (p := ⟨w.heap.size, 1, none⟩) (.inl (Nat.le_refl _)) _).mono (fun k h1 h2 => by omega)
      case measure => simp [intOf]; omega
    · obtain rfl : k = n := by omega
      obtain ⟨g, c, rfl⟩ := own_form hown (by rw [ladL_length]; omega)
      have hc0' := hB.cell 0
      have hf0' := hB.frozen 0
      have hf1' := hB.frozen 1
      simp at hc0'
      have hq0 := ((hB.set 0 (i64 ((k : Int) + 1))).set 1 (.slice (some ⟨g, 0, none⟩) (ladL k).length c)).cell 0
      have hq1 := ((hB.set 0 (i64 ((k : Int) + 1))).set 1 (.slice (some ⟨g, 0, none⟩) (ladL k).length c)).cell 1
      simp at hq0 hq1
      go_wp2
      refine bodyPost_ret (v := .tuple #[.agg #[i64 ((k : Int) + 1), .slice (some ⟨g, 0, none⟩) (ladL k).length c], i64 0]) (by simp [results, Try.results19, go_sem, hq0, hq1]) rfl ⟨_, rfl, ?_, ?_⟩
      · exact own_base (Kept.own (((Kept.refl (· = w.heap.size) wr).setCell (p := ⟨w.heap.size, 0, none⟩) (.inl rfl) _).setCell (p := ⟨w.heap.size, 1, none⟩) (.inl rfl) _) hown (fun k hk h => hne (by rw [hk, h]))) (by omega)
      · exact (hK.setCell (p := ⟨w.heap.size, 0, none⟩) (.inr (Nat.le_refl _)) _).setCell (p := ⟨w.heap.size, 1, none⟩) (.inr (Nat.le_refl _)) _

theorem edge_two (e f : Edg) : ∀ u ∈ edgeCells e ++ edgeCells f, u.oneCell' = true := by
  intro u hu; rcases List.mem_append.1 hu with h | h <;> exact edge_one _ u h

set_option maxHeartbeats 1000000 in
set_option maxRecDepth 100000 in
theorem refLadder_yes (n : Nat) (w : World) (h1 : 1 ≤ n) (h2 : n ≤ 4095) :
    Calls Try.prog 20 #[i64 n] w fun e w' => ∃ v, e = .returned (.tuple #[.agg #[i64 ((n : Int) + 1), v], i64 0]) ∧ Edges w' w.heap.size v (ladL n) ∧ Grew w w' := by
  obtain ⟨i0, hi, hz0, hz1, hz2⟩ := info_parts info_edge
  go_enter Try.func20, Try.ntmps20
  go_wp2
  go_loopw [5] (fun i wr => ∃ (k : Nat) (v : Value), k ≤ n ∧ i = .int .i64 k ∧ Blk wr w.heap.size 37 #[i64 0, .slice none 0 0] ∧ Blk wr (w.heap.size + 1) 37 #[i64 ((n : Int) + 1), v] ∧ Edges wr (w.heap.size + 2) v (ladL k) ∧ Grew w wr) (fun i _ => n - (intOf i).toNat)
  case atStart =>
    refine ⟨0, _, by omega, rfl, (Blk.new w _ _).alloc _, ?_, World.ownsRow_nil _ _ _ _, ((Kept.refl _ _).alloc _).alloc _⟩
    have hb := Blk.new (w.alloc (.cells #[i64 0, .slice none 0 0] 37)) 37 #[i64 ((n : Int) + 1), .slice none 0 0]
    rw [World.size_alloc] at hb
    exact hb
  case round =>
    obtain ⟨k, v, hk, rfl, hR, hB, hown, hK⟩ := hrel
    have hLen := ladL_length k
    have hL0 : (ladL k).length ≤ 10000 := by omega
    clear hLen
    have hne : ¬ v.ownBlock = some (w.heap.size + 1) := fun h => by have := hown.lt _ h; omega
    have hneR : ¬ v.ownBlock = some w.heap.size := fun h => by have := hown.lt _ h; omega
    have hsz := hB.lt
    by_cases hlt : k < n
    · have hc1 := hB.cell 1
      simp at hc1
      go_wp2_with (at_builtin; refine wpList_append_lies _ rfl _ _ 35 rfl (w.heap.size + 2) 53 i0 (.agg #[i64 0, i64 0, u64 0]) 3 24 Try.underlying35 hi hz0 hz1 hz2 rfl (by omega) v _ _ rfl (hown.alloc _) ⟨wr.heap.size, 0, none⟩ 2 2 (edgeCells ((k : Int), (k : Int) + 1, 1) ++ edgeCells ((k : Int), (k : Int) + 1, 2)) rfl rfl (World.news_of_block (heap_alloc_new _ _)) (edge_two _ _) (by omega) (by unfold maxLen; omega) (by omega) (by simp; omega) _ rfl ?_; intro g1 cap1 w1 hown1 hgrow1 hat1 hlt1; have hB1 := (hB.alloc (.cells #[i64 k, i64 ((k : Int) + 1), u64 1, i64 k, i64 ((k : Int) + 1), u64 2] 53)).grown hgrow1 (fun h => hne h.symm); have hR1 := (hR.alloc (.cells #[i64 k, i64 ((k : Int) + 1), u64 1, i64 k, i64 ((k : Int) + 1), u64 2] 53)).grown hgrow1 (fun h => hneR h.symm); have hc1' := hB1.cell 1; have hf1' := hB1.frozen 1; simp at hc1')
      go_roundw
      case rel =>
        have e : Edges w1 (w.heap.size + 2) (.slice (some ⟨g1, 0, none⟩) ((ladL k).length + 2) cap1) (ladL (k + 1)) := by
          unfold Edges
          rw [ladL, cellsOf_append, cellsOf_append, cellsOf_one, cellsOf_one, List.length_append, List.length_append, Nat.add_assoc]
          rw [← List.append_assoc] at hown1
          exact hown1
        refine ⟨k + 1, _, by omega, by go_num, hR1.far (p := ⟨w.heap.size + 1, 1, none⟩) (show w.heap.size ≠ w.heap.size + 1 by omega) _, hB1.set 1 _, ?_, ?_⟩
        · exact Kept.own ((Kept.refl (· = w.heap.size + 1) w1).setCell (p := ⟨w.heap.size + 1, 1, none⟩) (.inl rfl) _) e (fun k hk h => by have := hown1.lt k hk; omega)
        · exact ((((Grew.kept hK).alloc _).grown hgrow1 (fun k hk => .inr (by have := hown.lt k hk; omega)) : Kept (fun k => w.heap.size ≤ k) w w1).setCell (p := ⟨w.heap.size + 1, 1, none⟩) (.inl (Nat.le_succ _)) _).mono (fun k h1 h2 => by omega)
      case measure => simp [intOf]; omega
    · obtain rfl : k = n := by omega
      obtain ⟨g, c, rfl⟩ := own_form hown (by rw [ladL_length]; omega)
      have hc0' := hB.cell 0
      have hc1' := hB.cell 1
      have hr0' := hR.cell 0
      have hr1' := hR.cell 1
      have hf0' := hR.frozen 0
      have hf1' := hR.frozen 1
      simp at hc0' hc1' hr0' hr1'
      have hq0 := ((hR.set 0 (i64 ((k : Int) + 1))).set 1 (.slice (some ⟨g, 0, none⟩) (ladL k).length c)).cell 0
      have hq1 := ((hR.set 0 (i64 ((k : Int) + 1))).set 1 (.slice (some ⟨g, 0, none⟩) (ladL k).length c)).cell 1
      simp at hq0 hq1
      go_wp2
      refine bodyPost_ret (v := .tuple #[.agg #[i64 ((k : Int) + 1), .slice (some ⟨g, 0, none⟩) (ladL k).length c], i64 0]) (by simp [results, Try.results20, go_sem, hq0, hq1]) rfl ⟨_, rfl, ?_, ?_⟩
      · exact own_base (Kept.own (((Kept.refl (· = w.heap.size) wr).setCell (p := ⟨w.heap.size, 0, none⟩) (.inl rfl) _).setCell (p := ⟨w.heap.size, 1, none⟩) (.inl rfl) _) hown (fun k hk h => hneR (by rw [hk, h]))) (by omega)
      · exact (hK.setCell (p := ⟨w.heap.size, 0, none⟩) (.inr (Nat.le_refl _)) _).setCell (p := ⟨w.heap.size, 1, none⟩) (.inr (Nat.le_refl _)) _

theorem ladder_no (n : Int) (w : World) (h : n < 1 ∨ 4096 ≤ n) :
    Calls Try.prog 19 #[i64 n] w fun e w' => e = .returned (.tuple #[.agg #[i64 0, .slice none 0 0], i64 (ladF n)]) ∧ Grew w w' := by
  have hb0 := Blk.new w 37 #[i64 0, .slice none 0 0]
  have hq0 := hb0.cell 0
  have hq1 := hb0.cell 1
  simp at hq0 hq1
  rcases Int.lt_or_le n 1 with h1 | h1
  · have hr : Hid (ladF n = 1) := if_pos h1
    clear h
    go_enter Try.func19, Try.ntmps19
    go_wp2
    rw [hr.out]
    refine bodyPost_ret (v := .tuple #[.agg #[i64 0, .slice none 0 0], i64 1]) (by simp [results, Try.results19, go_sem, hq0, hq1]) rfl ⟨rfl, ?_⟩
    exact (Kept.refl _ _).alloc _
  · have h2 : 4096 ≤ n := by omega
    have hr : Hid (ladF n = 5) := (if_neg (by omega)).trans (if_pos h2)
    clear h
    go_enter Try.func19, Try.ntmps19
    go_wp2
    rw [hr.out]
    refine bodyPost_ret (v := .tuple #[.agg #[i64 0, .slice none 0 0], i64 5]) (by simp [results, Try.results19, go_sem, hq0, hq1]) rfl ⟨rfl, ?_⟩
    exact (Kept.refl _ _).alloc _

theorem refLadder_no (n : Int) (w : World) (h : n < 1 ∨ 4096 ≤ n) :
    Calls Try.prog 20 #[i64 n] w fun e w' => e = .returned (.tuple #[.agg #[i64 0, .slice none 0 0], i64 (ladF n)]) ∧ Grew w w' := by
  have hb0 := Blk.new w 37 #[i64 0, .slice none 0 0]
  have hq0 := hb0.cell 0
  have hq1 := hb0.cell 1
  simp at hq0 hq1
  rcases Int.lt_or_le n 1 with h1 | h1
  · have hr : Hid (ladF n = 1) := if_pos h1
    clear h
    go_enter Try.func20, Try.ntmps20
    go_wp2
    rw [hr.out]
    refine bodyPost_ret (v := .tuple #[.agg #[i64 0, .slice none 0 0], i64 1]) (by simp [results, Try.results20, go_sem, hq0, hq1]) rfl ⟨rfl, ?_⟩
    exact (Kept.refl _ _).alloc _
  · have h2 : 4096 ≤ n := by omega
    have hr : Hid (ladF n = 5) := (if_neg (by omega)).trans (if_pos h2)
    clear h
    go_enter Try.func20, Try.ntmps20
    go_wp2
    rw [hr.out]
    refine bodyPost_ret (v := .tuple #[.agg #[i64 0, .slice none 0 0], i64 5]) (by simp [results, Try.results20, go_sem, hq0, hq1]) rfl ⟨rfl, ?_⟩
    exact (Kept.refl _ _).alloc _
end Go.Proofs.Ytppnndhekikagaa
