/- The heap: an item is laid at a place. -/
import Derived.Test.YthbcgdogmkgebaaHHeap
namespace Go.Proofs.Ythbcgdogmkgebaa.Hp
open Go.RowKit

theorem lay_any (w : World) (H A N : Nat) (v : Value) (l : List Itm) (a : List Int) (s : Heap w H A N v l a) (i p : Nat) (k : Int) (hi : i < l.length) (hp : p < N) :
    Calls Try.prog 64 #[pt H, i64 (i : Int), .agg #[i64 (p : Int), u64 k]] w fun r w' => r = .returned (.tuple #[]) ∧ Heap w' H A N v (l.set i ((p : Int), k)) (a.set p (i : Int)) ∧ Kept (HB H A v) w w' := by
  obtain ⟨e, he⟩ : ∃ e, l[i]? = some e := ⟨_, List.getElem?_eq_getElem hi⟩
  obtain ⟨g, c, hv, hg, hc0, hc1, hc⟩ := s.item he
  subst hv
  have hf := s.few
  have hsm := s.small
  have hlt := s.lt
  have i0 : (0 : Int) ≤ (i : Int) := by omega
  have i1 : (i : Int) < (l.length : Int) := by omega
  have p0 : (0 : Int) ≤ (p : Int) := by omega
  have p1 : (p : Int) < (N : Int) := by omega
  obtain ⟨q, hq⟩ : ∃ q, a[p]? = some q := ⟨_, List.getElem?_eq_getElem (by rw [s.len]; exact hp)⟩
  have hK0 : Grew w (w.alloc (.cells #[i64 (p : Int), u64 k] 99)) := (Kept.refl _ _).alloc _
  have bX0 := Blk.new w 99 #[i64 (p : Int), u64 k]
  have hAw := s.arr.lt
  have hgw := (s.row.lt g rfl).2
  obtain ⟨w1, hw1⟩ : ∃ w1, w.alloc (.cells #[i64 (p : Int), u64 k] 99) = w1 := ⟨_, rfl⟩
  rw [hw1] at hK0 bX0
  have s0 := s.grew hK0
  have d0 := hK0.cell hc0
  have d1 := hK0.cell hc1
  have d2 := s0.place hq
  have f0 := World.ownsRow.frozenAt s0.row (i * 2)
  have f1 := World.ownsRow.frozenAt s0.row (i * 2 + 1)
  have f2 := s0.arr.frozen p
  have hK : Grew w w1.drew := hK0.drew
  have s' := s.grew hK
  have bX := bX0.drew
  have bH := s'.box
  have S' := Lib.hid s'
  have hgA : Hid (g ≠ A) := show g ≠ A by omega
  have hH' : ¬ (H = g ∨ H = A) := by omega
  have hX' : ¬ (w.heap.size = g ∨ w.heap.size = A) := by omega
  clear s s' s0 hK0 bX0 hq he hc0 hc1
  go_enter Try.func64, Try.ntmps64
  go_wp2_with fail
  clear hw1
  refine wp_region_grow [] (fun j => j = g ∨ j = A) (by kernel_rfl) ?_
  simp only [List.size_toArray, List.length_cons, List.length_nil, Nat.reduceAdd]
  refine wpAnyG_pure 0 6 (v := ?_) rfl (by kernel_rfl) rfl (by rfl) (fun w' => ?_) ?_
  rotate_left
  · go_simp <;> with_reducible rfl
  simp only [List.setIfInBounds_toArray, List.set_cons_zero, List.set_cons_succ]
  refine wpAnyG_pure 1 7 (v := ?_) rfl (by kernel_rfl) rfl (by rfl) (fun w' => ?_) ?_
  rotate_left
  · go_simp <;> with_reducible rfl
  simp only [List.setIfInBounds_toArray, List.set_cons_zero, List.set_cons_succ]
  refine wpAnyG_pure 2 8 (v := ?_) rfl (by kernel_rfl) rfl (by rfl) (fun w' => ?_) ?_
  rotate_left
  · go_simp <;> with_reducible rfl
  simp only [List.setIfInBounds_toArray, List.set_cons_zero, List.set_cons_succ]
  refine wpAnyG_take 3 9 (v := ?_) rfl (by kernel_rfl) rfl (by rfl) (fun w' hG' => ?_) ?_
  rotate_left
  · have hx0 := (bH.kept hG' hH').cell 0
    have hx1 := (bH.kept hG' hH').cell 1
    have hy0 := (bX.kept hG' hX').cell 0
    have hy1 := (bX.kept hG' hX').cell 1
    simp at hx0 hx1 hy0 hy1
    go_simp <;> with_reducible rfl
  simp only [List.setIfInBounds_toArray, List.set_cons_zero, List.set_cons_succ]
  refine wpAnyG_pure 4 10 (v := ?_) rfl (by kernel_rfl) rfl (by rfl) (fun w' => ?_) ?_
  rotate_left
  · go_simp <;> with_reducible rfl
  simp only [List.setIfInBounds_toArray, List.set_cons_zero, List.set_cons_succ]
  refine wpAnyG_pure 5 11 (v := ?_) rfl (by kernel_rfl) rfl (by rfl) (fun w' => ?_) ?_
  rotate_left
  · go_simp <;> with_reducible rfl
  simp only [List.setIfInBounds_toArray, List.set_cons_zero, List.set_cons_succ]
  refine wpAnyG_pure 6 12 (v := ?_) rfl (by kernel_rfl) rfl (by rfl) (fun w' => ?_) ?_
  rotate_left
  · go_simp <;> with_reducible rfl
  simp only [List.setIfInBounds_toArray, List.set_cons_zero, List.set_cons_succ]
  refine wpAnyG_pure 7 13 (v := ?_) rfl (by kernel_rfl) rfl (by rfl) (fun w' => ?_) ?_
  rotate_left
  · go_simp <;> with_reducible rfl
  simp only [List.setIfInBounds_toArray, List.set_cons_zero, List.set_cons_succ]
  refine wpAnyG_take 8 14 (v := ?_) rfl (by kernel_rfl) rfl (by rfl) (fun w' hG' => ?_) ?_
  rotate_left
  · have hx0 := (bH.kept hG' hH').cell 0
    have hx1 := (bH.kept hG' hH').cell 1
    have hy0 := (bX.kept hG' hX').cell 0
    have hy1 := (bX.kept hG' hX').cell 1
    simp at hx0 hx1 hy0 hy1
    go_simp <;> with_reducible rfl
  simp only [List.setIfInBounds_toArray, List.set_cons_zero, List.set_cons_succ]
  refine wpAnyG_pure 9 15 (v := ?_) rfl (by kernel_rfl) rfl (by rfl) (fun w' => ?_) ?_
  rotate_left
  · go_simp <;> with_reducible rfl
  simp only [List.setIfInBounds_toArray, List.set_cons_zero, List.set_cons_succ]
  refine wpAnyG_take 10 16 (v := ?_) rfl (by kernel_rfl) rfl (by rfl) (fun w' hG' => ?_) ?_
  rotate_left
  · have hx0 := (bH.kept hG' hH').cell 0
    have hx1 := (bH.kept hG' hH').cell 1
    have hy0 := (bX.kept hG' hX').cell 0
    have hy1 := (bX.kept hG' hX').cell 1
    simp at hx0 hx1 hy0 hy1
    go_simp <;> with_reducible rfl
  simp only [List.setIfInBounds_toArray, List.set_cons_zero, List.set_cons_succ]
  refine wpAnyG_take 11 17 (v := ?_) rfl (by kernel_rfl) rfl (by rfl) (fun w' hG' => ?_) ?_
  rotate_left
  · have hx0 := (bH.kept hG' hH').cell 0
    have hx1 := (bH.kept hG' hH').cell 1
    have hy0 := (bX.kept hG' hX').cell 0
    have hy1 := (bX.kept hG' hX').cell 1
    simp at hx0 hx1 hy0 hy1
    go_simp <;> with_reducible rfl
  simp only [List.setIfInBounds_toArray, List.set_cons_zero, List.set_cons_succ]
  refine wpAnyG_pure 12 18 (v := ?_) rfl (by kernel_rfl) rfl (by rfl) (fun w' => ?_) ?_
  rotate_left
  · go_simp <;> with_reducible rfl
  simp only [List.setIfInBounds_toArray, List.set_cons_zero, List.set_cons_succ]
  refine wpAnyG_pure 13 19 (v := ?_) rfl (by kernel_rfl) rfl (by rfl) (fun w' => ?_) ?_
  rotate_left
  · go_simp <;> with_reducible rfl
  simp only [List.setIfInBounds_toArray, List.set_cons_zero, List.set_cons_succ]
  refine wpAnyG_store 14 rfl (by kernel_rfl) rfl (by rfl) (fun K hK' => ?_)
  go_simp
  refine hK' _ (fun _ => ((Kept.refl _ _).setCell (p := ⟨g, i * 2, none⟩) (.inl (.inl rfl)) _).setCell (p := ⟨g, i * 2 + 1, none⟩) (.inl (.inl rfl)) _) ?_
  clear hK'
  refine wpAnyG_pure 15 20 (v := ?_) rfl (by kernel_rfl) rfl (by rfl) (fun w' => ?_) ?_
  rotate_left
  · go_simp <;> with_reducible rfl
  simp only [List.setIfInBounds_toArray, List.set_cons_zero, List.set_cons_succ]
  refine wpAnyG_store 16 rfl (by kernel_rfl) rfl (by rfl) (fun K hK' => ?_)
  go_simp
  refine hK' _ (fun _ => (Kept.refl _ _).setCell (p := ⟨A, p, none⟩) (.inl (.inr rfl)) _) ?_
  clear hK'
  refine wpAnyG_done (by kernel_rfl) ?_
  go_wp2_with fail
  go_end0
  have h1 := ((World.ownsRow.stored S'.out.row (i * 2) (i64 (p : Int))).1.stored (i * 2 + 1) (u64 k)).1
  rw [cellsI_set l i ((p : Int), k) hi] at h1
  have hne : g ≠ A := hgA.out
  have hHA : H ≠ A := by omega
  have hHg : H ≠ g := by omega
  have bA := S'.out.arr
  refine ⟨rfl, ⟨((S'.out.box.far (p := ⟨g, i * 2, none⟩) hHg _).far (p := ⟨g, i * 2 + 1, none⟩) hHg _).far (p := ⟨A, p, none⟩) hHA _, ?_, ?_, hlt, by rw [List.length_set]; exact S'.out.len, by rw [List.length_set]; exact hf, hsm⟩, ?_⟩
  · have h2 := ((bA.far (p := ⟨g, i * 2, none⟩) (Ne.symm hne) (i64 (p : Int))).far (p := ⟨g, i * 2 + 1, none⟩) (Ne.symm hne) (u64 k)).set p (i64 (i : Int))
    have e : ((a.map i64).toArray.setIfInBounds p (i64 (i : Int))) = ((a.set p (i : Int)).map i64).toArray := by simp [List.map_set]
    rw [e] at h2
    exact h2
  · rw [List.length_set]
    exact Kept.own (F := (· = A)) ((Kept.refl (· = A) _).setCell (p := ⟨A, p, none⟩) (.inl rfl) _) h1 (fun j hj h => hne ((Option.some.inj (show some g = some j from hj)).trans h))
  · exact ((hK.kept.setCell (p := ⟨g, i * 2, none⟩) (.inl (.inr (.inr rfl))) _).setCell (p := ⟨g, i * 2 + 1, none⟩) (.inl (.inr (.inr rfl))) _).setCell (p := ⟨A, p, none⟩) (.inl (.inr (.inl rfl))) _
end Go.Proofs.Ythbcgdogmkgebaa.Hp
