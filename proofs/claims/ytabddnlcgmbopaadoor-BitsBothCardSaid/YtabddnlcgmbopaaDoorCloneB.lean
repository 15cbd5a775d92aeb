/- Sets of numbers: a clone goes its own way. -/
import Derived.Test.YtabddnlcgmbopaaDoorClone
namespace Go.Proofs.YtabddnlcgmbopaaDoor
open Go.RowKit

theorem clone_any (w : World) (S n : Nat) (v : Value) (ws : List Nat) (s : SetB w S n v ws) : Calls Tryd.prog 15 #[pt S] w fun e w' => ∃ S' v', e = .returned (pt S') ∧ SetB w' S' n v' ws ∧ Grew w w' ∧ ∀ j, SB S' v' j → w.heap.size ≤ j := by
  have bH := s.box.drew
  have hl := s.len
  have hsm := s.small
  have hC := Lib.hid (sclone_any w.drew v ws (s.row.kept (Kept.refl (fun _ => False) _).drew (fun _ _ h => h)) (by omega))
  have SS := Lib.hid s
  clear hl s
  go_enter Tryd.func15, Tryd.ntmps15
  go_wp2_with fail
  refine wp_region_grow [] (fun _ => False) (by kernel_rfl) ?_
  simp only [List.size_toArray, List.length_cons, List.length_nil, Nat.reduceAdd]
  refine wpAnyG_pure 0 5 (v := ?_) rfl (by kernel_rfl) rfl (by rfl) (fun w' => ?_) ?_
  rotate_left
  · go_simp <;> with_reducible rfl
  simp only [List.setIfInBounds_toArray, List.set_cons_zero, List.set_cons_succ]
  refine wpAnyG_pure 1 6 (v := ?_) rfl (by kernel_rfl) rfl (by rfl) (fun w' => ?_) ?_
  rotate_left
  · go_simp <;> with_reducible rfl
  simp only [List.setIfInBounds_toArray, List.set_cons_zero, List.set_cons_succ]
  refine wpAnyG_pure 2 7 (v := ?_) rfl (by kernel_rfl) rfl (by rfl) (fun w' => ?_) ?_
  rotate_left
  · go_simp <;> with_reducible rfl
  simp only [List.setIfInBounds_toArray, List.set_cons_zero, List.set_cons_succ]
  refine wpAnyG_take 3 8 (v := ?_) rfl (by kernel_rfl) rfl (by rfl) (fun w' hG' => ?_) ?_
  rotate_left
  · have hx0 := (bH.grew hG').cell 0
    have hx1 := (bH.grew hG').cell 1
    simp at hx0 hx1
    go_simp <;> with_reducible rfl
  simp only [List.setIfInBounds_toArray, List.set_cons_zero, List.set_cons_succ]
  refine wpAnyG_pure 4 9 (v := ?_) rfl (by kernel_rfl) rfl (by rfl) (fun w' => ?_) ?_
  rotate_left
  · go_simp <;> with_reducible rfl
  simp only [List.setIfInBounds_toArray, List.set_cons_zero, List.set_cons_succ]
  refine wpAnyG_pure 5 10 (v := ?_) rfl (by kernel_rfl) rfl (by rfl) (fun w' => ?_) ?_
  rotate_left
  · go_simp <;> with_reducible rfl
  simp only [List.setIfInBounds_toArray, List.set_cons_zero, List.set_cons_succ]
  refine wpAnyG_pure 6 11 (v := ?_) rfl (by kernel_rfl) rfl (by rfl) (fun w' => ?_) ?_
  rotate_left
  · go_simp <;> with_reducible rfl
  simp only [List.setIfInBounds_toArray, List.set_cons_zero, List.set_cons_succ]
  refine wpAnyG_take 7 12 (v := ?_) rfl (by kernel_rfl) rfl (by rfl) (fun w' hG' => ?_) ?_
  rotate_left
  · have hx0 := (bH.grew hG').cell 0
    have hx1 := (bH.grew hG').cell 1
    simp at hx0 hx1
    go_simp <;> with_reducible rfl
  simp only [List.setIfInBounds_toArray, List.set_cons_zero, List.set_cons_succ]
  refine wpAnyG_step 8 13 rfl (by kernel_rfl) rfl (by rfl) (fun K hK' => ?_)
  go_simp
  refine hC.out.mono ?_
  rintro r w3 ⟨v', rfl, hr3, k3, hn3⟩
  obtain ⟨A', c', rfl⟩ := hr3.slice
  refine hK' _ _ (fun _ => k3) ?_
  clear hK'
  simp only [List.setIfInBounds_toArray, List.set_cons_zero, List.set_cons_succ]
  refine wpAnyG_pure 9 14 (v := ?_) rfl (by kernel_rfl) rfl (by rfl) (fun w' => ?_) ?_
  rotate_left
  · go_simp <;> with_reducible rfl
  simp only [List.setIfInBounds_toArray, List.set_cons_zero, List.set_cons_succ]
  refine wpAnyG_step 10 15 rfl (by kernel_rfl) rfl (by rfl) (fun K hK' => ?_)
  go_simp
  refine hK' _ _ (fun _ => (Kept.refl _ _).alloc _) ?_
  clear hK'
  simp only [List.setIfInBounds_toArray, List.set_cons_zero, List.set_cons_succ]
  refine wpAnyG_pure 11 2 (v := ?_) rfl (by kernel_rfl) rfl (by rfl) (fun w' => ?_) ?_
  rotate_left
  · go_simp <;> with_reducible rfl
  simp only [List.setIfInBounds_toArray, List.set_cons_zero, List.set_cons_succ]
  refine wpAnyG_done (by kernel_rfl) ?_
  go_wp2_with fail
  go_ret
  have hk : Grew w w3 := (Kept.refl _ _).drew.trans k3
  have hks := hk.size
  refine ⟨_, _, rfl, ⟨?_, hr3.kept ((Kept.refl (fun _ => False) _).alloc _) (fun _ _ h => h), SS.out.len, SS.out.lt, SS.out.out, hsm⟩, hk.alloc _, ?_⟩
  · exact Blk.new _ _ _
  · rintro j (h | h)
    · rw [h]; exact hks
    · exact hn3 j h
end Go.Proofs.YtabddnlcgmbopaaDoor
