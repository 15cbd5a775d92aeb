/- The law's arcs: a row of arcs of one's own. -/
import Derived.Test.YthbcgdogmkgebaaNet
namespace Go.Proofs.Ythbcgdogmkgebaa
open Go.RowKit

theorem info_arc : (Try.prog.info? 56).map (fun i => (i.zero, i.size, i.bytes)) = some (some (.agg #[i64 0, u64 0]), 2, 16) := by kernel_rfl
/-- A row of arcs of one's own. -/
def OwnA (w : World) (B : Nat) (v : Value) (l : List Ar) : Prop := w.ownsRow B 56 2 v l.length (cellsA l)
theorem OwnA.grew {w w' : World} {B : Nat} {v : Value} {l : List Ar} (h : OwnA w B v l) (k : Grew w w') : OwnA w' B v l := k.own h
theorem OwnA.row {w : World} {B : Nat} {v : Value} {l : List Ar} (h : OwnA w B v l) : ∃ A c, v = .slice A l.length c ∧ RowA w A l := by
  rcases h.2 with ⟨hv, h0⟩ | ⟨g, cap, cur, hv, hb, hg, rest⟩
  · exact ⟨none, 0, by rw [hv, h0], by rw [List.eq_nil_of_length_eq_zero h0]; exact RowA.nil _ _⟩
  · refine ⟨_, cap, hv, fun i e hi => ⟨g, 0, rfl, (Array.getElem?_eq_some_iff.1 hg).1, ?_, ?_⟩⟩
    · subst hv
      have hl := (List.getElem?_eq_some_iff.1 hi).1
      have h1 := World.ownsRow.cellAt h (i * 2 + 0) (by omega)
      rw [Nat.zero_add]
      exact h1.trans (cellsA_get l i 0 e hi (by omega))
    · subst hv
      have hl := (List.getElem?_eq_some_iff.1 hi).1
      have h1 := World.ownsRow.cellAt h (i * 2 + 1) (by omega)
      rw [Nat.zero_add]
      exact h1.trans (cellsA_get l i 1 e hi (by omega))
theorem cellsA_one (l : List Ar) : ∀ u ∈ cellsA l, u.oneCell' = true := by
  intro u hu
  obtain ⟨e, _, he⟩ := List.mem_flatMap.1 hu
  simp [arCells] at he
  rcases he with rfl | rfl <;> rfl

set_option maxHeartbeats 2000000 in
theorem arcs_any (A : Option Addr) (c : Nat) (l : List Ar) (w : World) (h : RowA w A l) (hl : l.length ≤ 100000) :
    Calls Try.prog 17 #[.slice A l.length c] w fun e w' => ∃ u, e = .returned u ∧ OwnA w' w.heap.size u l ∧ Grew w w' := by
  obtain ⟨i0, hi, hz0, hz1, hz2⟩ := info_parts info_arc
  obtain ⟨L, hL⟩ : ∃ L, l.length = L := ⟨_, rfl⟩
  have HL := Lib.hid hL
  have HE := Lib.hid h
  rw [hL] at hl ⊢
  clear h hL
  go_enter Try.func17, Try.ntmps17
  go_wp2_with fail
  go_loopw [3, 4] (fun o i wr => ∃ k : Nat, k ≤ L ∧ i = .int .i64 k ∧ Hid (OwnA wr w.heap.size o (l.take k)) ∧ Grew w wr) (fun o i _ => L - (intOf i).toNat)
  case atStart => exact ⟨0, by omega, rfl, World.ownsRow_nil _ _ _ _, Kept.refl _ _⟩
  case round =>
    obtain ⟨k, hk, rfl, HS, hK⟩ := hrel
    by_cases hlt : k < L
    · obtain ⟨x, hx⟩ : ∃ x, l[k]? = some x := ⟨_, List.getElem?_eq_getElem (by rw [HL.out]; exact hlt)⟩
      obtain ⟨b, off, hAe, hb, e0, e1⟩ := HE.out k x hx
      obtain ⟨p, q⟩ := x
      subst hAe
      replace e0 := hK.cell e0
      replace e1 := hK.cell e1
      dsimp only at e0 e1
      have k0 : (0 : Int) ≤ (k : Int) := by omega
      have k1 : (k : Int) < (L : Int) := by omega
      have hown : wr.ownsRow w.heap.size 56 2 u3 k (cellsA (l.take k)) := by
        have h := HS.out
        unfold OwnA at h
        rw [List.length_take, HL.out, Nat.min_eq_left (by omega)] at h
        exact h
      have hT : Hid (l.take (k + 1) = l.take k ++ [(p, q)]) := by
        show _ = _
        rw [List.take_add_one, hx]; rfl
      have hsz := hK.size
      have hne : ¬ u3.ownBlock = some b := fun h => by have := (hown.lt b h).1; omega
      have hln : Hid ((l.take (k + 1)).length = k + 1) := by show _ = _; rw [List.length_take, HL.out, Nat.min_eq_left (by omega)]
      clear hx HS
      go_wp2_with fail
      refine wp_region_grow [] (fun j => u3.ownBlock = some j) (by kernel_rfl) ?_
      simp only [List.size_toArray, List.length_cons, List.length_nil, Nat.reduceAdd]
      refine wpAnyG_pure 0 11 (v := ?_) rfl (by kernel_rfl) rfl (by rfl) (fun w' => ?_) ?_
      rotate_left
      · go_simp <;> with_reducible rfl
      simp only [List.setIfInBounds_toArray, List.set_cons_zero, List.set_cons_succ]
      refine wpAnyG_pure 1 12 (v := ?_) rfl (by kernel_rfl) rfl (by rfl) (fun w' => ?_) ?_
      rotate_left
      · go_simp <;> with_reducible rfl
      simp only [List.setIfInBounds_toArray, List.set_cons_zero, List.set_cons_succ]
      refine wpAnyG_pure 2 13 (v := ?_) rfl (by kernel_rfl) rfl (by rfl) (fun w' => ?_) ?_
      rotate_left
      · go_simp <;> with_reducible rfl
      simp only [List.setIfInBounds_toArray, List.set_cons_zero, List.set_cons_succ]
      refine wpAnyG_pure 3 14 (v := ?_) rfl (by kernel_rfl) rfl (by rfl) (fun w' => ?_) ?_
      rotate_left
      · go_simp <;> with_reducible rfl
      simp only [List.setIfInBounds_toArray, List.set_cons_zero, List.set_cons_succ]
      refine wpAnyG_pure 4 15 (v := ?_) rfl (by kernel_rfl) rfl (by rfl) (fun w' => ?_) ?_
      rotate_left
      · go_simp <;> with_reducible rfl
      simp only [List.setIfInBounds_toArray, List.set_cons_zero, List.set_cons_succ]
      refine wpAnyG_take 5 16 (v := ?_) rfl (by kernel_rfl) rfl (by rfl) (fun w' hG' => ?_) ?_
      rotate_left
      · have hx0 := (Kept.refl (fun j => u3.ownBlock = some j) wr).drew.trans hG'
        have hx1 := hx0.cell e0 hne
        have hx2 := hx0.cell e1 hne
        go_simp <;> with_reducible rfl
      simp only [List.setIfInBounds_toArray, List.set_cons_zero, List.set_cons_succ]
      refine wpAnyG_pure 6 17 (v := ?_) rfl (by kernel_rfl) rfl (by rfl) (fun w' => ?_) ?_
      rotate_left
      · go_simp <;> with_reducible rfl
      simp only [List.setIfInBounds_toArray, List.set_cons_zero, List.set_cons_succ]
      refine wpAnyG_pure 7 18 (v := ?_) rfl (by kernel_rfl) rfl (by rfl) (fun w' => ?_) ?_
      rotate_left
      · go_simp <;> with_reducible rfl
      simp only [List.setIfInBounds_toArray, List.set_cons_zero, List.set_cons_succ]
      refine wpAnyG_pure 8 19 (v := ?_) rfl (by kernel_rfl) rfl (by rfl) (fun w' => ?_) ?_
      rotate_left
      · go_simp <;> with_reducible rfl
      simp only [List.setIfInBounds_toArray, List.set_cons_zero, List.set_cons_succ]
      refine wpAnyG_pure 9 20 (v := ?_) rfl (by kernel_rfl) rfl (by rfl) (fun w' => ?_) ?_
      rotate_left
      · go_simp <;> with_reducible rfl
      simp only [List.setIfInBounds_toArray, List.set_cons_zero, List.set_cons_succ]
      refine wpAnyG_take 10 21 (v := ?_) rfl (by kernel_rfl) rfl (by rfl) (fun w' hG' => ?_) ?_
      rotate_left
      · have hx0 := (Kept.refl (fun j => u3.ownBlock = some j) wr).drew.trans hG'
        have hx1 := hx0.cell e0 hne
        have hx2 := hx0.cell e1 hne
        go_simp <;> with_reducible rfl
      simp only [List.setIfInBounds_toArray, List.set_cons_zero, List.set_cons_succ]
      refine wpAnyG_pure 11 22 (v := ?_) rfl (by kernel_rfl) rfl (by rfl) (fun w' => ?_) ?_
      rotate_left
      · go_simp <;> with_reducible rfl
      simp only [List.setIfInBounds_toArray, List.set_cons_zero, List.set_cons_succ]
      refine wpAnyG_step 12 23 rfl (by kernel_rfl) rfl (by rfl) (fun K hK' => ?_)
      go_simp
      refine hK' _ _ (fun _ => (Kept.refl _ _).alloc _) ?_
      clear hK'
      simp only [List.setIfInBounds_toArray, List.set_cons_zero, List.set_cons_succ]
      refine wpAnyG_step 13 24 rfl (by kernel_rfl) rfl (by rfl) (fun K hK' => ?_)
      refine wp_append_lies _ (.tmp 11) (.tmp 23) 48 (by rfl) w.heap.size 56 i0 (.agg #[i64 0, u64 0]) 2 16 Try.underlying48 hi hz0 hz1 hz2 (by rfl) (by omega) u3 k (cellsA (l.take k)) (by rfl) (Grew.own (((Kept.refl (fun _ => False) wr).drew).alloc _) hown) ⟨wr.heap.size, 0, none⟩ 1 1 (arCells (p, q)) (by rfl) (by rfl) (World.news_of_block (heap_alloc_new _ _)) ?_ (by omega) ?_ ?_ ?_ _ rfl ?_
      · intro u hu; simp [arCells] at hu; rcases hu with rfl | rfl <;> rfl
      · unfold maxLen; omega
      · omega
      · simp; omega
      intro g cap wa hown1 hgrow1 hat1 hlt1
      refine hK' _ _ (fun _ => (Kept.refl _ _).grown hgrow1 (fun k hk => .inl hk)) ?_
      clear hK'
      simp only [List.setIfInBounds_toArray, List.set_cons_zero, List.set_cons_succ]
      refine wpAnyG_pure 14 3 (v := ?_) rfl (by kernel_rfl) rfl (by rfl) (fun w' => ?_) ?_
      rotate_left
      · go_simp <;> with_reducible rfl
      simp only [List.setIfInBounds_toArray, List.set_cons_zero, List.set_cons_succ]
      refine wpAnyG_done (by kernel_rfl) ?_
      have hO1 : Hid (OwnA wa w.heap.size (.slice (some ⟨g, 0, none⟩) (k + 1) cap) (l.take (k + 1))) := by
        show OwnA _ _ _ _
        unfold OwnA
        rw [hln.out, hT.out, cellsA_append]
        exact hown1
      have hKa : Grew w wa := (((hK.drew).alloc _).grown hgrow1 (fun j hj => .inr (hown.lt j hj).1))
      clear hown hown1 hgrow1 e0 e1
      go_wp2_with fail
      go_roundw
      case rel => exact ⟨k + 1, by omega, by go_num, hO1, hKa⟩
      case measure => simp [intOf]; omega
    · obtain rfl : L = k := by omega
      have hO : Hid (OwnA wr w.heap.size u3 l) := by
        have h := HS.out
        rw [List.take_of_length_le (by rw [HL.out]; exact Nat.le_refl _)] at h
        exact h
      clear HS
      go_wp2_with fail
      go_ret
      exact ⟨_, rfl, hO.out, hK⟩
end Go.Proofs.Ythbcgdogmkgebaa
