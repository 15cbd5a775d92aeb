/- Reversed: the walks of the program and of the document. -/
import Derived.Test.YtiialiifjhgcmaaClone
import Derived.Test.YtiialiifjhgcmaaGraph
namespace Go.Proofs.Ytiialiifjhgcmaa
open Go.RowKit

def swp (e : Edg) : Edg := (e.2.1, e.1, e.2.2)
def revK (es : List Edg) (k : Nat) : List Edg := (es.take k).map swp ++ es.drop k
theorem revK_length (es : List Edg) (k : Nat) : (revK es k).length = es.length := by simp [revK]; omega
theorem cells_swap (a b : List Edg) (p q r : Int) (k : Nat) (hk : a.length = k) : ((cellsOf (a ++ (p, q, r) :: b)).set (k * 3) (i64 q)).set (k * 3 + 1) (i64 p) = cellsOf (a ++ (q, p, r) :: b) := by
  subst hk
  have hl := cellsOf_length a
  rw [cellsOf_append, cellsOf_append, List.set_append_right _ _ (by omega), List.set_append_right _ _ (by omega), hl, Nat.sub_self, Nat.add_sub_cancel_left]
  rfl
theorem revK_step (es : List Edg) (k : Nat) (p q r : Int) (h : es[k]? = some (p, q, r)) :
    ((cellsOf (revK es k)).set (k * 3) (i64 q)).set (k * 3 + 1) (i64 p) = cellsOf (revK es (k + 1)) := by
  have hk := (List.getElem?_eq_some_iff.1 h).1
  have hd : es.drop k = (p, q, r) :: es.drop (k + 1) := by
    rw [List.drop_eq_getElem_cons hk]; congr 1; exact (List.getElem?_eq_some_iff.1 h).2
  have e1 : revK es k = (es.take k).map swp ++ (p, q, r) :: es.drop (k + 1) := by rw [revK, hd]
  have e2 : revK es (k + 1) = (es.take k).map swp ++ (q, p, r) :: es.drop (k + 1) := by
    rw [revK, List.take_add_one, h]; simp [swp]
  rw [e1, e2]
  exact cells_swap _ _ p q r k (by simp; omega)
theorem revK_get (es : List Edg) (k : Nat) (e : Edg) (h : es[k]? = some e) : (revK es k)[k]? = some e := by
  have hk := (List.getElem?_eq_some_iff.1 h).1
  rw [revK, List.getElem?_append_right (by simp; omega), List.length_map, List.length_take, Nat.min_eq_left (by omega), List.getElem?_drop]
  simpa using h
theorem Edges.at3 {w : World} {B g n c : Nat} {es : List Edg} (h : Edges w B (.slice (some ⟨g, 0, none⟩) n c) es) (hn : es.length = n) {k : Nat} {p q r : Int} (hk : es[k]? = some (p, q, r)) :
    w.cell? ⟨g, k * 3, none⟩ = some (i64 p) ∧ w.cell? ⟨g, k * 3 + 1, none⟩ = some (i64 q) ∧ w.cell? ⟨g, k * 3 + 2, none⟩ = some (u64 r) := by
  subst hn
  have hl := (List.getElem?_eq_some_iff.1 hk).1
  have hc : ∀ j, j < 3 → w.cell? ⟨g, k * 3 + j, none⟩ = (edgeCells (p, q, r))[j]? := fun j hj => by
    rw [← cellsOf_get es k j _ hk hj]
    exact World.ownsRow.cellAt h (k * 3 + j) (by omega)
  exact ⟨hc 0 (by omega), hc 1 (by omega), hc 2 (by omega)⟩
/-- A slice of edges as a value that is known by its row. -/
theorem Edges.len {w : World} {B : Nat} {v : Value} {es : List Edg} (h : Edges w B v es) : ∃ A c, v = .slice A es.length c := own_slice h

set_option maxHeartbeats 1000000 in
theorem reverse_no (n : Int) (A : Option Addr) (c : Nat) (es : List Edg) (w : World) (h : RowE w A es) (hl : es.length ≤ 100000) (hr : ¬ rightF n es = 0) :
    Calls Try.prog 18 #[.agg #[i64 n, .slice A es.length c]] w fun e w' => e = .returned (.agg #[i64 0, .slice none 0 0]) ∧ Grew w w' := by
  have b0 : Blk ((w.alloc (.cells #[i64 n, .slice A es.length c] 24)).alloc (.cells #[i64 0, .slice none 0 0] 24)) w.heap.size 24 #[i64 n, .slice A es.length c] := (Blk.new w _ _).alloc _
  have b1 : Blk ((w.alloc (.cells #[i64 n, .slice A es.length c] 24)).alloc (.cells #[i64 0, .slice none 0 0] 24)) (w.heap.size + 1) 24 #[i64 0, .slice none 0 0] := by
    have h := Blk.new (w.alloc (.cells #[i64 n, .slice A es.length c] 24)) 24 #[i64 0, .slice none 0 0]
    rw [World.size_alloc] at h; exact h
  have hK0 : Grew w ((w.alloc (.cells #[i64 n, .slice A es.length c] 24)).alloc (.cells #[i64 0, .slice none 0 0] 24)) := ((Kept.refl _ _).alloc _).alloc _
  have hC := Lib.hid (right_any n A c es _ (h.grew hK0) hl)
  obtain ⟨f, hf⟩ : ∃ f, rightF n es = f := ⟨_, rfl⟩
  rw [hf] at hC hr
  have hb : (f == 0) = false := by simpa using hr
  have hb' : (f != 0) = true := by simpa using hr
  obtain ⟨L, hL⟩ : ∃ L, es.length = L := ⟨_, rfl⟩
  rw [hL] at b0 b1 hK0 hC
  rw [hL]
  clear h hf hr hL hl
  have c0 := b0.cell 0
  have c1 := b0.cell 1
  simp at c0 c1
  go_enter Try.func18, Try.ntmps18
  go_wp2_with fail
  refine hC.out.mono ?_
  rintro e w1 ⟨rfl, k1⟩
  replace b1 := b1.grew k1
  have d0 := b1.cell 0
  have d1 := b1.cell 1
  have f0 := b1.frozen 0
  have f1 := b1.frozen 1
  simp at d0 d1
  have q0 := ((b1.set 0 (i64 0)).set 1 (.slice none 0 0)).cell 0
  have q1 := ((b1.set 0 (i64 0)).set 1 (.slice none 0 0)).cell 1
  simp at q0 q1
  go_wp2_with fail
  refine bodyPost_ret (v := .agg #[i64 0, .slice none 0 0]) (by simp [results, Try.results18, go_sem, q0, q1]) rfl ⟨rfl, ?_⟩
  have hF : Kept (· = w.heap.size + 1) w1 ((w1.setCell ⟨w.heap.size + 1, 0, none⟩ (i64 0)).setCell ⟨w.heap.size + 1, 1, none⟩ (.slice none 0 0)) := ((Kept.refl (· = w.heap.size + 1) w1).setCell (p := ⟨w.heap.size + 1, 0, none⟩) (.inl rfl) _).setCell (p := ⟨w.heap.size + 1, 1, none⟩) (.inl rfl) _
  exact (hK0.trans k1).then hF (fun i hi h => by have : i = w.heap.size + 1 := h; omega)

set_option maxHeartbeats 2000000 in
set_option maxRecDepth 100000 in
theorem reverse_yes (n : Int) (A : Option Addr) (c : Nat) (es : List Edg) (w : World) (h : RowE w A es) (hl : es.length ≤ 100000) (hr : rightF n es = 0) :
    Calls Try.prog 18 #[.agg #[i64 n, .slice A es.length c]] w fun e w' => ∃ v, e = .returned (.agg #[i64 n, v]) ∧ Edges w' w.heap.size v (es.map swp) ∧ Grew w w' := by
  have b0 : Blk ((w.alloc (.cells #[i64 n, .slice A es.length c] 24)).alloc (.cells #[i64 0, .slice none 0 0] 24)) w.heap.size 24 #[i64 n, .slice A es.length c] := (Blk.new w _ _).alloc _
  have b1 : Blk ((w.alloc (.cells #[i64 n, .slice A es.length c] 24)).alloc (.cells #[i64 0, .slice none 0 0] 24)) (w.heap.size + 1) 24 #[i64 0, .slice none 0 0] := by
    have h := Blk.new (w.alloc (.cells #[i64 n, .slice A es.length c] 24)) 24 #[i64 0, .slice none 0 0]
    rw [World.size_alloc] at h; exact h
  have hK0 : Grew w ((w.alloc (.cells #[i64 n, .slice A es.length c] 24)).alloc (.cells #[i64 0, .slice none 0 0] 24)) := ((Kept.refl _ _).alloc _).alloc _
  have hE := Lib.hid (h.grew hK0)
  have hC := Lib.hid (right_any n A c es _ (h.grew hK0) hl)
  have hQ := Lib.hid (fun W h => clone_any n A c es W h hl)
  rw [hr] at hC
  obtain ⟨L, hL⟩ : ∃ L, es.length = L := ⟨_, rfl⟩
  have HL := Lib.hid hL
  rw [hL] at b0 b1 hK0 hC hE hQ hl
  rw [hL]
  clear h hr hL
  have c0 := b0.cell 0
  have c1 := b0.cell 1
  simp at c0 c1
  go_enter Try.func18, Try.ntmps18
  go_wp2_with fail
  refine hC.out.mono ?_
  rintro e w1 ⟨rfl, k1⟩
  replace b0 := b0.grew k1
  replace b1 := b1.grew k1
  replace c0 := b0.cell 0
  replace c1 := b0.cell 1
  simp at c0 c1
  have hE1 := Lib.hid (hE.out.grew k1)
  go_wp2_with fail
  refine (hQ.out _ hE1.out).mono ?_
  rintro e w2 ⟨v, rfl, hown, k2⟩
  obtain ⟨A1, cc, rfl⟩ := hown.len
  rw [HL.out] at hown ⊢
  have hz1 := k1.size
  have hz2 := k2.size
  simp at hz1
  have hK2 := (hK0.trans k1).trans k2
  have bG := Blk.new w2 24 #[i64 n, .slice A1 L cc]
  have g0 := bG.cell 0
  have g1 := bG.cell 1
  simp at g0 g1
  have hown0 : Hid (Edges (w2.alloc (.cells #[i64 n, .slice A1 L cc] 24)) w1.heap.size (.slice A1 L cc) (revK es 0)) := by
    have h := Grew.own ((Kept.refl (fun _ => False) w2).alloc (.cells #[i64 n, .slice A1 L cc] 24)) hown
    show Edges _ _ _ _
    rw [show revK es 0 = es by simp [revK]]
    exact h
  have b1' := (b1.grew k2).alloc (.cells #[i64 n, .slice A1 L cc] 24)
  have hK3 := hK2.alloc (.cells #[i64 n, .slice A1 L cc] 24)
  have hlt2 : ∀ g, A1 = some ⟨g, 0, none⟩ → w1.heap.size ≤ g ∧ g < w2.heap.size := fun g hg => World.ownsRow.lt hown g (by rw [hg]; rfl)
  have hlt2 := Lib.hid hlt2
  clear hown hE hE1 hC hQ c0 c1 b0 b1 hK0 hK2 k1 k2
  go_wp2_with fail
  go_loopw [4, 5, 15] (fun u4 u5 i wr => ∃ (k : Nat), k ≤ L ∧ i = .int .i64 k ∧ Blk wr w2.heap.size 24 #[i64 n, .slice A1 L cc] ∧ Hid (Edges wr w1.heap.size (.slice A1 L cc) (revK es k)) ∧ Blk wr (w.heap.size + 1) 24 #[i64 0, .slice none 0 0] ∧ Grew w wr) (fun u4 u5 i _ => L - (intOf i).toNat)
  case atStart => exact ⟨0, by omega, rfl, bG, hown0, b1', hK3⟩
  case round =>
    clear bG hown0 b1' hK3 g0 g1
    obtain ⟨k, hk, rfl, bG, hown, b1, hK⟩ := hrel
    have g0 := bG.cell 0
    have g1 := bG.cell 1
    simp at g0 g1
    by_cases hlt : k < L
    · obtain ⟨x, hx⟩ : ∃ x, es[k]? = some x := ⟨_, List.getElem?_eq_getElem (by rw [HL.out]; exact hlt)⟩
      obtain ⟨p, q, r⟩ := x
      obtain ⟨g, hg⟩ : ∃ g, A1 = some ⟨g, 0, none⟩ := by
        obtain ⟨g, c', hv⟩ := own_form hown.out (by rw [revK_length, HL.out]; omega)
        cases hv
        exact ⟨g, rfl⟩
      have hgl := hlt2.out g hg
      subst hg
      have HO : Hid (World.ownsRow wr w1.heap.size 46 3 (.slice (some ⟨g, 0, none⟩) L cc) L (cellsOf (revK es k))) := by
        have h := hown.out
        unfold Edges at h
        rw [revK_length, HL.out] at h
        exact h
      obtain ⟨e0, e1, e2⟩ := Edges.at3 hown.out (by rw [revK_length, HL.out]) (revK_get es k _ hx)
      have f0 := World.ownsRow.frozenAt HO.out (k * 3)
      have f1 := World.ownsRow.frozenAt HO.out (k * 3 + 1)
      have HX := Lib.hid hx
      clear hx
      have hk0 : (0 : Int) ≤ (k : Int) := by omega
      have hk1 : (k : Int) < (L : Int) := by omega
      go_wp2_with fail
      refine wp_region_grow [12, 15] (fun _ => False) (by kernel_rfl) ?_
      simp only [List.size_toArray, List.length_cons, List.length_nil, Nat.reduceAdd]
      refine wpAnyG_pure 0 22 (v := ?_) rfl (by kernel_rfl) rfl (by rfl) (fun w' => ?_) ?_
      rotate_left
      · go_simp <;> with_reducible rfl
      simp only [List.setIfInBounds_toArray, List.set_cons_zero, List.set_cons_succ]
      refine wpAnyG_pure 1 23 (v := ?_) rfl (by kernel_rfl) rfl (by rfl) (fun w' => ?_) ?_
      rotate_left
      · go_simp <;> with_reducible rfl
      simp only [List.setIfInBounds_toArray, List.set_cons_zero, List.set_cons_succ]
      refine wpAnyG_pure 2 24 (v := ?_) rfl (by kernel_rfl) rfl (by rfl) (fun w' => ?_) ?_
      rotate_left
      · go_simp <;> with_reducible rfl
      simp only [List.setIfInBounds_toArray, List.set_cons_zero, List.set_cons_succ]
      refine wpAnyG_pure 3 25 (v := ?_) rfl (by kernel_rfl) rfl (by rfl) (fun w' => ?_) ?_
      rotate_left
      · go_simp <;> with_reducible rfl
      simp only [List.setIfInBounds_toArray, List.set_cons_zero, List.set_cons_succ]
      refine wpAnyG_pure 4 26 (v := ?_) rfl (by kernel_rfl) rfl (by rfl) (fun w' => ?_) ?_
      rotate_left
      · go_simp <;> with_reducible rfl
      simp only [List.setIfInBounds_toArray, List.set_cons_zero, List.set_cons_succ]
      refine wpAnyG_take 5 27 (v := ?_) rfl (by kernel_rfl) rfl (by rfl) (fun w' hG' => ?_) ?_
      rotate_left
      · have hx0 := Grew.cell hG' (show wr.drew.cell? ⟨g, k * 3, none⟩ = some (i64 p) from e0)
        have hx1 := Grew.cell hG' (show wr.drew.cell? ⟨g, k * 3 + 1, none⟩ = some (i64 q) from e1)
        go_simp <;> with_reducible rfl
      simp only [List.setIfInBounds_toArray, List.set_cons_zero, List.set_cons_succ]
      refine wpAnyG_pure 6 28 (v := ?_) rfl (by kernel_rfl) rfl (by rfl) (fun w' => ?_) ?_
      rotate_left
      · go_simp <;> with_reducible rfl
      simp only [List.setIfInBounds_toArray, List.set_cons_zero, List.set_cons_succ]
      refine wpAnyG_pure 7 29 (v := ?_) rfl (by kernel_rfl) rfl (by rfl) (fun w' => ?_) ?_
      rotate_left
      · go_simp <;> with_reducible rfl
      simp only [List.setIfInBounds_toArray, List.set_cons_zero, List.set_cons_succ]
      refine wpAnyG_pure 8 30 (v := ?_) rfl (by kernel_rfl) rfl (by rfl) (fun w' => ?_) ?_
      rotate_left
      · go_simp <;> with_reducible rfl
      simp only [List.setIfInBounds_toArray, List.set_cons_zero, List.set_cons_succ]
      refine wpAnyG_take 9 31 (v := ?_) rfl (by kernel_rfl) rfl (by rfl) (fun w' hG' => ?_) ?_
      rotate_left
      · have hx0 := Grew.cell hG' (show wr.drew.cell? ⟨g, k * 3, none⟩ = some (i64 p) from e0)
        have hx1 := Grew.cell hG' (show wr.drew.cell? ⟨g, k * 3 + 1, none⟩ = some (i64 q) from e1)
        go_simp <;> with_reducible rfl
      simp only [List.setIfInBounds_toArray, List.set_cons_zero, List.set_cons_succ]
      refine wpAnyG_pure 10 32 (v := ?_) rfl (by kernel_rfl) rfl (by rfl) (fun w' => ?_) ?_
      rotate_left
      · go_simp <;> with_reducible rfl
      simp only [List.setIfInBounds_toArray, List.set_cons_zero, List.set_cons_succ]
      refine wpAnyG_pure 11 33 (v := ?_) rfl (by kernel_rfl) rfl (by rfl) (fun w' => ?_) ?_
      rotate_left
      · go_simp <;> with_reducible rfl
      simp only [List.setIfInBounds_toArray, List.set_cons_zero, List.set_cons_succ]
      refine wpAnyG_store 12 rfl (by kernel_rfl) rfl (by rfl) (fun K hK' => ?_)
      go_simp
      refine hK' _ (fun h => absurd (by simp) h) ?_
      clear hK'
      refine wpAnyG_pure 13 34 (v := ?_) rfl (by kernel_rfl) rfl (by rfl) (fun w' => ?_) ?_
      rotate_left
      · go_simp <;> with_reducible rfl
      simp only [List.setIfInBounds_toArray, List.set_cons_zero, List.set_cons_succ]
      refine wpAnyG_pure 14 35 (v := ?_) rfl (by kernel_rfl) rfl (by rfl) (fun w' => ?_) ?_
      rotate_left
      · go_simp <;> with_reducible rfl
      simp only [List.setIfInBounds_toArray, List.set_cons_zero, List.set_cons_succ]
      refine wpAnyG_store 15 rfl (by kernel_rfl) rfl (by rfl) (fun K hK' => ?_)
      go_simp
      refine hK' _ (fun h => absurd (by simp) h) ?_
      clear hK'
      refine wpAnyG_done (by kernel_rfl) ?_
      go_wp2_with fail
      go_roundw
      case rel =>
        have h2 := ((World.ownsRow.stored HO.out (k * 3) (i64 q)).1.stored (k * 3 + 1) (i64 p)).1
        rw [revK_step es k p q r HX.out] at h2
        refine ⟨k + 1, by omega, by go_num, ?_, ?_, ?_, ?_⟩
        · have hb : g ≠ w2.heap.size := by omega
          exact (bG.drew.far (p := ⟨g, k * 3, none⟩) (Ne.symm hb) _).far (p := ⟨g, k * 3 + 1, none⟩) (Ne.symm hb) _
        · show Edges _ _ _ _
          unfold Edges
          rw [revK_length, HL.out]
          exact h2
        · have hb : w.heap.size + 1 ≠ g := by omega
          exact (b1.drew.far (p := ⟨g, k * 3, none⟩) hb _).far (p := ⟨g, k * 3 + 1, none⟩) hb _
        · exact (hK.drew.setCell (p := ⟨g, k * 3, none⟩) (.inr (by show w.heap.size ≤ g; omega)) _).setCell (p := ⟨g, k * 3 + 1, none⟩) (.inr (by show w.heap.size ≤ g; omega)) _
      case measure => simp [intOf]; omega
    · obtain rfl : k = L := by omega
      have d0 := b1.cell 0
      have d1 := b1.cell 1
      have f0 := b1.frozen 0
      have f1 := b1.frozen 1
      simp at d0 d1
      have q0 := ((b1.set 0 (i64 n)).set 1 (.slice A1 k cc)).cell 0
      have q1 := ((b1.set 0 (i64 n)).set 1 (.slice A1 k cc)).cell 1
      simp at q0 q1
      go_wp2_with fail
      have hF : Kept (· = w.heap.size + 1) wr ((wr.setCell ⟨w.heap.size + 1, 0, none⟩ (i64 n)).setCell ⟨w.heap.size + 1, 1, none⟩ (.slice A1 k cc)) := ((Kept.refl (· = w.heap.size + 1) wr).setCell (p := ⟨w.heap.size + 1, 0, none⟩) (.inl rfl) _).setCell (p := ⟨w.heap.size + 1, 1, none⟩) (.inl rfl) _
      refine bodyPost_ret (v := .agg #[i64 n, .slice A1 k cc]) (by simp [results, Try.results18, go_sem, q0, q1]) rfl ⟨_, rfl, ?_, ?_⟩
      · have h := hown.out
        rw [revK, List.take_of_length_le (by rw [HL.out]; omega), List.drop_of_length_le (by rw [HL.out]; omega), List.append_nil] at h
        exact own_base (Kept.own hF h (fun k hk h' => by have := (h.lt k hk).1; omega)) (by omega)
      · exact hK.then hF (fun i hi h => by have : i = w.heap.size + 1 := h; omega)

set_option maxHeartbeats 1000000 in
theorem refReverse_no (n : Int) (A : Option Addr) (c : Nat) (es : List Edg) (w : World) (h : RowE w A es) (hl : es.length ≤ 100000) (hr : ¬ rightF n es = 0) :
    Calls Try.prog 19 #[.agg #[i64 n, .slice A es.length c]] w fun e w' => e = .returned (.agg #[i64 0, .slice none 0 0]) ∧ Grew w w' := by
  have b0 : Blk ((w.alloc (.cells #[i64 n, .slice A es.length c] 24)).alloc (.cells #[i64 0, .slice none 0 0] 24)) w.heap.size 24 #[i64 n, .slice A es.length c] := (Blk.new w _ _).alloc _
  have b1 : Blk ((w.alloc (.cells #[i64 n, .slice A es.length c] 24)).alloc (.cells #[i64 0, .slice none 0 0] 24)) (w.heap.size + 1) 24 #[i64 0, .slice none 0 0] := by
    have h := Blk.new (w.alloc (.cells #[i64 n, .slice A es.length c] 24)) 24 #[i64 0, .slice none 0 0]
    rw [World.size_alloc] at h; exact h
  have hK0 : Grew w ((w.alloc (.cells #[i64 n, .slice A es.length c] 24)).alloc (.cells #[i64 0, .slice none 0 0] 24)) := ((Kept.refl _ _).alloc _).alloc _
  have hC := Lib.hid (refRight_any n A c es _ (h.grew hK0) hl)
  obtain ⟨f, hf⟩ : ∃ f, rightF n es = f := ⟨_, rfl⟩
  rw [hf] at hC hr
  have hb : (f == 0) = false := by simpa using hr
  have hb' : (f != 0) = true := by simpa using hr
  obtain ⟨L, hL⟩ : ∃ L, es.length = L := ⟨_, rfl⟩
  rw [hL] at b0 b1 hK0 hC
  rw [hL]
  clear h hf hr hL hl
  have c0 := b0.cell 0
  have c1 := b0.cell 1
  simp at c0 c1
  go_enter Try.func19, Try.ntmps19
  go_wp2_with fail
  refine hC.out.mono ?_
  rintro e w1 ⟨rfl, k1⟩
  replace b1 := b1.grew k1
  have d0 := b1.cell 0
  have d1 := b1.cell 1
  have f0 := b1.frozen 0
  have f1 := b1.frozen 1
  simp at d0 d1
  have q0 := ((b1.set 0 (i64 0)).set 1 (.slice none 0 0)).cell 0
  have q1 := ((b1.set 0 (i64 0)).set 1 (.slice none 0 0)).cell 1
  simp at q0 q1
  go_wp2_with fail
  refine bodyPost_ret (v := .agg #[i64 0, .slice none 0 0]) (by simp [results, Try.results19, go_sem, q0, q1]) rfl ⟨rfl, ?_⟩
  have hF : Kept (· = w.heap.size + 1) w1 ((w1.setCell ⟨w.heap.size + 1, 0, none⟩ (i64 0)).setCell ⟨w.heap.size + 1, 1, none⟩ (.slice none 0 0)) := ((Kept.refl (· = w.heap.size + 1) w1).setCell (p := ⟨w.heap.size + 1, 0, none⟩) (.inl rfl) _).setCell (p := ⟨w.heap.size + 1, 1, none⟩) (.inl rfl) _
  exact (hK0.trans k1).then hF (fun i hi h => by have : i = w.heap.size + 1 := h; omega)

theorem map_take_step (es : List Edg) (k : Nat) (e : Edg) (h : es[k]? = some e) (f : Edg → Edg) : (es.take (k + 1)).map f = (es.take k).map f ++ [f e] := by
  rw [List.take_add_one, h]; simp

set_option maxHeartbeats 2000000 in
set_option maxRecDepth 100000 in
theorem refReverse_yes (n : Int) (A : Option Addr) (c : Nat) (es : List Edg) (w : World) (h : RowE w A es) (hl : es.length ≤ 100000) (hr : rightF n es = 0) :
    Calls Try.prog 19 #[.agg #[i64 n, .slice A es.length c]] w fun e w' => ∃ v, e = .returned (.agg #[i64 n, v]) ∧ Edges w' w.heap.size v (es.map swp) ∧ Grew w w' := by
  obtain ⟨i0, hi, hz0, hz1, hz2⟩ := info_parts info_edge
  have b0 : Blk ((w.alloc (.cells #[i64 n, .slice A es.length c] 24)).alloc (.cells #[i64 0, .slice none 0 0] 24)) w.heap.size 24 #[i64 n, .slice A es.length c] := (Blk.new w _ _).alloc _
  have b1 : Blk ((w.alloc (.cells #[i64 n, .slice A es.length c] 24)).alloc (.cells #[i64 0, .slice none 0 0] 24)) (w.heap.size + 1) 24 #[i64 0, .slice none 0 0] := by
    have h := Blk.new (w.alloc (.cells #[i64 n, .slice A es.length c] 24)) 24 #[i64 0, .slice none 0 0]
    rw [World.size_alloc] at h; exact h
  have hK0 : Grew w ((w.alloc (.cells #[i64 n, .slice A es.length c] 24)).alloc (.cells #[i64 0, .slice none 0 0] 24)) := ((Kept.refl _ _).alloc _).alloc _
  have hE0 := Lib.hid h
  have hC := Lib.hid (refRight_any n A c es _ (h.grew hK0) hl)
  rw [hr] at hC
  obtain ⟨L, hL⟩ : ∃ L, es.length = L := ⟨_, rfl⟩
  have HL := Lib.hid hL
  rw [hL] at b0 b1 hK0 hC hl
  rw [hL]
  clear h hr hL
  have c0 := b0.cell 0
  have c1 := b0.cell 1
  simp at c0 c1
  go_enter Try.func19, Try.ntmps19
  go_wp2_with fail
  refine hC.out.mono ?_
  rintro e w1 ⟨rfl, k1⟩
  replace b0 := b0.grew k1
  replace b1 := b1.grew k1
  replace c0 := b0.cell 0
  replace c1 := b0.cell 1
  simp at c0 c1
  have hs1 := k1.size
  simp at hs1
  have hK1 := hK0.trans k1
  have bG := Blk.new w1 24 #[i64 n, .slice none 0 0]
  have hK3 := hK1.alloc (.cells #[i64 n, .slice none 0 0] 24)
  have b0' := b0.alloc (.cells #[i64 n, .slice none 0 0] 24)
  have b1' := b1.alloc (.cells #[i64 n, .slice none 0 0] 24)
  clear hK0 hK1 k1 hC b0 b1
  go_wp2_with fail
  go_loopw [4] (fun i wr => ∃ (k : Nat) (v : Value), k ≤ L ∧ i = .int .i64 k ∧ Blk wr w1.heap.size 24 #[i64 n, v] ∧ Hid (Edges wr (w1.heap.size + 1) v ((es.take k).map swp)) ∧ Blk wr w.heap.size 24 #[i64 n, .slice A L c] ∧ Blk wr (w.heap.size + 1) 24 #[i64 0, .slice none 0 0] ∧ Grew w wr) (fun i _ => L - (intOf i).toNat)
  case atStart => exact ⟨0, _, by omega, rfl, bG, World.ownsRow_nil _ _ _ _, b0', b1', hK3⟩
  case round =>
    clear bG b0' b1' hK3 c0 c1
    obtain ⟨k, v, hk, rfl, bG, hown, b0, b1, hK⟩ := hrel
    have c0 := b0.cell 0
    have c1 := b0.cell 1
    simp at c0 c1
    by_cases hlt : k < L
    · obtain ⟨x, hx⟩ : ∃ x, es[k]? = some x := ⟨_, List.getElem?_eq_getElem (by rw [HL.out]; exact hlt)⟩
      obtain ⟨b, off, hA, hb, e0, e1, e2⟩ := (hE0.out.grew (hK.drew)) k x hx
      have hbw : b < w.heap.size := by
        obtain ⟨b', off', hA', hb', _⟩ := hE0.out k x hx
        rw [hA] at hA'
        cases hA'
        exact hb'
      obtain ⟨p, q, r⟩ := x
      subst hA
      have HX := Lib.hid hx
      clear hx
      have hk0 : (0 : Int) ≤ (k : Int) := by omega
      have hk1 : (k : Int) < (L : Int) := by omega
      obtain ⟨zs, hzs⟩ : ∃ zs, (es.take k).map swp = zs := ⟨_, rfl⟩
      have hLen : Hid (zs.length = k) := by show _ = _; rw [← hzs]; simp; rw [HL.out]; omega
      rw [hzs] at hown
      replace hzs := Lib.hid hzs
      have hown' := Grew.own (Grew.alloc_drew wr (.cells (edgeCells (q, p, r)).toArray 46)) hown.out
      have hlo := hown.out.lt
      have hneG : ¬ v.ownBlock = some w1.heap.size := fun h => by have := (hlo _ h).1; omega
      have hne0 : ¬ v.ownBlock = some w.heap.size := fun h => by have := (hlo _ h).1; omega
      have hne1 : ¬ v.ownBlock = some (w.heap.size + 1) := fun h => by have := (hlo _ h).1; omega
      have hneb : ¬ v.ownBlock = some b := fun h => by have := (hlo _ h).1; omega
      have hlo := Lib.hid hlo
      go_wp2_with fail
      refine wp_region_grow [24] (fun j => v.ownBlock = some j) (by kernel_rfl) ?_
      simp only [List.size_toArray, List.length_cons, List.length_nil, Nat.reduceAdd]
      refine wpAnyG_pure 0 19 (v := ?_) rfl (by kernel_rfl) rfl (by rfl) (fun w' => ?_) ?_
      rotate_left
      · go_simp <;> with_reducible rfl
      simp only [List.setIfInBounds_toArray, List.set_cons_zero, List.set_cons_succ]
      refine wpAnyG_take 1 20 (v := ?_) rfl (by kernel_rfl) rfl (by rfl) (fun w' hG' => ?_) ?_
      rotate_left
      · have hx0 := (bG.drew.kept hG' hneG).cell 1
        have hx1 := (b0.drew.kept hG' hne0).cell 1
        have hx2 := Kept.cell hG' e0 hneb
        have hx3 := Kept.cell hG' e1 hneb
        have hx4 := Kept.cell hG' e2 hneb
        simp at hx0 hx1 hx2 hx3 hx4
        go_simp <;> with_reducible rfl
      simp only [List.setIfInBounds_toArray, List.set_cons_zero, List.set_cons_succ]
      refine wpAnyG_pure 2 21 (v := ?_) rfl (by kernel_rfl) rfl (by rfl) (fun w' => ?_) ?_
      rotate_left
      · go_simp <;> with_reducible rfl
      simp only [List.setIfInBounds_toArray, List.set_cons_zero, List.set_cons_succ]
      refine wpAnyG_take 3 22 (v := ?_) rfl (by kernel_rfl) rfl (by rfl) (fun w' hG' => ?_) ?_
      rotate_left
      · have hx0 := (bG.drew.kept hG' hneG).cell 1
        have hx1 := (b0.drew.kept hG' hne0).cell 1
        have hx2 := Kept.cell hG' e0 hneb
        have hx3 := Kept.cell hG' e1 hneb
        have hx4 := Kept.cell hG' e2 hneb
        simp at hx0 hx1 hx2 hx3 hx4
        go_simp <;> with_reducible rfl
      simp only [List.setIfInBounds_toArray, List.set_cons_zero, List.set_cons_succ]
      refine wpAnyG_pure 4 23 (v := ?_) rfl (by kernel_rfl) rfl (by rfl) (fun w' => ?_) ?_
      rotate_left
      · go_simp <;> with_reducible rfl
      simp only [List.setIfInBounds_toArray, List.set_cons_zero, List.set_cons_succ]
      refine wpAnyG_pure 5 24 (v := ?_) rfl (by kernel_rfl) rfl (by rfl) (fun w' => ?_) ?_
      rotate_left
      · go_simp <;> with_reducible rfl
      simp only [List.setIfInBounds_toArray, List.set_cons_zero, List.set_cons_succ]
      refine wpAnyG_pure 6 25 (v := ?_) rfl (by kernel_rfl) rfl (by rfl) (fun w' => ?_) ?_
      rotate_left
      · go_simp <;> with_reducible rfl
      simp only [List.setIfInBounds_toArray, List.set_cons_zero, List.set_cons_succ]
      refine wpAnyG_take 7 26 (v := ?_) rfl (by kernel_rfl) rfl (by rfl) (fun w' hG' => ?_) ?_
      rotate_left
      · have hx0 := (bG.drew.kept hG' hneG).cell 1
        have hx1 := (b0.drew.kept hG' hne0).cell 1
        have hx2 := Kept.cell hG' e0 hneb
        have hx3 := Kept.cell hG' e1 hneb
        have hx4 := Kept.cell hG' e2 hneb
        simp at hx0 hx1 hx2 hx3 hx4
        go_simp <;> with_reducible rfl
      simp only [List.setIfInBounds_toArray, List.set_cons_zero, List.set_cons_succ]
      refine wpAnyG_pure 8 27 (v := ?_) rfl (by kernel_rfl) rfl (by rfl) (fun w' => ?_) ?_
      rotate_left
      · go_simp <;> with_reducible rfl
      simp only [List.setIfInBounds_toArray, List.set_cons_zero, List.set_cons_succ]
      refine wpAnyG_take 9 28 (v := ?_) rfl (by kernel_rfl) rfl (by rfl) (fun w' hG' => ?_) ?_
      rotate_left
      · have hx0 := (bG.drew.kept hG' hneG).cell 1
        have hx1 := (b0.drew.kept hG' hne0).cell 1
        have hx2 := Kept.cell hG' e0 hneb
        have hx3 := Kept.cell hG' e1 hneb
        have hx4 := Kept.cell hG' e2 hneb
        simp at hx0 hx1 hx2 hx3 hx4
        go_simp <;> with_reducible rfl
      simp only [List.setIfInBounds_toArray, List.set_cons_zero, List.set_cons_succ]
      refine wpAnyG_pure 10 29 (v := ?_) rfl (by kernel_rfl) rfl (by rfl) (fun w' => ?_) ?_
      rotate_left
      · go_simp <;> with_reducible rfl
      simp only [List.setIfInBounds_toArray, List.set_cons_zero, List.set_cons_succ]
      refine wpAnyG_pure 11 30 (v := ?_) rfl (by kernel_rfl) rfl (by rfl) (fun w' => ?_) ?_
      rotate_left
      · go_simp <;> with_reducible rfl
      simp only [List.setIfInBounds_toArray, List.set_cons_zero, List.set_cons_succ]
      refine wpAnyG_pure 12 31 (v := ?_) rfl (by kernel_rfl) rfl (by rfl) (fun w' => ?_) ?_
      rotate_left
      · go_simp <;> with_reducible rfl
      simp only [List.setIfInBounds_toArray, List.set_cons_zero, List.set_cons_succ]
      refine wpAnyG_take 13 32 (v := ?_) rfl (by kernel_rfl) rfl (by rfl) (fun w' hG' => ?_) ?_
      rotate_left
      · have hx0 := (bG.drew.kept hG' hneG).cell 1
        have hx1 := (b0.drew.kept hG' hne0).cell 1
        have hx2 := Kept.cell hG' e0 hneb
        have hx3 := Kept.cell hG' e1 hneb
        have hx4 := Kept.cell hG' e2 hneb
        simp at hx0 hx1 hx2 hx3 hx4
        go_simp <;> with_reducible rfl
      simp only [List.setIfInBounds_toArray, List.set_cons_zero, List.set_cons_succ]
      refine wpAnyG_pure 14 33 (v := ?_) rfl (by kernel_rfl) rfl (by rfl) (fun w' => ?_) ?_
      rotate_left
      · go_simp <;> with_reducible rfl
      simp only [List.setIfInBounds_toArray, List.set_cons_zero, List.set_cons_succ]
      refine wpAnyG_take 15 34 (v := ?_) rfl (by kernel_rfl) rfl (by rfl) (fun w' hG' => ?_) ?_
      rotate_left
      · have hx0 := (bG.drew.kept hG' hneG).cell 1
        have hx1 := (b0.drew.kept hG' hne0).cell 1
        have hx2 := Kept.cell hG' e0 hneb
        have hx3 := Kept.cell hG' e1 hneb
        have hx4 := Kept.cell hG' e2 hneb
        simp at hx0 hx1 hx2 hx3 hx4
        go_simp <;> with_reducible rfl
      simp only [List.setIfInBounds_toArray, List.set_cons_zero, List.set_cons_succ]
      refine wpAnyG_pure 16 35 (v := ?_) rfl (by kernel_rfl) rfl (by rfl) (fun w' => ?_) ?_
      rotate_left
      · go_simp <;> with_reducible rfl
      simp only [List.setIfInBounds_toArray, List.set_cons_zero, List.set_cons_succ]
      refine wpAnyG_pure 17 36 (v := ?_) rfl (by kernel_rfl) rfl (by rfl) (fun w' => ?_) ?_
      rotate_left
      · go_simp <;> with_reducible rfl
      simp only [List.setIfInBounds_toArray, List.set_cons_zero, List.set_cons_succ]
      refine wpAnyG_pure 18 37 (v := ?_) rfl (by kernel_rfl) rfl (by rfl) (fun w' => ?_) ?_
      rotate_left
      · go_simp <;> with_reducible rfl
      simp only [List.setIfInBounds_toArray, List.set_cons_zero, List.set_cons_succ]
      refine wpAnyG_take 19 38 (v := ?_) rfl (by kernel_rfl) rfl (by rfl) (fun w' hG' => ?_) ?_
      rotate_left
      · have hx0 := (bG.drew.kept hG' hneG).cell 1
        have hx1 := (b0.drew.kept hG' hne0).cell 1
        have hx2 := Kept.cell hG' e0 hneb
        have hx3 := Kept.cell hG' e1 hneb
        have hx4 := Kept.cell hG' e2 hneb
        simp at hx0 hx1 hx2 hx3 hx4
        go_simp <;> with_reducible rfl
      simp only [List.setIfInBounds_toArray, List.set_cons_zero, List.set_cons_succ]
      refine wpAnyG_pure 20 39 (v := ?_) rfl (by kernel_rfl) rfl (by rfl) (fun w' => ?_) ?_
      rotate_left
      · go_simp <;> with_reducible rfl
      simp only [List.setIfInBounds_toArray, List.set_cons_zero, List.set_cons_succ]
      refine wpAnyG_step 21 40 rfl (by kernel_rfl) rfl (by rfl) (fun K hK' => ?_)
      go_simp
      refine hK' _ _ (fun _ => (Kept.refl _ _).alloc _) ?_
      clear hK'
      simp only [List.setIfInBounds_toArray, List.set_cons_zero, List.set_cons_succ]
      refine wpAnyG_step 22 41 rfl (by kernel_rfl) rfl (by rfl) (fun K hK' => ?_)
      refine wp_append_lies _ (.tmp 20) (.tmp 40) 22 (by rfl) (w1.heap.size + 1) 46 i0 (.agg #[i64 0, i64 0, u64 0]) 3 24 Try.underlying22 hi hz0 hz1 hz2 (by rfl) (by omega) v _ _ (by rfl) hown' ⟨wr.heap.size, 0, none⟩ 1 1 (edgeCells (q, p, r)) (by rfl) (by rfl) (World.news_of_block (heap_alloc_new _ _)) ?_ (by omega) ?_ ?_ ?_ _ rfl ?_
      · intro u hu; simp [edgeCells] at hu; rcases hu with rfl | rfl | rfl <;> rfl
      · rw [hLen.out]; unfold maxLen; omega
      · rw [hLen.out]; omega
      · have := bG.lt; simp; omega
      intro g cap wa hown1 hgrow1 hat1 hlt1
      have bG1 := ((bG.drew).alloc (.cells #[i64 q, i64 p, u64 r] 46)).grown hgrow1 (fun h => hneG h.symm)
      have hc1' := bG1.cell 1
      have hf1' := bG1.frozen 1
      simp at hc1'
      refine hK' _ _ (fun _ => (Kept.refl _ _).grown hgrow1 (fun k hk => .inl hk)) ?_
      clear hK'
      simp only [List.setIfInBounds_toArray, List.set_cons_zero, List.set_cons_succ]
      refine wpAnyG_pure 23 42 (v := ?_) rfl (by kernel_rfl) rfl (by rfl) (fun w' => ?_) ?_
      rotate_left
      · go_simp <;> with_reducible rfl
      simp only [List.setIfInBounds_toArray, List.set_cons_zero, List.set_cons_succ]
      refine wpAnyG_store 24 rfl (by kernel_rfl) rfl (by rfl) (fun K hK' => ?_)
      go_simp
      refine hK' _ (fun h => absurd (by simp) h) ?_
      clear hK'
      refine wpAnyG_done (by kernel_rfl) ?_
      go_wp2_with fail
      go_roundw
      case rel =>
        have hgo := hown1.lt g rfl
        refine ⟨k + 1, _, by omega, by go_num, bG1.set 1 _, ?_, ?_, ?_, ?_⟩
        · have e : Edges wa (w1.heap.size + 1) (.slice (some ⟨g, 0, none⟩) (zs.length + 1) cap) ((es.take (k + 1)).map swp) := by
            unfold Edges
            rw [map_take_step es k _ HX.out, hzs.out, cellsOf_append, cellsOf_one, List.length_append]
            exact hown1
          exact Kept.own ((Kept.refl (· = w1.heap.size) wa).setCell (p := ⟨w1.heap.size, 1, none⟩) (.inl rfl) _) e (fun k hk h => by have := hown1.lt k hk; omega)
        · have hx := ((b0.drew).alloc (.cells #[i64 q, i64 p, u64 r] 46)).grown hgrow1 (fun h => hne0 h.symm)
          exact hx.far (p := ⟨w1.heap.size, 1, none⟩) (by show w.heap.size ≠ w1.heap.size; omega) _
        · have hx := ((b1.drew).alloc (.cells #[i64 q, i64 p, u64 r] 46)).grown hgrow1 (fun h => hne1 h.symm)
          exact hx.far (p := ⟨w1.heap.size, 1, none⟩) (by show w.heap.size + 1 ≠ w1.heap.size; omega) _
        · have hF : Kept (fun k => w.heap.size ≤ k) w wa := (((Grew.kept hK).drew).alloc _).grown hgrow1 (fun k hk => .inr (by have := (hlo.out k hk).1; omega))
          exact (hF.setCell (p := ⟨w1.heap.size, 1, none⟩) (.inl (by show w.heap.size ≤ w1.heap.size; omega)) _).mono (fun k h1 h2 => by omega)
      case measure => simp [intOf]; omega
    · obtain rfl : k = L := by omega
      have h := hown.out
      rw [List.take_of_length_le (by rw [HL.out]; omega)] at h
      obtain ⟨A1, cc, rfl⟩ := h.len
      rw [List.length_map, HL.out] at bG h
      replace h := Lib.hid h
      clear hown
      have g0 := bG.cell 0
      have g1 := bG.cell 1
      have d0 := b1.cell 0
      have d1 := b1.cell 1
      have f0 := b1.frozen 0
      have f1 := b1.frozen 1
      simp at g0 g1 d0 d1
      have q0 := ((b1.set 0 (i64 n)).set 1 (.slice A1 k cc)).cell 0
      have q1 := ((b1.set 0 (i64 n)).set 1 (.slice A1 k cc)).cell 1
      simp at q0 q1
      go_wp2_with fail
      have hF : Kept (· = w.heap.size + 1) wr ((wr.setCell ⟨w.heap.size + 1, 0, none⟩ (i64 n)).setCell ⟨w.heap.size + 1, 1, none⟩ (.slice A1 k cc)) := ((Kept.refl (· = w.heap.size + 1) wr).setCell (p := ⟨w.heap.size + 1, 0, none⟩) (.inl rfl) _).setCell (p := ⟨w.heap.size + 1, 1, none⟩) (.inl rfl) _
      refine bodyPost_ret (v := .agg #[i64 n, .slice A1 k cc]) (by simp [results, Try.results19, go_sem, q0, q1]) rfl ⟨_, rfl, ?_, ?_⟩
      · exact own_base (Kept.own hF h.out (fun k hk h' => by have := (h.out.lt k hk).1; omega)) (by omega)
      · exact hK.then hF (fun i hi h => by have : i = w.heap.size + 1 := h; omega)
end Go.Proofs.Ytiialiifjhgcmaa
