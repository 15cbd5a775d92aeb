/- Another weight, by the document: the walk where it may be. -/
import Derived.Test.YtiialiifjhgcmaaWith
import Derived.Test.YtiialiifjhgcmaaClone
namespace Go.Proofs.Ytiialiifjhgcmaa
open Go.RowKit

theorem Kept.realloc {F : Nat → Prop} {w : World} {o o2 : Obj} (h : F w.heap.size) : Kept F (w.alloc o) (w.alloc o2) :=
  ⟨rfl, rfl, rfl, by simp, fun k hk hf => by
    rcases Nat.lt_or_ge k w.heap.size with hl | hl
    · rw [Below.heap_alloc w o2 k hl, Below.heap_alloc w o k hl]
    · obtain rfl : k = w.heap.size := by simp at hk; omega
      exact absurd h hf⟩

set_option maxHeartbeats 2000000 in
set_option maxRecDepth 100000 in
theorem refWith_yes (n : Int) (A : Option Addr) (c : Nat) (es : List Edg) (e : Nat) (x : Int) (w : World) (h : RowE w A es) (hl : es.length ≤ 100000) (hr : rightF n es = 0) (he : e < es.length) (hx : 1 ≤ x ∧ x ≤ 4294967296) :
    Calls Try.prog 24 #[.agg #[i64 n, .slice A es.length c], i64 e, u64 x] w fun r w' => ∃ v, r = .returned (.tuple #[.agg #[i64 n, v], i64 0]) ∧ Edges w' w.heap.size v (setW es e x) ∧ Grew w w' := by
  have b0 : Blk ((w.alloc (.cells #[i64 n, .slice A es.length c] 24)).alloc (.cells #[i64 0, .slice none 0 0] 24)) w.heap.size 24 #[i64 n, .slice A es.length c] := (Blk.new w _ _).alloc _
  have b1 : Blk ((w.alloc (.cells #[i64 n, .slice A es.length c] 24)).alloc (.cells #[i64 0, .slice none 0 0] 24)) (w.heap.size + 1) 24 #[i64 0, .slice none 0 0] := by
    have h := Blk.new (w.alloc (.cells #[i64 n, .slice A es.length c] 24)) 24 #[i64 0, .slice none 0 0]
    rw [World.size_alloc] at h; exact h
  have hK0 : Grew w ((w.alloc (.cells #[i64 n, .slice A es.length c] 24)).alloc (.cells #[i64 0, .slice none 0 0] 24)) := ((Kept.refl _ _).alloc _).alloc _
  have hE := Lib.hid (h.grew hK0)
  have hC := Lib.hid (refRight_any n A c es _ (h.grew hK0) hl)
  rw [hr] at hC

  have hWt := Lib.hid (fun W => refWeight_any x W)
  rw [decide_eq_true hx] at hWt

  obtain ⟨L, hL⟩ : ∃ L, es.length = L := ⟨_, rfl⟩
  have HL := Lib.hid hL
  have he0 := Lib.hid he
  rw [hL] at b0 b1 hK0 hC he hE 
  rw [hL]
  have hl9 : L ≤ 100000 := by omega
  clear h hr hL hx
  have c0 := b0.cell 0
  have c1 := b0.cell 1
  simp at c0 c1
  have he1 : ¬ (e : Int) < 0 := by omega
  have he2 : ¬ L ≤ e := by omega
  have he3 : ¬ (L : Int) ≤ (e : Int) := by omega
  go_enter Try.func24, Try.ntmps24
  go_wp2_with fail
  refine hC.out.mono ?_
  rintro e w1 ⟨rfl, k1⟩
  replace b0 := b0.grew k1
  replace b1 := b1.grew k1
  replace c0 := b0.cell 0
  replace c1 := b0.cell 1
  simp at c0 c1

  go_wp2_with fail
  refine (hWt.out _).mono ?_
  rintro e w9 ⟨rfl, rfl⟩
  have hE1 := Lib.hid (hE.out.grew k1)
  obtain ⟨b, off, hA, hb, _⟩ := hE1.out e _ (List.getElem?_eq_getElem he0.out)
  subst hA
  obtain ⟨i0, hi0, hz0, hz1, hz2⟩ := info_parts info_edge
  have hlen : Hid ((cellsOf es).length = L * 3) := by show _ = _; rw [cellsOf_length, HL.out]
  have hone := Lib.hid (cellsOf_one' es)
  have hK1 := hK0.trans k1
  have hs1 := k1.size
  simp at hs1
  have hb0l := b0.lt
  clear hE hC
  go_upto_region 7 with fail
  go_cut [8] (fun s8 wx => ∃ gG g cc : Nat, s8 = .pointer (some ⟨gG, 0, none⟩) ∧ Blk wx gG 24 #[i64 n, .slice (some ⟨g, 0, none⟩) L cc] ∧ w1.heap.size ≤ gG ∧ Hid (World.ownsRow wx w1.heap.size 46 3 (.slice (some ⟨g, 0, none⟩) L cc) L (cellsOf es)) ∧ gG ≠ g ∧ Grew w1 wx)
  case first =>
    refine wp_region_grow [] (fun j => w1.heap.size ≤ j) (by kernel_rfl) ?_
    simp only [List.size_toArray, List.length_cons, List.length_nil, Nat.reduceAdd]
    refine wpAnyG_pure 0 27 (v := ?_) rfl (by kernel_rfl) rfl (by rfl) (fun w' => ?_) ?_
    rotate_left
    · go_simp <;> with_reducible rfl
    simp only [List.setIfInBounds_toArray, List.set_cons_zero, List.set_cons_succ]
    refine wpAnyG_take 1 28 (v := ?_) rfl (by kernel_rfl) rfl (by rfl) (fun w' hG' => ?_) ?_
    rotate_left
    · have hx0 := (b0.drew.kept hG' (by omega)).cell 0
      have hx1 := (b0.drew.kept hG' (by omega)).cell 1
      simp at hx0 hx1
      go_simp <;> with_reducible rfl
    simp only [List.setIfInBounds_toArray, List.set_cons_zero, List.set_cons_succ]
    refine wpAnyG_pure 3 30 (v := ?_) rfl (by kernel_rfl) rfl (by rfl) (fun w' => ?_) ?_
    rotate_left
    · go_simp <;> with_reducible rfl
    simp only [List.setIfInBounds_toArray, List.set_cons_zero, List.set_cons_succ]
    refine wpAnyG_take 4 31 (v := ?_) rfl (by kernel_rfl) rfl (by rfl) (fun w' hG' => ?_) ?_
    rotate_left
    · have hx0 := (b0.drew.kept hG' (by omega)).cell 0
      have hx1 := (b0.drew.kept hG' (by omega)).cell 1
      simp at hx0 hx1
      go_simp <;> with_reducible rfl
    simp only [List.setIfInBounds_toArray, List.set_cons_zero, List.set_cons_succ]
    refine wpAnyG_two 2 29 7 8 rfl rfl (by kernel_rfl) rfl rfl (by rfl) (by rfl) (fun K hK' => ?_) (fun K hK' => ?_)
    · go_simp
      refine hK' _ _ (fun _ => (Kept.refl _ _).alloc _) ?_
      clear hK'
      simp only [List.setIfInBounds_toArray, List.set_cons_zero, List.set_cons_succ]
      refine wpAnyG_two 5 32 7 8 rfl rfl (by kernel_rfl) rfl rfl (by rfl) (by rfl) (fun K hK' => ?_) (fun K hK' => ?_)
      · skip
        refine wp_append_lies _ (.tmp 29) (.tmp 31) 22 (by rfl) w1.heap.size 46 i0 (.agg #[i64 0, i64 0, u64 0]) 3 24 Try.underlying22 hi0 hz0 hz1 hz2 (by rfl) (by omega) _ 0 [] (by rfl) (Edges.empty w1.drew w1.heap.size (Nat.le_refl _)) ⟨b, off, none⟩ L c (cellsOf es) (by rfl) hlen.out ((hE1.out.grew ((Kept.refl _ _).drew.alloc _)).news) hone.out (by omega) (by unfold maxLen; omega) (by omega) (by simp; try omega) _ rfl ?_
        intro g cc wb hown hgr hor hlt
        rw [Nat.zero_add] at hown
        simp only [Nat.zero_add]
        rw [List.nil_append] at hown
        refine hK' _ _ (fun _ => (Kept.refl _ _).grown hgr (fun j hj => by cases hj; exact .inl (Nat.le_refl _))) ?_
        clear hK'
        simp only [List.setIfInBounds_toArray, List.set_cons_zero, List.set_cons_succ]
        refine wpAnyG_pure 6 33 (v := ?_) rfl (by kernel_rfl) rfl (by rfl) (fun w' => ?_) ?_
        rotate_left
        · go_simp <;> with_reducible rfl
        simp only [List.setIfInBounds_toArray, List.set_cons_zero, List.set_cons_succ]
        refine wpAnyG_step 7 8 rfl (by kernel_rfl) rfl (by rfl) (fun K hK' => ?_)
        go_simp
        refine hK' _ _ (fun _ => (Kept.refl _ _).alloc _) ?_
        clear hK'
        simp only [List.setIfInBounds_toArray, List.set_cons_zero, List.set_cons_succ]
        refine wpAnyG_store 8 rfl (by kernel_rfl) rfl (by rfl) (fun K hK' => ?_)
        go_simp
        refine hK' _ (fun _ => Kept.realloc (by show w1.heap.size ≤ wb.heap.size; have := hgr.size; simp at this; omega)) ?_
        clear hK'
        refine wpAnyG_done (by kernel_rfl) ?_
        go_wp2_with fail
        go_meet
        have hkb : Grew w1 wb := (((Kept.refl (fun _ => False) w1).drew).alloc _).grown hgr (fun j hj => .inr (by cases hj; exact Nat.le_refl _))
        exact ⟨wb.heap.size, g, cc, rfl, Blk.new _ _ _, by have := hkb.size; omega, Grew.own ((Kept.refl (fun _ => False) wb).alloc _) hown, by omega, hkb.alloc _⟩
      · go_simp
        refine hK' _ _ (fun _ => (Kept.refl _ _).alloc _) ?_
        clear hK'
        simp only [List.setIfInBounds_toArray, List.set_cons_zero, List.set_cons_succ]
        refine wpAnyG_step 5 32 rfl (by kernel_rfl) rfl (by rfl) (fun K hK' => ?_)
        refine wp_append_lies _ (.tmp 29) (.tmp 31) 22 (by rfl) w1.heap.size 46 i0 (.agg #[i64 0, i64 0, u64 0]) 3 24 Try.underlying22 hi0 hz0 hz1 hz2 (by rfl) (by omega) _ 0 [] (by rfl) (Grew.own ((Kept.refl (fun _ => False) _).alloc _) (Edges.empty w1.drew w1.heap.size (Nat.le_refl _))) ⟨b, off, none⟩ L c (cellsOf es) (by rfl) hlen.out ((hE1.out.grew (((Kept.refl _ _).drew.alloc _).alloc _)).news) hone.out (by omega) (by unfold maxLen; omega) (by omega) (by simp; try omega) _ rfl ?_
        intro g cc wb hown hgr hor hlt
        rw [Nat.zero_add] at hown
        simp only [Nat.zero_add]
        rw [List.nil_append] at hown
        have bW := (show Blk _ (w1.heap.size + 1) _ _ from (by have h := Blk.new (w1.drew.alloc (.cells #[] 46)) 24 #[i64 0, .slice none 0 0]; rw [World.size_alloc, World.size_drew] at h; exact h)).grown hgr (fun h => absurd (Option.some.inj (show some (w1.heap.size + 1) = some (w1.heap.size) from h)) (by omega))
        have x0 := bW.cell 0
        have x1 := bW.cell 1
        have y0 := bW.frozen 0
        have y1 := bW.frozen 1
        simp at x0 x1
        refine hK' _ _ (fun _ => (Kept.refl _ _).grown hgr (fun j hj => by cases hj; exact .inl (by show w1.heap.size ≤ _; simp))) ?_
        clear hK'
        simp only [List.setIfInBounds_toArray, List.set_cons_zero, List.set_cons_succ]
        refine wpAnyG_pure 6 33 (v := ?_) rfl (by kernel_rfl) rfl (by rfl) (fun w' => ?_) ?_
        rotate_left
        · go_simp <;> with_reducible rfl
        simp only [List.setIfInBounds_toArray, List.set_cons_zero, List.set_cons_succ]
        refine wpAnyG_store 8 rfl (by kernel_rfl) rfl (by rfl) (fun K hK' => ?_)
        go_simp
        refine hK' _ (fun _ => ((Kept.refl _ _).setCell (p := ⟨(w1.heap.size + 1), 0, none⟩) (.inl (by show w1.heap.size ≤ (w1.heap.size + 1); omega)) _).setCell (p := ⟨(w1.heap.size + 1), 1, none⟩) (.inl (by show w1.heap.size ≤ (w1.heap.size + 1); omega)) _) ?_
        clear hK'
        refine wpAnyG_done (by kernel_rfl) ?_
        go_wp2_with fail
        go_meet
        have hgl := hown.lt g rfl
        have hkb : Grew w1 wb := ((((Kept.refl (fun _ => False) w1).drew).alloc _).alloc _).grown hgr (fun j hj => .inr (by cases hj; simp))
        have hgne : g ≠ (w1.heap.size + 1) := by
          rcases hor with h | h
          · have h' : w1.heap.size = g := Option.some.inj (show some w1.heap.size = some g from h)
            omega
          · simp at h; omega
        refine ⟨(w1.heap.size + 1), g, cc, rfl, (bW.set 0 (i64 n)).set 1 _, by omega, ?_, fun h => hgne h.symm, (hkb.setCell (p := ⟨(w1.heap.size + 1), 0, none⟩) (.inr (by show w1.heap.size ≤ (w1.heap.size + 1); omega)) _).setCell (p := ⟨(w1.heap.size + 1), 1, none⟩) (.inr (by show w1.heap.size ≤ (w1.heap.size + 1); omega)) _⟩
        exact Kept.own (F := (· = (w1.heap.size + 1))) (((Kept.refl (· = (w1.heap.size + 1)) wb).setCell (p := ⟨(w1.heap.size + 1), 0, none⟩) (.inl rfl) _).setCell (p := ⟨(w1.heap.size + 1), 1, none⟩) (.inl rfl) _) hown (fun j hj h => hgne ((Option.some.inj (show some g = some j from hj)).trans h))
    · go_simp
      refine hK' _ _ (fun _ => (Kept.refl _ _).alloc _) ?_
      clear hK'
      simp only [List.setIfInBounds_toArray, List.set_cons_zero, List.set_cons_succ]
      refine wpAnyG_step 2 29 rfl (by kernel_rfl) rfl (by rfl) (fun K hK' => ?_)
      go_simp
      refine hK' _ _ (fun _ => (Kept.refl _ _).alloc _) ?_
      clear hK'
      simp only [List.setIfInBounds_toArray, List.set_cons_zero, List.set_cons_succ]
      refine wpAnyG_step 5 32 rfl (by kernel_rfl) rfl (by rfl) (fun K hK' => ?_)
      refine wp_append_lies _ (.tmp 29) (.tmp 31) 22 (by rfl) w1.heap.size 46 i0 (.agg #[i64 0, i64 0, u64 0]) 3 24 Try.underlying22 hi0 hz0 hz1 hz2 (by rfl) (by omega) _ 0 [] (by rfl) ((show World.ownsRow _ w1.heap.size _ 3 (.slice (some ⟨w1.heap.size + 1, 0, none⟩) 0 0) 0 [] from (by have h := Edges.empty (w1.drew.alloc (.cells #[i64 0, .slice none 0 0] 24)) w1.heap.size (by simp); rw [World.size_alloc, World.size_drew] at h; exact h))) ⟨b, off, none⟩ L c (cellsOf es) (by rfl) hlen.out ((hE1.out.grew (((Kept.refl _ _).drew.alloc _).alloc _)).news) hone.out (by omega) (by unfold maxLen; omega) (by omega) (by simp; try omega) _ rfl ?_
      intro g cc wb hown hgr hor hlt
      rw [Nat.zero_add] at hown
      simp only [Nat.zero_add]
      rw [List.nil_append] at hown
      have bW := (show Blk _ w1.heap.size _ _ from ((Blk.new w1.drew 24 #[i64 0, .slice none 0 0]).alloc (.cells #[] 46))).grown hgr (fun h => absurd (Option.some.inj (show some (w1.heap.size) = some (w1.heap.size + 1) from h)) (by omega))
      have x0 := bW.cell 0
      have x1 := bW.cell 1
      have y0 := bW.frozen 0
      have y1 := bW.frozen 1
      simp at x0 x1
      refine hK' _ _ (fun _ => (Kept.refl _ _).grown hgr (fun j hj => by cases hj; exact .inl (by show w1.heap.size ≤ _; simp))) ?_
      clear hK'
      simp only [List.setIfInBounds_toArray, List.set_cons_zero, List.set_cons_succ]
      refine wpAnyG_pure 6 33 (v := ?_) rfl (by kernel_rfl) rfl (by rfl) (fun w' => ?_) ?_
      rotate_left
      · go_simp <;> with_reducible rfl
      simp only [List.setIfInBounds_toArray, List.set_cons_zero, List.set_cons_succ]
      refine wpAnyG_store 8 rfl (by kernel_rfl) rfl (by rfl) (fun K hK' => ?_)
      go_simp
      refine hK' _ (fun _ => ((Kept.refl _ _).setCell (p := ⟨w1.heap.size, 0, none⟩) (.inl (by show w1.heap.size ≤ w1.heap.size; omega)) _).setCell (p := ⟨w1.heap.size, 1, none⟩) (.inl (by show w1.heap.size ≤ w1.heap.size; omega)) _) ?_
      clear hK'
      refine wpAnyG_done (by kernel_rfl) ?_
      go_wp2_with fail
      go_meet
      have hgl := hown.lt g rfl
      have hkb : Grew w1 wb := ((((Kept.refl (fun _ => False) w1).drew).alloc _).alloc _).grown hgr (fun j hj => .inr (by cases hj; simp))
      have hgne : g ≠ w1.heap.size := by
        rcases hor with h | h
        · have h' : (w1.heap.size + 1) = g := Option.some.inj (show some (w1.heap.size + 1) = some g from h)
          omega
        · simp at h; omega
      refine ⟨w1.heap.size, g, cc, rfl, (bW.set 0 (i64 n)).set 1 _, by omega, ?_, fun h => hgne h.symm, (hkb.setCell (p := ⟨w1.heap.size, 0, none⟩) (.inr (by show w1.heap.size ≤ w1.heap.size; omega)) _).setCell (p := ⟨w1.heap.size, 1, none⟩) (.inr (by show w1.heap.size ≤ w1.heap.size; omega)) _⟩
      exact Kept.own (F := (· = w1.heap.size)) (((Kept.refl (· = w1.heap.size) wb).setCell (p := ⟨w1.heap.size, 0, none⟩) (.inl rfl) _).setCell (p := ⟨w1.heap.size, 1, none⟩) (.inl rfl) _) hown (fun j hj h => hgne ((Option.some.inj (show some g = some j from hj)).trans h))
  case rest =>
    obtain ⟨gG, g, cc, rfl, bG, hgG, HO, hne, k2⟩ := hcut
    have hg := World.ownsRow.lt HO.out g rfl
    have g0 := bG.cell 0
    have g1 := bG.cell 1
    simp at g0 g1
    have x2 : wc.cell? ⟨g, e * 3 + 2, none⟩ = some (u64 ((es.getD e (0, 0, 0)).2.2)) := by
      have h := World.ownsRow.cellAt HO.out (e * 3 + 2) (by omega)
      rw [h, cellsOf_get es e 2 _ (List.getElem?_eq_getElem he0.out) (by omega), List.getD_eq_getElem?_getD, List.getElem?_eq_getElem he0.out]
      rfl
    have y2 := World.ownsRow.frozenAt HO.out (e * 3 + 2)
    have hn1 : ¬ w.heap.size + 1 = g := by omega
    have hn2 : ¬ g = w.heap.size + 1 := by omega
    have hn3 : ¬ gG = g := hne
    have hn4 : ¬ g = gG := fun h => hne h.symm
    have b1' := (b1.grew k2).far (p := ⟨g, e * 3 + 2, none⟩) hn1 (u64 x)
    have d0 := b1'.cell 0
    have d1 := b1'.cell 1
    have f0 := b1'.frozen 0
    have f1 := b1'.frozen 1
    simp only [List.getElem?_toArray, List.getElem?_cons_zero, List.getElem?_cons_succ] at d0 d1
    have q0 := ((b1'.set 0 (i64 n)).set 1 (.slice (some ⟨g, 0, none⟩) L cc)).cell 0
    have q1 := ((b1'.set 0 (i64 n)).set 1 (.slice (some ⟨g, 0, none⟩) L cc)).cell 1
    simp at q0 q1
    have bGx := bG.far (p := ⟨g, e * 3 + 2, none⟩) hn3 (u64 x)
    have z0 := bGx.cell 0
    have z1 := bGx.cell 1
    simp only [List.getElem?_toArray, List.getElem?_cons_zero, List.getElem?_cons_succ] at z0 z1
    have hK2 := hK1.trans k2
    clear hne k2 hK1
    go_wp2_with fail
    refine bodyPost_ret (v := .tuple #[.agg #[i64 n, .slice (some ⟨g, 0, none⟩) L cc], i64 0]) (by simp [results, Try.results24, go_sem, q0, q1]) rfl ⟨_, rfl, ?_, ?_⟩
    · have h1 := (World.ownsRow.stored HO.out (e * 3 + 2) (u64 x)).1
      rw [setW_cells es e x he0.out] at h1
      have h2 : Edges (wc.setCell ⟨g, e * 3 + 2, none⟩ (u64 x)) w1.heap.size (.slice (some ⟨g, 0, none⟩) L cc) (setW es e x) := by
        unfold Edges
        rw [setW_length, HL.out]
        exact h1
      refine own_base (Kept.own (F := (· = w.heap.size + 1)) (((Kept.refl (· = w.heap.size + 1) _).setCell (p := ⟨w.heap.size + 1, 0, none⟩) (.inl rfl) _).setCell (p := ⟨w.heap.size + 1, 1, none⟩) (.inl rfl) _) h2 (fun k hk h => ?_)) (by omega)
      have h3 : k = w.heap.size + 1 := h
      have h4 : g = k := Option.some.inj (show some g = some k from hk)
      omega
    · exact ((hK2.setCell (p := ⟨g, e * 3 + 2, none⟩) (.inr (by show w.heap.size ≤ g; omega)) _).setCell (p := ⟨w.heap.size + 1, 0, none⟩) (.inr (by show w.heap.size ≤ w.heap.size + 1; omega)) _).setCell (p := ⟨w.heap.size + 1, 1, none⟩) (.inr (by show w.heap.size ≤ w.heap.size + 1; omega)) _

end Go.Proofs.Ytiialiifjhgcmaa
