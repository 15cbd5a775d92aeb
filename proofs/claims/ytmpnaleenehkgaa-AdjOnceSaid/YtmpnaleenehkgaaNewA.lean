/- adj.New: who goes out, and who comes in, of a graph that may be. -/
import Derived.Test.YtmpnaleenehkgaaLaidF
import Derived.Test.YtmpnaleenehkgaaLaidT
import Derived.Test.YtmpnaleenehkgaaGraph
import Derived.Test.YtmpnaleenehkgaaClone
namespace Go.Proofs.Ytmpnaleenehkgaa
open Go.RowKit

theorem right_zero {n : Int} {es : List Edg} (h : rightF n es = 0) : 1 ≤ n ∧ n ≤ 4096 ∧ es.length ≤ 16384 ∧ ∀ (k : Nat) (p q r : Int), es[k]? = some (p, q, r) → 0 ≤ p ∧ p < n ∧ 0 ≤ q ∧ q < n ∧ p ≠ q ∧ 1 ≤ r ∧ r ≤ 4294967296 := by
  unfold rightF at h
  by_cases h1 : n < 1 ∨ 4096 < n
  · rw [if_pos h1] at h; cases h
  rw [if_neg h1] at h
  by_cases h2 : 16384 < es.length
  · rw [if_pos h2] at h; cases h
  rw [if_neg h2] at h
  by_cases h3 : es.all (nodeOk n) = true
  · rw [if_pos h3] at h
    by_cases h4 : es.all wOk = true
    · refine ⟨by omega, by omega, by omega, fun k p q r hk => ?_⟩
      have hm := List.mem_of_getElem? hk
      have a := List.all_eq_true.1 h3 _ hm
      have b := List.all_eq_true.1 h4 _ hm
      simp [nodeOk] at a
      simp [wOk] at b
      omega
    · rw [if_neg h4] at h; cases h
  · rw [if_neg h3] at h; cases h


def keyF (es : List Edg) (k : Nat) : Nat := ((es[k]?).map (fun e => e.1.toNat)).getD 0
def keyT (es : List Edg) (k : Nat) : Nat := ((es[k]?).map (fun e => e.2.1.toNat)).getD 0
theorem key_from {n : Nat} {es : List Edg} (h : rightF n es = 0) : ∀ k e, es[k]? = some e → (fun e : Edg => e.1) e = (keyF es k : Int) ∧ keyF es k < n := fun k e he => by
  obtain ⟨p, q, r⟩ := e
  have h1 := (right_zero h).2.2.2 k p q r he
  unfold keyF
  rw [he]
  simp
  omega
theorem key_to {n : Nat} {es : List Edg} (h : rightF n es = 0) : ∀ k e, es[k]? = some e → (fun e : Edg => e.2.1) e = (keyT es k : Int) ∧ keyT es k < n := fun k e he => by
  obtain ⟨p, q, r⟩ := e
  have h1 := (right_zero h).2.2.2 k p q r he
  unfold keyT
  rw [he]
  simp
  omega

/-- Block a is an Adj of n nodes and the edges es; all that it holds lies below B. -/
structure AdjB (w : World) (B a n : Nat) (es : List Edg) : Prop where
  parts : ∃ (AE : Option Addr) (c g1 b1 g2 b2 : Nat) (f1 f2 : Nat → Int), Blk w a 55 #[i64 n, .slice AE es.length c, rowV g1 es.length, rowV b1 (n + 1), rowV g2 es.length, rowV b2 (n + 1)] ∧ RowE w AE es ∧
    Laid w g1 b1 n es.length (keyF es) f1 ∧ Laid w g2 b2 n es.length (keyT es) f2 ∧ a < B ∧ g1 < B ∧ b1 < B ∧ g2 < B ∧ b2 < B ∧ ∀ x, AE = some x → x.block < B ∨ es = []
theorem AdjB.kept {F : Nat → Prop} {w w' : World} {B a n : Nat} {es : List Edg} (h : AdjB w B a n es) (k : Kept F w w') (hF : ∀ j, F j → B ≤ j) : AdjB w' B a n es := by
  obtain ⟨AE, c, g1, b1, g2, b2, f1, f2, h1, h2, h3, h4, z1, z2, z3, z4, z5, z6⟩ := h.parts
  have no : ∀ j, j < B → ¬ F j := fun j hj hf => by have := hF j hf; omega
  refine ⟨AE, c, g1, b1, g2, b2, f1, f2, h1.kept k (no _ z1), ?_, h3.kept k (no _ z2) (no _ z3), h4.kept k (no _ z4) (no _ z5), z1, z2, z3, z4, z5, z6⟩
  rcases es with _ | ⟨e, es⟩
  · exact RowE.nil _ _
  · refine h2.kept k fun x hx => ?_
    rcases z6 x hx with h | h
    · exact no _ h
    · cases h
theorem AdjB.grew {w w' : World} {B a n : Nat} {es : List Edg} (h : AdjB w B a n es) (k : Grew w w') : AdjB w' B a n es := h.kept k fun _ h => h.elim

theorem new_no (n : Int) (AE : Option Addr) (c : Nat) (es : List Edg) (w : World) (h : RowE w AE es) (hl : es.length ≤ 60000) (hr : rightF n es ≠ 0) :
    Calls Try.prog 8 #[.agg #[i64 n, .slice AE es.length c]] w fun e w' => e = .returned (.tuple #[.pointer none, i64 1]) ∧ Grew w w' := by
  have b0 := Blk.new w 24 #[i64 n, .slice AE es.length c]
  have hK0 : Grew w (w.alloc (.cells #[i64 n, .slice AE es.length c] 24)) := (Kept.refl _ _).alloc _
  have hC := Lib.hid (right_any n AE c es _ (h.grew hK0) (by omega))
  obtain ⟨f, hf⟩ : ∃ f, rightF n es = f := ⟨_, rfl⟩
  rw [hf] at hC hr
  obtain ⟨L, hL⟩ : ∃ L, es.length = L := ⟨_, rfl⟩
  rw [hL] at b0 hK0 hC ⊢
  have hb : (f == 0) = false := by simpa using hr
  have hb' : (f != 0) = true := by simpa using hr
  clear h hf hL hl hr
  have c0 := b0.cell 0
  have c1 := b0.cell 1
  simp at c0 c1
  go_enter Try.func8, Try.ntmps8
  go_wp2_with fail
  refine hC.out.mono ?_
  rintro e w1 ⟨rfl, k1⟩
  go_wp2_with fail
  go_ret2
  exact ⟨rfl, hK0.trans k1⟩

set_option maxHeartbeats 4000000 in
set_option maxRecDepth 100000 in
theorem new_yes (n : Nat) (AE : Option Addr) (c : Nat) (es : List Edg) (w : World) (h : RowE w AE es) (hr : rightF n es = 0) :
    Calls Try.prog 8 #[.agg #[i64 n, .slice AE es.length c]] w fun e w' => ∃ a, e = .returned (.tuple #[pt a, i64 0]) ∧ AdjB w' w'.heap.size a n es ∧ Grew w w' := by
  have hl := (right_zero hr).2.2.1
  have hn2 := (right_zero hr).2.1
  have b0 := Blk.new w 24 #[i64 n, .slice AE es.length c]
  have hK0 : Grew w (w.alloc (.cells #[i64 n, .slice AE es.length c] 24)) := (Kept.refl _ _).alloc _
  have hC := Lib.hid (right_any n AE c es _ (h.grew hK0) (by omega))
  have hCl := Lib.hid (fun W (k : Grew w W) => clone_any n AE c es W (h.grew k) (by omega))
  have hkF := Lib.hid (key_from hr)
  have hkT := Lib.hid (key_to hr)
  have hLF := Lib.hid (fun A c W (r : RowE W A es) => laid_from (fun e => e.1) (keyF es) n A c es W r (by omega) (by omega) (fun p q r W => from_any p q r W) hkF.out)
  have hLT := Lib.hid (fun A c W (r : RowE W A es) => laid_to (fun e => e.2.1) (keyT es) n A c es W r (by omega) (by omega) (fun p q r W => to_any p q r W) hkT.out)
  rw [hr] at hC
  obtain ⟨L, hL⟩ : ∃ L, es.length = L := ⟨_, rfl⟩
  have HL := Lib.hid hL
  rw [hL] at b0 hK0 hC hCl hLF hLT ⊢
  clear h hL hl hr hkF hkT
  have c0 := b0.cell 0
  have c1 := b0.cell 1
  simp at c0 c1
  go_enter Try.func8, Try.ntmps8
  go_wp2_with fail
  refine hC.out.mono ?_
  rintro e w1 ⟨rfl, k1⟩
  replace b0 := b0.grew k1
  replace hK0 := hK0.trans k1
  replace c0 := b0.cell 0
  replace c1 := b0.cell 1
  simp at c0 c1
  clear k1
  go_wp2_with fail
  refine (hCl.out _ hK0).mono ?_
  rintro e w2 ⟨v, rfl, hE, k2⟩
  obtain ⟨A2, c2, hv, hrow⟩ := hE.row
  rw [HL.out] at hv
  subst hv
  have hown := Lib.hid hE
  have hz01 := b0.lt
  replace b0 := b0.grew k2
  have hz1 := hK0.size
  have hz2 := k2.size
  replace hK0 := hK0.trans k2
  have f0 := b0.frozen 0
  have f1 := b0.frozen 1
  have hz0 := b0.lt
  have q0 := b0.cell 0
  have q1 := b0.cell 1
  simp at q0 q1
  go_upto_region 4 with fail
  have hF : Kept (· = w.heap.size) w2 ((w2.setCell ⟨w.heap.size, 0, none⟩ (i64 n)).setCell ⟨w.heap.size, 1, none⟩ (.slice A2 L c2)) := ((Kept.refl (· = w.heap.size) w2).setCell (p := ⟨w.heap.size, 0, none⟩) (.inl rfl) _).setCell (p := ⟨w.heap.size, 1, none⟩) (.inl rfl) _
  have b3 := (b0.set 0 (i64 n)).set 1 (.slice A2 L c2)
  simp at b3
  obtain ⟨w3, hw3⟩ : ∃ w3, (w2.setCell ⟨w.heap.size, 0, none⟩ (i64 n)).setCell ⟨w.heap.size, 1, none⟩ (.slice A2 L c2) = w3 := ⟨_, rfl⟩
  rw [hw3] at hF b3 ⊢
  have hA2 : Hid (∀ x, A2 = some x → (w.heap.size + 1 ≤ x.block ∧ x.block < w2.heap.size) ∨ es = []) := fun x hx => by
    rcases es with _ | ⟨e, es⟩
    · exact .inr rfl
    · left
      have h1 := (hown.out.lt x.block (by rw [hx]; rfl))
      refine ⟨?_, h1.2⟩
      have h2 := h1.1
      omega
  have hrow3 : Hid (RowE w3 A2 es) := by
    show RowE _ _ _
    by_cases hes : es = []
    · rw [hes]; exact RowE.nil _ _
    · refine hrow.kept hF fun x hx hq => ?_
      rcases hA2.out x hx with h | h
      · have : x.block = w.heap.size := hq
        omega
      · exact hes h
  have kw3 : Grew w w3 := hK0.then hF (fun i hi h => by have : i = w.heap.size := h; omega)
  have hz3 := hF.size
  clear hw3 hC hCl hE hrow hown b0 c0 c1 q0 q1 f0 f1 hK0 k2
  refine wp_region_grow [] (fun _ => False) (by kernel_rfl) ?_
  simp only [List.size_toArray, List.length_cons, List.length_nil, Nat.reduceAdd]
  refine wpAnyG_take 0 9 (v := ?_) rfl (by kernel_rfl) rfl (by rfl) (fun w' hG' => ?_) ?_
  rotate_left
  · have hx0 := (b3.drew.grew hG').cell 0
    have hx1 := (b3.drew.grew hG').cell 1
    simp at hx0 hx1
    go_simp <;> with_reducible rfl
  simp only [List.setIfInBounds_toArray, List.set_cons_zero, List.set_cons_succ]
  refine wpAnyG_pure 1 10 (v := ?_) rfl (by kernel_rfl) rfl (by rfl) (fun w' => ?_) ?_
  rotate_left
  · go_simp <;> with_reducible rfl
  simp only [List.setIfInBounds_toArray, List.set_cons_zero, List.set_cons_succ]
  refine wpAnyG_take 2 11 (v := ?_) rfl (by kernel_rfl) rfl (by rfl) (fun w' hG' => ?_) ?_
  rotate_left
  · have hx0 := (b3.drew.grew hG').cell 0
    have hx1 := (b3.drew.grew hG').cell 1
    simp at hx0 hx1
    go_simp <;> with_reducible rfl
  simp only [List.setIfInBounds_toArray, List.set_cons_zero, List.set_cons_succ]
  refine wpAnyG_pure 3 12 (v := ?_) rfl (by kernel_rfl) rfl (by rfl) (fun w' => ?_) ?_
  rotate_left
  · go_simp <;> with_reducible rfl
  simp only [List.setIfInBounds_toArray, List.set_cons_zero, List.set_cons_succ]
  refine wpAnyG_take 4 13 (v := ?_) rfl (by kernel_rfl) rfl (by rfl) (fun w' hG' => ?_) ?_
  rotate_left
  · have hx0 := (b3.drew.grew hG').cell 0
    have hx1 := (b3.drew.grew hG').cell 1
    simp at hx0 hx1
    go_simp <;> with_reducible rfl
  simp only [List.setIfInBounds_toArray, List.set_cons_zero, List.set_cons_succ]
  refine wpAnyG_pure 6 15 (v := ?_) rfl (by kernel_rfl) rfl (by rfl) (fun w' => ?_) ?_
  rotate_left
  · go_simp <;> with_reducible rfl
  simp only [List.setIfInBounds_toArray, List.set_cons_zero, List.set_cons_succ]
  refine wpAnyG_take 7 16 (v := ?_) rfl (by kernel_rfl) rfl (by rfl) (fun w' hG' => ?_) ?_
  rotate_left
  · have hx0 := (b3.drew.grew hG').cell 0
    have hx1 := (b3.drew.grew hG').cell 1
    simp at hx0 hx1
    go_simp <;> with_reducible rfl
  simp only [List.setIfInBounds_toArray, List.set_cons_zero, List.set_cons_succ]
  refine wpAnyG_pure 8 17 (v := ?_) rfl (by kernel_rfl) rfl (by rfl) (fun w' => ?_) ?_
  rotate_left
  · go_simp <;> with_reducible rfl
  simp only [List.setIfInBounds_toArray, List.set_cons_zero, List.set_cons_succ]
  refine wpAnyG_take 9 18 (v := ?_) rfl (by kernel_rfl) rfl (by rfl) (fun w' hG' => ?_) ?_
  rotate_left
  · have hx0 := (b3.drew.grew hG').cell 0
    have hx1 := (b3.drew.grew hG').cell 1
    simp at hx0 hx1
    go_simp <;> with_reducible rfl
  simp only [List.setIfInBounds_toArray, List.set_cons_zero, List.set_cons_succ]
  refine wpAnyG_step 5 14 rfl (by kernel_rfl) rfl (by rfl) (fun K hK' => ?_)
  go_simp
  refine (hLF.out A2 c2 _ (hrow3.out.grew (Kept.refl _ _).drew)).mono ?_
  rintro e w4 ⟨g1, gb1, f1, he, l1, k4, m1, m2⟩
  unfold rowsV at he
  subst he
  refine hK' _ _ (fun _ => k4) ?_
  clear hK'
  simp only [List.setIfInBounds_toArray, List.set_cons_zero, List.set_cons_succ]
  refine wpAnyG_step 10 19 rfl (by kernel_rfl) rfl (by rfl) (fun K hK' => ?_)
  go_simp
  refine (hLT.out A2 c2 _ ((hrow3.out.grew (Kept.refl _ _).drew).grew k4)).mono ?_
  rintro e w5 ⟨g2, gb2, f2, he, l2, k5, m3, m4⟩
  unfold rowsV at he
  subst he
  refine hK' _ _ (fun _ => k5) ?_
  clear hK'
  simp only [List.setIfInBounds_toArray, List.set_cons_zero, List.set_cons_succ]
  refine wpAnyG_pure 11 20 (v := ?_) rfl (by kernel_rfl) rfl (by rfl) (fun w' => ?_) ?_
  rotate_left
  · go_simp <;> with_reducible rfl
  simp only [List.setIfInBounds_toArray, List.set_cons_zero, List.set_cons_succ]
  refine wpAnyG_step 12 21 rfl (by kernel_rfl) rfl (by rfl) (fun K hK' => ?_)
  go_simp
  refine hK' _ _ (fun _ => (Kept.refl _ _).alloc _) ?_
  clear hK'
  simp only [List.setIfInBounds_toArray, List.set_cons_zero, List.set_cons_succ]
  refine wpAnyG_pure 13 2 (v := ?_) rfl (by kernel_rfl) rfl (by rfl) (fun w' => ?_) ?_
  rotate_left
  · go_simp <;> with_reducible rfl
  simp only [List.setIfInBounds_toArray, List.set_cons_zero, List.set_cons_succ]
  refine wpAnyG_pure 14 3 (v := ?_) rfl (by kernel_rfl) rfl (by rfl) (fun w' => ?_) ?_
  rotate_left
  · go_simp <;> with_reducible rfl
  simp only [List.setIfInBounds_toArray, List.set_cons_zero, List.set_cons_succ]
  refine wpAnyG_done (by kernel_rfl) ?_
  go_wp2_with fail
  go_ret2
  have hw4 : Grew w3 w4 := (Kept.refl _ _).drew.trans k4
  have hz4 := hw4.size
  have hz5 := k5.size
  have hrow5 : RowE w5 A2 es := (hrow3.out.grew hw4).grew k5
  have hg1 := l1.edges.lt
  have hgb1 := l1.begin.lt
  have hg2 := l2.edges.lt
  have hgb2 := l2.begin.lt
  refine ⟨w5.heap.size, rfl, ⟨A2, c2, g1, gb1, g2, gb2, f1, f2, ?_⟩, ((kw3.trans hw4).trans k5).alloc _⟩
  rw [HL.out]
  refine ⟨Blk.new w5 _ _, hrow5.grew ((Kept.refl _ _).alloc _), (l1.grew k5).grew ((Kept.refl _ _).alloc _), l2.grew ((Kept.refl _ _).alloc _), by simp, by simp; omega, by simp; omega, by simp; omega, by simp; omega, fun x hx => ?_⟩
  rcases hA2.out x hx with h | h
  · left
    simp
    omega
  · exact .inr h
end Go.Proofs.Ytmpnaleenehkgaa
