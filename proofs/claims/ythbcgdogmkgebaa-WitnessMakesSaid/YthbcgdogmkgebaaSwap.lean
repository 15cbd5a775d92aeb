/- Two ranges of arcs swapped; two blocks rotated. -/
import Derived.Test.YthbcgdogmkgebaaCmp
import Derived.RegionTactic
import Derived.Deep.DeepCutAuto
namespace Go.Proofs.Ythbcgdogmkgebaa
open Go.RowKit

def updR (f : Row) (i : Nat) (e : Ar) : Row := fun k => if k = i then e else f k
theorem swp_upd (f : Row) (i j : Nat) : updR (updR f i (f j)) j (f i) = swp f i j := by
  funext k
  unfold updR swp
  by_cases h1 : k = j
  · rw [if_pos h1]
    by_cases h2 : k = i
    · rw [if_pos h2, ← h1, h2]
    · rw [if_neg h2, if_pos h1]
  · rw [if_neg h1]
    by_cases h2 : k = i
    · rw [if_pos h2, if_pos h2]
    · rw [if_neg h2, if_neg h2, if_neg h1]
/-- Block g holds n arcs: f. -/
def RowF (w : World) (g n : Nat) (f : Row) : Prop := ∃ cur, Blk w g 56 cur ∧ ∀ i : Nat, i < n → cur[i * 2]? = some (i64 (f i).1) ∧ cur[i * 2 + 1]? = some (u64 (f i).2)
theorem RowF.c0 {w : World} {g n i : Nat} {f : Row} (h : RowF w g n f) (hi : i < n) : w.cell? ⟨g, i * 2, none⟩ = some (i64 (f i).1) := by
  obtain ⟨cur, h, hc⟩ := h
  rw [h.cell, (hc i hi).1]
theorem RowF.c1 {w : World} {g n i : Nat} {f : Row} (h : RowF w g n f) (hi : i < n) : w.cell? ⟨g, i * 2 + 1, none⟩ = some (u64 (f i).2) := by
  obtain ⟨cur, h, hc⟩ := h
  rw [h.cell, (hc i hi).2]
theorem RowF.frozen {w : World} {g n : Nat} {f : Row} (h : RowF w g n f) (i : Nat) : w.frozen? ⟨g, i, none⟩ = false := h.elim fun _ h => h.1.frozen i
theorem RowF.lt {w : World} {g n : Nat} {f : Row} (h : RowF w g n f) : g < w.heap.size := h.elim fun _ h => h.1.lt
theorem RowF.grew {w w' : World} {g n : Nat} {f : Row} (h : RowF w g n f) (k : Grew w w') : RowF w' g n f := h.imp fun _ h => ⟨h.1.grew k, h.2⟩
theorem RowF.set {w : World} {g n i : Nat} {f : Row} (h : RowF w g n f) (hi : i < n) (a b : Int) : RowF ((w.setCell ⟨g, i * 2, none⟩ (i64 a)).setCell ⟨g, i * 2 + 1, none⟩ (u64 b)) g n (updR f i (a, b)) := by
  obtain ⟨cur, h, hc⟩ := h
  refine ⟨_, (h.set (i * 2) (i64 a)).set (i * 2 + 1) (u64 b), fun j hj => ?_⟩
  have h0 := hc j hj
  unfold updR
  by_cases hji : j = i
  · subst hji
    have s0 := (Array.getElem?_eq_some_iff.1 h0.1).1
    have s1 := (Array.getElem?_eq_some_iff.1 h0.2).1
    rw [if_pos rfl, Array.getElem?_setIfInBounds_ne (by omega), Array.getElem?_setIfInBounds_self_of_lt s0, Array.getElem?_setIfInBounds_self_of_lt (by rw [Array.size_setIfInBounds]; exact s1)]
    exact ⟨rfl, rfl⟩
  · rw [if_neg hji, Array.getElem?_setIfInBounds_ne (by omega), Array.getElem?_setIfInBounds_ne (by omega), Array.getElem?_setIfInBounds_ne (by omega), Array.getElem?_setIfInBounds_ne (by omega)]
    exact h0
/-- The world when the arcs at i and j are swapped. -/
def swpW (w : World) (g i j : Nat) (x y : Ar) : World := (((w.setCell ⟨g, i * 2, none⟩ (i64 x.1)).setCell ⟨g, i * 2 + 1, none⟩ (u64 x.2)).setCell ⟨g, j * 2, none⟩ (i64 y.1)).setCell ⟨g, j * 2 + 1, none⟩ (u64 y.2)
theorem RowF.swp {w : World} {g n i j : Nat} {f : Row} (h : RowF w g n f) (hi : i < n) (hj : j < n) : RowF (swpW w g i j (f j) (f i)) g n (swp f i j) := by
  have := (h.set hi (f j).1 (f j).2).set hj (f i).1 (f i).2
  rw [← swp_upd]
  exact this
theorem swpW_kept (w : World) (g i j : Nat) (x y : Ar) : Kept (· = g) w (swpW w g i j x y) :=
  ((((Kept.refl (· = g) w).setCell (p := ⟨g, i * 2, none⟩) (.inl rfl) _).setCell (p := ⟨g, i * 2 + 1, none⟩) (.inl rfl) _).setCell (p := ⟨g, j * 2, none⟩) (.inl rfl) _).setCell (p := ⟨g, j * 2 + 1, none⟩) (.inl rfl) _

set_option maxHeartbeats 4000000 in
set_option maxRecDepth 100000 in
theorem swapRange_any (g N cap a b n : Nat) (f : Row) (w : World) (h : RowF w g N f) (hab : a + n ≤ b) (hb : b + n ≤ N) (hN : N ≤ 1000) :
    Calls Try.prog 69 #[.slice (some ⟨g, 0, none⟩) N cap, i64 a, i64 b, i64 n, (.func (.func 30) #[] #[])] w fun e w' => e = .returned (.tuple #[]) ∧ RowF w' g N (swr f a b n) ∧ Kept (· = g) w w' := by
  have hS0 : Hid (RowF w g N (swr f a b 0) ∧ Kept (· = g) w w) := ⟨by rw [swr_zero]; exact h, Kept.refl _ _⟩
  clear h
  go_enter Try.func69, Try.ntmps69
  go_wp2_with fail
  go_loopw [10] (fun i wr => ∃ k : Nat, k ≤ n ∧ i = .int .i64 k ∧ Hid (RowF wr g N (swr f a b k) ∧ Kept (· = g) w wr)) (fun i _ => n - (intOf i).toNat)
  case atStart => exact ⟨0, by omega, rfl, hS0⟩
  case round =>
    clear hS0
    obtain ⟨k, hk, rfl, hS⟩ := hrel
    by_cases hlt : k < n
    · have k0 : (0 : Int) ≤ (k : Int) := by omega
      have k1 : (k : Int) < (n : Int) := by omega
      obtain ⟨fk, hfk⟩ : ∃ x, swr f a b k = x := ⟨_, rfl⟩
      have hN1 : Hid (swp fk (a + k) (b + k) = swr f a b (k + 1)) := by rw [← hfk]; exact swr_succ f a b k (by omega)
      rw [hfk] at hS
      clear hfk
      have iL : a + k < N := by omega
      have jL : b + k < N := by omega
      obtain ⟨i, hi⟩ : ∃ i, a + k = i := ⟨_, rfl⟩
      obtain ⟨j, hj⟩ : ∃ j, b + k = j := ⟨_, rfl⟩
      have ei : (a : Int) + (k : Int) = (i : Int) := by omega
      have ej : (b : Int) + (k : Int) = (j : Int) := by omega
      rw [hi] at iL hN1
      rw [hj] at jL hN1
      have i0 : (0 : Int) ≤ (i : Int) := by omega
      have i1 : (i : Int) < (N : Int) := by omega
      have j0 : (0 : Int) ≤ (j : Int) := by omega
      have j1 : (j : Int) < (N : Int) := by omega
      have wi : IntKind.i64.wrap (i : Int) = (i : Int) := Go.IntWalk.i64_in _ (by omega)
      have wj : IntKind.i64.wrap (j : Int) = (j : Int) := Go.IntWalk.i64_in _ (by omega)
      have hR := hS.out.1
      have x0 := hR.c0 iL
      have x1 := hR.c1 iL
      have x2 := hR.c0 jL
      have x3 := hR.c1 jL
      have hR2 := (hR.set iL (fk j).1 (fk j).2)
      have z0 := hR.frozen (i * 2)
      have z1 := hR.frozen (i * 2 + 1)
      have y0 := hR2.frozen (j * 2)
      have y1 := hR2.frozen (j * 2 + 1)
      have y2 := hR2.c0 jL
      have y3 := hR2.c1 jL
      have hS5 : Hid (RowF (swpW wr g i j (fk j) (fk i)).drew g N (swr f a b (k + 1)) ∧ Kept (· = g) w (swpW wr g i j (fk j) (fk i)).drew) := by
        rw [← hN1.out]
        exact ⟨(hR.swp iL jL).grew (Kept.refl _ _).drew, (hS.out.2.trans (swpW_kept _ _ _ _ _ _)).drew⟩
      obtain ⟨X2, hX2⟩ : ∃ X, (updR fk i ((fk j).1, (fk j).2) j).1 = X := ⟨_, rfl⟩
      obtain ⟨X3, hX3⟩ : ∃ X, (updR fk i ((fk j).1, (fk j).2) j).2 = X := ⟨_, rfl⟩
      rw [hX2] at y2
      rw [hX3] at y3
      clear hS hR hR2 hN1 hX2 hX3
      obtain ⟨⟨p1, p2⟩, hp⟩ : ∃ p, fk i = p := ⟨_, rfl⟩
      obtain ⟨⟨q1, q2⟩, hq⟩ : ∃ q, fk j = q := ⟨_, rfl⟩
      unfold swpW at hS5
      rw [hp, hq] at hS5
      rw [hp] at x0 x1
      rw [hq] at x2 x3 y0 y1 y2 y3
      simp only at x0 x1 x2 x3 y0 y1 y2 y3
      clear hp hq hi hj
      go_upto_region 3 with fail
      refine wp_region_grow [21, 23] (fun _ => False) (by kernel_rfl) ?_
      simp only [List.size_toArray, List.length_cons, List.length_nil, Nat.reduceAdd]
      refine wpAnyG_pure 0 16 (v := ?_) rfl (by kernel_rfl) rfl (by rfl) (fun w' => ?_) ?_
      rotate_left
      · go_simp <;> with_reducible rfl
      simp only [List.setIfInBounds_toArray, List.set_cons_zero, List.set_cons_succ]
      refine wpAnyG_pure 1 17 (v := ?_) rfl (by kernel_rfl) rfl (by rfl) (fun w' => ?_) ?_
      rotate_left
      · go_simp <;> with_reducible rfl
      simp only [List.setIfInBounds_toArray, List.set_cons_zero, List.set_cons_succ]
      refine wpAnyG_pure 2 18 (v := ?_) rfl (by kernel_rfl) rfl (by rfl) (fun w' => ?_) ?_
      rotate_left
      · go_simp <;> with_reducible rfl
      simp only [List.setIfInBounds_toArray, List.set_cons_zero, List.set_cons_succ]
      refine wpAnyG_pure 3 19 (v := ?_) rfl (by kernel_rfl) rfl (by rfl) (fun w' => ?_) ?_
      rotate_left
      · go_simp <;> with_reducible rfl
      simp only [List.setIfInBounds_toArray, List.set_cons_zero, List.set_cons_succ]
      refine wpAnyG_pure 4 20 (v := ?_) rfl (by kernel_rfl) rfl (by rfl) (fun w' => ?_) ?_
      rotate_left
      · go_simp <;> with_reducible rfl
      simp only [List.setIfInBounds_toArray, List.set_cons_zero, List.set_cons_succ]
      refine wpAnyG_pure 5 21 (v := ?_) rfl (by kernel_rfl) rfl (by rfl) (fun w' => ?_) ?_
      rotate_left
      · go_simp <;> with_reducible rfl
      simp only [List.setIfInBounds_toArray, List.set_cons_zero, List.set_cons_succ]
      refine wpAnyG_pure 6 22 (v := ?_) rfl (by kernel_rfl) rfl (by rfl) (fun w' => ?_) ?_
      rotate_left
      · go_simp <;> with_reducible rfl
      simp only [List.setIfInBounds_toArray, List.set_cons_zero, List.set_cons_succ]
      refine wpAnyG_pure 7 23 (v := ?_) rfl (by kernel_rfl) rfl (by rfl) (fun w' => ?_) ?_
      rotate_left
      · go_simp <;> with_reducible rfl
      simp only [List.setIfInBounds_toArray, List.set_cons_zero, List.set_cons_succ]
      refine wpAnyG_pure 8 24 (v := ?_) rfl (by kernel_rfl) rfl (by rfl) (fun w' => ?_) ?_
      rotate_left
      · go_simp <;> with_reducible rfl
      simp only [List.setIfInBounds_toArray, List.set_cons_zero, List.set_cons_succ]
      refine wpAnyG_pure 9 25 (v := ?_) rfl (by kernel_rfl) rfl (by rfl) (fun w' => ?_) ?_
      rotate_left
      · go_simp <;> with_reducible rfl
      simp only [List.setIfInBounds_toArray, List.set_cons_zero, List.set_cons_succ]
      refine wpAnyG_pure 10 26 (v := ?_) rfl (by kernel_rfl) rfl (by rfl) (fun w' => ?_) ?_
      rotate_left
      · go_simp <;> with_reducible rfl
      simp only [List.setIfInBounds_toArray, List.set_cons_zero, List.set_cons_succ]
      refine wpAnyG_pure 11 27 (v := ?_) rfl (by kernel_rfl) rfl (by rfl) (fun w' => ?_) ?_
      rotate_left
      · go_simp <;> with_reducible rfl
      simp only [List.setIfInBounds_toArray, List.set_cons_zero, List.set_cons_succ]
      refine wpAnyG_pure 12 28 (v := ?_) rfl (by kernel_rfl) rfl (by rfl) (fun w' => ?_) ?_
      rotate_left
      · go_simp <;> with_reducible rfl
      simp only [List.setIfInBounds_toArray, List.set_cons_zero, List.set_cons_succ]
      refine wpAnyG_take 13 29 (v := ?_) rfl (by kernel_rfl) rfl (by rfl) (fun w' hG' => ?_) ?_
      rotate_left
      · have hx0 := Grew.cell hG' (show wr.drew.cell? _ = _ from x0)
        have hx1 := Grew.cell hG' (show wr.drew.cell? _ = _ from x1)
        have hx2 := Grew.cell hG' (show wr.drew.cell? _ = _ from x2)
        have hx3 := Grew.cell hG' (show wr.drew.cell? _ = _ from x3)
        go_simp <;> with_reducible rfl
      simp only [List.setIfInBounds_toArray, List.set_cons_zero, List.set_cons_succ]
      refine wpAnyG_pure 14 30 (v := ?_) rfl (by kernel_rfl) rfl (by rfl) (fun w' => ?_) ?_
      rotate_left
      · go_simp <;> with_reducible rfl
      simp only [List.setIfInBounds_toArray, List.set_cons_zero, List.set_cons_succ]
      refine wpAnyG_pure 15 31 (v := ?_) rfl (by kernel_rfl) rfl (by rfl) (fun w' => ?_) ?_
      rotate_left
      · go_simp <;> with_reducible rfl
      simp only [List.setIfInBounds_toArray, List.set_cons_zero, List.set_cons_succ]
      refine wpAnyG_pure 16 32 (v := ?_) rfl (by kernel_rfl) rfl (by rfl) (fun w' => ?_) ?_
      rotate_left
      · go_simp <;> with_reducible rfl
      simp only [List.setIfInBounds_toArray, List.set_cons_zero, List.set_cons_succ]
      refine wpAnyG_pure 17 33 (v := ?_) rfl (by kernel_rfl) rfl (by rfl) (fun w' => ?_) ?_
      rotate_left
      · go_simp <;> with_reducible rfl
      simp only [List.setIfInBounds_toArray, List.set_cons_zero, List.set_cons_succ]
      refine wpAnyG_pure 18 34 (v := ?_) rfl (by kernel_rfl) rfl (by rfl) (fun w' => ?_) ?_
      rotate_left
      · go_simp <;> with_reducible rfl
      simp only [List.setIfInBounds_toArray, List.set_cons_zero, List.set_cons_succ]
      refine wpAnyG_take 19 35 (v := ?_) rfl (by kernel_rfl) rfl (by rfl) (fun w' hG' => ?_) ?_
      rotate_left
      · have hx0 := Grew.cell hG' (show wr.drew.cell? _ = _ from x0)
        have hx1 := Grew.cell hG' (show wr.drew.cell? _ = _ from x1)
        have hx2 := Grew.cell hG' (show wr.drew.cell? _ = _ from x2)
        have hx3 := Grew.cell hG' (show wr.drew.cell? _ = _ from x3)
        go_simp <;> with_reducible rfl
      simp only [List.setIfInBounds_toArray, List.set_cons_zero, List.set_cons_succ]
      refine wpAnyG_pure 20 36 (v := ?_) rfl (by kernel_rfl) rfl (by rfl) (fun w' => ?_) ?_
      rotate_left
      · go_simp <;> with_reducible rfl
      simp only [List.setIfInBounds_toArray, List.set_cons_zero, List.set_cons_succ]
      refine wpAnyG_store 21 rfl (by kernel_rfl) rfl (by rfl) (fun K hK' => ?_)
      go_simp
      refine hK' _ (fun h => absurd (by simp) h) ?_
      clear hK'
      refine wpAnyG_pure 22 37 (v := ?_) rfl (by kernel_rfl) rfl (by rfl) (fun w' => ?_) ?_
      rotate_left
      · go_simp <;> with_reducible rfl
      simp only [List.setIfInBounds_toArray, List.set_cons_zero, List.set_cons_succ]
      refine wpAnyG_store 23 rfl (by kernel_rfl) rfl (by rfl) (fun K hK' => ?_)
      go_simp
      refine hK' _ (fun h => absurd (by simp) h) ?_
      clear hK'
      refine wpAnyG_done (by kernel_rfl) ?_
      go_wp2_with fail
      go_roundw
      case rel => exact ⟨k + 1, by omega, by go_num, hS5⟩
      case measure => simp [intOf]; omega
    · obtain rfl : k = n := by omega
      go_wp2_with fail
      go_end0
      exact ⟨rfl, hS.out⟩

set_option maxHeartbeats 4000000 in
set_option maxRecDepth 100000 in
theorem rotate_any (g N cap a m b : Nat) (f : Row) (w : World) (h : RowF w g N f) (ham : a < m) (hmb : m < b) (hb : b ≤ N) (hN : N ≤ 1000) :
    Calls Try.prog 68 #[.slice (some ⟨g, 0, none⟩) N cap, i64 a, i64 m, i64 b, (.func (.func 30) #[] #[])] w fun e w' => e = .returned (.tuple #[]) ∧ RowF w' g N (rot f a m b) ∧ Kept (· = g) w w' := by
  obtain ⟨T, hT⟩ : ∃ T, rot f a m b = T := ⟨_, rfl⟩
  rw [hT]
  obtain ⟨x0, hx0⟩ : ∃ x, m - a = x := ⟨_, rfl⟩
  obtain ⟨y0, hy0⟩ : ∃ y, b - m = y := ⟨_, rfl⟩
  have ex0 : (m : Int) - (a : Int) = (x0 : Int) := by omega
  have ey0 : (b : Int) - (m : Int) = (y0 : Int) := by omega
  have wx0 : IntKind.i64.wrap (x0 : Int) = (x0 : Int) := Go.IntWalk.i64_in _ (by omega)
  have wy0 : IntKind.i64.wrap (y0 : Int) = (y0 : Int) := Go.IntWalk.i64_in _ (by omega)
  have hS0 : Hid (RowF w g N f ∧ Kept (· = g) w w ∧ rot f (m - x0) m (m + y0) = T) := ⟨h, Kept.refl _ _, by rw [← hT]; congr 1 <;> omega⟩
  have hb0 : 0 < x0 ∧ 0 < y0 ∧ x0 ≤ m ∧ m + y0 ≤ N := by omega
  have HB := Lib.hid hb0
  have hm1 : m ≤ 1000 := by omega
  clear h hT hx0 hy0 hb0
  go_enter Try.func68, Try.ntmps68
  go_wp2_with fail
  go_loopw [10, 11] (fun i j wr => ∃ (x y : Nat) (fk : Row), (0 < x ∧ 0 < y ∧ x ≤ m ∧ m + y ≤ N) ∧ i = .int .i64 x ∧ j = .int .i64 y ∧ Hid (RowF wr g N fk ∧ Kept (· = g) w wr ∧ rot fk (m - x) m (m + y) = T)) (fun i j _ => (intOf i).toNat + (intOf j).toNat)
  case atStart => exact ⟨x0, y0, f, HB.out, rfl, rfl, hS0⟩
  case round =>
    clear hS0 HB ex0 ey0 wx0 wy0
    obtain ⟨x, y, fk, ⟨hx, hy, hxm, hmy⟩, rfl, rfl, hS⟩ := hrel
    obtain ⟨p, hp⟩ : ∃ p, m - x = p := ⟨_, rfl⟩
    have ep : (m : Int) - (x : Int) = (p : Int) := by omega
    have wp : IntKind.i64.wrap (p : Int) = (p : Int) := Go.IntWalk.i64_in _ (by omega)
    rcases Nat.lt_trichotomy x y with hxy | hxy | hxy
    · have hq : ((x : Int) == (y : Int)) = false := by simp; omega
      have hl : (x : Int) < (y : Int) := by omega
      obtain ⟨z, hz⟩ : ∃ z, y - x = z := ⟨_, rfl⟩
      have ez : (y : Int) - (x : Int) = (z : Int) := by omega
      have wz : IntKind.i64.wrap (z : Int) = (z : Int) := Go.IntWalk.i64_in _ (by omega)
      obtain ⟨s, hs⟩ : ∃ s, m + y = s := ⟨_, rfl⟩
      have es : (m : Int) + (y : Int) = (s : Int) := by omega
      have ws : IntKind.i64.wrap (s : Int) = (s : Int) := Go.IntWalk.i64_in _ (by omega)
      obtain ⟨r, hr⟩ : ∃ r, s - x = r := ⟨_, rfl⟩
      have er : (s : Int) - (x : Int) = (r : Int) := by omega
      have wr' : IntKind.i64.wrap (r : Int) = (r : Int) := Go.IntWalk.i64_in _ (by omega)
      have hC := Lib.hid (swapRange_any g N cap p r x fk wr hS.out.1 (by omega) (by omega) hN)
      have hN2 : Hid (rot (swr fk p r x) (m - x) m (m + z) = T) := by
        rw [← hS.out.2.2, ← hp, ← hr, ← hs, ← hz]
        exact rot_lt fk m x y hxm hxy
      have hk := Lib.hid hS.out.2.1
      have hbd : 0 < x ∧ 0 < z ∧ x ≤ m ∧ m + z ≤ N := by omega
      have HBD := Lib.hid hbd
      have hme : x + z < x + y := by omega
      clear hS hp hz hs hr hbd hxm hmy hx hy hxy
      go_wp2_with fail
      refine hC.out.mono ?_
      rintro e w2 ⟨rfl, h2, k2⟩
      have hR : Hid (RowF w2 g N (swr fk p r x) ∧ Kept (· = g) w w2 ∧ rot (swr fk p r x) (m - x) m (m + z) = T) := ⟨h2, hk.out.trans k2, hN2.out⟩
      clear h2 k2 hC hk hN2
      go_wp2_with fail
      go_roundw
      case rel => exact ⟨x, z, _, HBD.out, by go_num, by go_num, hR⟩
      case measure => simp [intOf]; omega
    · subst hxy
      have hC := Lib.hid (swapRange_any g N cap p m x fk wr hS.out.1 (by omega) (by omega) hN)
      have hN2 : Hid (swr fk p m x = T) := by
        rw [← hS.out.2.2, ← hp]
        exact rot_eq fk m x hxm
      have hk := Lib.hid hS.out.2.1
      clear hS hp hxm hmy hx hy
      go_wp2_with fail
      refine hC.out.mono ?_
      rintro e w2 ⟨rfl, h2, k2⟩
      rw [hN2.out] at h2
      have hR : Hid (RowF w2 g N T ∧ Kept (· = g) w w2) := ⟨h2, hk.out.trans k2⟩
      clear h2 k2 hC hk hN2
      go_wp2_with fail
      go_end0
      exact ⟨rfl, hR.out⟩
    · have hq : ((x : Int) == (y : Int)) = false := by simp; omega
      have hl : (y : Int) < (x : Int) := by omega
      obtain ⟨z, hz⟩ : ∃ z, x - y = z := ⟨_, rfl⟩
      have ez : (x : Int) - (y : Int) = (z : Int) := by omega
      have wz : IntKind.i64.wrap (z : Int) = (z : Int) := Go.IntWalk.i64_in _ (by omega)
      have hC := Lib.hid (swapRange_any g N cap p m y fk wr hS.out.1 (by omega) (by omega) hN)
      have hN2 : Hid (rot (swr fk p m y) (m - z) m (m + y) = T) := by
        rw [← hS.out.2.2, ← hp, ← hz]
        exact rot_gt fk m x y hxm hxy
      have hk := Lib.hid hS.out.2.1
      have hbd : 0 < z ∧ 0 < y ∧ z ≤ m ∧ m + y ≤ N := by omega
      have HBD := Lib.hid hbd
      have hme : z + y < x + y := by omega
      clear hS hp hz hbd hxm hmy hx hy hxy
      go_wp2_with fail
      refine hC.out.mono ?_
      rintro e w2 ⟨rfl, h2, k2⟩
      have hR : Hid (RowF w2 g N (swr fk p m y) ∧ Kept (· = g) w w2 ∧ rot (swr fk p m y) (m - z) m (m + y) = T) := ⟨h2, hk.out.trans k2, hN2.out⟩
      clear h2 k2 hC hk hN2
      go_wp2_with fail
      go_roundw
      case rel => exact ⟨z, y, _, HBD.out, by go_num, by go_num, hR⟩
      case measure => simp [intOf]; omega
end Go.Proofs.Ythbcgdogmkgebaa
