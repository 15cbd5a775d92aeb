/- The sort by insertion. -/
import Derived.Test.YthbcgdogmkgebaaSwap
namespace Go.Proofs.Ythbcgdogmkgebaa
open Go.RowKit

set_option maxHeartbeats 8000000 in
set_option maxRecDepth 100000 in
theorem insertion_any (g N cap a b : Nat) (f : Row) (w : World) (h : RowF w g N f) (hab : a ≤ b) (hb : b ≤ N) (hN : N ≤ 1000) :
    Calls Try.prog 60 #[.slice (some ⟨g, 0, none⟩) N cap, i64 a, i64 b, (.func (.func 30) #[] #[])] w fun e w' => e = .returned (.tuple #[]) ∧ ∃ f', RowF w' g N f' ∧ Kept (· = g) w w' ∧ Stp f f' a b ∧ Srt f' a b := by
  have hS0 : Hid (RowF w g N f ∧ Kept (· = g) w w ∧ Stp f f a b ∧ Srt f a (a + 1)) := ⟨h, Kept.refl _ _, Stp.refl _ _ _, Srt.one _ _⟩
  obtain ⟨s, hs⟩ : ∃ s, a + 1 = s := ⟨_, rfl⟩
  have es : (a : Int) + 1 = (s : Int) := by omega
  have ws : IntKind.i64.wrap (s : Int) = (s : Int) := Go.IntWalk.i64_in _ (by omega)
  rw [hs] at hS0
  have hsb : s ≤ b + 1 := by omega
  have has : a < s := by omega
  have HSB := Lib.hid hsb
  have HAS := Lib.hid has
  clear h hs hsb has
  go_enter Try.func60, Try.ntmps60
  go_wp2_with fail
  go_loopw [8, 9] (fun i _ wr => ∃ (x : Nat) (fk : Row), (a < x ∧ x ≤ b + 1) ∧ i = .int .i64 x ∧ Hid (RowF wr g N fk ∧ Kept (· = g) w wr ∧ Stp f fk a b ∧ Srt fk a x)) (fun i _ _ => b - (intOf i).toNat)
  case atStart => exact ⟨s, f, ⟨HAS.out, HSB.out⟩, rfl, hS0⟩
  case round =>
    clear hS0 HSB HAS es ws
    obtain ⟨x, fk, ⟨hax, hxb⟩, rfl, hS⟩ := hrel
    by_cases hlt : x < b
    · have l1 : (x : Int) < (b : Int) := by omega
      have hS1 : Hid (RowF wr g N fk ∧ Kept (· = g) w wr ∧ Stp f fk a b ∧ Ins fk a x x) := ⟨hS.out.1, hS.out.2.1, hS.out.2.2.1, Ins.start hS.out.2.2.2 (by omega)⟩
      clear hS
      go_wp2_with fail
      go_loopw [9] (fun j wr => ∃ (y : Nat) (fk : Row), (a ≤ y ∧ y ≤ x) ∧ j = .int .i64 y ∧ Hid (RowF wr g N fk ∧ Kept (· = g) w wr ∧ Stp f fk a b ∧ Ins fk a x y)) (fun j _ => (intOf j).toNat)
      case atStart => exact ⟨x, fk, ⟨by omega, by omega⟩, rfl, hS1⟩
      case round =>
        clear hS1
        obtain ⟨y, fk, ⟨hay, hyx⟩, rfl, hS⟩ := hrel
        rcases Nat.lt_or_ge a y with hg | hg
        · have g1 : (a : Int) < (y : Int) := by omega
          obtain ⟨p, hp⟩ : ∃ p, y - 1 = p := ⟨_, rfl⟩
          have ep : (y : Int) - 1 = (p : Int) := by omega
          have wp : IntKind.i64.wrap (p : Int) = (p : Int) := Go.IntWalk.i64_in _ (by omega)
          have iL : y < N := by omega
          have jL : p < N := by omega
          have i0 : (0 : Int) ≤ (y : Int) := by omega
          have i1 : (y : Int) < (N : Int) := by omega
          have j0 : (0 : Int) ≤ (p : Int) := by omega
          have j1 : (p : Int) < (N : Int) := by omega
          have x0 := hS.out.1.c0 iL
          have x1 := hS.out.1.c1 iL
          have x2 := hS.out.1.c0 jL
          have x3 := hS.out.1.c1 jL
          obtain ⟨⟨q1, q2⟩, hq⟩ : ∃ q, fk p = q := ⟨_, rfl⟩
          obtain ⟨⟨p1, p2⟩, hy⟩ : ∃ q, fk y = q := ⟨_, rfl⟩
          rw [hy] at x0 x1
          rw [hq] at x2 x3
          simp only at x0 x1 x2 x3
          obtain ⟨c, hc⟩ : ∃ c, cmpA (p1, p2) (q1, q2) = c := ⟨_, rfl⟩
          have hC := Lib.hid (cmp_any p1 p2 q1 q2)
          rw [hc] at hC
          have hl := cmpA_lt (fk y) (fk p)
          rw [hy, hq, hc] at hl
          have HL : Hid (decide (c < 0) = ltA (fk y) (fk p)) := by rw [hy, hq]; exact hl
          have HP := Lib.hid hp
          have HQ := Lib.hid hq
          have HY := Lib.hid hy
          have hmea : p < y := by omega
          have hap : a ≤ p ∧ p ≤ x := by omega
          clear hc hl hq hy hp
          rcases Int.lt_or_le c 0 with hc | hc
          · have dc : decide (c < 0) = true := decide_eq_true hc
            go_upto_region 4 with fail
            refine wp_region_grow [] (fun _ => False) (by kernel_rfl) ?_
            simp only [List.size_toArray, List.length_cons, List.length_nil, Nat.reduceAdd]
            refine wpAnyG_pure 0 18 (v := ?_) rfl (by kernel_rfl) rfl (by rfl) (fun w' => ?_) ?_
            rotate_left
            · go_simp <;> with_reducible rfl
            simp only [List.setIfInBounds_toArray, List.set_cons_zero, List.set_cons_succ]
            refine wpAnyG_pure 1 19 (v := ?_) rfl (by kernel_rfl) rfl (by rfl) (fun w' => ?_) ?_
            rotate_left
            · go_simp <;> with_reducible rfl
            simp only [List.setIfInBounds_toArray, List.set_cons_zero, List.set_cons_succ]
            refine wpAnyG_pure 2 20 (v := ?_) rfl (by kernel_rfl) rfl (by rfl) (fun w' => ?_) ?_
            rotate_left
            · go_simp <;> with_reducible rfl
            simp only [List.setIfInBounds_toArray, List.set_cons_zero, List.set_cons_succ]
            refine wpAnyG_pure 3 21 (v := ?_) rfl (by kernel_rfl) rfl (by rfl) (fun w' => ?_) ?_
            rotate_left
            · go_simp <;> with_reducible rfl
            simp only [List.setIfInBounds_toArray, List.set_cons_zero, List.set_cons_succ]
            refine wpAnyG_pure 4 22 (v := ?_) rfl (by kernel_rfl) rfl (by rfl) (fun w' => ?_) ?_
            rotate_left
            · go_simp <;> with_reducible rfl
            simp only [List.setIfInBounds_toArray, List.set_cons_zero, List.set_cons_succ]
            refine wpAnyG_pure 5 23 (v := ?_) rfl (by kernel_rfl) rfl (by rfl) (fun w' => ?_) ?_
            rotate_left
            · go_simp <;> with_reducible rfl
            simp only [List.setIfInBounds_toArray, List.set_cons_zero, List.set_cons_succ]
            refine wpAnyG_pure 6 24 (v := ?_) rfl (by kernel_rfl) rfl (by rfl) (fun w' => ?_) ?_
            rotate_left
            · go_simp <;> with_reducible rfl
            simp only [List.setIfInBounds_toArray, List.set_cons_zero, List.set_cons_succ]
            refine wpAnyG_pure 7 25 (v := ?_) rfl (by kernel_rfl) rfl (by rfl) (fun w' => ?_) ?_
            rotate_left
            · go_simp <;> with_reducible rfl
            simp only [List.setIfInBounds_toArray, List.set_cons_zero, List.set_cons_succ]
            refine wpAnyG_take 8 26 (v := ?_) rfl (by kernel_rfl) rfl (by rfl) (fun w' hG' => ?_) ?_
            rotate_left
            · have hx0 := Grew.cell hG' (show wr.drew.cell? _ = _ from x0)
              have hx1 := Grew.cell hG' (show wr.drew.cell? _ = _ from x1)
              have hx2 := Grew.cell hG' (show wr.drew.cell? _ = _ from x2)
              have hx3 := Grew.cell hG' (show wr.drew.cell? _ = _ from x3)
              go_simp <;> with_reducible rfl
            simp only [List.setIfInBounds_toArray, List.set_cons_zero, List.set_cons_succ]
            refine wpAnyG_pure 9 27 (v := ?_) rfl (by kernel_rfl) rfl (by rfl) (fun w' => ?_) ?_
            rotate_left
            · go_simp <;> with_reducible rfl
            simp only [List.setIfInBounds_toArray, List.set_cons_zero, List.set_cons_succ]
            refine wpAnyG_pure 10 28 (v := ?_) rfl (by kernel_rfl) rfl (by rfl) (fun w' => ?_) ?_
            rotate_left
            · go_simp <;> with_reducible rfl
            simp only [List.setIfInBounds_toArray, List.set_cons_zero, List.set_cons_succ]
            refine wpAnyG_pure 11 29 (v := ?_) rfl (by kernel_rfl) rfl (by rfl) (fun w' => ?_) ?_
            rotate_left
            · go_simp <;> with_reducible rfl
            simp only [List.setIfInBounds_toArray, List.set_cons_zero, List.set_cons_succ]
            refine wpAnyG_pure 12 30 (v := ?_) rfl (by kernel_rfl) rfl (by rfl) (fun w' => ?_) ?_
            rotate_left
            · go_simp <;> with_reducible rfl
            simp only [List.setIfInBounds_toArray, List.set_cons_zero, List.set_cons_succ]
            refine wpAnyG_take 13 31 (v := ?_) rfl (by kernel_rfl) rfl (by rfl) (fun w' hG' => ?_) ?_
            rotate_left
            · have hx0 := Grew.cell hG' (show wr.drew.cell? _ = _ from x0)
              have hx1 := Grew.cell hG' (show wr.drew.cell? _ = _ from x1)
              have hx2 := Grew.cell hG' (show wr.drew.cell? _ = _ from x2)
              have hx3 := Grew.cell hG' (show wr.drew.cell? _ = _ from x3)
              go_simp <;> with_reducible rfl
            simp only [List.setIfInBounds_toArray, List.set_cons_zero, List.set_cons_succ]
            refine wpAnyG_step 14 32 rfl (by kernel_rfl) rfl (by rfl) (fun K hK' => ?_)
            go_simp
            refine (hC.out _).mono ?_
            rintro e w2 ⟨rfl, k2⟩
            refine hK' _ _ (fun _ => k2) ?_
            clear hK'
            simp only [List.setIfInBounds_toArray, List.set_cons_zero, List.set_cons_succ]
            refine wpAnyG_pure 15 33 (v := ?_) rfl (by kernel_rfl) rfl (by rfl) (fun w' => ?_) ?_
            rotate_left
            · go_simp <;> with_reducible rfl
            simp only [List.setIfInBounds_toArray, List.set_cons_zero, List.set_cons_succ]
            refine wpAnyG_pure 16 34 (v := ?_) rfl (by kernel_rfl) rfl (by rfl) (fun w' => ?_) ?_
            rotate_left
            · go_simp <;> with_reducible rfl
            simp only [List.setIfInBounds_toArray, List.set_cons_zero, List.set_cons_succ]
            refine wpAnyG_done (by kernel_rfl) ?_
            have hR2 := Lib.hid ((hS.out.1.grew (Kept.refl (fun _ => False) wr).drew).grew k2)
            have hK2 := Lib.hid ((hS.out.2.1.drew).trans (k2.kept (F := (· = g))))
            have hT := Lib.hid hS.out.2.2
            clear hS k2 x0 x1 x2 x3 hC
            have hlt : Hid (ltA (fk y) (fk (y - 1)) = true) := by have := HL.out; rw [decide_eq_true hc] at this; rw [HP.out]; exact this.symm
            have x0 := (hR2.out).c0 iL
            have x1 := (hR2.out).c1 iL
            have x2 := (hR2.out).c0 jL
            have x3 := (hR2.out).c1 jL
            have hR3 := ((hR2.out).set iL (fk p).1 (fk p).2)
            have z0 := (hR2.out).frozen (y * 2)
            have z1 := (hR2.out).frozen (y * 2 + 1)
            have y0 := hR3.frozen (p * 2)
            have y1 := hR3.frozen (p * 2 + 1)
            have y2 := hR3.c0 jL
            have y3 := hR3.c1 jL
            obtain ⟨X2, hX2⟩ : ∃ X, (updR fk y ((fk p).1, (fk p).2) p).1 = X := ⟨_, rfl⟩
            obtain ⟨X3, hX3⟩ : ∃ X, (updR fk y ((fk p).1, (fk p).2) p).2 = X := ⟨_, rfl⟩
            rw [hX2] at y2
            rw [hX3] at y3
            clear hX2 hX3 hR3
            have hS5 : Hid (RowF (swpW w2 g y p (fk p) (fk y)).drew g N (swp fk y p) ∧ Kept (· = g) w (swpW w2 g y p (fk p) (fk y)).drew ∧ Stp f (swp fk y p) a b ∧ Ins (swp fk y p) a x p) := by
              refine ⟨(hR2.out.swp iL jL).grew (Kept.refl _ _).drew, (hK2.out.trans (swpW_kept _ _ _ _ _ _)).drew, hT.out.1.trans (Stp.swp fk (by omega) (by omega) (by omega) (by omega)), ?_⟩
              have := hT.out.2.step hg hlt.out
              rw [HP.out] at this
              exact this
            unfold swpW at hS5
            rw [HQ.out, HY.out] at hS5
            rw [HY.out] at x0 x1
            rw [HQ.out] at x2 x3 y0 y1 y2 y3
            simp only at x0 x1 x2 x3 y0 y1 y2 y3
            clear hR2 hK2 hT HL HP HQ HY hlt
            go_upto_region 6 with fail
            refine wp_region_grow [15, 17] (fun _ => False) (by kernel_rfl) ?_
            simp only [List.size_toArray, List.length_cons, List.length_nil, Nat.reduceAdd]
            refine wpAnyG_pure 0 37 (v := ?_) rfl (by kernel_rfl) rfl (by rfl) (fun w' => ?_) ?_
            rotate_left
            · go_simp <;> with_reducible rfl
            simp only [List.setIfInBounds_toArray, List.set_cons_zero, List.set_cons_succ]
            refine wpAnyG_pure 1 38 (v := ?_) rfl (by kernel_rfl) rfl (by rfl) (fun w' => ?_) ?_
            rotate_left
            · go_simp <;> with_reducible rfl
            simp only [List.setIfInBounds_toArray, List.set_cons_zero, List.set_cons_succ]
            refine wpAnyG_pure 2 39 (v := ?_) rfl (by kernel_rfl) rfl (by rfl) (fun w' => ?_) ?_
            rotate_left
            · go_simp <;> with_reducible rfl
            simp only [List.setIfInBounds_toArray, List.set_cons_zero, List.set_cons_succ]
            refine wpAnyG_pure 3 40 (v := ?_) rfl (by kernel_rfl) rfl (by rfl) (fun w' => ?_) ?_
            rotate_left
            · go_simp <;> with_reducible rfl
            simp only [List.setIfInBounds_toArray, List.set_cons_zero, List.set_cons_succ]
            refine wpAnyG_pure 4 41 (v := ?_) rfl (by kernel_rfl) rfl (by rfl) (fun w' => ?_) ?_
            rotate_left
            · go_simp <;> with_reducible rfl
            simp only [List.setIfInBounds_toArray, List.set_cons_zero, List.set_cons_succ]
            refine wpAnyG_pure 5 42 (v := ?_) rfl (by kernel_rfl) rfl (by rfl) (fun w' => ?_) ?_
            rotate_left
            · go_simp <;> with_reducible rfl
            simp only [List.setIfInBounds_toArray, List.set_cons_zero, List.set_cons_succ]
            refine wpAnyG_pure 6 43 (v := ?_) rfl (by kernel_rfl) rfl (by rfl) (fun w' => ?_) ?_
            rotate_left
            · go_simp <;> with_reducible rfl
            simp only [List.setIfInBounds_toArray, List.set_cons_zero, List.set_cons_succ]
            refine wpAnyG_pure 7 44 (v := ?_) rfl (by kernel_rfl) rfl (by rfl) (fun w' => ?_) ?_
            rotate_left
            · go_simp <;> with_reducible rfl
            simp only [List.setIfInBounds_toArray, List.set_cons_zero, List.set_cons_succ]
            refine wpAnyG_pure 8 45 (v := ?_) rfl (by kernel_rfl) rfl (by rfl) (fun w' => ?_) ?_
            rotate_left
            · go_simp <;> with_reducible rfl
            simp only [List.setIfInBounds_toArray, List.set_cons_zero, List.set_cons_succ]
            refine wpAnyG_take 9 46 (v := ?_) rfl (by kernel_rfl) rfl (by rfl) (fun w' hG' => ?_) ?_
            rotate_left
            · have hx0 := Grew.cell hG' (show w2.drew.cell? _ = _ from x0)
              have hx1 := Grew.cell hG' (show w2.drew.cell? _ = _ from x1)
              have hx2 := Grew.cell hG' (show w2.drew.cell? _ = _ from x2)
              have hx3 := Grew.cell hG' (show w2.drew.cell? _ = _ from x3)
              go_simp <;> with_reducible rfl
            simp only [List.setIfInBounds_toArray, List.set_cons_zero, List.set_cons_succ]
            refine wpAnyG_pure 10 47 (v := ?_) rfl (by kernel_rfl) rfl (by rfl) (fun w' => ?_) ?_
            rotate_left
            · go_simp <;> with_reducible rfl
            simp only [List.setIfInBounds_toArray, List.set_cons_zero, List.set_cons_succ]
            refine wpAnyG_pure 11 48 (v := ?_) rfl (by kernel_rfl) rfl (by rfl) (fun w' => ?_) ?_
            rotate_left
            · go_simp <;> with_reducible rfl
            simp only [List.setIfInBounds_toArray, List.set_cons_zero, List.set_cons_succ]
            refine wpAnyG_pure 12 49 (v := ?_) rfl (by kernel_rfl) rfl (by rfl) (fun w' => ?_) ?_
            rotate_left
            · go_simp <;> with_reducible rfl
            simp only [List.setIfInBounds_toArray, List.set_cons_zero, List.set_cons_succ]
            refine wpAnyG_take 13 50 (v := ?_) rfl (by kernel_rfl) rfl (by rfl) (fun w' hG' => ?_) ?_
            rotate_left
            · have hx0 := Grew.cell hG' (show w2.drew.cell? _ = _ from x0)
              have hx1 := Grew.cell hG' (show w2.drew.cell? _ = _ from x1)
              have hx2 := Grew.cell hG' (show w2.drew.cell? _ = _ from x2)
              have hx3 := Grew.cell hG' (show w2.drew.cell? _ = _ from x3)
              go_simp <;> with_reducible rfl
            simp only [List.setIfInBounds_toArray, List.set_cons_zero, List.set_cons_succ]
            refine wpAnyG_pure 14 51 (v := ?_) rfl (by kernel_rfl) rfl (by rfl) (fun w' => ?_) ?_
            rotate_left
            · go_simp <;> with_reducible rfl
            simp only [List.setIfInBounds_toArray, List.set_cons_zero, List.set_cons_succ]
            refine wpAnyG_store 15 rfl (by kernel_rfl) rfl (by rfl) (fun K hK' => ?_)
            go_simp
            refine hK' _ (fun h => absurd (by simp) h) ?_
            clear hK'
            refine wpAnyG_pure 16 52 (v := ?_) rfl (by kernel_rfl) rfl (by rfl) (fun w' => ?_) ?_
            rotate_left
            · go_simp <;> with_reducible rfl
            simp only [List.setIfInBounds_toArray, List.set_cons_zero, List.set_cons_succ]
            refine wpAnyG_store 17 rfl (by kernel_rfl) rfl (by rfl) (fun K hK' => ?_)
            go_simp
            refine hK' _ (fun h => absurd (by simp) h) ?_
            clear hK'
            refine wpAnyG_done (by kernel_rfl) ?_
            go_wp2_with fail
            go_roundw
            case rel => exact ⟨p, _, hap, by go_num, hS5⟩
            case measure => simp [intOf]; omega
          · have dc : decide (c < 0) = false := decide_eq_false (by omega)
            go_upto_region 4 with fail
            refine wp_region_grow [] (fun _ => False) (by kernel_rfl) ?_
            simp only [List.size_toArray, List.length_cons, List.length_nil, Nat.reduceAdd]
            refine wpAnyG_pure 0 18 (v := ?_) rfl (by kernel_rfl) rfl (by rfl) (fun w' => ?_) ?_
            rotate_left
            · go_simp <;> with_reducible rfl
            simp only [List.setIfInBounds_toArray, List.set_cons_zero, List.set_cons_succ]
            refine wpAnyG_pure 1 19 (v := ?_) rfl (by kernel_rfl) rfl (by rfl) (fun w' => ?_) ?_
            rotate_left
            · go_simp <;> with_reducible rfl
            simp only [List.setIfInBounds_toArray, List.set_cons_zero, List.set_cons_succ]
            refine wpAnyG_pure 2 20 (v := ?_) rfl (by kernel_rfl) rfl (by rfl) (fun w' => ?_) ?_
            rotate_left
            · go_simp <;> with_reducible rfl
            simp only [List.setIfInBounds_toArray, List.set_cons_zero, List.set_cons_succ]
            refine wpAnyG_pure 3 21 (v := ?_) rfl (by kernel_rfl) rfl (by rfl) (fun w' => ?_) ?_
            rotate_left
            · go_simp <;> with_reducible rfl
            simp only [List.setIfInBounds_toArray, List.set_cons_zero, List.set_cons_succ]
            refine wpAnyG_pure 4 22 (v := ?_) rfl (by kernel_rfl) rfl (by rfl) (fun w' => ?_) ?_
            rotate_left
            · go_simp <;> with_reducible rfl
            simp only [List.setIfInBounds_toArray, List.set_cons_zero, List.set_cons_succ]
            refine wpAnyG_pure 5 23 (v := ?_) rfl (by kernel_rfl) rfl (by rfl) (fun w' => ?_) ?_
            rotate_left
            · go_simp <;> with_reducible rfl
            simp only [List.setIfInBounds_toArray, List.set_cons_zero, List.set_cons_succ]
            refine wpAnyG_pure 6 24 (v := ?_) rfl (by kernel_rfl) rfl (by rfl) (fun w' => ?_) ?_
            rotate_left
            · go_simp <;> with_reducible rfl
            simp only [List.setIfInBounds_toArray, List.set_cons_zero, List.set_cons_succ]
            refine wpAnyG_pure 7 25 (v := ?_) rfl (by kernel_rfl) rfl (by rfl) (fun w' => ?_) ?_
            rotate_left
            · go_simp <;> with_reducible rfl
            simp only [List.setIfInBounds_toArray, List.set_cons_zero, List.set_cons_succ]
            refine wpAnyG_take 8 26 (v := ?_) rfl (by kernel_rfl) rfl (by rfl) (fun w' hG' => ?_) ?_
            rotate_left
            · have hx0 := Grew.cell hG' (show wr.drew.cell? _ = _ from x0)
              have hx1 := Grew.cell hG' (show wr.drew.cell? _ = _ from x1)
              have hx2 := Grew.cell hG' (show wr.drew.cell? _ = _ from x2)
              have hx3 := Grew.cell hG' (show wr.drew.cell? _ = _ from x3)
              go_simp <;> with_reducible rfl
            simp only [List.setIfInBounds_toArray, List.set_cons_zero, List.set_cons_succ]
            refine wpAnyG_pure 9 27 (v := ?_) rfl (by kernel_rfl) rfl (by rfl) (fun w' => ?_) ?_
            rotate_left
            · go_simp <;> with_reducible rfl
            simp only [List.setIfInBounds_toArray, List.set_cons_zero, List.set_cons_succ]
            refine wpAnyG_pure 10 28 (v := ?_) rfl (by kernel_rfl) rfl (by rfl) (fun w' => ?_) ?_
            rotate_left
            · go_simp <;> with_reducible rfl
            simp only [List.setIfInBounds_toArray, List.set_cons_zero, List.set_cons_succ]
            refine wpAnyG_pure 11 29 (v := ?_) rfl (by kernel_rfl) rfl (by rfl) (fun w' => ?_) ?_
            rotate_left
            · go_simp <;> with_reducible rfl
            simp only [List.setIfInBounds_toArray, List.set_cons_zero, List.set_cons_succ]
            refine wpAnyG_pure 12 30 (v := ?_) rfl (by kernel_rfl) rfl (by rfl) (fun w' => ?_) ?_
            rotate_left
            · go_simp <;> with_reducible rfl
            simp only [List.setIfInBounds_toArray, List.set_cons_zero, List.set_cons_succ]
            refine wpAnyG_take 13 31 (v := ?_) rfl (by kernel_rfl) rfl (by rfl) (fun w' hG' => ?_) ?_
            rotate_left
            · have hx0 := Grew.cell hG' (show wr.drew.cell? _ = _ from x0)
              have hx1 := Grew.cell hG' (show wr.drew.cell? _ = _ from x1)
              have hx2 := Grew.cell hG' (show wr.drew.cell? _ = _ from x2)
              have hx3 := Grew.cell hG' (show wr.drew.cell? _ = _ from x3)
              go_simp <;> with_reducible rfl
            simp only [List.setIfInBounds_toArray, List.set_cons_zero, List.set_cons_succ]
            refine wpAnyG_step 14 32 rfl (by kernel_rfl) rfl (by rfl) (fun K hK' => ?_)
            go_simp
            refine (hC.out _).mono ?_
            rintro e w2 ⟨rfl, k2⟩
            refine hK' _ _ (fun _ => k2) ?_
            clear hK'
            simp only [List.setIfInBounds_toArray, List.set_cons_zero, List.set_cons_succ]
            refine wpAnyG_pure 15 33 (v := ?_) rfl (by kernel_rfl) rfl (by rfl) (fun w' => ?_) ?_
            rotate_left
            · go_simp <;> with_reducible rfl
            simp only [List.setIfInBounds_toArray, List.set_cons_zero, List.set_cons_succ]
            refine wpAnyG_pure 16 34 (v := ?_) rfl (by kernel_rfl) rfl (by rfl) (fun w' => ?_) ?_
            rotate_left
            · go_simp <;> with_reducible rfl
            simp only [List.setIfInBounds_toArray, List.set_cons_zero, List.set_cons_succ]
            refine wpAnyG_done (by kernel_rfl) ?_
            have hR2 := Lib.hid ((hS.out.1.grew (Kept.refl (fun _ => False) wr).drew).grew k2)
            have hK2 := Lib.hid ((hS.out.2.1.drew).trans (k2.kept (F := (· = g))))
            have hT := Lib.hid hS.out.2.2
            clear hS k2 x0 x1 x2 x3 hC
            have hfin : Hid (RowF w2 g N fk ∧ Kept (· = g) w w2 ∧ Stp f fk a b ∧ Srt fk a (x + 1)) := by
              refine ⟨hR2.out, hK2.out, hT.out.1, hT.out.2.stop (.inr ?_)⟩
              have := HL.out
              rw [decide_eq_false (by omega)] at this
              rw [HP.out]
              exact this.symm
            clear hR2 hK2 hT HL HP HQ HY
            go_wp2_with fail
            exact ⟨⟨x + 1, fk, ⟨by omega, by omega⟩, by go_num, hfin⟩, by simp [intOf]; omega⟩
        · have g1 : (y : Int) ≤ (a : Int) := by omega
          have g2 : decide (a < y) = false := decide_eq_false (by omega)
          have hfin : Hid (RowF wr.drew g N fk ∧ Kept (· = g) w wr.drew ∧ Stp f fk a b ∧ Srt fk a (x + 1)) :=
            ⟨hS.out.1.grew (Kept.refl _ _).drew, hS.out.2.1.drew, hS.out.2.2.1, hS.out.2.2.2.stop (.inl hg)⟩
          clear hS
          go_upto_region 4 with fail
          refine wp_region_grow [] (fun _ => False) (by kernel_rfl) ?_
          simp only [List.size_toArray, List.length_cons, List.length_nil, Nat.reduceAdd]
          refine wpAnyG_pure 0 18 (v := ?_) rfl (by kernel_rfl) rfl (by rfl) (fun w' => ?_) ?_
          rotate_left
          · go_simp <;> with_reducible rfl
          simp only [List.setIfInBounds_toArray, List.set_cons_zero, List.set_cons_succ]
          refine wpAnyG_pure 1 19 (v := ?_) rfl (by kernel_rfl) rfl (by rfl) (fun w' => ?_) ?_
          rotate_left
          · go_simp <;> with_reducible rfl
          simp only [List.setIfInBounds_toArray, List.set_cons_zero, List.set_cons_succ]
          refine wpAnyG_pure 2 20 (v := ?_) rfl (by kernel_rfl) rfl (by rfl) (fun w' => ?_) ?_
          rotate_left
          · go_simp <;> with_reducible rfl
          simp only [List.setIfInBounds_toArray, List.set_cons_zero, List.set_cons_succ]
          refine wpAnyG_pure 3 21 (v := ?_) rfl (by kernel_rfl) rfl (by rfl) (fun w' => ?_) ?_
          rotate_left
          · go_simp <;> with_reducible rfl
          simp only [List.setIfInBounds_toArray, List.set_cons_zero, List.set_cons_succ]
          refine wpAnyG_pass 4 22 rfl (by kernel_rfl) rfl (by rfl) ?_
          simp only [List.setIfInBounds_toArray, List.set_cons_zero, List.set_cons_succ]
          refine wpAnyG_pass 5 23 rfl (by kernel_rfl) rfl (by rfl) ?_
          simp only [List.setIfInBounds_toArray, List.set_cons_zero, List.set_cons_succ]
          refine wpAnyG_pass 6 24 rfl (by kernel_rfl) rfl (by rfl) ?_
          simp only [List.setIfInBounds_toArray, List.set_cons_zero, List.set_cons_succ]
          refine wpAnyG_pass 7 25 rfl (by kernel_rfl) rfl (by rfl) ?_
          simp only [List.setIfInBounds_toArray, List.set_cons_zero, List.set_cons_succ]
          refine wpAnyG_pass 8 26 rfl (by kernel_rfl) rfl (by rfl) ?_
          simp only [List.setIfInBounds_toArray, List.set_cons_zero, List.set_cons_succ]
          refine wpAnyG_pass 9 27 rfl (by kernel_rfl) rfl (by rfl) ?_
          simp only [List.setIfInBounds_toArray, List.set_cons_zero, List.set_cons_succ]
          refine wpAnyG_pass 10 28 rfl (by kernel_rfl) rfl (by rfl) ?_
          simp only [List.setIfInBounds_toArray, List.set_cons_zero, List.set_cons_succ]
          refine wpAnyG_pass 11 29 rfl (by kernel_rfl) rfl (by rfl) ?_
          simp only [List.setIfInBounds_toArray, List.set_cons_zero, List.set_cons_succ]
          refine wpAnyG_pass 12 30 rfl (by kernel_rfl) rfl (by rfl) ?_
          simp only [List.setIfInBounds_toArray, List.set_cons_zero, List.set_cons_succ]
          refine wpAnyG_pass 13 31 rfl (by kernel_rfl) rfl (by rfl) ?_
          simp only [List.setIfInBounds_toArray, List.set_cons_zero, List.set_cons_succ]
          refine wpAnyG_pass 14 32 rfl (by kernel_rfl) rfl (by rfl) ?_
          simp only [List.setIfInBounds_toArray, List.set_cons_zero, List.set_cons_succ]
          refine wpAnyG_pass 15 33 rfl (by kernel_rfl) rfl (by rfl) ?_
          simp only [List.setIfInBounds_toArray, List.set_cons_zero, List.set_cons_succ]
          refine wpAnyG_pure 16 34 (v := ?_) rfl (by kernel_rfl) rfl (by rfl) (fun w' => ?_) ?_
          rotate_left
          · go_simp <;> with_reducible rfl
          simp only [List.setIfInBounds_toArray, List.set_cons_zero, List.set_cons_succ]
          refine wpAnyG_done (by kernel_rfl) ?_
          go_wp2_with fail
          exact ⟨⟨x + 1, fk, ⟨by omega, by omega⟩, by go_num, hfin⟩, by simp [intOf]; omega⟩
    · have l1 : (b : Int) ≤ (x : Int) := by omega
      have hR : Hid (RowF wr g N fk ∧ Kept (· = g) w wr ∧ Stp f fk a b ∧ Srt fk a b) := ⟨hS.out.1, hS.out.2.1, hS.out.2.2.1, hS.out.2.2.2.less (Nat.le_refl _) (by omega)⟩
      clear hS
      go_wp2_with fail
      go_end0
      exact ⟨rfl, _, hR.out⟩
end Go.Proofs.Ythbcgdogmkgebaa
