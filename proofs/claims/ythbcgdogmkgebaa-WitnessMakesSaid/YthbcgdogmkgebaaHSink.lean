/- The heap: an item sinks. -/
import Derived.Test.YthbcgdogmkgebaaHRise
namespace Go.Proofs.Ythbcgdogmkgebaa.Hp
open Go.RowKit

set_option maxHeartbeats 4000000 in
theorem sink_any (w : World) (H A N : Nat) (v : Value) (l : List Itm) (a : List Int) (s : Heap w H A N v l a) (i : Nat) (x : Itm) (hi : i < l.length) (hx : 0 ≤ x.1 ∧ x.1 < (N : Int)) (hR : Rng N l) :
    Calls Try.prog 67 #[pt H, i64 (i : Int), .agg #[i64 x.1, u64 x.2]] w fun r w' => r = .returned (.tuple #[]) ∧ Heap w' H A N v (sinkF l a i x).1 (sinkF l a i x).2 ∧ Kept (HB H A v) w w' := by
  obtain ⟨xv, xk⟩ := x
  obtain ⟨p, rfl⟩ := Int.eq_ofNat_of_zero_le hx.1
  have hp : p < N := by have := hx.2; simp at this; omega
  obtain ⟨V, c, hv⟩ := s.slice
  obtain ⟨LL, hL⟩ : ∃ L, l.length = L := ⟨_, rfl⟩
  rw [hL] at hi hv
  subst hv
  have hf := s.few
  rw [hL] at hf
  have hsm := s.small
  have hlt := s.lt
  have hAw := s.arr.lt
  have hHw := s.box.lt
  have hrl := Lib.hid s.row
  have hK0 : Grew w (w.alloc (.cells #[i64 (p : Int), u64 xk] 99)) := (Kept.refl _ _).alloc _
  have bX0 := Blk.new w 99 #[i64 (p : Int), u64 xk]
  obtain ⟨w1, hw1⟩ : ∃ w1, w.alloc (.cells #[i64 (p : Int), u64 xk] 99) = w1 := ⟨_, rfl⟩
  rw [hw1] at hK0 bX0
  have S0 := Lib.hid (s.grew hK0)
  obtain ⟨R0, hR0⟩ : ∃ R, sinkF l a i ((p : Int), xk) = R := ⟨_, rfl⟩
  have hT : Hid (sinkF l a i ((p : Int), xk) = R0 ∧ Rng N l ∧ l.length = LL) := Lib.hid ⟨hR0, hR, hL⟩
  rw [hR0]
  clear hR0
  have hKK : Kept (HB H A (.slice V LL c)) w w1 := hK0.kept
  have hXV : Hid (∀ j, HB H A (.slice V LL c) j → ¬ j = w.heap.size) := by
    intro j hj
    rcases hj with rfl | rfl | hj
    · omega
    · omega
    · have := (hrl.out.lt j hj).2; omega
  clear s hK0 hR hL hrl
  go_enter Try.func67, Try.ntmps67
  go_wp2_with fail
  go_step3
  go_wp2_with fail
  go_step3
  go_wp2_with fail
  go_loopw [1] (fun s1 wr => ∃ (k : Nat) (l' : List Itm) (a' : List Int), s1 = .int .i64 k ∧ k < LL ∧ Hid (Heap wr H A N (.slice V LL c) l' a') ∧ Hid (sinkF l' a' k ((p : Int), xk) = R0 ∧ Rng N l' ∧ l'.length = LL) ∧ Blk wr w.heap.size 99 #[i64 (p : Int), u64 xk] ∧ Kept (HB H A (.slice V LL c)) w wr) (fun s1 _ => LL - (intOf s1).toNat)
  case atStart => exact ⟨i, l, a, rfl, hi, S0, hT, bX0, hKK⟩
  case round =>
    clear S0 hT bX0 hKK hi
    obtain ⟨k, l', a', rfl, hk, S1, hT, bX0, hKK⟩ := hrel
    obtain ⟨u, hu⟩ : ∃ u, 2 * k + 1 = u := ⟨_, rfl⟩
    have hd : 2 * (k : Int) + 1 = (u : Int) := by omega
    have hku : k < u := by omega
    have HU2 := Lib.hid hu
    clear hu
    have sw := S1.out.grew (Kept.refl (fun _ => False) _).drew
    have bH := sw.box
    have bX := bX0.drew
    have hKw := hKK.trans (Kept.refl _ _).drew
    have i0 : (0 : Int) ≤ (u : Int) := by omega
    by_cases hA1 : u + 1 < LL
    · obtain ⟨u1, hu1⟩ : ∃ u1, u + 1 = u1 := ⟨_, rfl⟩
      have hd1 : (u : Int) + 1 = (u1 : Int) := by omega
      have huu : u < u1 := by omega
      have hul : u1 < LL := by omega
      have HU3 := Lib.hid hu1
      clear hu1 hA1
      have hlt1 : decide ((u1 : Int) < (LL : Int)) = true := decide_eq_true (by omega)
      have i1 : (u : Int) < (LL : Int) := by omega
      have i2 : (0 : Int) ≤ (u1 : Int) := by omega
      have i3 : (u1 : Int) < (LL : Int) := by omega
      obtain ⟨⟨ev, ek1⟩, he1⟩ : ∃ e, l'[u]? = some e := ⟨_, List.getElem?_eq_getElem (by rw [hT.out.2.2]; omega)⟩
      have heR := hT.out.2.1 _ (List.mem_of_getElem? he1)
      obtain ⟨q1, rfl⟩ := Int.eq_ofNat_of_zero_le heR.1
      have hq1 : q1 < N := by have := heR.2; simp at this; omega
      have HE1 := Lib.hid he1
      clear heR he1
      obtain ⟨⟨ev, ek2⟩, he2⟩ : ∃ e, l'[u1]? = some e := ⟨_, List.getElem?_eq_getElem (by rw [hT.out.2.2]; omega)⟩
      have heR := hT.out.2.1 _ (List.mem_of_getElem? he2)
      obtain ⟨q2, rfl⟩ := Int.eq_ofNat_of_zero_le heR.1
      have hq2 : q2 < N := by have := heR.2; simp at this; omega
      have HE2 := Lib.hid he2
      clear heR he2
      obtain ⟨b8, hb8⟩ : ∃ b, lessI ((q2 : Int), ek2) ((q1 : Int), ek1) = b := ⟨_, rfl⟩
      have hLess8 := Lib.hid (fun W => less_i hb8 W)
      have HB8 := Lib.hid hb8
      clear hb8
      obtain ⟨g', cg', hv, hgg', f10, f11, _⟩ := sw.item HE1.out
      rw [hT.out.2.2] at hv
      cases hv
      obtain ⟨g3, cg3, hv, hgg3, f20, f21, _⟩ := sw.item HE2.out
      rw [hT.out.2.2] at hv
      cases hv
      have hwu : IntKind.i64.wrap (u1 : Int) = (u1 : Int) := IntWalk.i64_in _ (by omega)
      go_wp2_with fail
      refine wp_region_grow [] (fun _ => False) (by kernel_rfl) ?_
      simp only [List.size_toArray, List.length_cons, List.length_nil, Nat.reduceAdd]
      refine wpAnyG_pure 0 10 (v := ?_) rfl (by kernel_rfl) rfl (by rfl) (fun w' => ?_) ?_
      rotate_left
      · go_simp <;> with_reducible rfl
      simp only [List.setIfInBounds_toArray, List.set_cons_zero, List.set_cons_succ]
      refine wpAnyG_pure 1 11 (v := ?_) rfl (by kernel_rfl) rfl (by rfl) (fun w' => ?_) ?_
      rotate_left
      · go_simp <;> with_reducible rfl
      simp only [List.setIfInBounds_toArray, List.set_cons_zero, List.set_cons_succ]
      refine wpAnyG_pure 2 12 (v := ?_) rfl (by kernel_rfl) rfl (by rfl) (fun w' => ?_) ?_
      rotate_left
      · go_simp <;> with_reducible rfl
      simp only [List.setIfInBounds_toArray, List.set_cons_zero, List.set_cons_succ]
      refine wpAnyG_pure 3 13 (v := ?_) rfl (by kernel_rfl) rfl (by rfl) (fun w' => ?_) ?_
      rotate_left
      · go_simp <;> with_reducible rfl
      simp only [List.setIfInBounds_toArray, List.set_cons_zero, List.set_cons_succ]
      refine wpAnyG_pure 4 14 (v := ?_) rfl (by kernel_rfl) rfl (by rfl) (fun w' => ?_) ?_
      rotate_left
      · go_simp <;> with_reducible rfl
      simp only [List.setIfInBounds_toArray, List.set_cons_zero, List.set_cons_succ]
      refine wpAnyG_take 5 15 (v := ?_) rfl (by kernel_rfl) rfl (by rfl) (fun w' hG' => ?_) ?_
      rotate_left
      · have hx0 := (bH.grew hG').cell 0
        have hy0 := (bX.grew hG').cell 0
        have hy1 := (bX.grew hG').cell 1
        have hzf10 := Grew.cell hG' f10
        have hzf11 := Grew.cell hG' f11
        have hzf20 := Grew.cell hG' f20
        have hzf21 := Grew.cell hG' f21
        simp at hx0 hy0 hy1
        go_simp <;> with_reducible rfl
      simp only [List.setIfInBounds_toArray, List.set_cons_zero, List.set_cons_succ]
      refine wpAnyG_pure 6 16 (v := ?_) rfl (by kernel_rfl) rfl (by rfl) (fun w' => ?_) ?_
      rotate_left
      · go_simp <;> with_reducible rfl
      simp only [List.setIfInBounds_toArray, List.set_cons_zero, List.set_cons_succ]
      refine wpAnyG_pure 7 17 (v := ?_) rfl (by kernel_rfl) rfl (by rfl) (fun w' => ?_) ?_
      rotate_left
      · go_simp <;> with_reducible rfl
      simp only [List.setIfInBounds_toArray, List.set_cons_zero, List.set_cons_succ]
      refine wpAnyG_pure 8 18 (v := ?_) rfl (by kernel_rfl) rfl (by rfl) (fun w' => ?_) ?_
      rotate_left
      · go_simp <;> with_reducible rfl
      simp only [List.setIfInBounds_toArray, List.set_cons_zero, List.set_cons_succ]
      refine wpAnyG_pure 9 19 (v := ?_) rfl (by kernel_rfl) rfl (by rfl) (fun w' => ?_) ?_
      rotate_left
      · go_simp <;> with_reducible rfl
      simp only [List.setIfInBounds_toArray, List.set_cons_zero, List.set_cons_succ]
      refine wpAnyG_pure 10 20 (v := ?_) rfl (by kernel_rfl) rfl (by rfl) (fun w' => ?_) ?_
      rotate_left
      · go_simp <;> with_reducible rfl
      simp only [List.setIfInBounds_toArray, List.set_cons_zero, List.set_cons_succ]
      refine wpAnyG_pure 11 21 (v := ?_) rfl (by kernel_rfl) rfl (by rfl) (fun w' => ?_) ?_
      rotate_left
      · go_simp <;> with_reducible rfl
      simp only [List.setIfInBounds_toArray, List.set_cons_zero, List.set_cons_succ]
      refine wpAnyG_take 12 22 (v := ?_) rfl (by kernel_rfl) rfl (by rfl) (fun w' hG' => ?_) ?_
      rotate_left
      · have hx0 := (bH.grew hG').cell 0
        have hy0 := (bX.grew hG').cell 0
        have hy1 := (bX.grew hG').cell 1
        have hzf10 := Grew.cell hG' f10
        have hzf11 := Grew.cell hG' f11
        have hzf20 := Grew.cell hG' f20
        have hzf21 := Grew.cell hG' f21
        simp at hx0 hy0 hy1
        go_simp <;> with_reducible rfl
      simp only [List.setIfInBounds_toArray, List.set_cons_zero, List.set_cons_succ]
      refine wpAnyG_pure 13 23 (v := ?_) rfl (by kernel_rfl) rfl (by rfl) (fun w' => ?_) ?_
      rotate_left
      · go_simp <;> with_reducible rfl
      simp only [List.setIfInBounds_toArray, List.set_cons_zero, List.set_cons_succ]
      refine wpAnyG_pure 14 24 (v := ?_) rfl (by kernel_rfl) rfl (by rfl) (fun w' => ?_) ?_
      rotate_left
      · go_simp <;> with_reducible rfl
      simp only [List.setIfInBounds_toArray, List.set_cons_zero, List.set_cons_succ]
      refine wpAnyG_pure 15 25 (v := ?_) rfl (by kernel_rfl) rfl (by rfl) (fun w' => ?_) ?_
      rotate_left
      · go_simp <;> with_reducible rfl
      simp only [List.setIfInBounds_toArray, List.set_cons_zero, List.set_cons_succ]
      refine wpAnyG_take 16 26 (v := ?_) rfl (by kernel_rfl) rfl (by rfl) (fun w' hG' => ?_) ?_
      rotate_left
      · have hx0 := (bH.grew hG').cell 0
        have hy0 := (bX.grew hG').cell 0
        have hy1 := (bX.grew hG').cell 1
        have hzf10 := Grew.cell hG' f10
        have hzf11 := Grew.cell hG' f11
        have hzf20 := Grew.cell hG' f20
        have hzf21 := Grew.cell hG' f21
        simp at hx0 hy0 hy1
        go_simp <;> with_reducible rfl
      simp only [List.setIfInBounds_toArray, List.set_cons_zero, List.set_cons_succ]
      refine wpAnyG_pure 17 27 (v := ?_) rfl (by kernel_rfl) rfl (by rfl) (fun w' => ?_) ?_
      rotate_left
      · go_simp <;> with_reducible rfl
      simp only [List.setIfInBounds_toArray, List.set_cons_zero, List.set_cons_succ]
      refine wpAnyG_pure 18 28 (v := ?_) rfl (by kernel_rfl) rfl (by rfl) (fun w' => ?_) ?_
      rotate_left
      · go_simp <;> with_reducible rfl
      simp only [List.setIfInBounds_toArray, List.set_cons_zero, List.set_cons_succ]
      refine wpAnyG_pure 19 29 (v := ?_) rfl (by kernel_rfl) rfl (by rfl) (fun w' => ?_) ?_
      rotate_left
      · go_simp <;> with_reducible rfl
      simp only [List.setIfInBounds_toArray, List.set_cons_zero, List.set_cons_succ]
      refine wpAnyG_take 20 30 (v := ?_) rfl (by kernel_rfl) rfl (by rfl) (fun w' hG' => ?_) ?_
      rotate_left
      · have hx0 := (bH.grew hG').cell 0
        have hy0 := (bX.grew hG').cell 0
        have hy1 := (bX.grew hG').cell 1
        have hzf10 := Grew.cell hG' f10
        have hzf11 := Grew.cell hG' f11
        have hzf20 := Grew.cell hG' f20
        have hzf21 := Grew.cell hG' f21
        simp at hx0 hy0 hy1
        go_simp <;> with_reducible rfl
      simp only [List.setIfInBounds_toArray, List.set_cons_zero, List.set_cons_succ]
      refine wpAnyG_pure 21 31 (v := ?_) rfl (by kernel_rfl) rfl (by rfl) (fun w' => ?_) ?_
      rotate_left
      · go_simp <;> with_reducible rfl
      simp only [List.setIfInBounds_toArray, List.set_cons_zero, List.set_cons_succ]
      refine wpAnyG_pure 22 32 (v := ?_) rfl (by kernel_rfl) rfl (by rfl) (fun w' => ?_) ?_
      rotate_left
      · go_simp <;> with_reducible rfl
      simp only [List.setIfInBounds_toArray, List.set_cons_zero, List.set_cons_succ]
      refine wpAnyG_take 23 33 (v := ?_) rfl (by kernel_rfl) rfl (by rfl) (fun w' hG' => ?_) ?_
      rotate_left
      · have hx0 := (bH.grew hG').cell 0
        have hy0 := (bX.grew hG').cell 0
        have hy1 := (bX.grew hG').cell 1
        have hzf10 := Grew.cell hG' f10
        have hzf11 := Grew.cell hG' f11
        have hzf20 := Grew.cell hG' f20
        have hzf21 := Grew.cell hG' f21
        simp at hx0 hy0 hy1
        go_simp <;> with_reducible rfl
      simp only [List.setIfInBounds_toArray, List.set_cons_zero, List.set_cons_succ]
      refine wpAnyG_step 24 34 rfl (by kernel_rfl) rfl (by rfl) (fun K hK' => ?_)
      go_simp
      refine (hLess8.out _).mono ?_
      rintro e z8 ⟨rfl, kz8⟩
      refine hK' _ _ (fun _ => kz8) ?_
      clear hK'
      simp only [List.setIfInBounds_toArray, List.set_cons_zero, List.set_cons_succ]
      refine wpAnyG_pure 25 35 (v := ?_) rfl (by kernel_rfl) rfl (by rfl) (fun w' => ?_) ?_
      rotate_left
      · go_simp <;> with_reducible rfl
      simp only [List.setIfInBounds_toArray, List.set_cons_zero, List.set_cons_succ]
      refine wpAnyG_done (by kernel_rfl) ?_
      have sc := sw.grew kz8
      have bXc := bX.grew kz8
      have hKc := hKw.trans kz8.kept
      clear f10 f11 f20 f21 hwu
      cases b8
      · have HL := Lib.hid (low_two HU2.out HU3.out HE1.out HE2.out HB8.out)
        simp only [Bool.false_eq_true, if_false] at HL
        obtain ⟨b9, hb9⟩ : ∃ b, lessI ((q1 : Int), ek1) ((p : Int), xk) = b := ⟨_, rfl⟩
        have hLess9 := Lib.hid (fun W => less_i hb9 W)
        have HB9 := Lib.hid hb9
        clear hb9
        have hge : decide (LL ≤ u) = false := decide_eq_false (by omega)
        have sd := sc.grew (Kept.refl (fun _ => False) _).drew
        have bH := sd.box
        have bX := bXc.drew
        obtain ⟨ga, cga, hv, hgga, f90, f91, _⟩ := sd.item HE1.out
        rw [hT.out.2.2] at hv
        cases hv
        go_wp2_with fail
        refine wp_region_grow [] (fun _ => False) (by kernel_rfl) ?_
        simp only [List.size_toArray, List.length_cons, List.length_nil, Nat.reduceAdd]
        refine wpAnyG_pure 0 38 (v := ?_) rfl (by kernel_rfl) rfl (by rfl) (fun w' => ?_) ?_
        rotate_left
        · go_simp <;> with_reducible rfl
        simp only [List.setIfInBounds_toArray, List.set_cons_zero, List.set_cons_succ]
        refine wpAnyG_pure 1 39 (v := ?_) rfl (by kernel_rfl) rfl (by rfl) (fun w' => ?_) ?_
        rotate_left
        · go_simp <;> with_reducible rfl
        simp only [List.setIfInBounds_toArray, List.set_cons_zero, List.set_cons_succ]
        refine wpAnyG_pure 2 40 (v := ?_) rfl (by kernel_rfl) rfl (by rfl) (fun w' => ?_) ?_
        rotate_left
        · go_simp <;> with_reducible rfl
        simp only [List.setIfInBounds_toArray, List.set_cons_zero, List.set_cons_succ]
        refine wpAnyG_pure 3 41 (v := ?_) rfl (by kernel_rfl) rfl (by rfl) (fun w' => ?_) ?_
        rotate_left
        · go_simp <;> with_reducible rfl
        simp only [List.setIfInBounds_toArray, List.set_cons_zero, List.set_cons_succ]
        refine wpAnyG_take 4 42 (v := ?_) rfl (by kernel_rfl) rfl (by rfl) (fun w' hG' => ?_) ?_
        rotate_left
        · have hx0 := (bH.grew hG').cell 0
          have hy0 := (bX.grew hG').cell 0
          have hy1 := (bX.grew hG').cell 1
          have hzf90 := Grew.cell hG' f90
          have hzf91 := Grew.cell hG' f91
          simp at hx0 hy0 hy1
          go_simp <;> with_reducible rfl
        simp only [List.setIfInBounds_toArray, List.set_cons_zero, List.set_cons_succ]
        refine wpAnyG_pure 5 43 (v := ?_) rfl (by kernel_rfl) rfl (by rfl) (fun w' => ?_) ?_
        rotate_left
        · go_simp <;> with_reducible rfl
        simp only [List.setIfInBounds_toArray, List.set_cons_zero, List.set_cons_succ]
        refine wpAnyG_pure 6 44 (v := ?_) rfl (by kernel_rfl) rfl (by rfl) (fun w' => ?_) ?_
        rotate_left
        · go_simp <;> with_reducible rfl
        simp only [List.setIfInBounds_toArray, List.set_cons_zero, List.set_cons_succ]
        refine wpAnyG_pure 7 45 (v := ?_) rfl (by kernel_rfl) rfl (by rfl) (fun w' => ?_) ?_
        rotate_left
        · go_simp <;> with_reducible rfl
        simp only [List.setIfInBounds_toArray, List.set_cons_zero, List.set_cons_succ]
        refine wpAnyG_pure 8 46 (v := ?_) rfl (by kernel_rfl) rfl (by rfl) (fun w' => ?_) ?_
        rotate_left
        · go_simp <;> with_reducible rfl
        simp only [List.setIfInBounds_toArray, List.set_cons_zero, List.set_cons_succ]
        refine wpAnyG_pure 9 47 (v := ?_) rfl (by kernel_rfl) rfl (by rfl) (fun w' => ?_) ?_
        rotate_left
        · go_simp <;> with_reducible rfl
        simp only [List.setIfInBounds_toArray, List.set_cons_zero, List.set_cons_succ]
        refine wpAnyG_pure 10 48 (v := ?_) rfl (by kernel_rfl) rfl (by rfl) (fun w' => ?_) ?_
        rotate_left
        · go_simp <;> with_reducible rfl
        simp only [List.setIfInBounds_toArray, List.set_cons_zero, List.set_cons_succ]
        refine wpAnyG_take 11 49 (v := ?_) rfl (by kernel_rfl) rfl (by rfl) (fun w' hG' => ?_) ?_
        rotate_left
        · have hx0 := (bH.grew hG').cell 0
          have hy0 := (bX.grew hG').cell 0
          have hy1 := (bX.grew hG').cell 1
          have hzf90 := Grew.cell hG' f90
          have hzf91 := Grew.cell hG' f91
          simp at hx0 hy0 hy1
          go_simp <;> with_reducible rfl
        simp only [List.setIfInBounds_toArray, List.set_cons_zero, List.set_cons_succ]
        refine wpAnyG_pure 12 50 (v := ?_) rfl (by kernel_rfl) rfl (by rfl) (fun w' => ?_) ?_
        rotate_left
        · go_simp <;> with_reducible rfl
        simp only [List.setIfInBounds_toArray, List.set_cons_zero, List.set_cons_succ]
        refine wpAnyG_pure 13 51 (v := ?_) rfl (by kernel_rfl) rfl (by rfl) (fun w' => ?_) ?_
        rotate_left
        · go_simp <;> with_reducible rfl
        simp only [List.setIfInBounds_toArray, List.set_cons_zero, List.set_cons_succ]
        refine wpAnyG_take 14 52 (v := ?_) rfl (by kernel_rfl) rfl (by rfl) (fun w' hG' => ?_) ?_
        rotate_left
        · have hx0 := (bH.grew hG').cell 0
          have hy0 := (bX.grew hG').cell 0
          have hy1 := (bX.grew hG').cell 1
          have hzf90 := Grew.cell hG' f90
          have hzf91 := Grew.cell hG' f91
          simp at hx0 hy0 hy1
          go_simp <;> with_reducible rfl
        simp only [List.setIfInBounds_toArray, List.set_cons_zero, List.set_cons_succ]
        refine wpAnyG_take 15 53 (v := ?_) rfl (by kernel_rfl) rfl (by rfl) (fun w' hG' => ?_) ?_
        rotate_left
        · have hx0 := (bH.grew hG').cell 0
          have hy0 := (bX.grew hG').cell 0
          have hy1 := (bX.grew hG').cell 1
          have hzf90 := Grew.cell hG' f90
          have hzf91 := Grew.cell hG' f91
          simp at hx0 hy0 hy1
          go_simp <;> with_reducible rfl
        simp only [List.setIfInBounds_toArray, List.set_cons_zero, List.set_cons_succ]
        refine wpAnyG_step 16 54 rfl (by kernel_rfl) rfl (by rfl) (fun K hK' => ?_)
        go_simp
        refine (hLess9.out _).mono ?_
        rintro e z9 ⟨rfl, kz9⟩
        refine hK' _ _ (fun _ => kz9) ?_
        clear hK'
        simp only [List.setIfInBounds_toArray, List.set_cons_zero, List.set_cons_succ]
        refine wpAnyG_pure 17 55 (v := ?_) rfl (by kernel_rfl) rfl (by rfl) (fun w' => ?_) ?_
        rotate_left
        · go_simp <;> with_reducible rfl
        simp only [List.setIfInBounds_toArray, List.set_cons_zero, List.set_cons_succ]
        refine wpAnyG_pure 18 56 (v := ?_) rfl (by kernel_rfl) rfl (by rfl) (fun w' => ?_) ?_
        rotate_left
        · go_simp <;> with_reducible rfl
        simp only [List.setIfInBounds_toArray, List.set_cons_zero, List.set_cons_succ]
        refine wpAnyG_done (by kernel_rfl) ?_
        have sz := sd.grew kz9
        have bZ := sz.box.cell 0
        have y0 := kz9.cell f90
        have y1 := kz9.cell f91
        have bXz := bX.grew kz9
        have x0 := bXz.cell 0
        have x1 := bXz.cell 1
        simp at bZ x0 x1
        have hKz := (hKc.trans (Kept.refl _ _).drew).trans kz9.kept
        cases b9
        · have hLay := Lib.hid (lay_any _ H A N _ l' a' sz k p xk (by rw [hT.out.2.2]; exact hk) hp)
          have Hr := Lib.hid ((sink_no (a := a') HL.out HE1.out HB9.out).symm.trans hT.out.1)
          go_wp2_with fail
          refine hLay.out.mono ?_
          rintro r w3 ⟨rfl, s3, k3⟩
          go_wp2_with fail
          rw [Exit.noGoto_normal]
          go_end0
          have hr := Hr.out
          rw [← hr]
          exact ⟨rfl, by simpa [layF] using s3, hKz.trans k3⟩
        · have hLay := Lib.hid (lay_any _ H A N _ l' a' sz k q1 ek1 (by rw [hT.out.2.2]; exact hk) hq1)
          have Hr := Lib.hid ((sink_yes (a := a') HL.out HE1.out HB9.out).symm.trans hT.out.1)
          go_wp2_with fail
          refine hLay.out.mono ?_
          rintro r w3 ⟨rfl, s3, k3⟩
          go_wp2_with fail
          go_roundw
          case rel =>
            refine ⟨u, l'.set k ((q1 : Int), ek1), a'.set q1 (k : Int), rfl, by omega, s3, ⟨by have hr := Hr.out; simpa using hr, hT.out.2.1.set _ ⟨by simp, by simp; omega⟩, by rw [List.length_set]; exact hT.out.2.2⟩, bXz.kept k3 (fun hj => hXV.out _ hj rfl), hKz.trans k3⟩
          case measure => simp [intOf]; omega
      · have HL := Lib.hid (low_two HU2.out HU3.out HE1.out HE2.out HB8.out)
        simp only [if_true] at HL
        obtain ⟨b9, hb9⟩ : ∃ b, lessI ((q2 : Int), ek2) ((p : Int), xk) = b := ⟨_, rfl⟩
        have hLess9 := Lib.hid (fun W => less_i hb9 W)
        have HB9 := Lib.hid hb9
        clear hb9
        have hge : decide (LL ≤ u1) = false := decide_eq_false (by omega)
        have sd := sc.grew (Kept.refl (fun _ => False) _).drew
        have bH := sd.box
        have bX := bXc.drew
        obtain ⟨ga, cga, hv, hgga, f90, f91, _⟩ := sd.item HE2.out
        rw [hT.out.2.2] at hv
        cases hv
        go_wp2_with fail
        refine wp_region_grow [] (fun _ => False) (by kernel_rfl) ?_
        simp only [List.size_toArray, List.length_cons, List.length_nil, Nat.reduceAdd]
        refine wpAnyG_pure 0 38 (v := ?_) rfl (by kernel_rfl) rfl (by rfl) (fun w' => ?_) ?_
        rotate_left
        · go_simp <;> with_reducible rfl
        simp only [List.setIfInBounds_toArray, List.set_cons_zero, List.set_cons_succ]
        refine wpAnyG_pure 1 39 (v := ?_) rfl (by kernel_rfl) rfl (by rfl) (fun w' => ?_) ?_
        rotate_left
        · go_simp <;> with_reducible rfl
        simp only [List.setIfInBounds_toArray, List.set_cons_zero, List.set_cons_succ]
        refine wpAnyG_pure 2 40 (v := ?_) rfl (by kernel_rfl) rfl (by rfl) (fun w' => ?_) ?_
        rotate_left
        · go_simp <;> with_reducible rfl
        simp only [List.setIfInBounds_toArray, List.set_cons_zero, List.set_cons_succ]
        refine wpAnyG_pure 3 41 (v := ?_) rfl (by kernel_rfl) rfl (by rfl) (fun w' => ?_) ?_
        rotate_left
        · go_simp <;> with_reducible rfl
        simp only [List.setIfInBounds_toArray, List.set_cons_zero, List.set_cons_succ]
        refine wpAnyG_take 4 42 (v := ?_) rfl (by kernel_rfl) rfl (by rfl) (fun w' hG' => ?_) ?_
        rotate_left
        · have hx0 := (bH.grew hG').cell 0
          have hy0 := (bX.grew hG').cell 0
          have hy1 := (bX.grew hG').cell 1
          have hzf90 := Grew.cell hG' f90
          have hzf91 := Grew.cell hG' f91
          simp at hx0 hy0 hy1
          go_simp <;> with_reducible rfl
        simp only [List.setIfInBounds_toArray, List.set_cons_zero, List.set_cons_succ]
        refine wpAnyG_pure 5 43 (v := ?_) rfl (by kernel_rfl) rfl (by rfl) (fun w' => ?_) ?_
        rotate_left
        · go_simp <;> with_reducible rfl
        simp only [List.setIfInBounds_toArray, List.set_cons_zero, List.set_cons_succ]
        refine wpAnyG_pure 6 44 (v := ?_) rfl (by kernel_rfl) rfl (by rfl) (fun w' => ?_) ?_
        rotate_left
        · go_simp <;> with_reducible rfl
        simp only [List.setIfInBounds_toArray, List.set_cons_zero, List.set_cons_succ]
        refine wpAnyG_pure 7 45 (v := ?_) rfl (by kernel_rfl) rfl (by rfl) (fun w' => ?_) ?_
        rotate_left
        · go_simp <;> with_reducible rfl
        simp only [List.setIfInBounds_toArray, List.set_cons_zero, List.set_cons_succ]
        refine wpAnyG_pure 8 46 (v := ?_) rfl (by kernel_rfl) rfl (by rfl) (fun w' => ?_) ?_
        rotate_left
        · go_simp <;> with_reducible rfl
        simp only [List.setIfInBounds_toArray, List.set_cons_zero, List.set_cons_succ]
        refine wpAnyG_pure 9 47 (v := ?_) rfl (by kernel_rfl) rfl (by rfl) (fun w' => ?_) ?_
        rotate_left
        · go_simp <;> with_reducible rfl
        simp only [List.setIfInBounds_toArray, List.set_cons_zero, List.set_cons_succ]
        refine wpAnyG_pure 10 48 (v := ?_) rfl (by kernel_rfl) rfl (by rfl) (fun w' => ?_) ?_
        rotate_left
        · go_simp <;> with_reducible rfl
        simp only [List.setIfInBounds_toArray, List.set_cons_zero, List.set_cons_succ]
        refine wpAnyG_take 11 49 (v := ?_) rfl (by kernel_rfl) rfl (by rfl) (fun w' hG' => ?_) ?_
        rotate_left
        · have hx0 := (bH.grew hG').cell 0
          have hy0 := (bX.grew hG').cell 0
          have hy1 := (bX.grew hG').cell 1
          have hzf90 := Grew.cell hG' f90
          have hzf91 := Grew.cell hG' f91
          simp at hx0 hy0 hy1
          go_simp <;> with_reducible rfl
        simp only [List.setIfInBounds_toArray, List.set_cons_zero, List.set_cons_succ]
        refine wpAnyG_pure 12 50 (v := ?_) rfl (by kernel_rfl) rfl (by rfl) (fun w' => ?_) ?_
        rotate_left
        · go_simp <;> with_reducible rfl
        simp only [List.setIfInBounds_toArray, List.set_cons_zero, List.set_cons_succ]
        refine wpAnyG_pure 13 51 (v := ?_) rfl (by kernel_rfl) rfl (by rfl) (fun w' => ?_) ?_
        rotate_left
        · go_simp <;> with_reducible rfl
        simp only [List.setIfInBounds_toArray, List.set_cons_zero, List.set_cons_succ]
        refine wpAnyG_take 14 52 (v := ?_) rfl (by kernel_rfl) rfl (by rfl) (fun w' hG' => ?_) ?_
        rotate_left
        · have hx0 := (bH.grew hG').cell 0
          have hy0 := (bX.grew hG').cell 0
          have hy1 := (bX.grew hG').cell 1
          have hzf90 := Grew.cell hG' f90
          have hzf91 := Grew.cell hG' f91
          simp at hx0 hy0 hy1
          go_simp <;> with_reducible rfl
        simp only [List.setIfInBounds_toArray, List.set_cons_zero, List.set_cons_succ]
        refine wpAnyG_take 15 53 (v := ?_) rfl (by kernel_rfl) rfl (by rfl) (fun w' hG' => ?_) ?_
        rotate_left
        · have hx0 := (bH.grew hG').cell 0
          have hy0 := (bX.grew hG').cell 0
          have hy1 := (bX.grew hG').cell 1
          have hzf90 := Grew.cell hG' f90
          have hzf91 := Grew.cell hG' f91
          simp at hx0 hy0 hy1
          go_simp <;> with_reducible rfl
        simp only [List.setIfInBounds_toArray, List.set_cons_zero, List.set_cons_succ]
        refine wpAnyG_step 16 54 rfl (by kernel_rfl) rfl (by rfl) (fun K hK' => ?_)
        go_simp
        refine (hLess9.out _).mono ?_
        rintro e z9 ⟨rfl, kz9⟩
        refine hK' _ _ (fun _ => kz9) ?_
        clear hK'
        simp only [List.setIfInBounds_toArray, List.set_cons_zero, List.set_cons_succ]
        refine wpAnyG_pure 17 55 (v := ?_) rfl (by kernel_rfl) rfl (by rfl) (fun w' => ?_) ?_
        rotate_left
        · go_simp <;> with_reducible rfl
        simp only [List.setIfInBounds_toArray, List.set_cons_zero, List.set_cons_succ]
        refine wpAnyG_pure 18 56 (v := ?_) rfl (by kernel_rfl) rfl (by rfl) (fun w' => ?_) ?_
        rotate_left
        · go_simp <;> with_reducible rfl
        simp only [List.setIfInBounds_toArray, List.set_cons_zero, List.set_cons_succ]
        refine wpAnyG_done (by kernel_rfl) ?_
        have sz := sd.grew kz9
        have bZ := sz.box.cell 0
        have y0 := kz9.cell f90
        have y1 := kz9.cell f91
        have bXz := bX.grew kz9
        have x0 := bXz.cell 0
        have x1 := bXz.cell 1
        simp at bZ x0 x1
        have hKz := (hKc.trans (Kept.refl _ _).drew).trans kz9.kept
        cases b9
        · have hLay := Lib.hid (lay_any _ H A N _ l' a' sz k p xk (by rw [hT.out.2.2]; exact hk) hp)
          have Hr := Lib.hid ((sink_no (a := a') HL.out HE2.out HB9.out).symm.trans hT.out.1)
          go_wp2_with fail
          refine hLay.out.mono ?_
          rintro r w3 ⟨rfl, s3, k3⟩
          go_wp2_with fail
          rw [Exit.noGoto_normal]
          go_end0
          have hr := Hr.out
          rw [← hr]
          exact ⟨rfl, by simpa [layF] using s3, hKz.trans k3⟩
        · have hLay := Lib.hid (lay_any _ H A N _ l' a' sz k q2 ek2 (by rw [hT.out.2.2]; exact hk) hq2)
          have Hr := Lib.hid ((sink_yes (a := a') HL.out HE2.out HB9.out).symm.trans hT.out.1)
          go_wp2_with fail
          refine hLay.out.mono ?_
          rintro r w3 ⟨rfl, s3, k3⟩
          go_wp2_with fail
          go_roundw
          case rel =>
            refine ⟨u1, l'.set k ((q2 : Int), ek2), a'.set q2 (k : Int), rfl, by omega, s3, ⟨by have hr := Hr.out; simpa using hr, hT.out.2.1.set _ ⟨by simp, by simp; omega⟩, by rw [List.length_set]; exact hT.out.2.2⟩, bXz.kept k3 (fun hj => hXV.out _ hj rfl), hKz.trans k3⟩
          case measure => simp [intOf]; omega
    · have hlt1 : decide ((u : Int) + 1 < (LL : Int)) = false := decide_eq_false (by omega)
      have HL : Hid (lowF l' k = u) := Lib.hid (low_one HU2.out (by rw [hT.out.2.2]; exact hA1))
      have hwu : IntKind.i64.wrap ((u : Int) + 1) = (u : Int) + 1 := IntWalk.i64_in _ (by omega)
      go_wp2_with fail
      refine wp_region_grow [] (fun _ => False) (by kernel_rfl) ?_
      simp only [List.size_toArray, List.length_cons, List.length_nil, Nat.reduceAdd]
      refine wpAnyG_pure 0 10 (v := ?_) rfl (by kernel_rfl) rfl (by rfl) (fun w' => ?_) ?_
      rotate_left
      · go_simp <;> with_reducible rfl
      simp only [List.setIfInBounds_toArray, List.set_cons_zero, List.set_cons_succ]
      refine wpAnyG_pure 1 11 (v := ?_) rfl (by kernel_rfl) rfl (by rfl) (fun w' => ?_) ?_
      rotate_left
      · go_simp <;> with_reducible rfl
      simp only [List.setIfInBounds_toArray, List.set_cons_zero, List.set_cons_succ]
      refine wpAnyG_pure 2 12 (v := ?_) rfl (by kernel_rfl) rfl (by rfl) (fun w' => ?_) ?_
      rotate_left
      · go_simp <;> with_reducible rfl
      simp only [List.setIfInBounds_toArray, List.set_cons_zero, List.set_cons_succ]
      refine wpAnyG_pure 3 13 (v := ?_) rfl (by kernel_rfl) rfl (by rfl) (fun w' => ?_) ?_
      rotate_left
      · go_simp <;> with_reducible rfl
      simp only [List.setIfInBounds_toArray, List.set_cons_zero, List.set_cons_succ]
      refine wpAnyG_pure 4 14 (v := ?_) rfl (by kernel_rfl) rfl (by rfl) (fun w' => ?_) ?_
      rotate_left
      · go_simp <;> with_reducible rfl
      simp only [List.setIfInBounds_toArray, List.set_cons_zero, List.set_cons_succ]
      refine wpAnyG_take 5 15 (v := ?_) rfl (by kernel_rfl) rfl (by rfl) (fun w' hG' => ?_) ?_
      rotate_left
      · have hx0 := (bH.grew hG').cell 0
        have hy0 := (bX.grew hG').cell 0
        have hy1 := (bX.grew hG').cell 1
        simp at hx0 hy0 hy1
        go_simp <;> with_reducible rfl
      simp only [List.setIfInBounds_toArray, List.set_cons_zero, List.set_cons_succ]
      refine wpAnyG_pure 6 16 (v := ?_) rfl (by kernel_rfl) rfl (by rfl) (fun w' => ?_) ?_
      rotate_left
      · go_simp <;> with_reducible rfl
      simp only [List.setIfInBounds_toArray, List.set_cons_zero, List.set_cons_succ]
      refine wpAnyG_pure 7 17 (v := ?_) rfl (by kernel_rfl) rfl (by rfl) (fun w' => ?_) ?_
      rotate_left
      · go_simp <;> with_reducible rfl
      simp only [List.setIfInBounds_toArray, List.set_cons_zero, List.set_cons_succ]
      refine wpAnyG_pure 8 18 (v := ?_) rfl (by kernel_rfl) rfl (by rfl) (fun w' => ?_) ?_
      rotate_left
      · go_simp <;> with_reducible rfl
      simp only [List.setIfInBounds_toArray, List.set_cons_zero, List.set_cons_succ]
      refine wpAnyG_pass 9 19 rfl (by kernel_rfl) rfl (by rfl) ?_
      simp only [List.setIfInBounds_toArray, List.set_cons_zero, List.set_cons_succ]
      refine wpAnyG_pass 10 20 rfl (by kernel_rfl) rfl (by rfl) ?_
      simp only [List.setIfInBounds_toArray, List.set_cons_zero, List.set_cons_succ]
      refine wpAnyG_pass 11 21 rfl (by kernel_rfl) rfl (by rfl) ?_
      simp only [List.setIfInBounds_toArray, List.set_cons_zero, List.set_cons_succ]
      refine wpAnyG_pass 12 22 rfl (by kernel_rfl) rfl (by rfl) ?_
      simp only [List.setIfInBounds_toArray, List.set_cons_zero, List.set_cons_succ]
      refine wpAnyG_pass 13 23 rfl (by kernel_rfl) rfl (by rfl) ?_
      simp only [List.setIfInBounds_toArray, List.set_cons_zero, List.set_cons_succ]
      refine wpAnyG_pass 14 24 rfl (by kernel_rfl) rfl (by rfl) ?_
      simp only [List.setIfInBounds_toArray, List.set_cons_zero, List.set_cons_succ]
      refine wpAnyG_pass 15 25 rfl (by kernel_rfl) rfl (by rfl) ?_
      simp only [List.setIfInBounds_toArray, List.set_cons_zero, List.set_cons_succ]
      refine wpAnyG_pass 16 26 rfl (by kernel_rfl) rfl (by rfl) ?_
      simp only [List.setIfInBounds_toArray, List.set_cons_zero, List.set_cons_succ]
      refine wpAnyG_pass 17 27 rfl (by kernel_rfl) rfl (by rfl) ?_
      simp only [List.setIfInBounds_toArray, List.set_cons_zero, List.set_cons_succ]
      refine wpAnyG_pass 18 28 rfl (by kernel_rfl) rfl (by rfl) ?_
      simp only [List.setIfInBounds_toArray, List.set_cons_zero, List.set_cons_succ]
      refine wpAnyG_pass 19 29 rfl (by kernel_rfl) rfl (by rfl) ?_
      simp only [List.setIfInBounds_toArray, List.set_cons_zero, List.set_cons_succ]
      refine wpAnyG_pass 20 30 rfl (by kernel_rfl) rfl (by rfl) ?_
      simp only [List.setIfInBounds_toArray, List.set_cons_zero, List.set_cons_succ]
      refine wpAnyG_pass 21 31 rfl (by kernel_rfl) rfl (by rfl) ?_
      simp only [List.setIfInBounds_toArray, List.set_cons_zero, List.set_cons_succ]
      refine wpAnyG_pass 22 32 rfl (by kernel_rfl) rfl (by rfl) ?_
      simp only [List.setIfInBounds_toArray, List.set_cons_zero, List.set_cons_succ]
      refine wpAnyG_pass 23 33 rfl (by kernel_rfl) rfl (by rfl) ?_
      simp only [List.setIfInBounds_toArray, List.set_cons_zero, List.set_cons_succ]
      refine wpAnyG_pass 24 34 rfl (by kernel_rfl) rfl (by rfl) ?_
      simp only [List.setIfInBounds_toArray, List.set_cons_zero, List.set_cons_succ]
      refine wpAnyG_pure 25 35 (v := ?_) rfl (by kernel_rfl) rfl (by rfl) (fun w' => ?_) ?_
      rotate_left
      · go_simp <;> with_reducible rfl
      simp only [List.setIfInBounds_toArray, List.set_cons_zero, List.set_cons_succ]
      refine wpAnyG_done (by kernel_rfl) ?_
      have sc := sw
      have bXc := bX
      have hKc := hKw
      clear hwu
      by_cases hA2 : u < LL
      · have i1 : (u : Int) < (LL : Int) := by omega
        obtain ⟨⟨ev, ek1⟩, he1⟩ : ∃ e, l'[u]? = some e := ⟨_, List.getElem?_eq_getElem (by rw [hT.out.2.2]; omega)⟩
        have heR := hT.out.2.1 _ (List.mem_of_getElem? he1)
        obtain ⟨q1, rfl⟩ := Int.eq_ofNat_of_zero_le heR.1
        have hq1 : q1 < N := by have := heR.2; simp at this; omega
        have HE1 := Lib.hid he1
        clear heR he1
        obtain ⟨b9, hb9⟩ : ∃ b, lessI ((q1 : Int), ek1) ((p : Int), xk) = b := ⟨_, rfl⟩
        have hLess9 := Lib.hid (fun W => less_i hb9 W)
        have HB9 := Lib.hid hb9
        clear hb9
        have hge : decide (LL ≤ u) = false := decide_eq_false (by omega)
        have sd := sc.grew (Kept.refl (fun _ => False) _).drew
        have bH := sd.box
        have bX := bXc.drew
        obtain ⟨ga, cga, hv, hgga, f90, f91, _⟩ := sd.item HE1.out
        rw [hT.out.2.2] at hv
        cases hv
        go_wp2_with fail
        refine wp_region_grow [] (fun _ => False) (by kernel_rfl) ?_
        simp only [List.size_toArray, List.length_cons, List.length_nil, Nat.reduceAdd]
        refine wpAnyG_pure 0 38 (v := ?_) rfl (by kernel_rfl) rfl (by rfl) (fun w' => ?_) ?_
        rotate_left
        · go_simp <;> with_reducible rfl
        simp only [List.setIfInBounds_toArray, List.set_cons_zero, List.set_cons_succ]
        refine wpAnyG_pure 1 39 (v := ?_) rfl (by kernel_rfl) rfl (by rfl) (fun w' => ?_) ?_
        rotate_left
        · go_simp <;> with_reducible rfl
        simp only [List.setIfInBounds_toArray, List.set_cons_zero, List.set_cons_succ]
        refine wpAnyG_pure 2 40 (v := ?_) rfl (by kernel_rfl) rfl (by rfl) (fun w' => ?_) ?_
        rotate_left
        · go_simp <;> with_reducible rfl
        simp only [List.setIfInBounds_toArray, List.set_cons_zero, List.set_cons_succ]
        refine wpAnyG_pure 3 41 (v := ?_) rfl (by kernel_rfl) rfl (by rfl) (fun w' => ?_) ?_
        rotate_left
        · go_simp <;> with_reducible rfl
        simp only [List.setIfInBounds_toArray, List.set_cons_zero, List.set_cons_succ]
        refine wpAnyG_take 4 42 (v := ?_) rfl (by kernel_rfl) rfl (by rfl) (fun w' hG' => ?_) ?_
        rotate_left
        · have hx0 := (bH.grew hG').cell 0
          have hy0 := (bX.grew hG').cell 0
          have hy1 := (bX.grew hG').cell 1
          have hzf90 := Grew.cell hG' f90
          have hzf91 := Grew.cell hG' f91
          simp at hx0 hy0 hy1
          go_simp <;> with_reducible rfl
        simp only [List.setIfInBounds_toArray, List.set_cons_zero, List.set_cons_succ]
        refine wpAnyG_pure 5 43 (v := ?_) rfl (by kernel_rfl) rfl (by rfl) (fun w' => ?_) ?_
        rotate_left
        · go_simp <;> with_reducible rfl
        simp only [List.setIfInBounds_toArray, List.set_cons_zero, List.set_cons_succ]
        refine wpAnyG_pure 6 44 (v := ?_) rfl (by kernel_rfl) rfl (by rfl) (fun w' => ?_) ?_
        rotate_left
        · go_simp <;> with_reducible rfl
        simp only [List.setIfInBounds_toArray, List.set_cons_zero, List.set_cons_succ]
        refine wpAnyG_pure 7 45 (v := ?_) rfl (by kernel_rfl) rfl (by rfl) (fun w' => ?_) ?_
        rotate_left
        · go_simp <;> with_reducible rfl
        simp only [List.setIfInBounds_toArray, List.set_cons_zero, List.set_cons_succ]
        refine wpAnyG_pure 8 46 (v := ?_) rfl (by kernel_rfl) rfl (by rfl) (fun w' => ?_) ?_
        rotate_left
        · go_simp <;> with_reducible rfl
        simp only [List.setIfInBounds_toArray, List.set_cons_zero, List.set_cons_succ]
        refine wpAnyG_pure 9 47 (v := ?_) rfl (by kernel_rfl) rfl (by rfl) (fun w' => ?_) ?_
        rotate_left
        · go_simp <;> with_reducible rfl
        simp only [List.setIfInBounds_toArray, List.set_cons_zero, List.set_cons_succ]
        refine wpAnyG_pure 10 48 (v := ?_) rfl (by kernel_rfl) rfl (by rfl) (fun w' => ?_) ?_
        rotate_left
        · go_simp <;> with_reducible rfl
        simp only [List.setIfInBounds_toArray, List.set_cons_zero, List.set_cons_succ]
        refine wpAnyG_take 11 49 (v := ?_) rfl (by kernel_rfl) rfl (by rfl) (fun w' hG' => ?_) ?_
        rotate_left
        · have hx0 := (bH.grew hG').cell 0
          have hy0 := (bX.grew hG').cell 0
          have hy1 := (bX.grew hG').cell 1
          have hzf90 := Grew.cell hG' f90
          have hzf91 := Grew.cell hG' f91
          simp at hx0 hy0 hy1
          go_simp <;> with_reducible rfl
        simp only [List.setIfInBounds_toArray, List.set_cons_zero, List.set_cons_succ]
        refine wpAnyG_pure 12 50 (v := ?_) rfl (by kernel_rfl) rfl (by rfl) (fun w' => ?_) ?_
        rotate_left
        · go_simp <;> with_reducible rfl
        simp only [List.setIfInBounds_toArray, List.set_cons_zero, List.set_cons_succ]
        refine wpAnyG_pure 13 51 (v := ?_) rfl (by kernel_rfl) rfl (by rfl) (fun w' => ?_) ?_
        rotate_left
        · go_simp <;> with_reducible rfl
        simp only [List.setIfInBounds_toArray, List.set_cons_zero, List.set_cons_succ]
        refine wpAnyG_take 14 52 (v := ?_) rfl (by kernel_rfl) rfl (by rfl) (fun w' hG' => ?_) ?_
        rotate_left
        · have hx0 := (bH.grew hG').cell 0
          have hy0 := (bX.grew hG').cell 0
          have hy1 := (bX.grew hG').cell 1
          have hzf90 := Grew.cell hG' f90
          have hzf91 := Grew.cell hG' f91
          simp at hx0 hy0 hy1
          go_simp <;> with_reducible rfl
        simp only [List.setIfInBounds_toArray, List.set_cons_zero, List.set_cons_succ]
        refine wpAnyG_take 15 53 (v := ?_) rfl (by kernel_rfl) rfl (by rfl) (fun w' hG' => ?_) ?_
        rotate_left
        · have hx0 := (bH.grew hG').cell 0
          have hy0 := (bX.grew hG').cell 0
          have hy1 := (bX.grew hG').cell 1
          have hzf90 := Grew.cell hG' f90
          have hzf91 := Grew.cell hG' f91
          simp at hx0 hy0 hy1
          go_simp <;> with_reducible rfl
        simp only [List.setIfInBounds_toArray, List.set_cons_zero, List.set_cons_succ]
        refine wpAnyG_step 16 54 rfl (by kernel_rfl) rfl (by rfl) (fun K hK' => ?_)
        go_simp
        refine (hLess9.out _).mono ?_
        rintro e z9 ⟨rfl, kz9⟩
        refine hK' _ _ (fun _ => kz9) ?_
        clear hK'
        simp only [List.setIfInBounds_toArray, List.set_cons_zero, List.set_cons_succ]
        refine wpAnyG_pure 17 55 (v := ?_) rfl (by kernel_rfl) rfl (by rfl) (fun w' => ?_) ?_
        rotate_left
        · go_simp <;> with_reducible rfl
        simp only [List.setIfInBounds_toArray, List.set_cons_zero, List.set_cons_succ]
        refine wpAnyG_pure 18 56 (v := ?_) rfl (by kernel_rfl) rfl (by rfl) (fun w' => ?_) ?_
        rotate_left
        · go_simp <;> with_reducible rfl
        simp only [List.setIfInBounds_toArray, List.set_cons_zero, List.set_cons_succ]
        refine wpAnyG_done (by kernel_rfl) ?_
        have sz := sd.grew kz9
        have bZ := sz.box.cell 0
        have y0 := kz9.cell f90
        have y1 := kz9.cell f91
        have bXz := bX.grew kz9
        have x0 := bXz.cell 0
        have x1 := bXz.cell 1
        simp at bZ x0 x1
        have hKz := (hKc.trans (Kept.refl _ _).drew).trans kz9.kept
        cases b9
        · have hLay := Lib.hid (lay_any _ H A N _ l' a' sz k p xk (by rw [hT.out.2.2]; exact hk) hp)
          have Hr := Lib.hid ((sink_no (a := a') HL.out HE1.out HB9.out).symm.trans hT.out.1)
          go_wp2_with fail
          refine hLay.out.mono ?_
          rintro r w3 ⟨rfl, s3, k3⟩
          go_wp2_with fail
          rw [Exit.noGoto_normal]
          go_end0
          have hr := Hr.out
          rw [← hr]
          exact ⟨rfl, by simpa [layF] using s3, hKz.trans k3⟩
        · have hLay := Lib.hid (lay_any _ H A N _ l' a' sz k q1 ek1 (by rw [hT.out.2.2]; exact hk) hq1)
          have Hr := Lib.hid ((sink_yes (a := a') HL.out HE1.out HB9.out).symm.trans hT.out.1)
          go_wp2_with fail
          refine hLay.out.mono ?_
          rintro r w3 ⟨rfl, s3, k3⟩
          go_wp2_with fail
          go_roundw
          case rel =>
            refine ⟨u, l'.set k ((q1 : Int), ek1), a'.set q1 (k : Int), rfl, by omega, s3, ⟨by have hr := Hr.out; simpa using hr, hT.out.2.1.set _ ⟨by simp, by simp; omega⟩, by rw [List.length_set]; exact hT.out.2.2⟩, bXz.kept k3 (fun hj => hXV.out _ hj rfl), hKz.trans k3⟩
          case measure => simp [intOf]; omega
      · have hge : decide (LL ≤ u) = true := decide_eq_true (by omega)
        have sd := sc.grew (Kept.refl (fun _ => False) _).drew
        have bH := sd.box
        have bX := bXc.drew
        go_wp2_with fail
        refine wp_region_grow [] (fun _ => False) (by kernel_rfl) ?_
        simp only [List.size_toArray, List.length_cons, List.length_nil, Nat.reduceAdd]
        refine wpAnyG_pure 0 38 (v := ?_) rfl (by kernel_rfl) rfl (by rfl) (fun w' => ?_) ?_
        rotate_left
        · go_simp <;> with_reducible rfl
        simp only [List.setIfInBounds_toArray, List.set_cons_zero, List.set_cons_succ]
        refine wpAnyG_pure 1 39 (v := ?_) rfl (by kernel_rfl) rfl (by rfl) (fun w' => ?_) ?_
        rotate_left
        · go_simp <;> with_reducible rfl
        simp only [List.setIfInBounds_toArray, List.set_cons_zero, List.set_cons_succ]
        refine wpAnyG_pure 2 40 (v := ?_) rfl (by kernel_rfl) rfl (by rfl) (fun w' => ?_) ?_
        rotate_left
        · go_simp <;> with_reducible rfl
        simp only [List.setIfInBounds_toArray, List.set_cons_zero, List.set_cons_succ]
        refine wpAnyG_pure 3 41 (v := ?_) rfl (by kernel_rfl) rfl (by rfl) (fun w' => ?_) ?_
        rotate_left
        · go_simp <;> with_reducible rfl
        simp only [List.setIfInBounds_toArray, List.set_cons_zero, List.set_cons_succ]
        refine wpAnyG_take 4 42 (v := ?_) rfl (by kernel_rfl) rfl (by rfl) (fun w' hG' => ?_) ?_
        rotate_left
        · have hx0 := (bH.grew hG').cell 0
          have hy0 := (bX.grew hG').cell 0
          have hy1 := (bX.grew hG').cell 1
          simp at hx0 hy0 hy1
          go_simp <;> with_reducible rfl
        simp only [List.setIfInBounds_toArray, List.set_cons_zero, List.set_cons_succ]
        refine wpAnyG_pure 5 43 (v := ?_) rfl (by kernel_rfl) rfl (by rfl) (fun w' => ?_) ?_
        rotate_left
        · go_simp <;> with_reducible rfl
        simp only [List.setIfInBounds_toArray, List.set_cons_zero, List.set_cons_succ]
        refine wpAnyG_pure 6 44 (v := ?_) rfl (by kernel_rfl) rfl (by rfl) (fun w' => ?_) ?_
        rotate_left
        · go_simp <;> with_reducible rfl
        simp only [List.setIfInBounds_toArray, List.set_cons_zero, List.set_cons_succ]
        refine wpAnyG_pure 7 45 (v := ?_) rfl (by kernel_rfl) rfl (by rfl) (fun w' => ?_) ?_
        rotate_left
        · go_simp <;> with_reducible rfl
        simp only [List.setIfInBounds_toArray, List.set_cons_zero, List.set_cons_succ]
        refine wpAnyG_pass 8 46 rfl (by kernel_rfl) rfl (by rfl) ?_
        simp only [List.setIfInBounds_toArray, List.set_cons_zero, List.set_cons_succ]
        refine wpAnyG_pass 9 47 rfl (by kernel_rfl) rfl (by rfl) ?_
        simp only [List.setIfInBounds_toArray, List.set_cons_zero, List.set_cons_succ]
        refine wpAnyG_pass 10 48 rfl (by kernel_rfl) rfl (by rfl) ?_
        simp only [List.setIfInBounds_toArray, List.set_cons_zero, List.set_cons_succ]
        refine wpAnyG_pass 11 49 rfl (by kernel_rfl) rfl (by rfl) ?_
        simp only [List.setIfInBounds_toArray, List.set_cons_zero, List.set_cons_succ]
        refine wpAnyG_pass 12 50 rfl (by kernel_rfl) rfl (by rfl) ?_
        simp only [List.setIfInBounds_toArray, List.set_cons_zero, List.set_cons_succ]
        refine wpAnyG_pass 13 51 rfl (by kernel_rfl) rfl (by rfl) ?_
        simp only [List.setIfInBounds_toArray, List.set_cons_zero, List.set_cons_succ]
        refine wpAnyG_pass 14 52 rfl (by kernel_rfl) rfl (by rfl) ?_
        simp only [List.setIfInBounds_toArray, List.set_cons_zero, List.set_cons_succ]
        refine wpAnyG_pass 15 53 rfl (by kernel_rfl) rfl (by rfl) ?_
        simp only [List.setIfInBounds_toArray, List.set_cons_zero, List.set_cons_succ]
        refine wpAnyG_pass 16 54 rfl (by kernel_rfl) rfl (by rfl) ?_
        simp only [List.setIfInBounds_toArray, List.set_cons_zero, List.set_cons_succ]
        refine wpAnyG_pass 17 55 rfl (by kernel_rfl) rfl (by rfl) ?_
        simp only [List.setIfInBounds_toArray, List.set_cons_zero, List.set_cons_succ]
        refine wpAnyG_pure 18 56 (v := ?_) rfl (by kernel_rfl) rfl (by rfl) (fun w' => ?_) ?_
        rotate_left
        · go_simp <;> with_reducible rfl
        simp only [List.setIfInBounds_toArray, List.set_cons_zero, List.set_cons_succ]
        refine wpAnyG_done (by kernel_rfl) ?_
        have x0 := bX.cell 0
        have x1 := bX.cell 1
        simp at x0 x1
        have hKz := hKc.trans (Kept.refl _ _).drew
        have hLay := Lib.hid (lay_any _ H A N _ l' a' sd k p xk (by rw [hT.out.2.2]; exact hk) hp)
        have Hr := Lib.hid ((sink_end (a := a') HL.out (by rw [hT.out.2.2]; omega)).symm.trans hT.out.1)
        go_wp2_with fail
        refine hLay.out.mono ?_
        rintro r w3 ⟨rfl, s3, k3⟩
        go_wp2_with fail
        rw [Exit.noGoto_normal]
        go_end0
        have hr := Hr.out
        rw [← hr]
        exact ⟨rfl, by simpa [layF] using s3, hKz.trans k3⟩
end Go.Proofs.Ythbcgdogmkgebaa.Hp
