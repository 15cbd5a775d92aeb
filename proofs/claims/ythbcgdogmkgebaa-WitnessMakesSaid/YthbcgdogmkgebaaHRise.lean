/- The heap: an item rises. -/
import Derived.Test.YthbcgdogmkgebaaHLay
namespace Go.Proofs.Ythbcgdogmkgebaa.Hp
open Go.RowKit

set_option maxHeartbeats 1000000 in
theorem rise_any (w : World) (H A N : Nat) (v : Value) (l : List Itm) (a : List Int) (s : Heap w H A N v l a) (i : Nat) (x : Itm) (hi : i < l.length) (hx : 0 ≤ x.1 ∧ x.1 < (N : Int)) (hR : Rng N l) :
    Calls Try.prog 55 #[pt H, i64 (i : Int), .agg #[i64 x.1, u64 x.2]] w fun r w' => r = .returned (.tuple #[]) ∧ Heap w' H A N v (riseF l a i x).1 (riseF l a i x).2 ∧ Kept (HB H A v) w w' := by
  obtain ⟨xv, xk⟩ := x
  obtain ⟨p, rfl⟩ := Int.eq_ofNat_of_zero_le hx.1
  have hp : p < N := by have := hx.2; simp at this; omega
  obtain ⟨V, c, hv⟩ := s.slice
  obtain ⟨LL, hL⟩ : ∃ L, l.length = L := ⟨_, rfl⟩
  rw [hL] at hi hv
  subst hv
  have hf := s.few
  rw [hL] at hf
  have hsm := s.small
  have hlt := s.lt
  have hAw := s.arr.lt
  have hHw := s.box.lt
  have hrl := Lib.hid s.row
  have hK0 : Grew w (w.alloc (.cells #[i64 (p : Int), u64 xk] 99)) := (Kept.refl _ _).alloc _
  have bX0 := Blk.new w 99 #[i64 (p : Int), u64 xk]
  obtain ⟨w1, hw1⟩ : ∃ w1, w.alloc (.cells #[i64 (p : Int), u64 xk] 99) = w1 := ⟨_, rfl⟩
  rw [hw1] at hK0 bX0
  have S0 := Lib.hid (s.grew hK0)
  obtain ⟨R0, hR0⟩ : ∃ R, riseF l a i ((p : Int), xk) = R := ⟨_, rfl⟩
  have hT : Hid (riseF l a i ((p : Int), xk) = R0 ∧ Rng N l ∧ l.length = LL) := Lib.hid ⟨hR0, hR, hL⟩
  rw [hR0]
  clear hR0
  have hKK : Kept (HB H A (.slice V LL c)) w w1 := hK0.kept
  have hXV : Hid (∀ j, HB H A (.slice V LL c) j → ¬ j = w.heap.size) := by
    intro j hj
    rcases hj with rfl | rfl | hj
    · omega
    · omega
    · have := (hrl.out.lt j hj).2; omega
  clear s hK0 hR hL hrl
  go_enter Try.func55, Try.ntmps55
  go_wp2_with fail
  go_step3
  go_wp2_with fail
  go_step3
  go_wp2_with fail
  go_loopw [1] (fun s1 wr => ∃ (k : Nat) (l' : List Itm) (a' : List Int), s1 = .int .i64 k ∧ k < LL ∧ Hid (Heap wr H A N (.slice V LL c) l' a') ∧ Hid (riseF l' a' k ((p : Int), xk) = R0 ∧ Rng N l' ∧ l'.length = LL) ∧ Blk wr w.heap.size 99 #[i64 (p : Int), u64 xk] ∧ Kept (HB H A (.slice V LL c)) w wr) (fun s1 _ => (intOf s1).toNat)
  case atStart => exact ⟨i, l, a, rfl, hi, S0, hT, bX0, hKK⟩
  case round =>
    clear S0 hT bX0 hKK hi
    obtain ⟨k, l', a', rfl, hk, S1, hT, bX0, hKK⟩ := hrel
    by_cases hk0 : k = 0
    · subst hk0
      obtain ⟨e1, hR, hl⟩ := hT.out
      have hLay := Lib.hid (lay_any _ H A N _ l' a' S1.out 0 p xk (by omega) hp)
      have y0 := bX0.cell 0
      have y1 := bX0.cell 1
      simp at y0 y1
      go_wp2_with fail
      refine hLay.out.mono ?_
      rintro r w3 ⟨rfl, s3, k3⟩
      go_wp2_with fail
      rw [Exit.noGoto_normal]
      go_end0
      rw [riseF, dif_neg (by omega)] at e1
      rw [← e1]
      exact ⟨rfl, by simpa [layF] using s3, hKK.trans k3⟩
    · obtain ⟨m, rfl⟩ : ∃ m, k = m + 1 := ⟨k - 1, by omega⟩
      have hd : (m : Int) / 2 = ((m / 2 : Nat) : Int) := by omega
      obtain ⟨u, hu⟩ : ∃ u, m / 2 = u := ⟨_, rfl⟩
      rw [hu] at hd
      have hum : u ≤ m := by omega
      obtain ⟨⟨ev, ek⟩, he⟩ : ∃ e, l'[u]? = some e := ⟨_, List.getElem?_eq_getElem (by rw [hT.out.2.2]; omega)⟩
      have heR := hT.out.2.1 _ (List.mem_of_getElem? he)
      obtain ⟨q, rfl⟩ := Int.eq_ofNat_of_zero_le heR.1
      have hq : q < N := by have := heR.2; simp at this; omega
      have hget : l'.getD u (0, 0) = ((q : Int), ek) := by rw [List.getD_eq_getElem?_getD, he]; rfl
      have hstep := riseF.eq_1 l' a' (m + 1) ((p : Int), xk)
      rw [dif_pos (by omega), show m + 1 - 1 = m by omega, hu, hget] at hstep
      have hLess : ∀ W, Calls Try.prog 63 #[.agg #[i64 (p : Int), u64 xk], .agg #[i64 (q : Int), u64 ek]] W fun e w' => e = .returned (.bool (lessI ((p : Int), xk) ((q : Int), ek))) ∧ Grew W w' := fun W => less_any ((p : Int), xk) ((q : Int), ek) W
      obtain ⟨b, hb⟩ : ∃ b, lessI ((p : Int), xk) ((q : Int), ek) = b := ⟨_, rfl⟩
      rw [hb] at hLess hstep
      clear hb
      replace hLess := Lib.hid hLess
      have hsd := S1.out.grew (Kept.refl (fun _ => False) wr).drew
      obtain ⟨g, c', hv, hg, e0, e1, _⟩ := hsd.item he
      rw [hT.out.2.2] at hv
      cases hv
      have bH := hsd.box
      have bX := bX0.drew
      have u0 : (0 : Int) ≤ (u : Int) := by omega
      have u1 : (u : Int) < (LL : Int) := by omega
      have HD := Lib.hid hstep
      have HG := Lib.hid he
      clear heR hget hstep he
      go_wp2_with fail
      refine wp_region_grow [] (fun _ => False) (by kernel_rfl) ?_
      simp only [List.size_toArray, List.length_cons, List.length_nil, Nat.reduceAdd]
      refine wpAnyG_take 0 12 (v := ?_) rfl (by kernel_rfl) rfl (by rfl) (fun w' hG' => ?_) ?_
      rotate_left
      · have hx0 := (bH.grew hG').cell 0
        have hy0 := (bX.grew hG').cell 0
        have hy1 := (bX.grew hG').cell 1
        have hz0 := Grew.cell hG' e0
        have hz1 := Grew.cell hG' e1
        simp at hx0 hy0 hy1
        go_simp <;> with_reducible rfl
      simp only [List.setIfInBounds_toArray, List.set_cons_zero, List.set_cons_succ]
      refine wpAnyG_pure 1 13 (v := ?_) rfl (by kernel_rfl) rfl (by rfl) (fun w' => ?_) ?_
      rotate_left
      · go_simp <;> with_reducible rfl
      simp only [List.setIfInBounds_toArray, List.set_cons_zero, List.set_cons_succ]
      refine wpAnyG_pure 2 14 (v := ?_) rfl (by kernel_rfl) rfl (by rfl) (fun w' => ?_) ?_
      rotate_left
      · go_simp <;> with_reducible rfl
      simp only [List.setIfInBounds_toArray, List.set_cons_zero, List.set_cons_succ]
      refine wpAnyG_pure 3 15 (v := ?_) rfl (by kernel_rfl) rfl (by rfl) (fun w' => ?_) ?_
      rotate_left
      · go_simp <;> with_reducible rfl
      simp only [List.setIfInBounds_toArray, List.set_cons_zero, List.set_cons_succ]
      refine wpAnyG_take 4 16 (v := ?_) rfl (by kernel_rfl) rfl (by rfl) (fun w' hG' => ?_) ?_
      rotate_left
      · have hx0 := (bH.grew hG').cell 0
        have hy0 := (bX.grew hG').cell 0
        have hy1 := (bX.grew hG').cell 1
        have hz0 := Grew.cell hG' e0
        have hz1 := Grew.cell hG' e1
        simp at hx0 hy0 hy1
        go_simp <;> with_reducible rfl
      simp only [List.setIfInBounds_toArray, List.set_cons_zero, List.set_cons_succ]
      refine wpAnyG_pure 5 17 (v := ?_) rfl (by kernel_rfl) rfl (by rfl) (fun w' => ?_) ?_
      rotate_left
      · go_simp <;> with_reducible rfl
      simp only [List.setIfInBounds_toArray, List.set_cons_zero, List.set_cons_succ]
      refine wpAnyG_pure 6 18 (v := ?_) rfl (by kernel_rfl) rfl (by rfl) (fun w' => ?_) ?_
      rotate_left
      · go_simp <;> with_reducible rfl
      simp only [List.setIfInBounds_toArray, List.set_cons_zero, List.set_cons_succ]
      refine wpAnyG_take 7 19 (v := ?_) rfl (by kernel_rfl) rfl (by rfl) (fun w' hG' => ?_) ?_
      rotate_left
      · have hx0 := (bH.grew hG').cell 0
        have hy0 := (bX.grew hG').cell 0
        have hy1 := (bX.grew hG').cell 1
        have hz0 := Grew.cell hG' e0
        have hz1 := Grew.cell hG' e1
        simp at hx0 hy0 hy1
        go_simp <;> with_reducible rfl
      simp only [List.setIfInBounds_toArray, List.set_cons_zero, List.set_cons_succ]
      refine wpAnyG_step 8 20 rfl (by kernel_rfl) rfl (by rfl) (fun K hK' => ?_)
      go_simp
      refine (hLess.out _).mono ?_
      rintro e z1 ⟨rfl, kz⟩
      refine hK' _ _ (fun _ => kz) ?_
      clear hK'
      simp only [List.setIfInBounds_toArray, List.set_cons_zero, List.set_cons_succ]
      refine wpAnyG_pure 9 21 (v := ?_) rfl (by kernel_rfl) rfl (by rfl) (fun w' => ?_) ?_
      rotate_left
      · go_simp <;> with_reducible rfl
      simp only [List.setIfInBounds_toArray, List.set_cons_zero, List.set_cons_succ]
      refine wpAnyG_done (by kernel_rfl) ?_
      have sz := hsd.grew kz
      have bZ := sz.box.cell 0
      have g0 := kz.cell e0
      have g1 := kz.cell e1
      have bXz := bX.grew kz
      have x0 := bXz.cell 0
      have x1 := bXz.cell 1
      simp at bZ x0 x1
      have hKz := (hKK.trans (Kept.refl _ _).drew).trans kz.kept
      cases b
      · have hLay := Lib.hid (lay_any _ H A N _ l' a' sz (m + 1) p xk (by rw [hT.out.2.2]; exact hk) hp)
        go_wp2_with fail
        refine hLay.out.mono ?_
        rintro r w3 ⟨rfl, s3, k3⟩
        go_wp2_with fail
        rw [Exit.noGoto_normal]
        go_end0
        have h1 := HD.out.symm.trans hT.out.1
        rw [if_neg (by simp)] at h1
        rw [← h1]
        exact ⟨rfl, by simpa [layF] using s3, hKz.trans k3⟩
      · have hLay := Lib.hid (lay_any _ H A N _ l' a' sz (m + 1) q ek (by rw [hT.out.2.2]; exact hk) hq)
        go_wp2_with fail
        refine hLay.out.mono ?_
        rintro r w3 ⟨rfl, s3, k3⟩
        go_wp2_with fail
        go_roundw
        case rel =>
          have h1 := HD.out.symm.trans hT.out.1
          simp only [if_true] at h1
          refine ⟨u, l'.set (m + 1) ((q : Int), ek), a'.set q ((m + 1 : Nat) : Int), rfl, by omega, s3, ⟨by simpa [layF] using h1, hT.out.2.1.set _ ⟨by simp, by simp; omega⟩, by rw [List.length_set]; exact hT.out.2.2⟩, bXz.kept k3 (fun hj => hXV.out _ hj rfl), hKz.trans k3⟩
        case measure => simp [intOf]; omega
end Go.Proofs.Ythbcgdogmkgebaa.Hp
