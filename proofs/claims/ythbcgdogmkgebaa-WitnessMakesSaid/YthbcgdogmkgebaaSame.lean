/- Are arcs the document's? -/
import Derived.Test.YthbcgdogmkgebaaNet
import Derived.RegionTactic
import Derived.Deep.DeepCutAuto
namespace Go.Proofs.Ythbcgdogmkgebaa
open Go.RowKit

set_option maxHeartbeats 2000000 in
theorem same_any (A A' : Option Addr) (c c' : Nat) (l l' : List Ar) (w : World) (h : RowA w A l) (h' : RowA w A' l') (hl : l.length ≤ 100000) (hl' : l'.length ≤ 100000) :
    Calls Try.prog 15 #[.slice A l.length c, .slice A' l'.length c'] w fun e w' => e = .returned (.bool (decide (l = l'))) ∧ Grew w w' := by
  have HE := Lib.hid h
  have HE' := Lib.hid h'
  obtain ⟨L, hL⟩ : ∃ L, l.length = L := ⟨_, rfl⟩
  obtain ⟨L', hL'⟩ : ∃ L, l'.length = L := ⟨_, rfl⟩
  have HL := Lib.hid hL
  have HL' := Lib.hid hL'
  rw [hL] at hl ⊢
  rw [hL'] at hl' ⊢
  clear h h' hL hL'
  by_cases hlen : L = L'
  · subst hlen
    go_enter Try.func15, Try.ntmps15
    go_wp2_with fail
    go_loopw [5] (fun i wr => ∃ k : Nat, k ≤ L ∧ i = .int .i64 k ∧ Hid (l.take k = l'.take k) ∧ Grew w wr) (fun i _ => L - (intOf i).toNat)
    case atStart => exact ⟨0, by omega, rfl, (rfl : [] = []), Kept.refl _ _⟩
    case round =>
      obtain ⟨k, hk, rfl, hS, hK⟩ := hrel
      by_cases hlt : k < L
      · obtain ⟨⟨p, q⟩, hx⟩ : ∃ x, l[k]? = some x := ⟨_, List.getElem?_eq_getElem (by rw [HL.out]; exact hlt)⟩
        obtain ⟨⟨p', q'⟩, hx'⟩ : ∃ x, l'[k]? = some x := ⟨_, List.getElem?_eq_getElem (by rw [HL'.out]; exact hlt)⟩
        obtain ⟨b, off, hAe, hb, e0, e1⟩ := HE.out k _ hx
        obtain ⟨b', off', hAe', hb', d0, d1⟩ := HE'.out k _ hx'
        subst hAe
        subst hAe'
        replace e0 := hK.cell e0
        replace e1 := hK.cell e1
        replace d0 := hK.cell d0
        replace d1 := hK.cell d1
        dsimp only at e0 e1 d0 d1
        have k0 : (0 : Int) ≤ (k : Int) := by omega
        have k1 : (k : Int) < (L : Int) := by omega
        have hNo : Hid ((p, q) ≠ (p', q') → decide (l = l') = false) := fun hn => decide_eq_false (fun e => hn (Option.some.inj (by rw [← hx, ← hx', e])))
        have hYes : Hid ((p, q) = (p', q') → l.take (k + 1) = l'.take (k + 1)) := fun hn => by rw [List.take_add_one, List.take_add_one, hS.out, hx, hx', hn]
        clear hx hx' hS HE HE'
        by_cases hp : p = p'
        · subst hp
          by_cases hq : q = q'
          · subst hq
            have hS := Lib.hid (hYes.out rfl)
            clear hNo hYes
            go_upto_region 6 with fail
            refine wp_region_grow [] (fun _ => False) (by kernel_rfl) ?_
            simp only [List.size_toArray, List.length_cons, List.length_nil, Nat.reduceAdd]
            refine wpAnyG_pure 0 17 (v := ?_) rfl (by kernel_rfl) rfl (by rfl) (fun w' => ?_) ?_
            rotate_left
            · go_simp <;> with_reducible rfl
            simp only [List.setIfInBounds_toArray, List.set_cons_zero, List.set_cons_succ]
            refine wpAnyG_pure 1 18 (v := ?_) rfl (by kernel_rfl) rfl (by rfl) (fun w' => ?_) ?_
            rotate_left
            · go_simp <;> with_reducible rfl
            simp only [List.setIfInBounds_toArray, List.set_cons_zero, List.set_cons_succ]
            refine wpAnyG_pure 2 19 (v := ?_) rfl (by kernel_rfl) rfl (by rfl) (fun w' => ?_) ?_
            rotate_left
            · go_simp <;> with_reducible rfl
            simp only [List.setIfInBounds_toArray, List.set_cons_zero, List.set_cons_succ]
            refine wpAnyG_pure 3 20 (v := ?_) rfl (by kernel_rfl) rfl (by rfl) (fun w' => ?_) ?_
            rotate_left
            · go_simp <;> with_reducible rfl
            simp only [List.setIfInBounds_toArray, List.set_cons_zero, List.set_cons_succ]
            refine wpAnyG_take 4 21 (v := ?_) rfl (by kernel_rfl) rfl (by rfl) (fun w' hG' => ?_) ?_
            rotate_left
            · have hx0 := Grew.cell hG' (show wr.drew.cell? _ = _ from e0)
              have hx1 := Grew.cell hG' (show wr.drew.cell? _ = _ from e1)
              have hx2 := Grew.cell hG' (show wr.drew.cell? _ = _ from d0)
              have hx3 := Grew.cell hG' (show wr.drew.cell? _ = _ from d1)
              go_simp <;> with_reducible rfl
            simp only [List.setIfInBounds_toArray, List.set_cons_zero, List.set_cons_succ]
            refine wpAnyG_pure 5 22 (v := ?_) rfl (by kernel_rfl) rfl (by rfl) (fun w' => ?_) ?_
            rotate_left
            · go_simp <;> with_reducible rfl
            simp only [List.setIfInBounds_toArray, List.set_cons_zero, List.set_cons_succ]
            refine wpAnyG_pure 6 23 (v := ?_) rfl (by kernel_rfl) rfl (by rfl) (fun w' => ?_) ?_
            rotate_left
            · go_simp <;> with_reducible rfl
            simp only [List.setIfInBounds_toArray, List.set_cons_zero, List.set_cons_succ]
            refine wpAnyG_pure 7 24 (v := ?_) rfl (by kernel_rfl) rfl (by rfl) (fun w' => ?_) ?_
            rotate_left
            · go_simp <;> with_reducible rfl
            simp only [List.setIfInBounds_toArray, List.set_cons_zero, List.set_cons_succ]
            refine wpAnyG_pure 8 25 (v := ?_) rfl (by kernel_rfl) rfl (by rfl) (fun w' => ?_) ?_
            rotate_left
            · go_simp <;> with_reducible rfl
            simp only [List.setIfInBounds_toArray, List.set_cons_zero, List.set_cons_succ]
            refine wpAnyG_take 9 26 (v := ?_) rfl (by kernel_rfl) rfl (by rfl) (fun w' hG' => ?_) ?_
            rotate_left
            · have hx0 := Grew.cell hG' (show wr.drew.cell? _ = _ from e0)
              have hx1 := Grew.cell hG' (show wr.drew.cell? _ = _ from e1)
              have hx2 := Grew.cell hG' (show wr.drew.cell? _ = _ from d0)
              have hx3 := Grew.cell hG' (show wr.drew.cell? _ = _ from d1)
              go_simp <;> with_reducible rfl
            simp only [List.setIfInBounds_toArray, List.set_cons_zero, List.set_cons_succ]
            refine wpAnyG_pure 10 27 (v := ?_) rfl (by kernel_rfl) rfl (by rfl) (fun w' => ?_) ?_
            rotate_left
            · go_simp <;> with_reducible rfl
            simp only [List.setIfInBounds_toArray, List.set_cons_zero, List.set_cons_succ]
            refine wpAnyG_pure 11 28 (v := ?_) rfl (by kernel_rfl) rfl (by rfl) (fun w' => ?_) ?_
            rotate_left
            · go_simp <;> with_reducible rfl
            simp only [List.setIfInBounds_toArray, List.set_cons_zero, List.set_cons_succ]
            refine wpAnyG_pure 12 29 (v := ?_) rfl (by kernel_rfl) rfl (by rfl) (fun w' => ?_) ?_
            rotate_left
            · go_simp <;> with_reducible rfl
            simp only [List.setIfInBounds_toArray, List.set_cons_zero, List.set_cons_succ]
            refine wpAnyG_pure 13 30 (v := ?_) rfl (by kernel_rfl) rfl (by rfl) (fun w' => ?_) ?_
            rotate_left
            · go_simp <;> with_reducible rfl
            simp only [List.setIfInBounds_toArray, List.set_cons_zero, List.set_cons_succ]
            refine wpAnyG_pure 14 31 (v := ?_) rfl (by kernel_rfl) rfl (by rfl) (fun w' => ?_) ?_
            rotate_left
            · go_simp <;> with_reducible rfl
            simp only [List.setIfInBounds_toArray, List.set_cons_zero, List.set_cons_succ]
            refine wpAnyG_pure 15 32 (v := ?_) rfl (by kernel_rfl) rfl (by rfl) (fun w' => ?_) ?_
            rotate_left
            · go_simp <;> with_reducible rfl
            simp only [List.setIfInBounds_toArray, List.set_cons_zero, List.set_cons_succ]
            refine wpAnyG_take 16 33 (v := ?_) rfl (by kernel_rfl) rfl (by rfl) (fun w' hG' => ?_) ?_
            rotate_left
            · have hx0 := Grew.cell hG' (show wr.drew.cell? _ = _ from e0)
              have hx1 := Grew.cell hG' (show wr.drew.cell? _ = _ from e1)
              have hx2 := Grew.cell hG' (show wr.drew.cell? _ = _ from d0)
              have hx3 := Grew.cell hG' (show wr.drew.cell? _ = _ from d1)
              go_simp <;> with_reducible rfl
            simp only [List.setIfInBounds_toArray, List.set_cons_zero, List.set_cons_succ]
            refine wpAnyG_pure 17 34 (v := ?_) rfl (by kernel_rfl) rfl (by rfl) (fun w' => ?_) ?_
            rotate_left
            · go_simp <;> with_reducible rfl
            simp only [List.setIfInBounds_toArray, List.set_cons_zero, List.set_cons_succ]
            refine wpAnyG_pure 18 35 (v := ?_) rfl (by kernel_rfl) rfl (by rfl) (fun w' => ?_) ?_
            rotate_left
            · go_simp <;> with_reducible rfl
            simp only [List.setIfInBounds_toArray, List.set_cons_zero, List.set_cons_succ]
            refine wpAnyG_pure 19 36 (v := ?_) rfl (by kernel_rfl) rfl (by rfl) (fun w' => ?_) ?_
            rotate_left
            · go_simp <;> with_reducible rfl
            simp only [List.setIfInBounds_toArray, List.set_cons_zero, List.set_cons_succ]
            refine wpAnyG_pure 20 37 (v := ?_) rfl (by kernel_rfl) rfl (by rfl) (fun w' => ?_) ?_
            rotate_left
            · go_simp <;> with_reducible rfl
            simp only [List.setIfInBounds_toArray, List.set_cons_zero, List.set_cons_succ]
            refine wpAnyG_take 21 38 (v := ?_) rfl (by kernel_rfl) rfl (by rfl) (fun w' hG' => ?_) ?_
            rotate_left
            · have hx0 := Grew.cell hG' (show wr.drew.cell? _ = _ from e0)
              have hx1 := Grew.cell hG' (show wr.drew.cell? _ = _ from e1)
              have hx2 := Grew.cell hG' (show wr.drew.cell? _ = _ from d0)
              have hx3 := Grew.cell hG' (show wr.drew.cell? _ = _ from d1)
              go_simp <;> with_reducible rfl
            simp only [List.setIfInBounds_toArray, List.set_cons_zero, List.set_cons_succ]
            refine wpAnyG_pure 22 39 (v := ?_) rfl (by kernel_rfl) rfl (by rfl) (fun w' => ?_) ?_
            rotate_left
            · go_simp <;> with_reducible rfl
            simp only [List.setIfInBounds_toArray, List.set_cons_zero, List.set_cons_succ]
            refine wpAnyG_pure 23 40 (v := ?_) rfl (by kernel_rfl) rfl (by rfl) (fun w' => ?_) ?_
            rotate_left
            · go_simp <;> with_reducible rfl
            simp only [List.setIfInBounds_toArray, List.set_cons_zero, List.set_cons_succ]
            refine wpAnyG_done (by kernel_rfl) ?_
            clear e0 e1 d0 d1
            go_wp2_with fail
            go_roundw
            case rel => exact ⟨k + 1, by omega, by go_num, hS, hK.drew⟩
            case measure => simp [intOf]; omega
          · have hr := Lib.hid (hNo.out (fun e => hq (Prod.mk.inj e).2))
            have hq1 : (q == q') = false := by simp [hq]
            clear hNo hYes
            go_upto_region 6 with fail
            refine wp_region_grow [] (fun _ => False) (by kernel_rfl) ?_
            simp only [List.size_toArray, List.length_cons, List.length_nil, Nat.reduceAdd]
            refine wpAnyG_pure 0 17 (v := ?_) rfl (by kernel_rfl) rfl (by rfl) (fun w' => ?_) ?_
            rotate_left
            · go_simp <;> with_reducible rfl
            simp only [List.setIfInBounds_toArray, List.set_cons_zero, List.set_cons_succ]
            refine wpAnyG_pure 1 18 (v := ?_) rfl (by kernel_rfl) rfl (by rfl) (fun w' => ?_) ?_
            rotate_left
            · go_simp <;> with_reducible rfl
            simp only [List.setIfInBounds_toArray, List.set_cons_zero, List.set_cons_succ]
            refine wpAnyG_pure 2 19 (v := ?_) rfl (by kernel_rfl) rfl (by rfl) (fun w' => ?_) ?_
            rotate_left
            · go_simp <;> with_reducible rfl
            simp only [List.setIfInBounds_toArray, List.set_cons_zero, List.set_cons_succ]
            refine wpAnyG_pure 3 20 (v := ?_) rfl (by kernel_rfl) rfl (by rfl) (fun w' => ?_) ?_
            rotate_left
            · go_simp <;> with_reducible rfl
            simp only [List.setIfInBounds_toArray, List.set_cons_zero, List.set_cons_succ]
            refine wpAnyG_take 4 21 (v := ?_) rfl (by kernel_rfl) rfl (by rfl) (fun w' hG' => ?_) ?_
            rotate_left
            · have hx0 := Grew.cell hG' (show wr.drew.cell? _ = _ from e0)
              have hx1 := Grew.cell hG' (show wr.drew.cell? _ = _ from e1)
              have hx2 := Grew.cell hG' (show wr.drew.cell? _ = _ from d0)
              have hx3 := Grew.cell hG' (show wr.drew.cell? _ = _ from d1)
              go_simp <;> with_reducible rfl
            simp only [List.setIfInBounds_toArray, List.set_cons_zero, List.set_cons_succ]
            refine wpAnyG_pure 5 22 (v := ?_) rfl (by kernel_rfl) rfl (by rfl) (fun w' => ?_) ?_
            rotate_left
            · go_simp <;> with_reducible rfl
            simp only [List.setIfInBounds_toArray, List.set_cons_zero, List.set_cons_succ]
            refine wpAnyG_pure 6 23 (v := ?_) rfl (by kernel_rfl) rfl (by rfl) (fun w' => ?_) ?_
            rotate_left
            · go_simp <;> with_reducible rfl
            simp only [List.setIfInBounds_toArray, List.set_cons_zero, List.set_cons_succ]
            refine wpAnyG_pure 7 24 (v := ?_) rfl (by kernel_rfl) rfl (by rfl) (fun w' => ?_) ?_
            rotate_left
            · go_simp <;> with_reducible rfl
            simp only [List.setIfInBounds_toArray, List.set_cons_zero, List.set_cons_succ]
            refine wpAnyG_pure 8 25 (v := ?_) rfl (by kernel_rfl) rfl (by rfl) (fun w' => ?_) ?_
            rotate_left
            · go_simp <;> with_reducible rfl
            simp only [List.setIfInBounds_toArray, List.set_cons_zero, List.set_cons_succ]
            refine wpAnyG_take 9 26 (v := ?_) rfl (by kernel_rfl) rfl (by rfl) (fun w' hG' => ?_) ?_
            rotate_left
            · have hx0 := Grew.cell hG' (show wr.drew.cell? _ = _ from e0)
              have hx1 := Grew.cell hG' (show wr.drew.cell? _ = _ from e1)
              have hx2 := Grew.cell hG' (show wr.drew.cell? _ = _ from d0)
              have hx3 := Grew.cell hG' (show wr.drew.cell? _ = _ from d1)
              go_simp <;> with_reducible rfl
            simp only [List.setIfInBounds_toArray, List.set_cons_zero, List.set_cons_succ]
            refine wpAnyG_pure 10 27 (v := ?_) rfl (by kernel_rfl) rfl (by rfl) (fun w' => ?_) ?_
            rotate_left
            · go_simp <;> with_reducible rfl
            simp only [List.setIfInBounds_toArray, List.set_cons_zero, List.set_cons_succ]
            refine wpAnyG_pure 11 28 (v := ?_) rfl (by kernel_rfl) rfl (by rfl) (fun w' => ?_) ?_
            rotate_left
            · go_simp <;> with_reducible rfl
            simp only [List.setIfInBounds_toArray, List.set_cons_zero, List.set_cons_succ]
            refine wpAnyG_pure 12 29 (v := ?_) rfl (by kernel_rfl) rfl (by rfl) (fun w' => ?_) ?_
            rotate_left
            · go_simp <;> with_reducible rfl
            simp only [List.setIfInBounds_toArray, List.set_cons_zero, List.set_cons_succ]
            refine wpAnyG_pure 13 30 (v := ?_) rfl (by kernel_rfl) rfl (by rfl) (fun w' => ?_) ?_
            rotate_left
            · go_simp <;> with_reducible rfl
            simp only [List.setIfInBounds_toArray, List.set_cons_zero, List.set_cons_succ]
            refine wpAnyG_pure 14 31 (v := ?_) rfl (by kernel_rfl) rfl (by rfl) (fun w' => ?_) ?_
            rotate_left
            · go_simp <;> with_reducible rfl
            simp only [List.setIfInBounds_toArray, List.set_cons_zero, List.set_cons_succ]
            refine wpAnyG_pure 15 32 (v := ?_) rfl (by kernel_rfl) rfl (by rfl) (fun w' => ?_) ?_
            rotate_left
            · go_simp <;> with_reducible rfl
            simp only [List.setIfInBounds_toArray, List.set_cons_zero, List.set_cons_succ]
            refine wpAnyG_take 16 33 (v := ?_) rfl (by kernel_rfl) rfl (by rfl) (fun w' hG' => ?_) ?_
            rotate_left
            · have hx0 := Grew.cell hG' (show wr.drew.cell? _ = _ from e0)
              have hx1 := Grew.cell hG' (show wr.drew.cell? _ = _ from e1)
              have hx2 := Grew.cell hG' (show wr.drew.cell? _ = _ from d0)
              have hx3 := Grew.cell hG' (show wr.drew.cell? _ = _ from d1)
              go_simp <;> with_reducible rfl
            simp only [List.setIfInBounds_toArray, List.set_cons_zero, List.set_cons_succ]
            refine wpAnyG_pure 17 34 (v := ?_) rfl (by kernel_rfl) rfl (by rfl) (fun w' => ?_) ?_
            rotate_left
            · go_simp <;> with_reducible rfl
            simp only [List.setIfInBounds_toArray, List.set_cons_zero, List.set_cons_succ]
            refine wpAnyG_pure 18 35 (v := ?_) rfl (by kernel_rfl) rfl (by rfl) (fun w' => ?_) ?_
            rotate_left
            · go_simp <;> with_reducible rfl
            simp only [List.setIfInBounds_toArray, List.set_cons_zero, List.set_cons_succ]
            refine wpAnyG_pure 19 36 (v := ?_) rfl (by kernel_rfl) rfl (by rfl) (fun w' => ?_) ?_
            rotate_left
            · go_simp <;> with_reducible rfl
            simp only [List.setIfInBounds_toArray, List.set_cons_zero, List.set_cons_succ]
            refine wpAnyG_pure 20 37 (v := ?_) rfl (by kernel_rfl) rfl (by rfl) (fun w' => ?_) ?_
            rotate_left
            · go_simp <;> with_reducible rfl
            simp only [List.setIfInBounds_toArray, List.set_cons_zero, List.set_cons_succ]
            refine wpAnyG_take 21 38 (v := ?_) rfl (by kernel_rfl) rfl (by rfl) (fun w' hG' => ?_) ?_
            rotate_left
            · have hx0 := Grew.cell hG' (show wr.drew.cell? _ = _ from e0)
              have hx1 := Grew.cell hG' (show wr.drew.cell? _ = _ from e1)
              have hx2 := Grew.cell hG' (show wr.drew.cell? _ = _ from d0)
              have hx3 := Grew.cell hG' (show wr.drew.cell? _ = _ from d1)
              go_simp <;> with_reducible rfl
            simp only [List.setIfInBounds_toArray, List.set_cons_zero, List.set_cons_succ]
            refine wpAnyG_pure 22 39 (v := ?_) rfl (by kernel_rfl) rfl (by rfl) (fun w' => ?_) ?_
            rotate_left
            · go_simp <;> with_reducible rfl
            simp only [List.setIfInBounds_toArray, List.set_cons_zero, List.set_cons_succ]
            refine wpAnyG_pure 23 40 (v := ?_) rfl (by kernel_rfl) rfl (by rfl) (fun w' => ?_) ?_
            rotate_left
            · go_simp <;> with_reducible rfl
            simp only [List.setIfInBounds_toArray, List.set_cons_zero, List.set_cons_succ]
            refine wpAnyG_done (by kernel_rfl) ?_
            clear e0 e1 d0 d1
            go_wp2_with fail
            go_ret
            rw [hr.out]
            exact ⟨rfl, hK.drew⟩
        · have hr := Lib.hid (hNo.out (fun e => hp (Prod.mk.inj e).1))
          have hp1 : (p != p') = true := by simp [hp]
          clear hNo hYes
          go_upto_region 6 with fail
          refine wp_region_grow [] (fun _ => False) (by kernel_rfl) ?_
          simp only [List.size_toArray, List.length_cons, List.length_nil, Nat.reduceAdd]
          refine wpAnyG_pure 0 17 (v := ?_) rfl (by kernel_rfl) rfl (by rfl) (fun w' => ?_) ?_
          rotate_left
          · go_simp <;> with_reducible rfl
          simp only [List.setIfInBounds_toArray, List.set_cons_zero, List.set_cons_succ]
          refine wpAnyG_pure 1 18 (v := ?_) rfl (by kernel_rfl) rfl (by rfl) (fun w' => ?_) ?_
          rotate_left
          · go_simp <;> with_reducible rfl
          simp only [List.setIfInBounds_toArray, List.set_cons_zero, List.set_cons_succ]
          refine wpAnyG_pure 2 19 (v := ?_) rfl (by kernel_rfl) rfl (by rfl) (fun w' => ?_) ?_
          rotate_left
          · go_simp <;> with_reducible rfl
          simp only [List.setIfInBounds_toArray, List.set_cons_zero, List.set_cons_succ]
          refine wpAnyG_pure 3 20 (v := ?_) rfl (by kernel_rfl) rfl (by rfl) (fun w' => ?_) ?_
          rotate_left
          · go_simp <;> with_reducible rfl
          simp only [List.setIfInBounds_toArray, List.set_cons_zero, List.set_cons_succ]
          refine wpAnyG_take 4 21 (v := ?_) rfl (by kernel_rfl) rfl (by rfl) (fun w' hG' => ?_) ?_
          rotate_left
          · have hx0 := Grew.cell hG' (show wr.drew.cell? _ = _ from e0)
            have hx1 := Grew.cell hG' (show wr.drew.cell? _ = _ from e1)
            have hx2 := Grew.cell hG' (show wr.drew.cell? _ = _ from d0)
            have hx3 := Grew.cell hG' (show wr.drew.cell? _ = _ from d1)
            go_simp <;> with_reducible rfl
          simp only [List.setIfInBounds_toArray, List.set_cons_zero, List.set_cons_succ]
          refine wpAnyG_pure 5 22 (v := ?_) rfl (by kernel_rfl) rfl (by rfl) (fun w' => ?_) ?_
          rotate_left
          · go_simp <;> with_reducible rfl
          simp only [List.setIfInBounds_toArray, List.set_cons_zero, List.set_cons_succ]
          refine wpAnyG_pure 6 23 (v := ?_) rfl (by kernel_rfl) rfl (by rfl) (fun w' => ?_) ?_
          rotate_left
          · go_simp <;> with_reducible rfl
          simp only [List.setIfInBounds_toArray, List.set_cons_zero, List.set_cons_succ]
          refine wpAnyG_pure 7 24 (v := ?_) rfl (by kernel_rfl) rfl (by rfl) (fun w' => ?_) ?_
          rotate_left
          · go_simp <;> with_reducible rfl
          simp only [List.setIfInBounds_toArray, List.set_cons_zero, List.set_cons_succ]
          refine wpAnyG_pure 8 25 (v := ?_) rfl (by kernel_rfl) rfl (by rfl) (fun w' => ?_) ?_
          rotate_left
          · go_simp <;> with_reducible rfl
          simp only [List.setIfInBounds_toArray, List.set_cons_zero, List.set_cons_succ]
          refine wpAnyG_take 9 26 (v := ?_) rfl (by kernel_rfl) rfl (by rfl) (fun w' hG' => ?_) ?_
          rotate_left
          · have hx0 := Grew.cell hG' (show wr.drew.cell? _ = _ from e0)
            have hx1 := Grew.cell hG' (show wr.drew.cell? _ = _ from e1)
            have hx2 := Grew.cell hG' (show wr.drew.cell? _ = _ from d0)
            have hx3 := Grew.cell hG' (show wr.drew.cell? _ = _ from d1)
            go_simp <;> with_reducible rfl
          simp only [List.setIfInBounds_toArray, List.set_cons_zero, List.set_cons_succ]
          refine wpAnyG_pure 10 27 (v := ?_) rfl (by kernel_rfl) rfl (by rfl) (fun w' => ?_) ?_
          rotate_left
          · go_simp <;> with_reducible rfl
          simp only [List.setIfInBounds_toArray, List.set_cons_zero, List.set_cons_succ]
          refine wpAnyG_pure 11 28 (v := ?_) rfl (by kernel_rfl) rfl (by rfl) (fun w' => ?_) ?_
          rotate_left
          · go_simp <;> with_reducible rfl
          simp only [List.setIfInBounds_toArray, List.set_cons_zero, List.set_cons_succ]
          refine wpAnyG_pass 12 29 rfl (by kernel_rfl) rfl (by rfl) ?_
          simp only [List.setIfInBounds_toArray, List.set_cons_zero, List.set_cons_succ]
          refine wpAnyG_pass 13 30 rfl (by kernel_rfl) rfl (by rfl) ?_
          simp only [List.setIfInBounds_toArray, List.set_cons_zero, List.set_cons_succ]
          refine wpAnyG_pass 14 31 rfl (by kernel_rfl) rfl (by rfl) ?_
          simp only [List.setIfInBounds_toArray, List.set_cons_zero, List.set_cons_succ]
          refine wpAnyG_pass 15 32 rfl (by kernel_rfl) rfl (by rfl) ?_
          simp only [List.setIfInBounds_toArray, List.set_cons_zero, List.set_cons_succ]
          refine wpAnyG_pass 16 33 rfl (by kernel_rfl) rfl (by rfl) ?_
          simp only [List.setIfInBounds_toArray, List.set_cons_zero, List.set_cons_succ]
          refine wpAnyG_pass 17 34 rfl (by kernel_rfl) rfl (by rfl) ?_
          simp only [List.setIfInBounds_toArray, List.set_cons_zero, List.set_cons_succ]
          refine wpAnyG_pass 18 35 rfl (by kernel_rfl) rfl (by rfl) ?_
          simp only [List.setIfInBounds_toArray, List.set_cons_zero, List.set_cons_succ]
          refine wpAnyG_pass 19 36 rfl (by kernel_rfl) rfl (by rfl) ?_
          simp only [List.setIfInBounds_toArray, List.set_cons_zero, List.set_cons_succ]
          refine wpAnyG_pass 20 37 rfl (by kernel_rfl) rfl (by rfl) ?_
          simp only [List.setIfInBounds_toArray, List.set_cons_zero, List.set_cons_succ]
          refine wpAnyG_pass 21 38 rfl (by kernel_rfl) rfl (by rfl) ?_
          simp only [List.setIfInBounds_toArray, List.set_cons_zero, List.set_cons_succ]
          refine wpAnyG_pass 22 39 rfl (by kernel_rfl) rfl (by rfl) ?_
          simp only [List.setIfInBounds_toArray, List.set_cons_zero, List.set_cons_succ]
          refine wpAnyG_pure 23 40 (v := ?_) rfl (by kernel_rfl) rfl (by rfl) (fun w' => ?_) ?_
          rotate_left
          · go_simp <;> with_reducible rfl
          simp only [List.setIfInBounds_toArray, List.set_cons_zero, List.set_cons_succ]
          refine wpAnyG_done (by kernel_rfl) ?_
          clear e0 e1 d0 d1
          go_wp2_with fail
          go_ret
          rw [hr.out]
          exact ⟨rfl, hK.drew⟩
      · obtain rfl : L = k := by omega
        have hr : Hid (decide (l = l') = true) := decide_eq_true (by
          have := hS.out
          rwa [List.take_of_length_le (by rw [HL.out]; exact Nat.le_refl _), List.take_of_length_le (by rw [HL'.out]; exact Nat.le_refl _)] at this)
        clear hS
        go_wp2_with fail
        go_ret
        rw [hr.out]
        exact ⟨rfl, hK⟩
  · have hr : Hid (decide (l = l') = false) := decide_eq_false (fun e => hlen (by rw [← HL.out, ← HL'.out, e]))
    have hn1 : ¬ ((L : Int) = (L' : Int)) := by omega
    have hn2 : ((L : Int) == (L' : Int)) = false := by simp; omega
    clear HE HE'
    go_enter Try.func15, Try.ntmps15
    go_wp2_with fail
    go_ret
    rw [hr.out]
    exact ⟨rfl, Kept.refl _ _⟩
end Go.Proofs.Ythbcgdogmkgebaa
