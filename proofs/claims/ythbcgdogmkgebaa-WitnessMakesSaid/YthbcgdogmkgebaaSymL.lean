/- The merge: many and one behind. -/
import Derived.Test.YthbcgdogmkgebaaSymO
namespace Go.Proofs.Ythbcgdogmkgebaa
open Go.RowKit

set_option maxHeartbeats 8000000 in
set_option maxRecDepth 100000 in
theorem sym_last (g N cap a m b : Nat) (f : Row) (w : World) (h : RowF w g N f) (ham : a < m) (hmb : m < b) (hb : b ≤ N) (hN : N ≤ 1000) (hs1 : Srt f a m) (hs2 : Srt f m b) (h1 : a + 1 < m) (h2 : m + 1 = b) :
    Calls Try.prog 61 #[.slice (some ⟨g, 0, none⟩) N cap, i64 a, i64 m, i64 b, (.func (.func 30) #[] #[])] w fun e w' => e = .returned (.tuple #[]) ∧ ∃ f', RowF w' g N f' ∧ Kept (· = g) w w' ∧ Stp f f' a b ∧ Srt f' a b := by
  obtain ⟨D, hD⟩ : ∃ D, m - a = D := ⟨_, rfl⟩
  have em : (m : Int) - (a : Int) = (D : Int) := by omega
  have wD : IntKind.i64.wrap (D : Int) = (D : Int) := Go.IntWalk.i64_in _ (by omega)
  have nD : ((D : Int) == 1) = false := by simp; omega
  have eb : (b : Int) - (m : Int) = 1 := by omega
  have hS0 : Hid (RowF w g N f ∧ Grew w w ∧ (∀ k, a ≤ k → k < a → leA (f k) (f m)) ∧ (∀ k, m ≤ k → k < m → leA (f m) (f k))) := ⟨h, Kept.refl _ _, fun k _ _ => by omega, fun k _ _ => by omega⟩
  have H1 := Lib.hid hs1
  have H2 := Lib.hid h2
  clear h hs1 hs2 h1 h2 hD
  go_enter Try.func61, Try.ntmps61
  go_wp2_with fail
  go_loopw [14, 15, 16] (fun i j _ wr => ∃ (x y : Nat), (a ≤ x ∧ x ≤ y ∧ y ≤ m) ∧ i = .int .i64 x ∧ j = .int .i64 y ∧ Hid (RowF wr g N f ∧ Grew w wr ∧ (∀ k, a ≤ k → k < x → leA (f k) (f m)) ∧ (∀ k, y ≤ k → k < m → leA (f m) (f k)))) (fun i j _ _ => (intOf j).toNat - (intOf i).toNat)
  case atStart => exact ⟨a, m, ⟨by omega, by omega, by omega⟩, rfl, rfl, hS0⟩
  case round =>
    clear hS0
    obtain ⟨x, y, ⟨hx, hxy, hy⟩, rfl, rfl, hS⟩ := hrel
    by_cases hlt : x < y
    · have l1 : (x : Int) < (y : Int) := by omega
      obtain ⟨sm, hsm⟩ : ∃ s, x + y = s := ⟨_, rfl⟩
      have esm : (x : Int) + (y : Int) = (sm : Int) := by omega
      have wsm : IntKind.i64.wrap (sm : Int) = (sm : Int) := Go.IntWalk.i64_in _ (by omega)
      obtain ⟨h, hh⟩ : ∃ h, sm / 2 = h := ⟨_, rfl⟩
      have ehh : (sm : Int) / 2 = (h : Int) := by omega
      have hxh : x ≤ h ∧ h < y := by omega
      have wh1 : IntKind.i64.wrap ((h : Int) + 1) = (h : Int) + 1 := Go.IntWalk.i64_in _ (by omega)
      clear hsm hh
      have iL : m < N := by omega
      have jL : h < N := by omega
      have i0 : (0 : Int) ≤ (m : Int) := by omega
      have i1 : (m : Int) < (N : Int) := by omega
      have j0 : (0 : Int) ≤ (h : Int) := by omega
      have j1 : (h : Int) < (N : Int) := by omega
      have x0 := hS.out.1.c0 iL
      have x1 := hS.out.1.c1 iL
      have x2 := hS.out.1.c0 jL
      have x3 := hS.out.1.c1 jL
      obtain ⟨⟨p1, p2⟩, hy⟩ : ∃ q, f m = q := ⟨_, rfl⟩
      obtain ⟨⟨q1, q2⟩, hq⟩ : ∃ q, f h = q := ⟨_, rfl⟩
      rw [hy] at x0 x1
      rw [hq] at x2 x3
      simp only at x0 x1 x2 x3
      obtain ⟨c, hc⟩ : ∃ c, cmpA (p1, p2) (q1, q2) = c := ⟨_, rfl⟩
      have hC := Lib.hid (cmp_any p1 p2 q1 q2)
      rw [hc] at hC
      have hl := cmpA_lt (f m) (f h)
      rw [hy, hq, hc] at hl
      have HL : Hid (decide (c < 0) = ltA (f m) (f h)) := by rw [hy, hq]; exact hl
      clear hc hl hq hy
      rcases Int.lt_or_le c 0 with hc | hc
      · have dc : decide (c < 0) = true := decide_eq_true hc
        have HL' : Hid (ltA (f m) (f h) = true) := by rw [← HL.out]; exact dc
        clear HL
        go_upto_region 17 with fail
        refine wp_region_grow [] (fun _ => False) (by kernel_rfl) ?_
        simp only [List.size_toArray, List.length_cons, List.length_nil, Nat.reduceAdd]
        refine wpAnyG_pure 0 92 (v := ?_) rfl (by kernel_rfl) rfl (by rfl) (fun w' => ?_) ?_
        rotate_left
        · go_simp <;> with_reducible rfl
        simp only [List.setIfInBounds_toArray, List.set_cons_zero, List.set_cons_succ]
        refine wpAnyG_pure 1 93 (v := ?_) rfl (by kernel_rfl) rfl (by rfl) (fun w' => ?_) ?_
        rotate_left
        · go_simp <;> with_reducible rfl
        simp only [List.setIfInBounds_toArray, List.set_cons_zero, List.set_cons_succ]
        refine wpAnyG_pure 2 94 (v := ?_) rfl (by kernel_rfl) rfl (by rfl) (fun w' => ?_) ?_
        rotate_left
        · go_simp <;> with_reducible rfl
        simp only [List.setIfInBounds_toArray, List.set_cons_zero, List.set_cons_succ]
        refine wpAnyG_pure 3 95 (v := ?_) rfl (by kernel_rfl) rfl (by rfl) (fun w' => ?_) ?_
        rotate_left
        · go_simp <;> with_reducible rfl
        simp only [List.setIfInBounds_toArray, List.set_cons_zero, List.set_cons_succ]
        refine wpAnyG_take 4 96 (v := ?_) rfl (by kernel_rfl) rfl (by rfl) (fun w' hG' => ?_) ?_
        rotate_left
        · have hx0 := Grew.cell hG' (show wr.drew.cell? _ = _ from x0)
          have hx1 := Grew.cell hG' (show wr.drew.cell? _ = _ from x1)
          have hx2 := Grew.cell hG' (show wr.drew.cell? _ = _ from x2)
          have hx3 := Grew.cell hG' (show wr.drew.cell? _ = _ from x3)
          go_simp <;> with_reducible rfl
        simp only [List.setIfInBounds_toArray, List.set_cons_zero, List.set_cons_succ]
        refine wpAnyG_pure 5 97 (v := ?_) rfl (by kernel_rfl) rfl (by rfl) (fun w' => ?_) ?_
        rotate_left
        · go_simp <;> with_reducible rfl
        simp only [List.setIfInBounds_toArray, List.set_cons_zero, List.set_cons_succ]
        refine wpAnyG_pure 6 98 (v := ?_) rfl (by kernel_rfl) rfl (by rfl) (fun w' => ?_) ?_
        rotate_left
        · go_simp <;> with_reducible rfl
        simp only [List.setIfInBounds_toArray, List.set_cons_zero, List.set_cons_succ]
        refine wpAnyG_pure 7 99 (v := ?_) rfl (by kernel_rfl) rfl (by rfl) (fun w' => ?_) ?_
        rotate_left
        · go_simp <;> with_reducible rfl
        simp only [List.setIfInBounds_toArray, List.set_cons_zero, List.set_cons_succ]
        refine wpAnyG_take 8 100 (v := ?_) rfl (by kernel_rfl) rfl (by rfl) (fun w' hG' => ?_) ?_
        rotate_left
        · have hx0 := Grew.cell hG' (show wr.drew.cell? _ = _ from x0)
          have hx1 := Grew.cell hG' (show wr.drew.cell? _ = _ from x1)
          have hx2 := Grew.cell hG' (show wr.drew.cell? _ = _ from x2)
          have hx3 := Grew.cell hG' (show wr.drew.cell? _ = _ from x3)
          go_simp <;> with_reducible rfl
        simp only [List.setIfInBounds_toArray, List.set_cons_zero, List.set_cons_succ]
        refine wpAnyG_step 9 101 rfl (by kernel_rfl) rfl (by rfl) (fun K hK' => ?_)
        go_simp
        refine (hC.out _).mono ?_
        rintro e w2 ⟨rfl, k2⟩
        refine hK' _ _ (fun _ => k2) ?_
        clear hK'
        simp only [List.setIfInBounds_toArray, List.set_cons_zero, List.set_cons_succ]
        refine wpAnyG_pure 10 102 (v := ?_) rfl (by kernel_rfl) rfl (by rfl) (fun w' => ?_) ?_
        rotate_left
        · go_simp <;> with_reducible rfl
        simp only [List.setIfInBounds_toArray, List.set_cons_zero, List.set_cons_succ]
        refine wpAnyG_pure 11 103 (v := ?_) rfl (by kernel_rfl) rfl (by rfl) (fun w' => ?_) ?_
        rotate_left
        · go_simp <;> with_reducible rfl
        simp only [List.setIfInBounds_toArray, List.set_cons_zero, List.set_cons_succ]
        refine wpAnyG_done (by kernel_rfl) ?_
        have hS2 := Lib.hid (show _ ∧ _ from ⟨(hS.out.1.grew (Kept.refl (fun _ => False) wr).drew).grew k2, hS.out.2.1.drew.trans k2⟩)
        have hL2 := Lib.hid hS.out.2.2
        clear hS k2 x0 x1 x2 x3 hC
        have hS3 : Hid (RowF w2 g N f ∧ Grew w w2 ∧ (∀ k, a ≤ k → k < x → leA (f k) (f m)) ∧ (∀ k, h ≤ k → k < m → leA (f m) (f k))) :=
          ⟨hS2.out.1, hS2.out.2, hL2.out.1, fun k k1 k2 => (ltA_yes HL'.out).trans (H1.out.le (show a ≤ h by omega) k1 k2)⟩
        clear hS2 hL2 HL'
        go_wp2_with fail
        go_roundw
        case rel => exact ⟨x, h, ⟨hx, by omega, by omega⟩, by go_num, by go_num, hS3⟩
        case measure => simp [intOf]; omega
      · have dc : decide (c < 0) = false := decide_eq_false (by omega)
        have HL' : Hid (ltA (f m) (f h) = false) := by rw [← HL.out]; exact dc
        clear HL
        go_upto_region 17 with fail
        refine wp_region_grow [] (fun _ => False) (by kernel_rfl) ?_
        simp only [List.size_toArray, List.length_cons, List.length_nil, Nat.reduceAdd]
        refine wpAnyG_pure 0 92 (v := ?_) rfl (by kernel_rfl) rfl (by rfl) (fun w' => ?_) ?_
        rotate_left
        · go_simp <;> with_reducible rfl
        simp only [List.setIfInBounds_toArray, List.set_cons_zero, List.set_cons_succ]
        refine wpAnyG_pure 1 93 (v := ?_) rfl (by kernel_rfl) rfl (by rfl) (fun w' => ?_) ?_
        rotate_left
        · go_simp <;> with_reducible rfl
        simp only [List.setIfInBounds_toArray, List.set_cons_zero, List.set_cons_succ]
        refine wpAnyG_pure 2 94 (v := ?_) rfl (by kernel_rfl) rfl (by rfl) (fun w' => ?_) ?_
        rotate_left
        · go_simp <;> with_reducible rfl
        simp only [List.setIfInBounds_toArray, List.set_cons_zero, List.set_cons_succ]
        refine wpAnyG_pure 3 95 (v := ?_) rfl (by kernel_rfl) rfl (by rfl) (fun w' => ?_) ?_
        rotate_left
        · go_simp <;> with_reducible rfl
        simp only [List.setIfInBounds_toArray, List.set_cons_zero, List.set_cons_succ]
        refine wpAnyG_take 4 96 (v := ?_) rfl (by kernel_rfl) rfl (by rfl) (fun w' hG' => ?_) ?_
        rotate_left
        · have hx0 := Grew.cell hG' (show wr.drew.cell? _ = _ from x0)
          have hx1 := Grew.cell hG' (show wr.drew.cell? _ = _ from x1)
          have hx2 := Grew.cell hG' (show wr.drew.cell? _ = _ from x2)
          have hx3 := Grew.cell hG' (show wr.drew.cell? _ = _ from x3)
          go_simp <;> with_reducible rfl
        simp only [List.setIfInBounds_toArray, List.set_cons_zero, List.set_cons_succ]
        refine wpAnyG_pure 5 97 (v := ?_) rfl (by kernel_rfl) rfl (by rfl) (fun w' => ?_) ?_
        rotate_left
        · go_simp <;> with_reducible rfl
        simp only [List.setIfInBounds_toArray, List.set_cons_zero, List.set_cons_succ]
        refine wpAnyG_pure 6 98 (v := ?_) rfl (by kernel_rfl) rfl (by rfl) (fun w' => ?_) ?_
        rotate_left
        · go_simp <;> with_reducible rfl
        simp only [List.setIfInBounds_toArray, List.set_cons_zero, List.set_cons_succ]
        refine wpAnyG_pure 7 99 (v := ?_) rfl (by kernel_rfl) rfl (by rfl) (fun w' => ?_) ?_
        rotate_left
        · go_simp <;> with_reducible rfl
        simp only [List.setIfInBounds_toArray, List.set_cons_zero, List.set_cons_succ]
        refine wpAnyG_take 8 100 (v := ?_) rfl (by kernel_rfl) rfl (by rfl) (fun w' hG' => ?_) ?_
        rotate_left
        · have hx0 := Grew.cell hG' (show wr.drew.cell? _ = _ from x0)
          have hx1 := Grew.cell hG' (show wr.drew.cell? _ = _ from x1)
          have hx2 := Grew.cell hG' (show wr.drew.cell? _ = _ from x2)
          have hx3 := Grew.cell hG' (show wr.drew.cell? _ = _ from x3)
          go_simp <;> with_reducible rfl
        simp only [List.setIfInBounds_toArray, List.set_cons_zero, List.set_cons_succ]
        refine wpAnyG_step 9 101 rfl (by kernel_rfl) rfl (by rfl) (fun K hK' => ?_)
        go_simp
        refine (hC.out _).mono ?_
        rintro e w2 ⟨rfl, k2⟩
        refine hK' _ _ (fun _ => k2) ?_
        clear hK'
        simp only [List.setIfInBounds_toArray, List.set_cons_zero, List.set_cons_succ]
        refine wpAnyG_pure 10 102 (v := ?_) rfl (by kernel_rfl) rfl (by rfl) (fun w' => ?_) ?_
        rotate_left
        · go_simp <;> with_reducible rfl
        simp only [List.setIfInBounds_toArray, List.set_cons_zero, List.set_cons_succ]
        refine wpAnyG_pure 11 103 (v := ?_) rfl (by kernel_rfl) rfl (by rfl) (fun w' => ?_) ?_
        rotate_left
        · go_simp <;> with_reducible rfl
        simp only [List.setIfInBounds_toArray, List.set_cons_zero, List.set_cons_succ]
        refine wpAnyG_done (by kernel_rfl) ?_
        have hS2 := Lib.hid (show _ ∧ _ from ⟨(hS.out.1.grew (Kept.refl (fun _ => False) wr).drew).grew k2, hS.out.2.1.drew.trans k2⟩)
        have hL2 := Lib.hid hS.out.2.2
        clear hS k2 x0 x1 x2 x3 hC
        have hS3 : Hid (RowF w2 g N f ∧ Grew w w2 ∧ (∀ k, a ≤ k → k < h + 1 → leA (f k) (f m)) ∧ (∀ k, y ≤ k → k < m → leA (f m) (f k))) :=
          ⟨hS2.out.1, hS2.out.2, fun k k1 k2 => (H1.out.le k1 (show k ≤ h by omega) (by omega)).trans (ltA_no HL'.out), hL2.out.2⟩
        clear hS2 hL2 HL'
        go_wp2_with fail
        go_roundw
        case rel => exact ⟨h + 1, y, ⟨by omega, by omega, hy⟩, by go_num, by go_num, hS3⟩
        case measure => simp [intOf]; omega
    · obtain rfl : x = y := by omega
      have hR : Hid (RowF wr g N (mvl f m m) ∧ Kept (· = g) w wr) := ⟨by rw [mvl_start]; exact hS.out.1, hS.out.2.1.kept⟩
      have hFin : Hid (Stp f (mvl f m x) a b ∧ Srt (mvl f m x) a b) := by
        refine ⟨Stp.mvl f hx hy hmb, ?_⟩
        rw [← H2.out]
        exact mvl_srt f H1.out hx hy hS.out.2.2.1 hS.out.2.2.2
      clear hS
      go_wp2_with fail
      go_loopw [17] (fun i wr => ∃ (k : Nat), (x ≤ k ∧ k ≤ m) ∧ i = .int .i64 k ∧ Hid (RowF wr g N (mvl f m k) ∧ Kept (· = g) w wr)) (fun i _ => (intOf i).toNat)
      case atStart => exact ⟨m, ⟨hy, by omega⟩, rfl, hR⟩
      case round =>
        clear hR
        obtain ⟨k, ⟨hak, hkq⟩, rfl, hS⟩ := hrel
        by_cases hkl : x < k
        · have l2 : (x : Int) < (k : Int) := by omega
          obtain ⟨p, hp⟩ : ∃ p, k - 1 = p := ⟨_, rfl⟩
          have ep : (k : Int) - 1 = (p : Int) := by omega
          have wp : IntKind.i64.wrap (p : Int) = (p : Int) := Go.IntWalk.i64_in _ (by omega)
          obtain ⟨fk, hfk⟩ : ∃ x, mvl f m k = x := ⟨_, rfl⟩
          have hN1 : Hid (swp fk k p = mvl f m p) := by rw [← hfk, ← hp]; exact mvl_next f m k hkq (by omega)
          rw [hfk] at hS
          have hbd : (x ≤ p ∧ p ≤ m) ∧ p < k := by omega
          have iL : k < N := by omega
          have jL : p < N := by omega
          have i0 : (0 : Int) ≤ (k : Int) := by omega
          have i1 : (k : Int) < (N : Int) := by omega
          have j0 : (0 : Int) ≤ (p : Int) := by omega
          have j1 : (p : Int) < (N : Int) := by omega
          have x0 := (hS.out.1).c0 iL
          have x1 := (hS.out.1).c1 iL
          have x2 := (hS.out.1).c0 jL
          have x3 := (hS.out.1).c1 jL
          have hR2 := ((hS.out.1).set iL (fk p).1 (fk p).2)
          have z0 := (hS.out.1).frozen (k * 2)
          have z1 := (hS.out.1).frozen (k * 2 + 1)
          have y0 := hR2.frozen (p * 2)
          have y1 := hR2.frozen (p * 2 + 1)
          have y2 := hR2.c0 jL
          have y3 := hR2.c1 jL
          obtain ⟨X2, hX2⟩ : ∃ X, (updR fk k ((fk p).1, (fk p).2) p).1 = X := ⟨_, rfl⟩
          obtain ⟨X3, hX3⟩ : ∃ X, (updR fk k ((fk p).1, (fk p).2) p).2 = X := ⟨_, rfl⟩
          rw [hX2] at y2
          rw [hX3] at y3
          clear hX2 hX3 hR2

          have hS5 : Hid (RowF (swpW wr g k p (fk p) (fk k)).drew g N (swp fk k p) ∧ Kept (· = g) w (swpW wr g k p (fk p) (fk k)).drew) :=
            ⟨(hS.out.1.swp iL jL).grew (Kept.refl _ _).drew, (hS.out.2.trans (swpW_kept _ _ _ _ _ _)).drew⟩
          rw [hN1.out] at hS5
          clear hS hN1 hfk
          obtain ⟨⟨p1, p2⟩, hP⟩ : ∃ e, fk k = e := ⟨_, rfl⟩
          obtain ⟨⟨q1, q2⟩, hQ⟩ : ∃ e, fk p = e := ⟨_, rfl⟩
          unfold swpW at hS5
          rw [hP, hQ] at hS5
          rw [hP] at x0 x1
          rw [hQ] at x2 x3 y0 y1 y2 y3
          simp only at x0 x1 x2 x3 y0 y1 y2 y3
          clear hP hQ
          go_upto_region 23 with fail
          refine wp_region_grow [15, 17] (fun _ => False) (by kernel_rfl) ?_
          simp only [List.size_toArray, List.length_cons, List.length_nil, Nat.reduceAdd]
          refine wpAnyG_pure 0 113 (v := ?_) rfl (by kernel_rfl) rfl (by rfl) (fun w' => ?_) ?_
          rotate_left
          · go_simp <;> with_reducible rfl
          simp only [List.setIfInBounds_toArray, List.set_cons_zero, List.set_cons_succ]
          refine wpAnyG_pure 1 114 (v := ?_) rfl (by kernel_rfl) rfl (by rfl) (fun w' => ?_) ?_
          rotate_left
          · go_simp <;> with_reducible rfl
          simp only [List.setIfInBounds_toArray, List.set_cons_zero, List.set_cons_succ]
          refine wpAnyG_pure 2 115 (v := ?_) rfl (by kernel_rfl) rfl (by rfl) (fun w' => ?_) ?_
          rotate_left
          · go_simp <;> with_reducible rfl
          simp only [List.setIfInBounds_toArray, List.set_cons_zero, List.set_cons_succ]
          refine wpAnyG_pure 3 116 (v := ?_) rfl (by kernel_rfl) rfl (by rfl) (fun w' => ?_) ?_
          rotate_left
          · go_simp <;> with_reducible rfl
          simp only [List.setIfInBounds_toArray, List.set_cons_zero, List.set_cons_succ]
          refine wpAnyG_pure 4 117 (v := ?_) rfl (by kernel_rfl) rfl (by rfl) (fun w' => ?_) ?_
          rotate_left
          · go_simp <;> with_reducible rfl
          simp only [List.setIfInBounds_toArray, List.set_cons_zero, List.set_cons_succ]
          refine wpAnyG_pure 5 118 (v := ?_) rfl (by kernel_rfl) rfl (by rfl) (fun w' => ?_) ?_
          rotate_left
          · go_simp <;> with_reducible rfl
          simp only [List.setIfInBounds_toArray, List.set_cons_zero, List.set_cons_succ]
          refine wpAnyG_pure 6 119 (v := ?_) rfl (by kernel_rfl) rfl (by rfl) (fun w' => ?_) ?_
          rotate_left
          · go_simp <;> with_reducible rfl
          simp only [List.setIfInBounds_toArray, List.set_cons_zero, List.set_cons_succ]
          refine wpAnyG_pure 7 120 (v := ?_) rfl (by kernel_rfl) rfl (by rfl) (fun w' => ?_) ?_
          rotate_left
          · go_simp <;> with_reducible rfl
          simp only [List.setIfInBounds_toArray, List.set_cons_zero, List.set_cons_succ]
          refine wpAnyG_pure 8 121 (v := ?_) rfl (by kernel_rfl) rfl (by rfl) (fun w' => ?_) ?_
          rotate_left
          · go_simp <;> with_reducible rfl
          simp only [List.setIfInBounds_toArray, List.set_cons_zero, List.set_cons_succ]
          refine wpAnyG_take 9 122 (v := ?_) rfl (by kernel_rfl) rfl (by rfl) (fun w' hG' => ?_) ?_
          rotate_left
          · have hx0 := Grew.cell hG' (show wr.drew.cell? _ = _ from x0)
            have hx1 := Grew.cell hG' (show wr.drew.cell? _ = _ from x1)
            have hx2 := Grew.cell hG' (show wr.drew.cell? _ = _ from x2)
            have hx3 := Grew.cell hG' (show wr.drew.cell? _ = _ from x3)
            go_simp <;> with_reducible rfl
          simp only [List.setIfInBounds_toArray, List.set_cons_zero, List.set_cons_succ]
          refine wpAnyG_pure 10 123 (v := ?_) rfl (by kernel_rfl) rfl (by rfl) (fun w' => ?_) ?_
          rotate_left
          · go_simp <;> with_reducible rfl
          simp only [List.setIfInBounds_toArray, List.set_cons_zero, List.set_cons_succ]
          refine wpAnyG_pure 11 124 (v := ?_) rfl (by kernel_rfl) rfl (by rfl) (fun w' => ?_) ?_
          rotate_left
          · go_simp <;> with_reducible rfl
          simp only [List.setIfInBounds_toArray, List.set_cons_zero, List.set_cons_succ]
          refine wpAnyG_pure 12 125 (v := ?_) rfl (by kernel_rfl) rfl (by rfl) (fun w' => ?_) ?_
          rotate_left
          · go_simp <;> with_reducible rfl
          simp only [List.setIfInBounds_toArray, List.set_cons_zero, List.set_cons_succ]
          refine wpAnyG_take 13 126 (v := ?_) rfl (by kernel_rfl) rfl (by rfl) (fun w' hG' => ?_) ?_
          rotate_left
          · have hx0 := Grew.cell hG' (show wr.drew.cell? _ = _ from x0)
            have hx1 := Grew.cell hG' (show wr.drew.cell? _ = _ from x1)
            have hx2 := Grew.cell hG' (show wr.drew.cell? _ = _ from x2)
            have hx3 := Grew.cell hG' (show wr.drew.cell? _ = _ from x3)
            go_simp <;> with_reducible rfl
          simp only [List.setIfInBounds_toArray, List.set_cons_zero, List.set_cons_succ]
          refine wpAnyG_pure 14 127 (v := ?_) rfl (by kernel_rfl) rfl (by rfl) (fun w' => ?_) ?_
          rotate_left
          · go_simp <;> with_reducible rfl
          simp only [List.setIfInBounds_toArray, List.set_cons_zero, List.set_cons_succ]
          refine wpAnyG_store 15 rfl (by kernel_rfl) rfl (by rfl) (fun K hK' => ?_)
          go_simp
          refine hK' _ (fun h => absurd (by simp) h) ?_
          clear hK'
          refine wpAnyG_pure 16 128 (v := ?_) rfl (by kernel_rfl) rfl (by rfl) (fun w' => ?_) ?_
          rotate_left
          · go_simp <;> with_reducible rfl
          simp only [List.setIfInBounds_toArray, List.set_cons_zero, List.set_cons_succ]
          refine wpAnyG_store 17 rfl (by kernel_rfl) rfl (by rfl) (fun K hK' => ?_)
          go_simp
          refine hK' _ (fun h => absurd (by simp) h) ?_
          clear hK'
          refine wpAnyG_done (by kernel_rfl) ?_
          go_wp2_with fail
          go_roundw
          case rel => exact ⟨p, hbd.1, by go_num, hS5⟩
          case measure => simp [intOf]; omega
        · obtain rfl : x = k := by omega
          have hR : Hid (RowF wr g N (mvl f m x) ∧ Kept (· = g) w wr ∧ Stp f (mvl f m x) a b ∧ Srt (mvl f m x) a b) := ⟨hS.out.1, hS.out.2, hFin.out⟩
          clear hS hFin
          go_wp2_with fail
          try simp only [Exit.inBlock, Exit.then]
          refine bodyPost_ret (results_none rfl _ _ _) rfl ?_
          exact ⟨rfl, _, hR.out⟩
end Go.Proofs.Ythbcgdogmkgebaa
