/- The law GraphTurns. -/
import Derived.Test.YtiialiifjhgcmaaDeg
import Derived.Test.YtiialiifjhgcmaaLight
namespace Go.Proofs.Ytiialiifjhgcmaa
open Go.RowKit

theorem deg_turn (n : Int) (A : Option Addr) (c : Nat) (es : List Edg) (w : World) (h : RowE w A es) (hl : es.length ≤ 100000) (D1 D2 : List Int) (h1 : (if rightF n es = 0 then degL (fun e => e.1) es n.toNat else []) = D1) (h2 : (if rightF n es = 0 then degL (fun e => e.2.1) es n.toNat else []) = D2) :
    Calls Try.prog 16 #[.agg #[i64 n, .slice A es.length c]] w fun e w' => ∃ A c B d, e = .returned (.tuple #[.slice A D1.length c, .slice B D2.length d]) ∧ RowI w' A D1 ∧ RowI w' B D2 ∧ Grew w w' := by
  subst h1; subst h2
  exact deg_any n A c es w h hl
theorem refDeg_turn (n : Int) (A : Option Addr) (c : Nat) (es : List Edg) (w : World) (h : RowE w A es) (hl : es.length ≤ 100000) (D1 D2 : List Int) (h1 : (if rightF n es = 0 then degL (fun e => e.1) es n.toNat else []) = D1) (h2 : (if rightF n es = 0 then degL (fun e => e.2.1) es n.toNat else []) = D2) :
    Calls Try.prog 17 #[.agg #[i64 n, .slice A es.length c]] w fun e w' => ∃ A c B d, e = .returned (.tuple #[.slice A D1.length c, .slice B D2.length d]) ∧ RowI w' A D1 ∧ RowI w' B D2 ∧ Grew w w' := by
  subst h1; subst h2
  exact refDeg_any n A c es w h hl
theorem deg_len (n : Int) (es : List Edg) (f : Edg → Int) : (if rightF n es = 0 then degL f es n.toNat else []).length ≤ 100000 := by
  by_cases hr : rightF n es = 0
  · rw [if_pos hr]
    have := (right_zero hr).2.1
    simp [degL]; omega
  · rw [if_neg hr]; simp

set_option maxHeartbeats 4000000 in
set_option maxRecDepth 100000 in
theorem turns_yes (n : Int) (A : Option Addr) (c : Nat) (es : List Edg) (w : World) (hRow : RowE w A es) (hl : es.length ≤ 300) (hn : n ≤ 100 ∨ 4096 < n) :
    Calls Try.prog 4 #[.agg #[i64 n, .slice A es.length c]] w fun e w' => e = .returned (.bool true) ∧ Grew w w' := by
  have hA := Lib.hid alive_any
  have hLA := Lib.hid (fun W => light_yes n A es.length c W hn hl)
  have hV := Lib.hid (fun W h => reverse_any n A c es W h (by omega))
  have hVR := Lib.hid (fun W h => refReverse_any n A c es W h (by omega))
  have hT := Lib.hid (fun W h => total_any n A c es W h (by omega))
  have hTR := Lib.hid (fun W h => refTotal_any n A c es W h (by omega))
  obtain ⟨D1, hD1⟩ : ∃ D, (if rightF n es = 0 then degL (fun e => e.1) es n.toNat else []) = D := ⟨_, rfl⟩
  obtain ⟨D2, hD2⟩ : ∃ D, (if rightF n es = 0 then degL (fun e => e.2.1) es n.toNat else []) = D := ⟨_, rfl⟩
  have hDl1 : D1.length ≤ 100000 := by rw [← hD1]; exact deg_len n es _
  have hDl2 : D2.length ≤ 100000 := by rw [← hD2]; exact deg_len n es _
  have hDg := Lib.hid (fun W h => deg_turn n A c es W h (by omega) D1 D2 hD1 hD2)
  have hDr := Lib.hid (fun W h => refDeg_turn n A c es W h (by omega) D1 D2 hD1 hD2)
  have hI1 : Hid (∀ W A c A' c', RowI W A D1 → RowI W A' D1 → Calls Try.prog 22 #[.slice A D1.length c, .slice A' D1.length c'] W fun e w' => e = .returned (.bool true) ∧ Grew W w') := by
    intro W A c A' c' h h'
    have hh := sameI_any A A' c c' D1 D1 W h h' hDl1 hDl1
    simpa using hh
  have hI2 : Hid (∀ W A c A' c', RowI W A D2 → RowI W A' D2 → Calls Try.prog 22 #[.slice A D2.length c, .slice A' D2.length c'] W fun e w' => e = .returned (.bool true) ∧ Grew W w') := by
    intro W A c A' c' h h'
    have hh := sameI_any A A' c c' D2 D2 W h h' hDl2 hDl2
    simpa using hh
  obtain ⟨E1, hE1⟩ : ∃ D, (if rightF n es = 0 then es.map swp else []) = D := ⟨_, rfl⟩
  obtain ⟨m, hm⟩ : ∃ m, (if rightF n es = 0 then n else 0) = m := ⟨_, rfl⟩
  have hEl : E1.length ≤ 100000 := by
    rw [← hE1]
    by_cases hr : rightF n es = 0
    · rw [if_pos hr]; simp; omega
    · rw [if_neg hr]; simp
  obtain ⟨t, ht⟩ : ∃ t, totalF n es = t := ⟨_, rfl⟩
  rw [hE1, hm] at hV hVR
  rw [ht] at hT hTR
  have hS : Hid (∀ W A c A' c', RowE W A E1 → RowE W A' E1 → Calls Try.prog 14 #[.agg #[i64 m, .slice A E1.length c], .agg #[i64 m, .slice A' E1.length c']] W fun e w' => e = .returned (.bool true) ∧ Grew W w') := by
    intro W A c A' c' h h'
    have hh := refSame_any m m A A' c c' E1 E1 W h h' hEl hEl
    simpa using hh
  clear hE1 hm ht hD1 hD2
  obtain ⟨L, hL⟩ : ∃ L, es.length = L := ⟨_, rfl⟩
  obtain ⟨L1, hL1⟩ : ∃ L, D1.length = L := ⟨_, rfl⟩
  obtain ⟨L2, hL2⟩ : ∃ L, D2.length = L := ⟨_, rfl⟩
  obtain ⟨LE, hLE⟩ : ∃ L, E1.length = L := ⟨_, rfl⟩
  have HE := Lib.hid hLE
  rw [hL] at hl hLA hV hVR hT hTR hDg hDr
  rw [hL1] at hDg hDr hI1
  rw [hL2] at hDg hDr hI2
  rw [hLE] at hS
  rw [hL]
  clear hn hL hL1 hL2 hLE hDl1 hDl2 hEl
  have bA := Blk.new w 24 #[i64 n, .slice A L c]
  have hK0 : Grew w (w.alloc (.cells #[i64 n, .slice A L c] 24)) := (Kept.refl _ _).alloc _
  have eA := Lib.hid (hRow.grew hK0)
  clear hRow
  have c0 := bA.cell 0
  have c1 := bA.cell 1
  simp at c0 c1
  go_enter Try.func4, Try.ntmps4
  go_wp2_with fail
  refine (hLA.out _).mono ?_
  rintro e wa ⟨rfl, ka⟩
  replace bA := bA.grew ka
  replace eA := Lib.hid (eA.out.grew ka)
  replace c0 := bA.cell 0
  replace c1 := bA.cell 1
  simp at c0 c1
  go_wp2_with fail
  refine (hDg.out _ eA.out).mono ?_
  rintro e wb ⟨A1, q1, A2, q2, rfl, r1, r2, kb⟩
  replace bA := bA.grew kb
  replace eA := Lib.hid (eA.out.grew kb)
  replace c0 := bA.cell 0
  replace c1 := bA.cell 1
  replace r1 := Lib.hid r1
  replace r2 := Lib.hid r2
  simp at c0 c1
  go_wp2_with fail
  refine (hDr.out _ eA.out).mono ?_
  rintro e wd ⟨A3, q3, A4, q4, rfl, r3, r4, kd⟩
  have bA0 := (bA.grew kd).drew
  have eA0 := Lib.hid ((eA.out.grew kd).grew (Kept.refl _ _).drew)
  replace r1 := Lib.hid ((r1.out.grew kd).grew (Kept.refl _ _).drew)
  replace r2 := Lib.hid ((r2.out.grew kd).grew (Kept.refl _ _).drew)
  replace r3 := Lib.hid (r3.grew (Kept.refl _ _).drew)
  replace r4 := Lib.hid (r4.grew (Kept.refl _ _).drew)
  have hKb := (((hK0.trans ka).trans kb).trans kd).drew
  clear c0 c1 bA eA hLA hDg hDr
  go_wp2_with fail
  refine wp_region_grow [] (fun _ => False) (by kernel_rfl) ?_
  simp only [List.size_toArray, List.length_cons, List.length_nil, Nat.reduceAdd]
  refine wpAnyG_take 0 21 (v := ?_) rfl (by kernel_rfl) rfl (by rfl) (fun w' hG' => ?_) ?_
  rotate_left
  · have hx0 := (bA0.grew hG').cell 0
    have hx1 := (bA0.grew hG').cell 1
    simp at hx0 hx1
    go_simp <;> with_reducible rfl
  simp only [List.setIfInBounds_toArray, List.set_cons_zero, List.set_cons_succ]
  refine wpAnyG_take 2 23 (v := ?_) rfl (by kernel_rfl) rfl (by rfl) (fun w' hG' => ?_) ?_
  rotate_left
  · have hx0 := (bA0.grew hG').cell 0
    have hx1 := (bA0.grew hG').cell 1
    simp at hx0 hx1
    go_simp <;> with_reducible rfl
  simp only [List.setIfInBounds_toArray, List.set_cons_zero, List.set_cons_succ]
  refine wpAnyG_step 1 22 rfl (by kernel_rfl) rfl (by rfl) (fun K hK' => ?_)
  go_simp
  refine (hV.out _ eA0.out).mono ?_
  rintro e z1 ⟨v1, rfl, o1, k1⟩
  have bA1 := bA0.grew k1
  have eA1 := Lib.hid (eA0.out.grew k1)
  replace r1 := Lib.hid (r1.out.grew k1)
  replace r2 := Lib.hid (r2.out.grew k1)
  replace r3 := Lib.hid (r3.out.grew k1)
  replace r4 := Lib.hid (r4.out.grew k1)
  obtain ⟨X1, y1, hv1, x1⟩ := o1.row
  subst hv1
  rw [HE.out]
  replace x1 := Lib.hid x1
  clear o1
  refine hK' _ _ (fun _ => k1) ?_
  clear hK'
  simp only [List.setIfInBounds_toArray, List.set_cons_zero, List.set_cons_succ]
  refine wpAnyG_step 3 24 rfl (by kernel_rfl) rfl (by rfl) (fun K hK' => ?_)
  go_simp
  refine (hVR.out _ eA1.out).mono ?_
  rintro e z2 ⟨v2, rfl, o2, k2⟩
  have bA2 := bA1.grew k2
  have eA2 := Lib.hid (eA1.out.grew k2)
  replace r1 := Lib.hid (r1.out.grew k2)
  replace r2 := Lib.hid (r2.out.grew k2)
  replace r3 := Lib.hid (r3.out.grew k2)
  replace r4 := Lib.hid (r4.out.grew k2)
  replace x1 := Lib.hid (x1.out.grew k2)
  obtain ⟨X2, y2, hv2, x2⟩ := o2.row
  subst hv2
  rw [HE.out]
  replace x2 := Lib.hid x2
  clear o2
  refine hK' _ _ (fun _ => k2) ?_
  clear hK'
  simp only [List.setIfInBounds_toArray, List.set_cons_zero, List.set_cons_succ]
  refine wpAnyG_step 4 25 rfl (by kernel_rfl) rfl (by rfl) (fun K hK' => ?_)
  go_simp
  refine (hS.out _ _ _ _ _ x1.out x2.out).mono ?_
  rintro e z3 ⟨rfl, k3⟩
  have bA3 := bA2.grew k3
  have eA3 := Lib.hid (eA2.out.grew k3)
  replace r1 := Lib.hid (r1.out.grew k3)
  replace r2 := Lib.hid (r2.out.grew k3)
  replace r3 := Lib.hid (r3.out.grew k3)
  replace r4 := Lib.hid (r4.out.grew k3)
  replace x1 := Lib.hid (x1.out.grew k3)
  replace x2 := Lib.hid (x2.out.grew k3)
  refine hK' _ _ (fun _ => k3) ?_
  clear hK'
  simp only [List.setIfInBounds_toArray, List.set_cons_zero, List.set_cons_succ]
  refine wpAnyG_pure 5 26 (v := ?_) rfl (by kernel_rfl) rfl (by rfl) (fun w' => ?_) ?_
  rotate_left
  · go_simp <;> with_reducible rfl
  simp only [List.setIfInBounds_toArray, List.set_cons_zero, List.set_cons_succ]
  refine wpAnyG_take 6 27 (v := ?_) rfl (by kernel_rfl) rfl (by rfl) (fun w' hG' => ?_) ?_
  rotate_left
  · have hx0 := (bA3.grew hG').cell 0
    have hx1 := (bA3.grew hG').cell 1
    simp at hx0 hx1
    go_simp <;> with_reducible rfl
  simp only [List.setIfInBounds_toArray, List.set_cons_zero, List.set_cons_succ]
  refine wpAnyG_take 8 29 (v := ?_) rfl (by kernel_rfl) rfl (by rfl) (fun w' hG' => ?_) ?_
  rotate_left
  · have hx0 := (bA3.grew hG').cell 0
    have hx1 := (bA3.grew hG').cell 1
    simp at hx0 hx1
    go_simp <;> with_reducible rfl
  simp only [List.setIfInBounds_toArray, List.set_cons_zero, List.set_cons_succ]
  refine wpAnyG_step 7 28 rfl (by kernel_rfl) rfl (by rfl) (fun K hK' => ?_)
  go_simp
  refine (hT.out _ eA3.out).mono ?_
  rintro e z4 ⟨rfl, k4⟩
  have bA4 := bA3.grew k4
  have eA4 := Lib.hid (eA3.out.grew k4)
  replace r1 := Lib.hid (r1.out.grew k4)
  replace r2 := Lib.hid (r2.out.grew k4)
  replace r3 := Lib.hid (r3.out.grew k4)
  replace r4 := Lib.hid (r4.out.grew k4)
  refine hK' _ _ (fun _ => k4) ?_
  clear hK'
  simp only [List.setIfInBounds_toArray, List.set_cons_zero, List.set_cons_succ]
  refine wpAnyG_step 9 30 rfl (by kernel_rfl) rfl (by rfl) (fun K hK' => ?_)
  go_simp
  refine (hTR.out _ eA4.out).mono ?_
  rintro e z5 ⟨rfl, k5⟩
  have bA5 := bA4.grew k5
  have eA5 := Lib.hid (eA4.out.grew k5)
  replace r1 := Lib.hid (r1.out.grew k5)
  replace r2 := Lib.hid (r2.out.grew k5)
  replace r3 := Lib.hid (r3.out.grew k5)
  replace r4 := Lib.hid (r4.out.grew k5)
  refine hK' _ _ (fun _ => k5) ?_
  clear hK'
  simp only [List.setIfInBounds_toArray, List.set_cons_zero, List.set_cons_succ]
  refine wpAnyG_pure 10 31 (v := ?_) rfl (by kernel_rfl) rfl (by rfl) (fun w' => ?_) ?_
  rotate_left
  · go_simp <;> with_reducible rfl
  simp only [List.setIfInBounds_toArray, List.set_cons_zero, List.set_cons_succ]
  refine wpAnyG_pure 11 32 (v := ?_) rfl (by kernel_rfl) rfl (by rfl) (fun w' => ?_) ?_
  rotate_left
  · go_simp <;> with_reducible rfl
  simp only [List.setIfInBounds_toArray, List.set_cons_zero, List.set_cons_succ]
  refine wpAnyG_pure 12 33 (v := ?_) rfl (by kernel_rfl) rfl (by rfl) (fun w' => ?_) ?_
  rotate_left
  · go_simp <;> with_reducible rfl
  simp only [List.setIfInBounds_toArray, List.set_cons_zero, List.set_cons_succ]
  refine wpAnyG_pure 13 34 (v := ?_) rfl (by kernel_rfl) rfl (by rfl) (fun w' => ?_) ?_
  rotate_left
  · go_simp <;> with_reducible rfl
  simp only [List.setIfInBounds_toArray, List.set_cons_zero, List.set_cons_succ]
  refine wpAnyG_pure 14 35 (v := ?_) rfl (by kernel_rfl) rfl (by rfl) (fun w' => ?_) ?_
  rotate_left
  · go_simp <;> with_reducible rfl
  simp only [List.setIfInBounds_toArray, List.set_cons_zero, List.set_cons_succ]
  refine wpAnyG_step 15 36 rfl (by kernel_rfl) rfl (by rfl) (fun K hK' => ?_)
  go_simp
  refine (hI1.out _ _ _ _ _ r1.out r3.out).mono ?_
  rintro e z6 ⟨rfl, k6⟩
  have bA6 := bA5.grew k6
  have eA6 := Lib.hid (eA5.out.grew k6)
  replace r1 := Lib.hid (r1.out.grew k6)
  replace r2 := Lib.hid (r2.out.grew k6)
  replace r3 := Lib.hid (r3.out.grew k6)
  replace r4 := Lib.hid (r4.out.grew k6)
  refine hK' _ _ (fun _ => k6) ?_
  clear hK'
  simp only [List.setIfInBounds_toArray, List.set_cons_zero, List.set_cons_succ]
  refine wpAnyG_pure 16 37 (v := ?_) rfl (by kernel_rfl) rfl (by rfl) (fun w' => ?_) ?_
  rotate_left
  · go_simp <;> with_reducible rfl
  simp only [List.setIfInBounds_toArray, List.set_cons_zero, List.set_cons_succ]
  refine wpAnyG_pure 17 38 (v := ?_) rfl (by kernel_rfl) rfl (by rfl) (fun w' => ?_) ?_
  rotate_left
  · go_simp <;> with_reducible rfl
  simp only [List.setIfInBounds_toArray, List.set_cons_zero, List.set_cons_succ]
  refine wpAnyG_pure 18 39 (v := ?_) rfl (by kernel_rfl) rfl (by rfl) (fun w' => ?_) ?_
  rotate_left
  · go_simp <;> with_reducible rfl
  simp only [List.setIfInBounds_toArray, List.set_cons_zero, List.set_cons_succ]
  refine wpAnyG_pure 19 40 (v := ?_) rfl (by kernel_rfl) rfl (by rfl) (fun w' => ?_) ?_
  rotate_left
  · go_simp <;> with_reducible rfl
  simp only [List.setIfInBounds_toArray, List.set_cons_zero, List.set_cons_succ]
  refine wpAnyG_step 20 41 rfl (by kernel_rfl) rfl (by rfl) (fun K hK' => ?_)
  go_simp
  refine (hI2.out _ _ _ _ _ r2.out r4.out).mono ?_
  rintro e z7 ⟨rfl, k7⟩
  have bA7 := bA6.grew k7
  have eA7 := Lib.hid (eA6.out.grew k7)
  replace r1 := Lib.hid (r1.out.grew k7)
  replace r2 := Lib.hid (r2.out.grew k7)
  replace r3 := Lib.hid (r3.out.grew k7)
  replace r4 := Lib.hid (r4.out.grew k7)
  refine hK' _ _ (fun _ => k7) ?_
  clear hK'
  simp only [List.setIfInBounds_toArray, List.set_cons_zero, List.set_cons_succ]
  refine wpAnyG_pure 21 42 (v := ?_) rfl (by kernel_rfl) rfl (by rfl) (fun w' => ?_) ?_
  rotate_left
  · go_simp <;> with_reducible rfl
  simp only [List.setIfInBounds_toArray, List.set_cons_zero, List.set_cons_succ]
  refine wpAnyG_pure 22 43 (v := ?_) rfl (by kernel_rfl) rfl (by rfl) (fun w' => ?_) ?_
  rotate_left
  · go_simp <;> with_reducible rfl
  simp only [List.setIfInBounds_toArray, List.set_cons_zero, List.set_cons_succ]
  refine wpAnyG_step 23 44 rfl (by kernel_rfl) rfl (by rfl) (fun K hK' => ?_)
  go_simp
  refine (hA.out _).mono ?_
  rintro e z8 ⟨rfl, k8⟩
  have bA8 := bA7.grew k8
  have eA8 := Lib.hid (eA7.out.grew k8)
  replace r1 := Lib.hid (r1.out.grew k8)
  replace r2 := Lib.hid (r2.out.grew k8)
  replace r3 := Lib.hid (r3.out.grew k8)
  replace r4 := Lib.hid (r4.out.grew k8)
  refine hK' _ _ (fun _ => k8) ?_
  clear hK'
  simp only [List.setIfInBounds_toArray, List.set_cons_zero, List.set_cons_succ]
  refine wpAnyG_pure 24 45 (v := ?_) rfl (by kernel_rfl) rfl (by rfl) (fun w' => ?_) ?_
  rotate_left
  · go_simp <;> with_reducible rfl
  simp only [List.setIfInBounds_toArray, List.set_cons_zero, List.set_cons_succ]
  refine wpAnyG_pure 25 2 (v := ?_) rfl (by kernel_rfl) rfl (by rfl) (fun w' => ?_) ?_
  rotate_left
  · go_simp <;> with_reducible rfl
  simp only [List.setIfInBounds_toArray, List.set_cons_zero, List.set_cons_succ]
  refine wpAnyG_done (by kernel_rfl) ?_
  go_wp2_with fail
  go_ret
  exact ⟨rfl, (((((((hKb.trans k1).trans k2).trans k3).trans k4).trans k5).trans k6).trans k7).trans k8⟩

theorem turns_law (n : Int) (A : Option Addr) (c : Nat) (es : List Edg) (w : World) (hRow : RowE w A es) (hl : es.length ≤ 9223372036854775807) :
    Calls Try.prog 4 #[.agg #[i64 n, .slice A es.length c]] w fun e w' => e = .returned (.bool true) ∧ Grew w w' := by
  by_cases h1 : (n ≤ 100 ∨ 4096 < n) ∧ es.length ≤ 300
  · exact turns_yes n A c es w hRow h1.2 h1.1
  · have hA := Lib.hid alive_any
    have hLA := Lib.hid (fun W => light_no n A es.length c W hl h1)
    clear hRow h1 hl
    obtain ⟨L, hL⟩ : ∃ L, es.length = L := ⟨_, rfl⟩
    rw [hL] at hLA
    rw [hL]
    clear hL
    have hK0 : Grew w (w.alloc (.cells #[i64 n, .slice A L c] 24)) := (Kept.refl _ _).alloc _
    go_enter Try.func4, Try.ntmps4
    go_wp2_with fail
    refine (hLA.out _).mono ?_
    rintro e wa ⟨rfl, ka⟩
    go_wp2_with fail
    refine (hA.out _).mono ?_
    rintro e wc ⟨rfl, kc⟩
    go_wp2_with fail
    go_ret
    exact ⟨rfl, (hK0.trans ka).trans kc⟩
end Go.Proofs.Ytiialiifjhgcmaa
