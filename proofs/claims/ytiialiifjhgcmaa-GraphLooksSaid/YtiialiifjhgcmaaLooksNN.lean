/- The law GraphLooks: case nn. -/
import Derived.Test.YtiialiifjhgcmaaLight
namespace Go.Proofs.Ytiialiifjhgcmaa
open Go.RowKit

set_option maxHeartbeats 4000000 in
set_option maxRecDepth 100000 in
theorem looks_nn (n m v x : Int) (A B : Option Addr) (c d : Nat) (es fs : List Edg) (w : World) (hRow : RowE w A es) (hRow' : RowE w B fs) (hl : es.length ≤ 300) (hl' : fs.length ≤ 300)
    (hn : n ≤ 100 ∨ 4096 < n) (hm : m ≤ 100 ∨ 4096 < m) (hv : v < 0) (hx : x < 0) :
    Calls Try.prog 3 #[.agg #[i64 n, .slice A es.length c], .agg #[i64 m, .slice B fs.length d], i64 v, i64 x] w fun e w' => e = .returned (.bool true) ∧ Grew w w' := by
  have hA := Lib.hid alive_any
  have hLA := Lib.hid (fun W => light_yes n A es.length c W hn hl)
  have hLB := Lib.hid (fun W => light_yes m B fs.length d W hm hl')
  have hRA := Lib.hid (fun W h => right_any n A c es W h (by omega))
  have hSA := Lib.hid (fun W h => refRight_any n A c es W h (by omega))
  have hN := Lib.hid (fun W => node_any n A es.length c v W)
  have hEd := Lib.hid (fun W => edge_any n A es.length c x W (by omega))
  have hS1 := Lib.hid (fun W h h' => same_any n m A B c d es fs W h h' (by omega) (by omega))
  have hS2 := Lib.hid (fun W h h' => refSame_any n m A B c d es fs W h h' (by omega) (by omega))
  have hCl := Lib.hid (fun W h => clone_any n A c es W h (by omega))
  have hS3 : Hid (∀ W A' c', RowE W A' es → RowE W A es → Calls Try.prog 14 #[.agg #[i64 n, .slice A' es.length c'], .agg #[i64 n, .slice A es.length c]] W fun e w' => e = .returned (.bool true) ∧ Grew W w') := by
    intro W A' c' h h'
    have hh := refSame_any n n A' A c' c es es W h h' (by omega) (by omega)
    simpa using hh
  obtain ⟨f, hf⟩ : ∃ f, rightF n es = f := ⟨_, rfl⟩
  obtain ⟨s, hs⟩ : ∃ s, decide (n = m ∧ es = fs) = s := ⟨_, rfl⟩
  rw [hf] at hRA hSA
  rw [hs] at hS1 hS2
  clear hf hs
  obtain ⟨L, hL⟩ : ∃ L, es.length = L := ⟨_, rfl⟩
  obtain ⟨M, hM⟩ : ∃ M, fs.length = M := ⟨_, rfl⟩
  have HL := Lib.hid hL
  rw [hL] at hl hLA hRA hSA hN hEd hS1 hS2 hCl hS3
  rw [hM] at hl' hLB hS1 hS2
  rw [hL, hM]
  have hnv : Hid (decide (0 ≤ v ∧ v < n) = false) := by show _ = _; simp; omega
  have hne : Hid (decide (0 ≤ x ∧ x < (L : Int)) = false) := by show _ = _; simp; omega
  clear hL hM hn hm
  have hv2 : decide (0 ≤ v) = false := decide_eq_false (by omega)
  have hx2 : decide (0 ≤ x) = false := decide_eq_false (by omega)
  have bA := (Blk.new w 24 #[i64 n, .slice A L c]).alloc (.cells #[i64 m, .slice B M d] 24)
  have bB := Blk.new (w.alloc (.cells #[i64 n, .slice A L c] 24)) 24 #[i64 m, .slice B M d]
  rw [World.size_alloc] at bB
  have hK0 : Grew w ((w.alloc (.cells #[i64 n, .slice A L c] 24)).alloc (.cells #[i64 m, .slice B M d] 24)) := ((Kept.refl _ _).alloc _).alloc _
  have eA := Lib.hid (hRow.grew hK0)
  have eB := Lib.hid (hRow'.grew hK0)
  clear hRow hRow'
  have c0 := bA.cell 0
  have c1 := bA.cell 1
  have c2 := bB.cell 0
  have c3 := bB.cell 1
  simp at c0 c1 c2 c3
  go_enter Try.func3, Try.ntmps3
  go_wp2_with fail
  refine (hLA.out _).mono ?_
  rintro e wa ⟨rfl, ka⟩
  replace bA := bA.grew ka
  replace bB := bB.grew ka
  replace eA := Lib.hid (eA.out.grew ka)
  replace eB := Lib.hid (eB.out.grew ka)
  replace c0 := bA.cell 0
  replace c1 := bA.cell 1
  replace c2 := bB.cell 0
  replace c3 := bB.cell 1
  simp at c0 c1 c2 c3
  go_wp2_with fail
  refine (hLB.out _).mono ?_
  rintro e wb ⟨rfl, kb⟩
  have bA0 := (bA.grew kb).drew
  have bB0 := (bB.grew kb).drew
  have eA0 := Lib.hid ((eA.out.grew kb).grew (Kept.refl _ _).drew)
  have eB0 := Lib.hid ((eB.out.grew kb).grew (Kept.refl _ _).drew)
  have hKb := ((hK0.trans ka).trans kb).drew
  clear c0 c1 c2 c3 bA bB eA eB hLA hLB
  go_wp2_with fail
  refine wp_region_grow [] (fun _ => False) (by kernel_rfl) ?_
  simp only [List.size_toArray, List.length_cons, List.length_nil, Nat.reduceAdd]
  refine wpAnyG_take 0 18 (v := ?_) rfl (by kernel_rfl) rfl (by rfl) (fun w' hG' => ?_) ?_
  rotate_left
  · have hx0 := (bA0.grew hG').cell 0
    have hx1 := (bA0.grew hG').cell 1
    have hx2 := (bB0.grew hG').cell 0
    have hx3 := (bB0.grew hG').cell 1
    simp at hx0 hx1 hx2 hx3
    go_simp <;> with_reducible rfl
  simp only [List.setIfInBounds_toArray, List.set_cons_zero, List.set_cons_succ]
  refine wpAnyG_take 2 20 (v := ?_) rfl (by kernel_rfl) rfl (by rfl) (fun w' hG' => ?_) ?_
  rotate_left
  · have hx0 := (bA0.grew hG').cell 0
    have hx1 := (bA0.grew hG').cell 1
    have hx2 := (bB0.grew hG').cell 0
    have hx3 := (bB0.grew hG').cell 1
    simp at hx0 hx1 hx2 hx3
    go_simp <;> with_reducible rfl
  simp only [List.setIfInBounds_toArray, List.set_cons_zero, List.set_cons_succ]
  refine wpAnyG_step 1 19 rfl (by kernel_rfl) rfl (by rfl) (fun K hK' => ?_)
  go_simp
  refine (hRA.out _ eA0.out).mono ?_
  rintro e w1 ⟨rfl, k1⟩
  have bA1 := bA0.grew k1
  have bB1 := bB0.grew k1
  have eA1 := Lib.hid (eA0.out.grew k1)
  have eB1 := Lib.hid (eB0.out.grew k1)
  refine hK' _ _ (fun _ => k1) ?_
  clear hK'
  simp only [List.setIfInBounds_toArray, List.set_cons_zero, List.set_cons_succ]
  refine wpAnyG_step 3 21 rfl (by kernel_rfl) rfl (by rfl) (fun K hK' => ?_)
  go_simp
  refine (hSA.out _ eA1.out).mono ?_
  rintro e w2 ⟨rfl, k2⟩
  have bA2 := bA1.grew k2
  have bB2 := bB1.grew k2
  have eA2 := Lib.hid (eA1.out.grew k2)
  have eB2 := Lib.hid (eB1.out.grew k2)
  refine hK' _ _ (fun _ => k2) ?_
  clear hK'
  simp only [List.setIfInBounds_toArray, List.set_cons_zero, List.set_cons_succ]
  refine wpAnyG_pure 4 22 (v := ?_) rfl (by kernel_rfl) rfl (by rfl) (fun w' => ?_) ?_
  rotate_left
  · go_simp <;> with_reducible rfl
  simp only [List.setIfInBounds_toArray, List.set_cons_zero, List.set_cons_succ]
  refine wpAnyG_pure 5 23 (v := ?_) rfl (by kernel_rfl) rfl (by rfl) (fun w' => ?_) ?_
  rotate_left
  · go_simp <;> with_reducible rfl
  simp only [List.setIfInBounds_toArray, List.set_cons_zero, List.set_cons_succ]
  refine wpAnyG_take 6 24 (v := ?_) rfl (by kernel_rfl) rfl (by rfl) (fun w' hG' => ?_) ?_
  rotate_left
  · have hx0 := (bA2.grew hG').cell 0
    have hx1 := (bA2.grew hG').cell 1
    have hx2 := (bB2.grew hG').cell 0
    have hx3 := (bB2.grew hG').cell 1
    simp at hx0 hx1 hx2 hx3
    go_simp <;> with_reducible rfl
  simp only [List.setIfInBounds_toArray, List.set_cons_zero, List.set_cons_succ]
  refine wpAnyG_pure 7 25 (v := ?_) rfl (by kernel_rfl) rfl (by rfl) (fun w' => ?_) ?_
  rotate_left
  · go_simp <;> with_reducible rfl
  simp only [List.setIfInBounds_toArray, List.set_cons_zero, List.set_cons_succ]
  refine wpAnyG_pure 9 27 (v := ?_) rfl (by kernel_rfl) rfl (by rfl) (fun w' => ?_) ?_
  rotate_left
  · go_simp <;> with_reducible rfl
  simp only [List.setIfInBounds_toArray, List.set_cons_zero, List.set_cons_succ]
  refine wpAnyG_pure 10 28 (v := ?_) rfl (by kernel_rfl) rfl (by rfl) (fun w' => ?_) ?_
  rotate_left
  · go_simp <;> with_reducible rfl
  simp only [List.setIfInBounds_toArray, List.set_cons_zero, List.set_cons_succ]
  refine wpAnyG_step 8 26 rfl (by kernel_rfl) rfl (by rfl) (fun K hK' => ?_)
  go_simp
  refine (hN.out _).mono ?_
  rintro e w3 ⟨rfl, k3⟩
  rw [hnv.out]
  have bA3 := bA2.grew k3
  have bB3 := bB2.grew k3
  have eA3 := Lib.hid (eA2.out.grew k3)
  have eB3 := Lib.hid (eB2.out.grew k3)
  refine hK' _ _ (fun _ => k3) ?_
  clear hK'
  simp only [List.setIfInBounds_toArray, List.set_cons_zero, List.set_cons_succ]
  refine wpAnyG_pure 11 29 (v := ?_) rfl (by kernel_rfl) rfl (by rfl) (fun w' => ?_) ?_
  rotate_left
  · go_simp <;> with_reducible rfl
  simp only [List.setIfInBounds_toArray, List.set_cons_zero, List.set_cons_succ]
  refine wpAnyG_pass 12 30 rfl (by kernel_rfl) rfl (by rfl) ?_
  simp only [List.setIfInBounds_toArray, List.set_cons_zero, List.set_cons_succ]
  refine wpAnyG_pass 13 31 rfl (by kernel_rfl) rfl (by rfl) ?_
  simp only [List.setIfInBounds_toArray, List.set_cons_zero, List.set_cons_succ]
  refine wpAnyG_pass 14 32 rfl (by kernel_rfl) rfl (by rfl) ?_
  simp only [List.setIfInBounds_toArray, List.set_cons_zero, List.set_cons_succ]
  refine wpAnyG_pass 15 33 rfl (by kernel_rfl) rfl (by rfl) ?_
  simp only [List.setIfInBounds_toArray, List.set_cons_zero, List.set_cons_succ]
  refine wpAnyG_pure 16 34 (v := ?_) rfl (by kernel_rfl) rfl (by rfl) (fun w' => ?_) ?_
  rotate_left
  · go_simp <;> with_reducible rfl
  simp only [List.setIfInBounds_toArray, List.set_cons_zero, List.set_cons_succ]
  refine wpAnyG_pure 17 35 (v := ?_) rfl (by kernel_rfl) rfl (by rfl) (fun w' => ?_) ?_
  rotate_left
  · go_simp <;> with_reducible rfl
  simp only [List.setIfInBounds_toArray, List.set_cons_zero, List.set_cons_succ]
  refine wpAnyG_pure 18 36 (v := ?_) rfl (by kernel_rfl) rfl (by rfl) (fun w' => ?_) ?_
  rotate_left
  · go_simp <;> with_reducible rfl
  simp only [List.setIfInBounds_toArray, List.set_cons_zero, List.set_cons_succ]
  refine wpAnyG_pure 19 37 (v := ?_) rfl (by kernel_rfl) rfl (by rfl) (fun w' => ?_) ?_
  rotate_left
  · go_simp <;> with_reducible rfl
  simp only [List.setIfInBounds_toArray, List.set_cons_zero, List.set_cons_succ]
  refine wpAnyG_take 20 38 (v := ?_) rfl (by kernel_rfl) rfl (by rfl) (fun w' hG' => ?_) ?_
  rotate_left
  · have hx0 := (bA3.grew hG').cell 0
    have hx1 := (bA3.grew hG').cell 1
    have hx2 := (bB3.grew hG').cell 0
    have hx3 := (bB3.grew hG').cell 1
    simp at hx0 hx1 hx2 hx3
    go_simp <;> with_reducible rfl
  simp only [List.setIfInBounds_toArray, List.set_cons_zero, List.set_cons_succ]
  refine wpAnyG_pure 21 39 (v := ?_) rfl (by kernel_rfl) rfl (by rfl) (fun w' => ?_) ?_
  rotate_left
  · go_simp <;> with_reducible rfl
  simp only [List.setIfInBounds_toArray, List.set_cons_zero, List.set_cons_succ]
  refine wpAnyG_pure 23 41 (v := ?_) rfl (by kernel_rfl) rfl (by rfl) (fun w' => ?_) ?_
  rotate_left
  · go_simp <;> with_reducible rfl
  simp only [List.setIfInBounds_toArray, List.set_cons_zero, List.set_cons_succ]
  refine wpAnyG_pure 24 42 (v := ?_) rfl (by kernel_rfl) rfl (by rfl) (fun w' => ?_) ?_
  rotate_left
  · go_simp <;> with_reducible rfl
  simp only [List.setIfInBounds_toArray, List.set_cons_zero, List.set_cons_succ]
  refine wpAnyG_step 22 40 rfl (by kernel_rfl) rfl (by rfl) (fun K hK' => ?_)
  go_simp
  refine (hEd.out _).mono ?_
  rintro e w4 ⟨rfl, k4⟩
  rw [hne.out]
  have bA4 := bA3.grew k4
  have bB4 := bB3.grew k4
  have eA4 := Lib.hid (eA3.out.grew k4)
  have eB4 := Lib.hid (eB3.out.grew k4)
  refine hK' _ _ (fun _ => k4) ?_
  clear hK'
  simp only [List.setIfInBounds_toArray, List.set_cons_zero, List.set_cons_succ]
  refine wpAnyG_pure 25 43 (v := ?_) rfl (by kernel_rfl) rfl (by rfl) (fun w' => ?_) ?_
  rotate_left
  · go_simp <;> with_reducible rfl
  simp only [List.setIfInBounds_toArray, List.set_cons_zero, List.set_cons_succ]
  refine wpAnyG_pass 26 44 rfl (by kernel_rfl) rfl (by rfl) ?_
  simp only [List.setIfInBounds_toArray, List.set_cons_zero, List.set_cons_succ]
  refine wpAnyG_pass 27 45 rfl (by kernel_rfl) rfl (by rfl) ?_
  simp only [List.setIfInBounds_toArray, List.set_cons_zero, List.set_cons_succ]
  refine wpAnyG_pass 28 46 rfl (by kernel_rfl) rfl (by rfl) ?_
  simp only [List.setIfInBounds_toArray, List.set_cons_zero, List.set_cons_succ]
  refine wpAnyG_pass 29 47 rfl (by kernel_rfl) rfl (by rfl) ?_
  simp only [List.setIfInBounds_toArray, List.set_cons_zero, List.set_cons_succ]
  refine wpAnyG_pass 30 48 rfl (by kernel_rfl) rfl (by rfl) ?_
  simp only [List.setIfInBounds_toArray, List.set_cons_zero, List.set_cons_succ]
  refine wpAnyG_pure 31 49 (v := ?_) rfl (by kernel_rfl) rfl (by rfl) (fun w' => ?_) ?_
  rotate_left
  · go_simp <;> with_reducible rfl
  simp only [List.setIfInBounds_toArray, List.set_cons_zero, List.set_cons_succ]
  refine wpAnyG_pure 32 50 (v := ?_) rfl (by kernel_rfl) rfl (by rfl) (fun w' => ?_) ?_
  rotate_left
  · go_simp <;> with_reducible rfl
  simp only [List.setIfInBounds_toArray, List.set_cons_zero, List.set_cons_succ]
  refine wpAnyG_pure 33 51 (v := ?_) rfl (by kernel_rfl) rfl (by rfl) (fun w' => ?_) ?_
  rotate_left
  · go_simp <;> with_reducible rfl
  simp only [List.setIfInBounds_toArray, List.set_cons_zero, List.set_cons_succ]
  refine wpAnyG_pure 34 52 (v := ?_) rfl (by kernel_rfl) rfl (by rfl) (fun w' => ?_) ?_
  rotate_left
  · go_simp <;> with_reducible rfl
  simp only [List.setIfInBounds_toArray, List.set_cons_zero, List.set_cons_succ]
  refine wpAnyG_take 35 53 (v := ?_) rfl (by kernel_rfl) rfl (by rfl) (fun w' hG' => ?_) ?_
  rotate_left
  · have hx0 := (bA4.grew hG').cell 0
    have hx1 := (bA4.grew hG').cell 1
    have hx2 := (bB4.grew hG').cell 0
    have hx3 := (bB4.grew hG').cell 1
    simp at hx0 hx1 hx2 hx3
    go_simp <;> with_reducible rfl
  simp only [List.setIfInBounds_toArray, List.set_cons_zero, List.set_cons_succ]
  refine wpAnyG_take 36 54 (v := ?_) rfl (by kernel_rfl) rfl (by rfl) (fun w' hG' => ?_) ?_
  rotate_left
  · have hx0 := (bA4.grew hG').cell 0
    have hx1 := (bA4.grew hG').cell 1
    have hx2 := (bB4.grew hG').cell 0
    have hx3 := (bB4.grew hG').cell 1
    simp at hx0 hx1 hx2 hx3
    go_simp <;> with_reducible rfl
  simp only [List.setIfInBounds_toArray, List.set_cons_zero, List.set_cons_succ]
  refine wpAnyG_take 38 56 (v := ?_) rfl (by kernel_rfl) rfl (by rfl) (fun w' hG' => ?_) ?_
  rotate_left
  · have hx0 := (bA4.grew hG').cell 0
    have hx1 := (bA4.grew hG').cell 1
    have hx2 := (bB4.grew hG').cell 0
    have hx3 := (bB4.grew hG').cell 1
    simp at hx0 hx1 hx2 hx3
    go_simp <;> with_reducible rfl
  simp only [List.setIfInBounds_toArray, List.set_cons_zero, List.set_cons_succ]
  refine wpAnyG_take 39 57 (v := ?_) rfl (by kernel_rfl) rfl (by rfl) (fun w' hG' => ?_) ?_
  rotate_left
  · have hx0 := (bA4.grew hG').cell 0
    have hx1 := (bA4.grew hG').cell 1
    have hx2 := (bB4.grew hG').cell 0
    have hx3 := (bB4.grew hG').cell 1
    simp at hx0 hx1 hx2 hx3
    go_simp <;> with_reducible rfl
  simp only [List.setIfInBounds_toArray, List.set_cons_zero, List.set_cons_succ]
  refine wpAnyG_step 37 55 rfl (by kernel_rfl) rfl (by rfl) (fun K hK' => ?_)
  go_simp
  refine (hS1.out _ eA4.out eB4.out).mono ?_
  rintro e w5 ⟨rfl, k5⟩
  have bA5 := bA4.grew k5
  have bB5 := bB4.grew k5
  have eA5 := Lib.hid (eA4.out.grew k5)
  have eB5 := Lib.hid (eB4.out.grew k5)
  refine hK' _ _ (fun _ => k5) ?_
  clear hK'
  simp only [List.setIfInBounds_toArray, List.set_cons_zero, List.set_cons_succ]
  refine wpAnyG_step 40 58 rfl (by kernel_rfl) rfl (by rfl) (fun K hK' => ?_)
  go_simp
  refine (hS2.out _ eA5.out eB5.out).mono ?_
  rintro e w6 ⟨rfl, k6⟩
  have bA6 := bA5.grew k6
  have bB6 := bB5.grew k6
  have eA6 := Lib.hid (eA5.out.grew k6)
  have eB6 := Lib.hid (eB5.out.grew k6)
  refine hK' _ _ (fun _ => k6) ?_
  clear hK'
  simp only [List.setIfInBounds_toArray, List.set_cons_zero, List.set_cons_succ]
  refine wpAnyG_pure 41 59 (v := ?_) rfl (by kernel_rfl) rfl (by rfl) (fun w' => ?_) ?_
  rotate_left
  · go_simp <;> with_reducible rfl
  simp only [List.setIfInBounds_toArray, List.set_cons_zero, List.set_cons_succ]
  refine wpAnyG_pure 42 60 (v := ?_) rfl (by kernel_rfl) rfl (by rfl) (fun w' => ?_) ?_
  rotate_left
  · go_simp <;> with_reducible rfl
  simp only [List.setIfInBounds_toArray, List.set_cons_zero, List.set_cons_succ]
  refine wpAnyG_pure 43 61 (v := ?_) rfl (by kernel_rfl) rfl (by rfl) (fun w' => ?_) ?_
  rotate_left
  · go_simp <;> with_reducible rfl
  simp only [List.setIfInBounds_toArray, List.set_cons_zero, List.set_cons_succ]
  refine wpAnyG_take 44 62 (v := ?_) rfl (by kernel_rfl) rfl (by rfl) (fun w' hG' => ?_) ?_
  rotate_left
  · have hx0 := (bA6.grew hG').cell 0
    have hx1 := (bA6.grew hG').cell 1
    have hx2 := (bB6.grew hG').cell 0
    have hx3 := (bB6.grew hG').cell 1
    simp at hx0 hx1 hx2 hx3
    go_simp <;> with_reducible rfl
  simp only [List.setIfInBounds_toArray, List.set_cons_zero, List.set_cons_succ]
  refine wpAnyG_take 46 64 (v := ?_) rfl (by kernel_rfl) rfl (by rfl) (fun w' hG' => ?_) ?_
  rotate_left
  · have hx0 := (bA6.grew hG').cell 0
    have hx1 := (bA6.grew hG').cell 1
    have hx2 := (bB6.grew hG').cell 0
    have hx3 := (bB6.grew hG').cell 1
    simp at hx0 hx1 hx2 hx3
    go_simp <;> with_reducible rfl
  simp only [List.setIfInBounds_toArray, List.set_cons_zero, List.set_cons_succ]
  refine wpAnyG_step 45 63 rfl (by kernel_rfl) rfl (by rfl) (fun K hK' => ?_)
  go_simp
  refine (hCl.out _ eA6.out).mono ?_
  rintro e w7 ⟨v', rfl, hown, k7⟩
  obtain ⟨A', c', hv', hrow⟩ := hown.row
  rw [HL.out] at hv'
  subst hv'
  have bA7 := bA6.grew k7
  have bB7 := bB6.grew k7
  have eA7 := Lib.hid (eA6.out.grew k7)
  have eB7 := Lib.hid (eB6.out.grew k7)
  refine hK' _ _ (fun _ => k7) ?_
  clear hK'
  simp only [List.setIfInBounds_toArray, List.set_cons_zero, List.set_cons_succ]
  refine wpAnyG_step 47 65 rfl (by kernel_rfl) rfl (by rfl) (fun K hK' => ?_)
  go_simp
  refine (hS3.out _ _ _ (hrow) eA7.out).mono ?_
  rintro e w8 ⟨rfl, k8⟩
  have bA8 := bA7.grew k8
  have bB8 := bB7.grew k8
  have eA8 := Lib.hid (eA7.out.grew k8)
  have eB8 := Lib.hid (eB7.out.grew k8)
  refine hK' _ _ (fun _ => k8) ?_
  clear hK'
  simp only [List.setIfInBounds_toArray, List.set_cons_zero, List.set_cons_succ]
  refine wpAnyG_pure 48 66 (v := ?_) rfl (by kernel_rfl) rfl (by rfl) (fun w' => ?_) ?_
  rotate_left
  · go_simp <;> with_reducible rfl
  simp only [List.setIfInBounds_toArray, List.set_cons_zero, List.set_cons_succ]
  refine wpAnyG_pure 49 67 (v := ?_) rfl (by kernel_rfl) rfl (by rfl) (fun w' => ?_) ?_
  rotate_left
  · go_simp <;> with_reducible rfl
  simp only [List.setIfInBounds_toArray, List.set_cons_zero, List.set_cons_succ]
  refine wpAnyG_step 50 68 rfl (by kernel_rfl) rfl (by rfl) (fun K hK' => ?_)
  go_simp
  refine (hA.out _).mono ?_
  rintro e w9 ⟨rfl, k9⟩
  have bA9 := bA8.grew k9
  have bB9 := bB8.grew k9
  have eA9 := Lib.hid (eA8.out.grew k9)
  have eB9 := Lib.hid (eB8.out.grew k9)
  refine hK' _ _ (fun _ => k9) ?_
  clear hK'
  simp only [List.setIfInBounds_toArray, List.set_cons_zero, List.set_cons_succ]
  refine wpAnyG_pure 51 69 (v := ?_) rfl (by kernel_rfl) rfl (by rfl) (fun w' => ?_) ?_
  rotate_left
  · go_simp <;> with_reducible rfl
  simp only [List.setIfInBounds_toArray, List.set_cons_zero, List.set_cons_succ]
  refine wpAnyG_pure 52 8 (v := ?_) rfl (by kernel_rfl) rfl (by rfl) (fun w' => ?_) ?_
  rotate_left
  · go_simp <;> with_reducible rfl
  simp only [List.setIfInBounds_toArray, List.set_cons_zero, List.set_cons_succ]
  refine wpAnyG_done (by kernel_rfl) ?_
  go_wp2_with fail
  go_ret
  exact ⟨rfl, ((((((((hKb.trans k1).trans k2).trans k3).trans k4).trans k5).trans k6).trans k7).trans k8).trans k9⟩
end Go.Proofs.Ytiialiifjhgcmaa
