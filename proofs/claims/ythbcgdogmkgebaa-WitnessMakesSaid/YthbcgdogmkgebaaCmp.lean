/- Arcs compared. -/
import Derived.Test.YthbcgdogmkgebaaSortP
namespace Go.Proofs.Ythbcgdogmkgebaa
open Go.RowKit

def cmpI (x y : Int) : Int := if x < y then -1 else if y < x then 1 else 0
def orI (p q : Int) : Int := if p = 0 then q else p
def cmpA (x y : Ar) : Int := orI (cmpI x.1 y.1) (cmpI x.2 y.2)
theorem cmpI_lt {x y : Int} (h : x < y) : cmpI x y = -1 := if_pos h
theorem cmpI_eq {x y : Int} (h : x = y) : cmpI x y = 0 := by unfold cmpI; rw [if_neg (by omega), if_neg (by omega)]
theorem cmpI_gt {x y : Int} (h : y < x) : cmpI x y = 1 := by unfold cmpI; rw [if_neg (by omega), if_pos h]
theorem cmpA_lt (x y : Ar) : decide (cmpA x y < 0) = ltA x y := by
  unfold cmpA ltA
  rcases Int.lt_trichotomy x.1 y.1 with h | h | h
  · rw [cmpI_lt h, decide_eq_true (show x.1 < y.1 ∨ (x.1 = y.1 ∧ x.2 < y.2) from .inl h)]; rfl
  · rw [cmpI_eq h]
    rcases Int.lt_trichotomy x.2 y.2 with h' | h' | h'
    · rw [cmpI_lt h', decide_eq_true (show x.1 < y.1 ∨ (x.1 = y.1 ∧ x.2 < y.2) from .inr ⟨h, h'⟩)]; rfl
    · rw [cmpI_eq h', decide_eq_false (show ¬ (x.1 < y.1 ∨ (x.1 = y.1 ∧ x.2 < y.2)) by omega)]; rfl
    · rw [cmpI_gt h', decide_eq_false (show ¬ (x.1 < y.1 ∨ (x.1 = y.1 ∧ x.2 < y.2)) by omega)]; rfl
  · rw [cmpI_gt h, decide_eq_false (show ¬ (x.1 < y.1 ∨ (x.1 = y.1 ∧ x.2 < y.2)) by omega)]; rfl

set_option maxHeartbeats 1000000 in
theorem nan_any (x : Int) (w : World) : Calls Try.prog 52 #[.int .i64 x] w fun e w' => e = .returned (.bool false) ∧ w = w' := by
  go_enter Try.func52, Try.ntmps52
  go_wp2_with fail
  go_ret
  exact ⟨rfl, rfl⟩
set_option maxHeartbeats 1000000 in
theorem compare_any (x y : Int) (w : World) : Calls Try.prog 32 #[.int .i64 x, .int .i64 y] w fun e w' => e = .returned (i64 (cmpI x y)) ∧ w = w' := by
  have hx := Lib.hid (nan_any x w)
  have hy := Lib.hid (nan_any y w)
  unfold cmpI
  rcases Int.lt_or_le x y with h1 | h1
  · rw [if_pos h1]
    go_enter Try.func32, Try.ntmps32
    go_wp2_with fail
    refine hx.out.mono ?_
    rintro e w1 ⟨rfl, rfl⟩
    go_wp2_with fail
    refine hy.out.mono ?_
    rintro e w1 ⟨rfl, rfl⟩
    go_wp2_with fail
    go_ret
    exact ⟨rfl, rfl⟩
  rw [if_neg (by omega)]
  rcases Int.lt_or_le y x with h2 | h2
  · rw [if_pos h2]
    go_enter Try.func32, Try.ntmps32
    go_wp2_with fail
    refine hx.out.mono ?_
    rintro e w1 ⟨rfl, rfl⟩
    go_wp2_with fail
    refine hy.out.mono ?_
    rintro e w1 ⟨rfl, rfl⟩
    go_wp2_with fail
    go_ret
    exact ⟨rfl, rfl⟩
  · obtain rfl : x = y := by omega
    rw [if_neg (by omega)]
    go_enter Try.func32, Try.ntmps32
    go_wp2_with fail
    refine hx.out.mono ?_
    rintro e w1 ⟨rfl, rfl⟩
    go_wp2_with fail
    refine hy.out.mono ?_
    rintro e w1 ⟨rfl, rfl⟩
    go_wp2_with fail
    go_ret
    exact ⟨rfl, rfl⟩

set_option maxHeartbeats 1000000 in
theorem unan_any (x : Int) (w : World) : Calls Try.prog 53 #[.int .u64 x] w fun e w' => e = .returned (.bool false) ∧ w = w' := by
  go_enter Try.func53, Try.ntmps53
  go_wp2_with fail
  go_ret
  exact ⟨rfl, rfl⟩
set_option maxHeartbeats 1000000 in
theorem ucompare_any (x y : Int) (w : World) : Calls Try.prog 33 #[.int .u64 x, .int .u64 y] w fun e w' => e = .returned (i64 (cmpI x y)) ∧ w = w' := by
  have hx := Lib.hid (unan_any x w)
  have hy := Lib.hid (unan_any y w)
  unfold cmpI
  rcases Int.lt_or_le x y with h1 | h1
  · rw [if_pos h1]
    go_enter Try.func33, Try.ntmps33
    go_wp2_with fail
    refine hx.out.mono ?_
    rintro e w1 ⟨rfl, rfl⟩
    go_wp2_with fail
    refine hy.out.mono ?_
    rintro e w1 ⟨rfl, rfl⟩
    go_wp2_with fail
    go_ret
    exact ⟨rfl, rfl⟩
  rw [if_neg (by omega)]
  rcases Int.lt_or_le y x with h2 | h2
  · rw [if_pos h2]
    go_enter Try.func33, Try.ntmps33
    go_wp2_with fail
    refine hx.out.mono ?_
    rintro e w1 ⟨rfl, rfl⟩
    go_wp2_with fail
    refine hy.out.mono ?_
    rintro e w1 ⟨rfl, rfl⟩
    go_wp2_with fail
    go_ret
    exact ⟨rfl, rfl⟩
  · obtain rfl : x = y := by omega
    rw [if_neg (by omega)]
    go_enter Try.func33, Try.ntmps33
    go_wp2_with fail
    refine hx.out.mono ?_
    rintro e w1 ⟨rfl, rfl⟩
    go_wp2_with fail
    refine hy.out.mono ?_
    rintro e w1 ⟨rfl, rfl⟩
    go_wp2_with fail
    go_ret
    exact ⟨rfl, rfl⟩

set_option maxHeartbeats 2000000 in
theorem or_two (p q : Int) (b : Nat) (w : World) (h : Blk w b 3 #[i64 p, i64 q]) : Calls Try.prog 31 #[.slice (some ⟨b, 0, none⟩) 2 2] w fun e w' => e = .returned (i64 (orI p q)) ∧ w = w' := by
  have c0 := h.cell 0
  have c1 := h.cell 1
  simp at c0 c1
  clear h
  go_enter Try.func31, Try.ntmps31
  go_wp2_with fail
  go_loopw [5, 8] (fun u i wr => ∃ k : Nat, k ≤ 2 ∧ i = .int .i64 k ∧ (1 ≤ k → p = 0) ∧ (2 ≤ k → q = 0) ∧ w = wr) (fun u i _ => 2 - (intOf i).toNat)
  case atStart => exact ⟨0, by omega, rfl, fun h => by omega, fun h => by omega, rfl⟩
  case round =>
    obtain ⟨k, hk, rfl, h1, h2, rfl⟩ := hrel
    rcases (show k = 0 ∨ k = 1 ∨ k = 2 by omega) with rfl | rfl | rfl
    · clear h1 h2
      by_cases hp : p = 0
      · subst hp
        go_wp2_with fail
        go_roundw
        case rel => exact ⟨1, by omega, by go_num, by simp, by simp, by simp⟩
        case measure => simp [intOf]
      · have hp' : (p == 0) = false := by simp [hp]
        have hr : Hid (orI p q = p) := if_neg hp
        go_wp2_with fail
        go_ret
        rw [hr.out]
        exact ⟨rfl, rfl⟩
    · obtain rfl : p = 0 := h1 (by omega)
      clear h1 h2
      have hr : Hid (orI 0 q = q) := if_pos rfl
      by_cases hq : q = 0
      · subst hq
        go_wp2_with fail
        go_roundw
        case rel => exact ⟨2, by omega, by go_num, by simp, by simp, by simp⟩
        case measure => simp [intOf]
      · have hq' : (q == 0) = false := by simp [hq]
        go_wp2_with fail
        go_ret
        rw [hr.out]
        exact ⟨rfl, rfl⟩
    · obtain rfl : p = 0 := h1 (by omega)
      obtain rfl : q = 0 := h2 (by omega)
      have hr : Hid (orI 0 0 = 0) := if_pos rfl
      go_wp2_with fail
      go_ret
      rw [hr.out]
      exact ⟨rfl, rfl⟩
set_option maxHeartbeats 2000000 in
set_option maxRecDepth 100000 in
theorem cmp_any (a b c d : Int) (w : World) : Calls Try.prog 30 #[.agg #[i64 a, u64 b], .agg #[i64 c, u64 d]] w fun e w' => e = .returned (i64 (cmpA (a, b) (c, d))) ∧ Grew w w' := by
  have bA := Blk.new w 56 #[i64 a, u64 b]
  have bC := Blk.new (w.alloc (.cells #[i64 a, u64 b] 56)) 56 #[i64 c, u64 d]
  rw [World.size_alloc] at bC
  have bA' := bA.alloc (.cells #[i64 c, u64 d] 56)
  have k0 : Grew w ((w.alloc (.cells #[i64 a, u64 b] 56)).alloc (.cells #[i64 c, u64 d] 56)) := ((Kept.refl _ _).alloc _).alloc _
  obtain ⟨w1, hw1⟩ : ∃ W, (w.alloc (.cells #[i64 a, u64 b] 56)).alloc (.cells #[i64 c, u64 d] 56) = W := ⟨_, rfl⟩
  rw [hw1] at bA' bC k0
  have e0 := bA'.cell 0
  have e1 := bA'.cell 1
  have e2 := bC.cell 0
  have e3 := bC.cell 1
  simp at e0 e1 e2 e3
  obtain ⟨p, hp⟩ : ∃ p, cmpI a c = p := ⟨_, rfl⟩
  obtain ⟨q, hq⟩ : ∃ q, cmpI b d = q := ⟨_, rfl⟩
  have h1 := Lib.hid (compare_any a c)
  have h2 := Lib.hid (ucompare_any b d)
  rw [hp] at h1
  rw [hq] at h2
  have hz : (w1.drew.alloc (.cells #[i64 p, i64 q] 3)) = (w1.drew.alloc (.cells #[i64 p, i64 q] 3)) := rfl
  have h3 := Lib.hid (or_two p q w1.heap.size (w1.drew.alloc (.cells #[i64 p, i64 q] 3)) (Blk.new w1.drew _ _))
  have hr : Hid (cmpA (a, b) (c, d) = orI p q) := by rw [← hp, ← hq]; rfl
  rw [hr.out]
  have k1 : Grew w (w1.drew.alloc (.cells #[i64 p, i64 q] 3)) := k0.drew.alloc _
  clear bA bC bA' hp hq hz hr
  go_enter Try.func30, Try.ntmps30
  go_wp2_with fail
  refine wp_region_grow [] (fun _ => False) (by kernel_rfl) ?_
  simp only [List.size_toArray, List.length_cons, List.length_nil, Nat.reduceAdd]
  refine wpAnyG_pure 0 5 (v := ?_) rfl (by kernel_rfl) rfl (by rfl) (fun w' => ?_) ?_
  rotate_left
  · go_simp <;> with_reducible rfl
  simp only [List.setIfInBounds_toArray, List.set_cons_zero, List.set_cons_succ]
  refine wpAnyG_take 1 6 (v := ?_) rfl (by kernel_rfl) rfl (by rfl) (fun w' hG' => ?_) ?_
  rotate_left
  · have hx0 := Grew.cell hG' (show w1.drew.cell? ⟨w.heap.size, 0, none⟩ = some (.int .i64 a) from e0)
    have hx1 := Grew.cell hG' (show w1.drew.cell? ⟨w.heap.size, 1, none⟩ = some (.int .u64 b) from e1)
    have hx2 := Grew.cell hG' (show w1.drew.cell? ⟨w.heap.size + 1, 0, none⟩ = some (.int .i64 c) from e2)
    have hx3 := Grew.cell hG' (show w1.drew.cell? ⟨w.heap.size + 1, 1, none⟩ = some (.int .u64 d) from e3)
    go_simp <;> with_reducible rfl
  simp only [List.setIfInBounds_toArray, List.set_cons_zero, List.set_cons_succ]
  refine wpAnyG_pure 2 7 (v := ?_) rfl (by kernel_rfl) rfl (by rfl) (fun w' => ?_) ?_
  rotate_left
  · go_simp <;> with_reducible rfl
  simp only [List.setIfInBounds_toArray, List.set_cons_zero, List.set_cons_succ]
  refine wpAnyG_take 3 8 (v := ?_) rfl (by kernel_rfl) rfl (by rfl) (fun w' hG' => ?_) ?_
  rotate_left
  · have hx0 := Grew.cell hG' (show w1.drew.cell? ⟨w.heap.size, 0, none⟩ = some (.int .i64 a) from e0)
    have hx1 := Grew.cell hG' (show w1.drew.cell? ⟨w.heap.size, 1, none⟩ = some (.int .u64 b) from e1)
    have hx2 := Grew.cell hG' (show w1.drew.cell? ⟨w.heap.size + 1, 0, none⟩ = some (.int .i64 c) from e2)
    have hx3 := Grew.cell hG' (show w1.drew.cell? ⟨w.heap.size + 1, 1, none⟩ = some (.int .u64 d) from e3)
    go_simp <;> with_reducible rfl
  simp only [List.setIfInBounds_toArray, List.set_cons_zero, List.set_cons_succ]
  refine wpAnyG_pure 5 10 (v := ?_) rfl (by kernel_rfl) rfl (by rfl) (fun w' => ?_) ?_
  rotate_left
  · go_simp <;> with_reducible rfl
  simp only [List.setIfInBounds_toArray, List.set_cons_zero, List.set_cons_succ]
  refine wpAnyG_take 6 11 (v := ?_) rfl (by kernel_rfl) rfl (by rfl) (fun w' hG' => ?_) ?_
  rotate_left
  · have hx0 := Grew.cell hG' (show w1.drew.cell? ⟨w.heap.size, 0, none⟩ = some (.int .i64 a) from e0)
    have hx1 := Grew.cell hG' (show w1.drew.cell? ⟨w.heap.size, 1, none⟩ = some (.int .u64 b) from e1)
    have hx2 := Grew.cell hG' (show w1.drew.cell? ⟨w.heap.size + 1, 0, none⟩ = some (.int .i64 c) from e2)
    have hx3 := Grew.cell hG' (show w1.drew.cell? ⟨w.heap.size + 1, 1, none⟩ = some (.int .u64 d) from e3)
    go_simp <;> with_reducible rfl
  simp only [List.setIfInBounds_toArray, List.set_cons_zero, List.set_cons_succ]
  refine wpAnyG_pure 7 12 (v := ?_) rfl (by kernel_rfl) rfl (by rfl) (fun w' => ?_) ?_
  rotate_left
  · go_simp <;> with_reducible rfl
  simp only [List.setIfInBounds_toArray, List.set_cons_zero, List.set_cons_succ]
  refine wpAnyG_take 8 13 (v := ?_) rfl (by kernel_rfl) rfl (by rfl) (fun w' hG' => ?_) ?_
  rotate_left
  · have hx0 := Grew.cell hG' (show w1.drew.cell? ⟨w.heap.size, 0, none⟩ = some (.int .i64 a) from e0)
    have hx1 := Grew.cell hG' (show w1.drew.cell? ⟨w.heap.size, 1, none⟩ = some (.int .u64 b) from e1)
    have hx2 := Grew.cell hG' (show w1.drew.cell? ⟨w.heap.size + 1, 0, none⟩ = some (.int .i64 c) from e2)
    have hx3 := Grew.cell hG' (show w1.drew.cell? ⟨w.heap.size + 1, 1, none⟩ = some (.int .u64 d) from e3)
    go_simp <;> with_reducible rfl
  simp only [List.setIfInBounds_toArray, List.set_cons_zero, List.set_cons_succ]
  refine wpAnyG_step 4 9 rfl (by kernel_rfl) rfl (by rfl) (fun K hK' => ?_)
  go_simp
  refine (h1.out _).mono ?_
  rintro e w2 ⟨rfl, rfl⟩
  refine hK' _ _ (fun _ => Kept.refl _ _) ?_
  clear hK'
  simp only [List.setIfInBounds_toArray, List.set_cons_zero, List.set_cons_succ]
  refine wpAnyG_step 9 14 rfl (by kernel_rfl) rfl (by rfl) (fun K hK' => ?_)
  go_simp
  refine (h2.out _).mono ?_
  rintro e w2 ⟨rfl, rfl⟩
  refine hK' _ _ (fun _ => Kept.refl _ _) ?_
  clear hK'
  simp only [List.setIfInBounds_toArray, List.set_cons_zero, List.set_cons_succ]
  refine wpAnyG_step 10 15 rfl (by kernel_rfl) rfl (by rfl) (fun K hK' => ?_)
  go_simp
  refine hK' _ _ (fun _ => (Kept.refl _ _).alloc _) ?_
  clear hK'
  simp only [List.setIfInBounds_toArray, List.set_cons_zero, List.set_cons_succ]
  refine wpAnyG_step 11 16 rfl (by kernel_rfl) rfl (by rfl) (fun K hK' => ?_)
  go_simp
  refine h3.out.mono ?_
  rintro e w2 ⟨rfl, rfl⟩
  refine hK' _ _ (fun _ => Kept.refl _ _) ?_
  clear hK'
  simp only [List.setIfInBounds_toArray, List.set_cons_zero, List.set_cons_succ]
  refine wpAnyG_pure 12 4 (v := ?_) rfl (by kernel_rfl) rfl (by rfl) (fun w' => ?_) ?_
  rotate_left
  · go_simp <;> with_reducible rfl
  simp only [List.setIfInBounds_toArray, List.set_cons_zero, List.set_cons_succ]
  refine wpAnyG_done (by kernel_rfl) ?_
  go_wp2_with fail
  go_ret
  exact ⟨rfl, k1⟩
set_option maxHeartbeats 2000000 in
theorem eq_any (a b c d : Int) (w : World) : Calls Try.prog 35 #[.agg #[i64 a, u64 b], .agg #[i64 c, u64 d]] w fun e w' => e = .returned (.bool (a == c)) ∧ Grew w w' := by
  have bA := Blk.new w 56 #[i64 a, u64 b]
  have bC := Blk.new (w.alloc (.cells #[i64 a, u64 b] 56)) 56 #[i64 c, u64 d]
  rw [World.size_alloc] at bC
  have bA' := bA.alloc (.cells #[i64 c, u64 d] 56)
  have k0 : Grew w ((w.alloc (.cells #[i64 a, u64 b] 56)).alloc (.cells #[i64 c, u64 d] 56)) := ((Kept.refl _ _).alloc _).alloc _
  obtain ⟨w1, hw1⟩ : ∃ W, (w.alloc (.cells #[i64 a, u64 b] 56)).alloc (.cells #[i64 c, u64 d] 56) = W := ⟨_, rfl⟩
  rw [hw1] at bA' bC k0
  have e0 := bA'.cell 0
  have e1 := bA'.cell 1
  have e2 := bC.cell 0
  have e3 := bC.cell 1
  simp at e0 e1 e2 e3
  clear bA bC bA'
  go_enter Try.func35, Try.ntmps35
  go_wp2_with fail
  go_ret
  exact ⟨rfl, k0⟩
end Go.Proofs.Ythbcgdogmkgebaa
