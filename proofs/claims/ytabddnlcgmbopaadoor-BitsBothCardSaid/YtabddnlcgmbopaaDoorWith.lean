/- Sets of numbers: in one of both, and in both. -/
import Derived.Test.YtabddnlcgmbopaaDoorCloneB
namespace Go.Proofs.YtabddnlcgmbopaaDoor
open Go.RowKit

theorem or_two (x y : Nat) (w : World) (hx : x < W64) (hy : y < W64) : Calls Tryd.prog 26 #[u64 x, u64 y] w fun e w' => e = .returned (u64 (x ||| y)) ∧ w = w' := by
  have h : bits .or .u64 (x : Int) (y : Int) = ((x ||| y : Nat) : Int) := u64_or_nat x y hx hy
  obtain ⟨z, hz⟩ : ∃ z, x ||| y = z := ⟨_, rfl⟩
  rw [hz] at h ⊢
  clear hz hx hy
  go_enter Tryd.func26, Tryd.ntmps26
  go_wp2_with fail
  go_ret
  exact ⟨rfl, rfl⟩
theorem and_two (x y : Nat) (w : World) (hx : x < W64) (hy : y < W64) : Calls Tryd.prog 27 #[u64 x, u64 y] w fun e w' => e = .returned (u64 (x &&& y)) ∧ w = w' := by
  have h : bits .and .u64 (x : Int) (y : Int) = ((x &&& y : Nat) : Int) := u64_and_nat x y hx hy
  obtain ⟨z, hz⟩ : ∃ z, x &&& y = z := ⟨_, rfl⟩
  rw [hz] at h ⊢
  clear hz hx hy
  go_enter Tryd.func27, Tryd.ntmps27
  go_wp2_with fail
  go_ret
  exact ⟨rfl, rfl⟩
theorem with_nil (w : World) (p f : Value) (S n : Nat) (v : Value) (ws : List Nat) (s : SetB w S n v ws) : Calls Tryd.prog 25 #[pt S, .pointer none, f] w fun e w' => e = .returned (.bool false) ∧ Grew w w' := by
  clear s
  go_enter Tryd.func25, Tryd.ntmps25
  go_wp2_with fail
  refine wp_region_grow [] (fun _ => False) (by kernel_rfl) ?_
  simp only [List.size_toArray, List.length_cons, List.length_nil, Nat.reduceAdd]
  refine wpAnyG_pure 0 8 (v := ?_) rfl (by kernel_rfl) rfl (by rfl) (fun w' => ?_) ?_
  rotate_left
  · go_simp <;> with_reducible rfl
  simp only [List.setIfInBounds_toArray, List.set_cons_zero, List.set_cons_succ]
  refine wpAnyG_pure 1 9 (v := ?_) rfl (by kernel_rfl) rfl (by rfl) (fun w' => ?_) ?_
  rotate_left
  · go_simp <;> with_reducible rfl
  simp only [List.setIfInBounds_toArray, List.set_cons_zero, List.set_cons_succ]
  refine wpAnyG_pure 2 10 (v := ?_) rfl (by kernel_rfl) rfl (by rfl) (fun w' => ?_) ?_
  rotate_left
  · go_simp <;> with_reducible rfl
  simp only [List.setIfInBounds_toArray, List.set_cons_zero, List.set_cons_succ]
  refine wpAnyG_pure 3 11 (v := ?_) rfl (by kernel_rfl) rfl (by rfl) (fun w' => ?_) ?_
  rotate_left
  · go_simp <;> with_reducible rfl
  simp only [List.setIfInBounds_toArray, List.set_cons_zero, List.set_cons_succ]
  refine wpAnyG_pure 4 12 (v := ?_) rfl (by kernel_rfl) rfl (by rfl) (fun w' => ?_) ?_
  rotate_left
  · go_simp <;> with_reducible rfl
  simp only [List.setIfInBounds_toArray, List.set_cons_zero, List.set_cons_succ]
  refine wpAnyG_pure 5 13 (v := ?_) rfl (by kernel_rfl) rfl (by rfl) (fun w' => ?_) ?_
  rotate_left
  · go_simp <;> with_reducible rfl
  simp only [List.setIfInBounds_toArray, List.set_cons_zero, List.set_cons_succ]
  refine wpAnyG_pure 6 14 (v := ?_) rfl (by kernel_rfl) rfl (by rfl) (fun w' => ?_) ?_
  rotate_left
  · go_simp <;> with_reducible rfl
  simp only [List.setIfInBounds_toArray, List.set_cons_zero, List.set_cons_succ]
  refine wpAnyG_pass 7 15 rfl (by kernel_rfl) rfl (by rfl) ?_
  simp only [List.setIfInBounds_toArray, List.set_cons_zero, List.set_cons_succ]
  refine wpAnyG_pass 8 16 rfl (by kernel_rfl) rfl (by rfl) ?_
  simp only [List.setIfInBounds_toArray, List.set_cons_zero, List.set_cons_succ]
  refine wpAnyG_pass 9 17 rfl (by kernel_rfl) rfl (by rfl) ?_
  simp only [List.setIfInBounds_toArray, List.set_cons_zero, List.set_cons_succ]
  refine wpAnyG_pass 10 18 rfl (by kernel_rfl) rfl (by rfl) ?_
  simp only [List.setIfInBounds_toArray, List.set_cons_zero, List.set_cons_succ]
  refine wpAnyG_pass 11 19 rfl (by kernel_rfl) rfl (by rfl) ?_
  simp only [List.setIfInBounds_toArray, List.set_cons_zero, List.set_cons_succ]
  refine wpAnyG_pass 12 20 rfl (by kernel_rfl) rfl (by rfl) ?_
  simp only [List.setIfInBounds_toArray, List.set_cons_zero, List.set_cons_succ]
  refine wpAnyG_pass 13 21 rfl (by kernel_rfl) rfl (by rfl) ?_
  simp only [List.setIfInBounds_toArray, List.set_cons_zero, List.set_cons_succ]
  refine wpAnyG_pass 14 22 rfl (by kernel_rfl) rfl (by rfl) ?_
  simp only [List.setIfInBounds_toArray, List.set_cons_zero, List.set_cons_succ]
  refine wpAnyG_pass 15 23 rfl (by kernel_rfl) rfl (by rfl) ?_
  simp only [List.setIfInBounds_toArray, List.set_cons_zero, List.set_cons_succ]
  refine wpAnyG_pure 16 24 (v := ?_) rfl (by kernel_rfl) rfl (by rfl) (fun w' => ?_) ?_
  rotate_left
  · go_simp <;> with_reducible rfl
  simp only [List.setIfInBounds_toArray, List.set_cons_zero, List.set_cons_succ]
  refine wpAnyG_done (by kernel_rfl) ?_
  go_wp2_with fail
  go_ret
  exact ⟨rfl, (Kept.refl _ _).drew⟩
theorem with_other (w : World) (f : Value) (S T n m : Nat) (v u : Value) (ws ts : List Nat) (s : SetB w S n v ws) (r : SetB w T m u ts) (hne : n ≠ m) : Calls Tryd.prog 25 #[pt S, pt T, f] w fun e w' => e = .returned (.bool false) ∧ Grew w w' := by
  have bS := s.box.drew
  have bT := r.box.drew
  have hb : ((n : Int) != (m : Int)) = true := by simp; omega
  have hb2 : ((n : Int) == (m : Int)) = false := by simp; omega
  clear s r
  go_enter Tryd.func25, Tryd.ntmps25
  go_wp2_with fail
  refine wp_region_grow [] (fun _ => False) (by kernel_rfl) ?_
  simp only [List.size_toArray, List.length_cons, List.length_nil, Nat.reduceAdd]
  refine wpAnyG_pure 0 8 (v := ?_) rfl (by kernel_rfl) rfl (by rfl) (fun w' => ?_) ?_
  rotate_left
  · go_simp <;> with_reducible rfl
  simp only [List.setIfInBounds_toArray, List.set_cons_zero, List.set_cons_succ]
  refine wpAnyG_pure 1 9 (v := ?_) rfl (by kernel_rfl) rfl (by rfl) (fun w' => ?_) ?_
  rotate_left
  · go_simp <;> with_reducible rfl
  simp only [List.setIfInBounds_toArray, List.set_cons_zero, List.set_cons_succ]
  refine wpAnyG_pure 2 10 (v := ?_) rfl (by kernel_rfl) rfl (by rfl) (fun w' => ?_) ?_
  rotate_left
  · go_simp <;> with_reducible rfl
  simp only [List.setIfInBounds_toArray, List.set_cons_zero, List.set_cons_succ]
  refine wpAnyG_pure 3 11 (v := ?_) rfl (by kernel_rfl) rfl (by rfl) (fun w' => ?_) ?_
  rotate_left
  · go_simp <;> with_reducible rfl
  simp only [List.setIfInBounds_toArray, List.set_cons_zero, List.set_cons_succ]
  refine wpAnyG_pure 4 12 (v := ?_) rfl (by kernel_rfl) rfl (by rfl) (fun w' => ?_) ?_
  rotate_left
  · go_simp <;> with_reducible rfl
  simp only [List.setIfInBounds_toArray, List.set_cons_zero, List.set_cons_succ]
  refine wpAnyG_pure 5 13 (v := ?_) rfl (by kernel_rfl) rfl (by rfl) (fun w' => ?_) ?_
  rotate_left
  · go_simp <;> with_reducible rfl
  simp only [List.setIfInBounds_toArray, List.set_cons_zero, List.set_cons_succ]
  refine wpAnyG_pure 6 14 (v := ?_) rfl (by kernel_rfl) rfl (by rfl) (fun w' => ?_) ?_
  rotate_left
  · go_simp <;> with_reducible rfl
  simp only [List.setIfInBounds_toArray, List.set_cons_zero, List.set_cons_succ]
  refine wpAnyG_pure 7 15 (v := ?_) rfl (by kernel_rfl) rfl (by rfl) (fun w' => ?_) ?_
  rotate_left
  · go_simp <;> with_reducible rfl
  simp only [List.setIfInBounds_toArray, List.set_cons_zero, List.set_cons_succ]
  refine wpAnyG_pure 8 16 (v := ?_) rfl (by kernel_rfl) rfl (by rfl) (fun w' => ?_) ?_
  rotate_left
  · go_simp <;> with_reducible rfl
  simp only [List.setIfInBounds_toArray, List.set_cons_zero, List.set_cons_succ]
  refine wpAnyG_pure 9 17 (v := ?_) rfl (by kernel_rfl) rfl (by rfl) (fun w' => ?_) ?_
  rotate_left
  · go_simp <;> with_reducible rfl
  simp only [List.setIfInBounds_toArray, List.set_cons_zero, List.set_cons_succ]
  refine wpAnyG_take 10 18 (v := ?_) rfl (by kernel_rfl) rfl (by rfl) (fun w' hG' => ?_) ?_
  rotate_left
  · have hx0 := (bS.grew hG').cell 0
    have hx1 := (bT.grew hG').cell 0
    simp at hx0 hx1
    go_simp <;> with_reducible rfl
  simp only [List.setIfInBounds_toArray, List.set_cons_zero, List.set_cons_succ]
  refine wpAnyG_pure 11 19 (v := ?_) rfl (by kernel_rfl) rfl (by rfl) (fun w' => ?_) ?_
  rotate_left
  · go_simp <;> with_reducible rfl
  simp only [List.setIfInBounds_toArray, List.set_cons_zero, List.set_cons_succ]
  refine wpAnyG_pure 12 20 (v := ?_) rfl (by kernel_rfl) rfl (by rfl) (fun w' => ?_) ?_
  rotate_left
  · go_simp <;> with_reducible rfl
  simp only [List.setIfInBounds_toArray, List.set_cons_zero, List.set_cons_succ]
  refine wpAnyG_pure 13 21 (v := ?_) rfl (by kernel_rfl) rfl (by rfl) (fun w' => ?_) ?_
  rotate_left
  · go_simp <;> with_reducible rfl
  simp only [List.setIfInBounds_toArray, List.set_cons_zero, List.set_cons_succ]
  refine wpAnyG_take 14 22 (v := ?_) rfl (by kernel_rfl) rfl (by rfl) (fun w' hG' => ?_) ?_
  rotate_left
  · have hx0 := (bS.grew hG').cell 0
    have hx1 := (bT.grew hG').cell 0
    simp at hx0 hx1
    go_simp <;> with_reducible rfl
  simp only [List.setIfInBounds_toArray, List.set_cons_zero, List.set_cons_succ]
  refine wpAnyG_pure 15 23 (v := ?_) rfl (by kernel_rfl) rfl (by rfl) (fun w' => ?_) ?_
  rotate_left
  · go_simp <;> with_reducible rfl
  simp only [List.setIfInBounds_toArray, List.set_cons_zero, List.set_cons_succ]
  refine wpAnyG_pure 16 24 (v := ?_) rfl (by kernel_rfl) rfl (by rfl) (fun w' => ?_) ?_
  rotate_left
  · go_simp <;> with_reducible rfl
  simp only [List.setIfInBounds_toArray, List.set_cons_zero, List.set_cons_succ]
  refine wpAnyG_done (by kernel_rfl) ?_
  go_wp2_with fail
  go_ret
  exact ⟨rfl, (Kept.refl _ _).drew⟩

/-- The words after k rounds. -/
def mixW (f : Nat → Nat → Nat) (ws ts : List Nat) (k : Nat) : List Nat := (List.zipWith f ws ts).take k ++ ws.drop k
theorem mixW_length (f : Nat → Nat → Nat) {ws ts : List Nat} (h : ws.length = ts.length) {k : Nat} (hk : k ≤ ws.length) : (mixW f ws ts k).length = ws.length := by
  simp [mixW, ← h]
  omega
theorem mixW_zero (f : Nat → Nat → Nat) (ws ts : List Nat) : mixW f ws ts 0 = ws := by simp [mixW]
theorem mixW_all (f : Nat → Nat → Nat) {ws ts : List Nat} (h : ws.length = ts.length) : mixW f ws ts ws.length = List.zipWith f ws ts := by
  unfold mixW
  rw [List.drop_length, List.append_nil, List.take_of_length_le (by simp [h])]
theorem mixW_get (f : Nat → Nat → Nat) {ws ts : List Nat} (h : ws.length = ts.length) {k : Nat} (hk : k ≤ ws.length) (j : Nat) : (mixW f ws ts k)[j]? = if j < k then (match ws[j]?, ts[j]? with | some x, some y => some (f x y) | _, _ => none) else ws[j]? := by
  unfold mixW
  have hl : ((List.zipWith f ws ts).take k).length = k := by simp [← h]; omega
  by_cases hj : j < k
  · rw [if_pos hj, List.getElem?_append_left (by omega), List.getElem?_take, if_pos hj, List.getElem?_zipWith]
    cases ws[j]? <;> cases ts[j]? <;> rfl
  · rw [if_neg hj, List.getElem?_append_right (by omega), hl, List.getElem?_drop]
    congr 1
    omega
theorem mixW_step (f : Nat → Nat → Nat) {ws ts : List Nat} (h : ws.length = ts.length) {k x y : Nat} (hk : k < ws.length) (hx : ws[k]? = some x) (hy : ts[k]? = some y) : (mixW f ws ts k).set k (f x y) = mixW f ws ts (k + 1) := by
  apply List.ext_getElem?
  intro j
  rw [List.getElem?_set, mixW_get f h (by omega), mixW_get f h (by omega), mixW_length f h (by omega)]
  by_cases hjk : k = j
  · subst hjk
    rw [if_pos rfl, if_pos hk, if_pos (by omega), hx, hy]
  · rw [if_neg hjk]
    by_cases h1 : j < k
    · rw [if_pos h1, if_pos (by omega)]
    · rw [if_neg h1, if_neg (by omega)]
theorem inW_mix (f : Nat → Nat → Nat) {ws ts : List Nat} (h : ws.length = ts.length) {k : Nat} (hk : k ≤ ws.length) (i : Nat) (hf : ∀ x y b : Nat, (x.testBit b = false → y.testBit b = false → (f x y).testBit b = false)) (h1 : inW ws i = false) (h2 : inW ts i = false) : inW (mixW f ws ts k) i = false := by
  unfold inW at *
  rw [List.getD_eq_getElem?_getD] at *
  rw [mixW_get f h hk]
  split
  · cases ha : ws[i / 64]? with
    | none => simp
    | some x =>
      cases hb : ts[i / 64]? with
      | none => simp
      | some y =>
        rw [ha] at h1
        rw [hb] at h2
        exact hf x y _ h1 h2
  · exact h1

theorem f_or (x y b : Nat) (h1 : x.testBit b = false) (h2 : y.testBit b = false) : (x ||| y).testBit b = false := by
  rw [Nat.testBit_or, h1, h2]; rfl
theorem lt_or (x y : Nat) (hx : x < W64) (hy : y < W64) : x ||| y < W64 := by unfold W64 at *; exact Nat.or_lt_two_pow (n := 64) hx hy
set_option maxHeartbeats 2000000 in
theorem with_or (w : World) (S T n : Nat) (v u : Value) (ws ts : List Nat) (s : SetB w S n v ws) (r : SetB w T n u ts) (hap : ∀ j, SB T u j → ¬ SB S v j) : Calls Tryd.prog 25 #[pt S, pt T, .func (.func 26) #[] #[]] w fun e w' => e = .returned (.bool true) ∧ SetB w' S n v (List.zipWith (fun x y => x ||| y) ws ts) ∧ Kept (SB S v) w w' := by
  have hlen : ws.length = ts.length := by rw [s.len, r.len]
  have hL2 : ws.length ≤ 1025 := by have := s.len; have := s.small; omega
  obtain ⟨f, hf⟩ : ∃ f : Nat → Nat → Nat, (fun x y => x ||| y) = f := ⟨_, rfl⟩
  rw [hf]
  have hfx : ∀ x y, f x y = x ||| y := fun x y => by rw [← hf]
  have hbit : Hid (∀ x y b : Nat, x.testBit b = false → y.testBit b = false → (f x y).testBit b = false) := fun x y b h1 h2 => by rw [hfx]; exact f_or x y b h1 h2
  have hltf : Hid (∀ x y, x < W64 → y < W64 → f x y < W64) := fun x y h1 h2 => by rw [hfx]; exact lt_or x y h1 h2
  have hcall : Hid (∀ x y W, x < W64 → y < W64 → Calls Tryd.prog 26 #[u64 x, u64 y] W fun e w' => e = .returned (u64 (f x y)) ∧ W = w') := fun x y W h1 h2 => by rw [hfx]; exact or_two x y W h1 h2
  clear hf hfx
  obtain ⟨A, c, hv⟩ := s.row.slice
  obtain ⟨L, hL⟩ : ∃ L, ws.length = L := ⟨_, rfl⟩
  rw [hL] at hv hL2
  subst hv
  have HLen := Lib.hid hlen
  have HL := Lib.hid hL
  have bS := s.box.drew
  have bT := r.box.drew
  have hb : ((n : Int) != (n : Int)) = false := by simp
  have hS1 := (s.grew (Kept.refl (fun _ => False) _).drew).box.cell 1
  simp at hS1
  have S0 : Hid (SetB w.drew S n (.slice A L c) (mixW f ws ts 0)) := by rw [mixW_zero]; exact s.grew (Kept.refl (fun _ => False) _).drew
  have K0 : Kept (SB S (.slice A L c)) w w.drew := (Kept.refl _ _).drew
  have R0 := Lib.hid r
  have HAP := Lib.hid hap
  have HS := Lib.hid s
  clear hlen hL s r hap
  go_enter Tryd.func25, Tryd.ntmps25
  go_wp2_with fail
  refine wp_region_grow [] (fun _ => False) (by kernel_rfl) ?_
  simp only [List.size_toArray, List.length_cons, List.length_nil, Nat.reduceAdd]
  refine wpAnyG_pure 0 8 (v := ?_) rfl (by kernel_rfl) rfl (by rfl) (fun w' => ?_) ?_
  rotate_left
  · go_simp <;> with_reducible rfl
  simp only [List.setIfInBounds_toArray, List.set_cons_zero, List.set_cons_succ]
  refine wpAnyG_pure 1 9 (v := ?_) rfl (by kernel_rfl) rfl (by rfl) (fun w' => ?_) ?_
  rotate_left
  · go_simp <;> with_reducible rfl
  simp only [List.setIfInBounds_toArray, List.set_cons_zero, List.set_cons_succ]
  refine wpAnyG_pure 2 10 (v := ?_) rfl (by kernel_rfl) rfl (by rfl) (fun w' => ?_) ?_
  rotate_left
  · go_simp <;> with_reducible rfl
  simp only [List.setIfInBounds_toArray, List.set_cons_zero, List.set_cons_succ]
  refine wpAnyG_pure 3 11 (v := ?_) rfl (by kernel_rfl) rfl (by rfl) (fun w' => ?_) ?_
  rotate_left
  · go_simp <;> with_reducible rfl
  simp only [List.setIfInBounds_toArray, List.set_cons_zero, List.set_cons_succ]
  refine wpAnyG_pure 4 12 (v := ?_) rfl (by kernel_rfl) rfl (by rfl) (fun w' => ?_) ?_
  rotate_left
  · go_simp <;> with_reducible rfl
  simp only [List.setIfInBounds_toArray, List.set_cons_zero, List.set_cons_succ]
  refine wpAnyG_pure 5 13 (v := ?_) rfl (by kernel_rfl) rfl (by rfl) (fun w' => ?_) ?_
  rotate_left
  · go_simp <;> with_reducible rfl
  simp only [List.setIfInBounds_toArray, List.set_cons_zero, List.set_cons_succ]
  refine wpAnyG_pure 6 14 (v := ?_) rfl (by kernel_rfl) rfl (by rfl) (fun w' => ?_) ?_
  rotate_left
  · go_simp <;> with_reducible rfl
  simp only [List.setIfInBounds_toArray, List.set_cons_zero, List.set_cons_succ]
  refine wpAnyG_pure 7 15 (v := ?_) rfl (by kernel_rfl) rfl (by rfl) (fun w' => ?_) ?_
  rotate_left
  · go_simp <;> with_reducible rfl
  simp only [List.setIfInBounds_toArray, List.set_cons_zero, List.set_cons_succ]
  refine wpAnyG_pure 8 16 (v := ?_) rfl (by kernel_rfl) rfl (by rfl) (fun w' => ?_) ?_
  rotate_left
  · go_simp <;> with_reducible rfl
  simp only [List.setIfInBounds_toArray, List.set_cons_zero, List.set_cons_succ]
  refine wpAnyG_pure 9 17 (v := ?_) rfl (by kernel_rfl) rfl (by rfl) (fun w' => ?_) ?_
  rotate_left
  · go_simp <;> with_reducible rfl
  simp only [List.setIfInBounds_toArray, List.set_cons_zero, List.set_cons_succ]
  refine wpAnyG_take 10 18 (v := ?_) rfl (by kernel_rfl) rfl (by rfl) (fun w' hG' => ?_) ?_
  rotate_left
  · have hx0 := (bS.grew hG').cell 0
    have hx1 := (bT.grew hG').cell 0
    simp at hx0 hx1
    go_simp <;> with_reducible rfl
  simp only [List.setIfInBounds_toArray, List.set_cons_zero, List.set_cons_succ]
  refine wpAnyG_pure 11 19 (v := ?_) rfl (by kernel_rfl) rfl (by rfl) (fun w' => ?_) ?_
  rotate_left
  · go_simp <;> with_reducible rfl
  simp only [List.setIfInBounds_toArray, List.set_cons_zero, List.set_cons_succ]
  refine wpAnyG_pure 12 20 (v := ?_) rfl (by kernel_rfl) rfl (by rfl) (fun w' => ?_) ?_
  rotate_left
  · go_simp <;> with_reducible rfl
  simp only [List.setIfInBounds_toArray, List.set_cons_zero, List.set_cons_succ]
  refine wpAnyG_pure 13 21 (v := ?_) rfl (by kernel_rfl) rfl (by rfl) (fun w' => ?_) ?_
  rotate_left
  · go_simp <;> with_reducible rfl
  simp only [List.setIfInBounds_toArray, List.set_cons_zero, List.set_cons_succ]
  refine wpAnyG_take 14 22 (v := ?_) rfl (by kernel_rfl) rfl (by rfl) (fun w' hG' => ?_) ?_
  rotate_left
  · have hx0 := (bS.grew hG').cell 0
    have hx1 := (bT.grew hG').cell 0
    simp at hx0 hx1
    go_simp <;> with_reducible rfl
  simp only [List.setIfInBounds_toArray, List.set_cons_zero, List.set_cons_succ]
  refine wpAnyG_pure 15 23 (v := ?_) rfl (by kernel_rfl) rfl (by rfl) (fun w' => ?_) ?_
  rotate_left
  · go_simp <;> with_reducible rfl
  simp only [List.setIfInBounds_toArray, List.set_cons_zero, List.set_cons_succ]
  refine wpAnyG_pure 16 24 (v := ?_) rfl (by kernel_rfl) rfl (by rfl) (fun w' => ?_) ?_
  rotate_left
  · go_simp <;> with_reducible rfl
  simp only [List.setIfInBounds_toArray, List.set_cons_zero, List.set_cons_succ]
  refine wpAnyG_done (by kernel_rfl) ?_
  clear bS bT
  go_wp2_with fail
  go_loopw [7, 30] (fun _ i wr => ∃ k : Nat, k ≤ L ∧ i = .int .i64 k ∧ Hid (SetB wr S n (.slice A L c) (mixW f ws ts k)) ∧ Kept (SB S (.slice A L c)) w wr) (fun _ i _ => L - (intOf i).toNat)
  case atStart => exact ⟨0, by omega, rfl, S0, K0⟩
  case round =>
    clear S0 K0 hS1
    obtain ⟨k, hk, rfl, S1, hK⟩ := hrel
    by_cases hlt : k < L
    · obtain ⟨x, hx⟩ : ∃ x, ws[k]? = some x := ⟨_, List.getElem?_eq_getElem (by rw [HL.out]; exact hlt)⟩
      obtain ⟨y, hy⟩ : ∃ y, ts[k]? = some y := ⟨_, List.getElem?_eq_getElem (by rw [← HLen.out, HL.out]; exact hlt)⟩
      have hmx : (mixW f ws ts k)[k]? = some x := by rw [mixW_get f HLen.out (by rw [HL.out]; exact hk), if_neg (by omega)]; exact hx
      have hml : (mixW f ws ts k).length = L := by rw [mixW_length f HLen.out (by rw [HL.out]; exact hk), HL.out]
      have s2 := S1.out.grew (Kept.refl (fun _ => False) _).drew
      have r2 := (R0.out.kept hK HAP.out).grew (Kept.refl (fun _ => False) _).drew
      obtain ⟨g, c1, cur, hv, bG, hcx, hxl, _⟩ := s2.word hmx
      rw [hml] at hv
      cases hv
      obtain ⟨g2, c2, cur2, hu, bJ, hcy, hyl, _⟩ := r2.word hy
      rw [← HLen.out, HL.out] at hu
      subst hu
      have bS := s2.box
      have bT := r2.box
      have i0 : (0 : Int) ≤ (k : Int) := by omega
      have i1 : (k : Int) < (L : Int) := by omega
      have hF := Lib.hid (fun W => hcall.out x y W hxl hyl)
      have hzl := hltf.out x y hxl hyl
      have hstep := mixW_step f HLen.out (by rw [HL.out]; exact hlt) hx hy
      have s1' := S1.out
      rw [← hml] at s1'
      have hput := s1'.put (q := k) (y := f x y) (by rw [hml]; omega) hzl (fun i hi => by
        rw [hstep]
        exact inW_mix f HLen.out (by rw [HL.out]; exact hlt) i hbit.out (HS.out.out i hi) (R0.out.out i hi))
      rw [hml, hstep] at hput
      obtain ⟨z, hz⟩ : ∃ z, f x y = z := ⟨_, rfl⟩
      rw [hz] at hF hput
      have HP := Lib.hid hput
      clear hx hy hmx hml s2 r2 s1' hstep hput hz hzl hxl hyl
      go_wp2_with fail
      refine wp_region_grow [22] (fun _ => False) (by kernel_rfl) ?_
      simp only [List.size_toArray, List.length_cons, List.length_nil, Nat.reduceAdd]
      refine wpAnyG_pure 0 33 (v := ?_) rfl (by kernel_rfl) rfl (by rfl) (fun w' => ?_) ?_
      rotate_left
      · go_simp <;> with_reducible rfl
      simp only [List.setIfInBounds_toArray, List.set_cons_zero, List.set_cons_succ]
      refine wpAnyG_pure 1 34 (v := ?_) rfl (by kernel_rfl) rfl (by rfl) (fun w' => ?_) ?_
      rotate_left
      · go_simp <;> with_reducible rfl
      simp only [List.setIfInBounds_toArray, List.set_cons_zero, List.set_cons_succ]
      refine wpAnyG_pure 2 35 (v := ?_) rfl (by kernel_rfl) rfl (by rfl) (fun w' => ?_) ?_
      rotate_left
      · go_simp <;> with_reducible rfl
      simp only [List.setIfInBounds_toArray, List.set_cons_zero, List.set_cons_succ]
      refine wpAnyG_take 3 36 (v := ?_) rfl (by kernel_rfl) rfl (by rfl) (fun w' hG' => ?_) ?_
      rotate_left
      · have hx0 := (bS.grew hG').cell 1
        have hx1 := (bT.grew hG').cell 1
        have hx2 := (bG.grew hG').cell k
        have hx3 := (bJ.grew hG').cell k
        rw [hcx] at hx2
        rw [hcy] at hx3
        simp at hx0 hx1
        go_simp <;> with_reducible rfl
      simp only [List.setIfInBounds_toArray, List.set_cons_zero, List.set_cons_succ]
      refine wpAnyG_pure 4 37 (v := ?_) rfl (by kernel_rfl) rfl (by rfl) (fun w' => ?_) ?_
      rotate_left
      · go_simp <;> with_reducible rfl
      simp only [List.setIfInBounds_toArray, List.set_cons_zero, List.set_cons_succ]
      refine wpAnyG_pure 5 38 (v := ?_) rfl (by kernel_rfl) rfl (by rfl) (fun w' => ?_) ?_
      rotate_left
      · go_simp <;> with_reducible rfl
      simp only [List.setIfInBounds_toArray, List.set_cons_zero, List.set_cons_succ]
      refine wpAnyG_pure 6 39 (v := ?_) rfl (by kernel_rfl) rfl (by rfl) (fun w' => ?_) ?_
      rotate_left
      · go_simp <;> with_reducible rfl
      simp only [List.setIfInBounds_toArray, List.set_cons_zero, List.set_cons_succ]
      refine wpAnyG_pure 7 40 (v := ?_) rfl (by kernel_rfl) rfl (by rfl) (fun w' => ?_) ?_
      rotate_left
      · go_simp <;> with_reducible rfl
      simp only [List.setIfInBounds_toArray, List.set_cons_zero, List.set_cons_succ]
      refine wpAnyG_pure 8 41 (v := ?_) rfl (by kernel_rfl) rfl (by rfl) (fun w' => ?_) ?_
      rotate_left
      · go_simp <;> with_reducible rfl
      simp only [List.setIfInBounds_toArray, List.set_cons_zero, List.set_cons_succ]
      refine wpAnyG_take 9 42 (v := ?_) rfl (by kernel_rfl) rfl (by rfl) (fun w' hG' => ?_) ?_
      rotate_left
      · have hx0 := (bS.grew hG').cell 1
        have hx1 := (bT.grew hG').cell 1
        have hx2 := (bG.grew hG').cell k
        have hx3 := (bJ.grew hG').cell k
        rw [hcx] at hx2
        rw [hcy] at hx3
        simp at hx0 hx1
        go_simp <;> with_reducible rfl
      simp only [List.setIfInBounds_toArray, List.set_cons_zero, List.set_cons_succ]
      refine wpAnyG_pure 10 43 (v := ?_) rfl (by kernel_rfl) rfl (by rfl) (fun w' => ?_) ?_
      rotate_left
      · go_simp <;> with_reducible rfl
      simp only [List.setIfInBounds_toArray, List.set_cons_zero, List.set_cons_succ]
      refine wpAnyG_pure 11 44 (v := ?_) rfl (by kernel_rfl) rfl (by rfl) (fun w' => ?_) ?_
      rotate_left
      · go_simp <;> with_reducible rfl
      simp only [List.setIfInBounds_toArray, List.set_cons_zero, List.set_cons_succ]
      refine wpAnyG_take 12 45 (v := ?_) rfl (by kernel_rfl) rfl (by rfl) (fun w' hG' => ?_) ?_
      rotate_left
      · have hx0 := (bS.grew hG').cell 1
        have hx1 := (bT.grew hG').cell 1
        have hx2 := (bG.grew hG').cell k
        have hx3 := (bJ.grew hG').cell k
        rw [hcx] at hx2
        rw [hcy] at hx3
        simp at hx0 hx1
        go_simp <;> with_reducible rfl
      simp only [List.setIfInBounds_toArray, List.set_cons_zero, List.set_cons_succ]
      refine wpAnyG_pure 13 46 (v := ?_) rfl (by kernel_rfl) rfl (by rfl) (fun w' => ?_) ?_
      rotate_left
      · go_simp <;> with_reducible rfl
      simp only [List.setIfInBounds_toArray, List.set_cons_zero, List.set_cons_succ]
      refine wpAnyG_pure 14 47 (v := ?_) rfl (by kernel_rfl) rfl (by rfl) (fun w' => ?_) ?_
      rotate_left
      · go_simp <;> with_reducible rfl
      simp only [List.setIfInBounds_toArray, List.set_cons_zero, List.set_cons_succ]
      refine wpAnyG_pure 15 48 (v := ?_) rfl (by kernel_rfl) rfl (by rfl) (fun w' => ?_) ?_
      rotate_left
      · go_simp <;> with_reducible rfl
      simp only [List.setIfInBounds_toArray, List.set_cons_zero, List.set_cons_succ]
      refine wpAnyG_take 16 49 (v := ?_) rfl (by kernel_rfl) rfl (by rfl) (fun w' hG' => ?_) ?_
      rotate_left
      · have hx0 := (bS.grew hG').cell 1
        have hx1 := (bT.grew hG').cell 1
        have hx2 := (bG.grew hG').cell k
        have hx3 := (bJ.grew hG').cell k
        rw [hcx] at hx2
        rw [hcy] at hx3
        simp at hx0 hx1
        go_simp <;> with_reducible rfl
      simp only [List.setIfInBounds_toArray, List.set_cons_zero, List.set_cons_succ]
      refine wpAnyG_pure 17 50 (v := ?_) rfl (by kernel_rfl) rfl (by rfl) (fun w' => ?_) ?_
      rotate_left
      · go_simp <;> with_reducible rfl
      simp only [List.setIfInBounds_toArray, List.set_cons_zero, List.set_cons_succ]
      refine wpAnyG_pure 18 51 (v := ?_) rfl (by kernel_rfl) rfl (by rfl) (fun w' => ?_) ?_
      rotate_left
      · go_simp <;> with_reducible rfl
      simp only [List.setIfInBounds_toArray, List.set_cons_zero, List.set_cons_succ]
      refine wpAnyG_take 19 52 (v := ?_) rfl (by kernel_rfl) rfl (by rfl) (fun w' hG' => ?_) ?_
      rotate_left
      · have hx0 := (bS.grew hG').cell 1
        have hx1 := (bT.grew hG').cell 1
        have hx2 := (bG.grew hG').cell k
        have hx3 := (bJ.grew hG').cell k
        rw [hcx] at hx2
        rw [hcy] at hx3
        simp at hx0 hx1
        go_simp <;> with_reducible rfl
      simp only [List.setIfInBounds_toArray, List.set_cons_zero, List.set_cons_succ]
      refine wpAnyG_step 20 53 rfl (by kernel_rfl) rfl (by rfl) (fun K hK' => ?_)
      go_simp
      refine (hF.out _).mono ?_
      rintro r w3 ⟨rfl, rfl⟩
      refine hK' _ _ (fun _ => (Kept.refl _ _)) ?_
      clear hK'
      simp only [List.setIfInBounds_toArray, List.set_cons_zero, List.set_cons_succ]
      refine wpAnyG_pure 21 54 (v := ?_) rfl (by kernel_rfl) rfl (by rfl) (fun w' => ?_) ?_
      rotate_left
      · go_simp <;> with_reducible rfl
      simp only [List.setIfInBounds_toArray, List.set_cons_zero, List.set_cons_succ]
      refine wpAnyG_store 22 rfl (by kernel_rfl) rfl (by rfl) (fun K hK' => ?_)
      have hfz := bG.frozen k
      have hcc := bG.cell k
      rw [hcx] at hcc
      go_simp
      refine hK' _ (fun h => absurd (by simp) h) ?_
      clear hK'
      refine wpAnyG_done (by kernel_rfl) ?_
      go_wp2_with fail
      go_roundw
      case rel => exact ⟨k + 1, by omega, by go_num, Lib.hid HP.out.1, hK.trans HP.out.2⟩
      case measure => simp [intOf]; omega
    · obtain rfl : L = k := by omega
      have hS := S1.out
      rw [← HL.out, mixW_all f HLen.out, HL.out] at hS
      have HS2 := Lib.hid hS
      clear hS
      go_wp2_with fail
      go_ret
      exact ⟨rfl, HS2.out, hK⟩
theorem or_yes (w : World) (S T n : Nat) (v u : Value) (ws ts : List Nat) (s : SetB w S n v ws) (r : SetB w T n u ts) (hap : ∀ j, SB T u j → ¬ SB S v j) : Calls Tryd.prog 19 #[pt S, pt T] w fun e w' => e = .returned (.bool true) ∧ SetB w' S n v (List.zipWith (fun x y => x ||| y) ws ts) ∧ Kept (SB S v) w w' := by
  have hW := Lib.hid (with_or w S T n v u ws ts s r hap)
  clear s r hap
  go_enter Tryd.func19, Tryd.ntmps19
  go_wp2_with fail
  refine hW.out.mono ?_
  rintro e w1 ⟨rfl, h1, h2⟩
  go_wp2_with fail
  go_ret
  exact ⟨rfl, h1, h2⟩
theorem or_other (w : World) (S T n m : Nat) (v u : Value) (ws ts : List Nat) (s : SetB w S n v ws) (r : SetB w T m u ts) (hne : n ≠ m) : Calls Tryd.prog 19 #[pt S, pt T] w fun e w' => e = .returned (.bool false) ∧ Grew w w' := by
  have hW := Lib.hid (fun f => with_other w f S T n m v u ws ts s r hne)
  clear s r hne
  go_enter Tryd.func19, Tryd.ntmps19
  go_wp2_with fail
  refine (hW.out _).mono ?_
  rintro e w1 ⟨rfl, h1⟩
  go_wp2_with fail
  go_ret
  exact ⟨rfl, h1⟩
theorem or_nil (w : World) (S n : Nat) (v : Value) (ws : List Nat) (s : SetB w S n v ws) : Calls Tryd.prog 19 #[pt S, .pointer none] w fun e w' => e = .returned (.bool false) ∧ Grew w w' := by
  have hW := Lib.hid (fun f => with_nil w .nilFunc f S n v ws s)
  clear s
  go_enter Tryd.func19, Tryd.ntmps19
  go_wp2_with fail
  refine (hW.out _).mono ?_
  rintro e w1 ⟨rfl, h1⟩
  go_wp2_with fail
  go_ret
  exact ⟨rfl, h1⟩

theorem f_and (x y b : Nat) (h1 : x.testBit b = false) (h2 : y.testBit b = false) : (x &&& y).testBit b = false := by
  rw [Nat.testBit_and, h1, h2]; rfl
theorem lt_and (x y : Nat) (hx : x < W64) (hy : y < W64) : x &&& y < W64 := and_lt x y hx
set_option maxHeartbeats 2000000 in
theorem with_and (w : World) (S T n : Nat) (v u : Value) (ws ts : List Nat) (s : SetB w S n v ws) (r : SetB w T n u ts) (hap : ∀ j, SB T u j → ¬ SB S v j) : Calls Tryd.prog 25 #[pt S, pt T, .func (.func 27) #[] #[]] w fun e w' => e = .returned (.bool true) ∧ SetB w' S n v (List.zipWith (fun x y => x &&& y) ws ts) ∧ Kept (SB S v) w w' := by
  have hlen : ws.length = ts.length := by rw [s.len, r.len]
  have hL2 : ws.length ≤ 1025 := by have := s.len; have := s.small; omega
  obtain ⟨f, hf⟩ : ∃ f : Nat → Nat → Nat, (fun x y => x &&& y) = f := ⟨_, rfl⟩
  rw [hf]
  have hfx : ∀ x y, f x y = x &&& y := fun x y => by rw [← hf]
  have hbit : Hid (∀ x y b : Nat, x.testBit b = false → y.testBit b = false → (f x y).testBit b = false) := fun x y b h1 h2 => by rw [hfx]; exact f_and x y b h1 h2
  have hltf : Hid (∀ x y, x < W64 → y < W64 → f x y < W64) := fun x y h1 h2 => by rw [hfx]; exact lt_and x y h1 h2
  have hcall : Hid (∀ x y W, x < W64 → y < W64 → Calls Tryd.prog 27 #[u64 x, u64 y] W fun e w' => e = .returned (u64 (f x y)) ∧ W = w') := fun x y W h1 h2 => by rw [hfx]; exact and_two x y W h1 h2
  clear hf hfx
  obtain ⟨A, c, hv⟩ := s.row.slice
  obtain ⟨L, hL⟩ : ∃ L, ws.length = L := ⟨_, rfl⟩
  rw [hL] at hv hL2
  subst hv
  have HLen := Lib.hid hlen
  have HL := Lib.hid hL
  have bS := s.box.drew
  have bT := r.box.drew
  have hb : ((n : Int) != (n : Int)) = false := by simp
  have hS1 := (s.grew (Kept.refl (fun _ => False) _).drew).box.cell 1
  simp at hS1
  have S0 : Hid (SetB w.drew S n (.slice A L c) (mixW f ws ts 0)) := by rw [mixW_zero]; exact s.grew (Kept.refl (fun _ => False) _).drew
  have K0 : Kept (SB S (.slice A L c)) w w.drew := (Kept.refl _ _).drew
  have R0 := Lib.hid r
  have HAP := Lib.hid hap
  have HS := Lib.hid s
  clear hlen hL s r hap
  go_enter Tryd.func25, Tryd.ntmps25
  go_wp2_with fail
  refine wp_region_grow [] (fun _ => False) (by kernel_rfl) ?_
  simp only [List.size_toArray, List.length_cons, List.length_nil, Nat.reduceAdd]
  refine wpAnyG_pure 0 8 (v := ?_) rfl (by kernel_rfl) rfl (by rfl) (fun w' => ?_) ?_
  rotate_left
  · go_simp <;> with_reducible rfl
  simp only [List.setIfInBounds_toArray, List.set_cons_zero, List.set_cons_succ]
  refine wpAnyG_pure 1 9 (v := ?_) rfl (by kernel_rfl) rfl (by rfl) (fun w' => ?_) ?_
  rotate_left
  · go_simp <;> with_reducible rfl
  simp only [List.setIfInBounds_toArray, List.set_cons_zero, List.set_cons_succ]
  refine wpAnyG_pure 2 10 (v := ?_) rfl (by kernel_rfl) rfl (by rfl) (fun w' => ?_) ?_
  rotate_left
  · go_simp <;> with_reducible rfl
  simp only [List.setIfInBounds_toArray, List.set_cons_zero, List.set_cons_succ]
  refine wpAnyG_pure 3 11 (v := ?_) rfl (by kernel_rfl) rfl (by rfl) (fun w' => ?_) ?_
  rotate_left
  · go_simp <;> with_reducible rfl
  simp only [List.setIfInBounds_toArray, List.set_cons_zero, List.set_cons_succ]
  refine wpAnyG_pure 4 12 (v := ?_) rfl (by kernel_rfl) rfl (by rfl) (fun w' => ?_) ?_
  rotate_left
  · go_simp <;> with_reducible rfl
  simp only [List.setIfInBounds_toArray, List.set_cons_zero, List.set_cons_succ]
  refine wpAnyG_pure 5 13 (v := ?_) rfl (by kernel_rfl) rfl (by rfl) (fun w' => ?_) ?_
  rotate_left
  · go_simp <;> with_reducible rfl
  simp only [List.setIfInBounds_toArray, List.set_cons_zero, List.set_cons_succ]
  refine wpAnyG_pure 6 14 (v := ?_) rfl (by kernel_rfl) rfl (by rfl) (fun w' => ?_) ?_
  rotate_left
  · go_simp <;> with_reducible rfl
  simp only [List.setIfInBounds_toArray, List.set_cons_zero, List.set_cons_succ]
  refine wpAnyG_pure 7 15 (v := ?_) rfl (by kernel_rfl) rfl (by rfl) (fun w' => ?_) ?_
  rotate_left
  · go_simp <;> with_reducible rfl
  simp only [List.setIfInBounds_toArray, List.set_cons_zero, List.set_cons_succ]
  refine wpAnyG_pure 8 16 (v := ?_) rfl (by kernel_rfl) rfl (by rfl) (fun w' => ?_) ?_
  rotate_left
  · go_simp <;> with_reducible rfl
  simp only [List.setIfInBounds_toArray, List.set_cons_zero, List.set_cons_succ]
  refine wpAnyG_pure 9 17 (v := ?_) rfl (by kernel_rfl) rfl (by rfl) (fun w' => ?_) ?_
  rotate_left
  · go_simp <;> with_reducible rfl
  simp only [List.setIfInBounds_toArray, List.set_cons_zero, List.set_cons_succ]
  refine wpAnyG_take 10 18 (v := ?_) rfl (by kernel_rfl) rfl (by rfl) (fun w' hG' => ?_) ?_
  rotate_left
  · have hx0 := (bS.grew hG').cell 0
    have hx1 := (bT.grew hG').cell 0
    simp at hx0 hx1
    go_simp <;> with_reducible rfl
  simp only [List.setIfInBounds_toArray, List.set_cons_zero, List.set_cons_succ]
  refine wpAnyG_pure 11 19 (v := ?_) rfl (by kernel_rfl) rfl (by rfl) (fun w' => ?_) ?_
  rotate_left
  · go_simp <;> with_reducible rfl
  simp only [List.setIfInBounds_toArray, List.set_cons_zero, List.set_cons_succ]
  refine wpAnyG_pure 12 20 (v := ?_) rfl (by kernel_rfl) rfl (by rfl) (fun w' => ?_) ?_
  rotate_left
  · go_simp <;> with_reducible rfl
  simp only [List.setIfInBounds_toArray, List.set_cons_zero, List.set_cons_succ]
  refine wpAnyG_pure 13 21 (v := ?_) rfl (by kernel_rfl) rfl (by rfl) (fun w' => ?_) ?_
  rotate_left
  · go_simp <;> with_reducible rfl
  simp only [List.setIfInBounds_toArray, List.set_cons_zero, List.set_cons_succ]
  refine wpAnyG_take 14 22 (v := ?_) rfl (by kernel_rfl) rfl (by rfl) (fun w' hG' => ?_) ?_
  rotate_left
  · have hx0 := (bS.grew hG').cell 0
    have hx1 := (bT.grew hG').cell 0
    simp at hx0 hx1
    go_simp <;> with_reducible rfl
  simp only [List.setIfInBounds_toArray, List.set_cons_zero, List.set_cons_succ]
  refine wpAnyG_pure 15 23 (v := ?_) rfl (by kernel_rfl) rfl (by rfl) (fun w' => ?_) ?_
  rotate_left
  · go_simp <;> with_reducible rfl
  simp only [List.setIfInBounds_toArray, List.set_cons_zero, List.set_cons_succ]
  refine wpAnyG_pure 16 24 (v := ?_) rfl (by kernel_rfl) rfl (by rfl) (fun w' => ?_) ?_
  rotate_left
  · go_simp <;> with_reducible rfl
  simp only [List.setIfInBounds_toArray, List.set_cons_zero, List.set_cons_succ]
  refine wpAnyG_done (by kernel_rfl) ?_
  clear bS bT
  go_wp2_with fail
  go_loopw [7, 30] (fun _ i wr => ∃ k : Nat, k ≤ L ∧ i = .int .i64 k ∧ Hid (SetB wr S n (.slice A L c) (mixW f ws ts k)) ∧ Kept (SB S (.slice A L c)) w wr) (fun _ i _ => L - (intOf i).toNat)
  case atStart => exact ⟨0, by omega, rfl, S0, K0⟩
  case round =>
    clear S0 K0 hS1
    obtain ⟨k, hk, rfl, S1, hK⟩ := hrel
    by_cases hlt : k < L
    · obtain ⟨x, hx⟩ : ∃ x, ws[k]? = some x := ⟨_, List.getElem?_eq_getElem (by rw [HL.out]; exact hlt)⟩
      obtain ⟨y, hy⟩ : ∃ y, ts[k]? = some y := ⟨_, List.getElem?_eq_getElem (by rw [← HLen.out, HL.out]; exact hlt)⟩
      have hmx : (mixW f ws ts k)[k]? = some x := by rw [mixW_get f HLen.out (by rw [HL.out]; exact hk), if_neg (by omega)]; exact hx
      have hml : (mixW f ws ts k).length = L := by rw [mixW_length f HLen.out (by rw [HL.out]; exact hk), HL.out]
      have s2 := S1.out.grew (Kept.refl (fun _ => False) _).drew
      have r2 := (R0.out.kept hK HAP.out).grew (Kept.refl (fun _ => False) _).drew
      obtain ⟨g, c1, cur, hv, bG, hcx, hxl, _⟩ := s2.word hmx
      rw [hml] at hv
      cases hv
      obtain ⟨g2, c2, cur2, hu, bJ, hcy, hyl, _⟩ := r2.word hy
      rw [← HLen.out, HL.out] at hu
      subst hu
      have bS := s2.box
      have bT := r2.box
      have i0 : (0 : Int) ≤ (k : Int) := by omega
      have i1 : (k : Int) < (L : Int) := by omega
      have hF := Lib.hid (fun W => hcall.out x y W hxl hyl)
      have hzl := hltf.out x y hxl hyl
      have hstep := mixW_step f HLen.out (by rw [HL.out]; exact hlt) hx hy
      have s1' := S1.out
      rw [← hml] at s1'
      have hput := s1'.put (q := k) (y := f x y) (by rw [hml]; omega) hzl (fun i hi => by
        rw [hstep]
        exact inW_mix f HLen.out (by rw [HL.out]; exact hlt) i hbit.out (HS.out.out i hi) (R0.out.out i hi))
      rw [hml, hstep] at hput
      obtain ⟨z, hz⟩ : ∃ z, f x y = z := ⟨_, rfl⟩
      rw [hz] at hF hput
      have HP := Lib.hid hput
      clear hx hy hmx hml s2 r2 s1' hstep hput hz hzl hxl hyl
      go_wp2_with fail
      refine wp_region_grow [22] (fun _ => False) (by kernel_rfl) ?_
      simp only [List.size_toArray, List.length_cons, List.length_nil, Nat.reduceAdd]
      refine wpAnyG_pure 0 33 (v := ?_) rfl (by kernel_rfl) rfl (by rfl) (fun w' => ?_) ?_
      rotate_left
      · go_simp <;> with_reducible rfl
      simp only [List.setIfInBounds_toArray, List.set_cons_zero, List.set_cons_succ]
      refine wpAnyG_pure 1 34 (v := ?_) rfl (by kernel_rfl) rfl (by rfl) (fun w' => ?_) ?_
      rotate_left
      · go_simp <;> with_reducible rfl
      simp only [List.setIfInBounds_toArray, List.set_cons_zero, List.set_cons_succ]
      refine wpAnyG_pure 2 35 (v := ?_) rfl (by kernel_rfl) rfl (by rfl) (fun w' => ?_) ?_
      rotate_left
      · go_simp <;> with_reducible rfl
      simp only [List.setIfInBounds_toArray, List.set_cons_zero, List.set_cons_succ]
      refine wpAnyG_take 3 36 (v := ?_) rfl (by kernel_rfl) rfl (by rfl) (fun w' hG' => ?_) ?_
      rotate_left
      · have hx0 := (bS.grew hG').cell 1
        have hx1 := (bT.grew hG').cell 1
        have hx2 := (bG.grew hG').cell k
        have hx3 := (bJ.grew hG').cell k
        rw [hcx] at hx2
        rw [hcy] at hx3
        simp at hx0 hx1
        go_simp <;> with_reducible rfl
      simp only [List.setIfInBounds_toArray, List.set_cons_zero, List.set_cons_succ]
      refine wpAnyG_pure 4 37 (v := ?_) rfl (by kernel_rfl) rfl (by rfl) (fun w' => ?_) ?_
      rotate_left
      · go_simp <;> with_reducible rfl
      simp only [List.setIfInBounds_toArray, List.set_cons_zero, List.set_cons_succ]
      refine wpAnyG_pure 5 38 (v := ?_) rfl (by kernel_rfl) rfl (by rfl) (fun w' => ?_) ?_
      rotate_left
      · go_simp <;> with_reducible rfl
      simp only [List.setIfInBounds_toArray, List.set_cons_zero, List.set_cons_succ]
      refine wpAnyG_pure 6 39 (v := ?_) rfl (by kernel_rfl) rfl (by rfl) (fun w' => ?_) ?_
      rotate_left
      · go_simp <;> with_reducible rfl
      simp only [List.setIfInBounds_toArray, List.set_cons_zero, List.set_cons_succ]
      refine wpAnyG_pure 7 40 (v := ?_) rfl (by kernel_rfl) rfl (by rfl) (fun w' => ?_) ?_
      rotate_left
      · go_simp <;> with_reducible rfl
      simp only [List.setIfInBounds_toArray, List.set_cons_zero, List.set_cons_succ]
      refine wpAnyG_pure 8 41 (v := ?_) rfl (by kernel_rfl) rfl (by rfl) (fun w' => ?_) ?_
      rotate_left
      · go_simp <;> with_reducible rfl
      simp only [List.setIfInBounds_toArray, List.set_cons_zero, List.set_cons_succ]
      refine wpAnyG_take 9 42 (v := ?_) rfl (by kernel_rfl) rfl (by rfl) (fun w' hG' => ?_) ?_
      rotate_left
      · have hx0 := (bS.grew hG').cell 1
        have hx1 := (bT.grew hG').cell 1
        have hx2 := (bG.grew hG').cell k
        have hx3 := (bJ.grew hG').cell k
        rw [hcx] at hx2
        rw [hcy] at hx3
        simp at hx0 hx1
        go_simp <;> with_reducible rfl
      simp only [List.setIfInBounds_toArray, List.set_cons_zero, List.set_cons_succ]
      refine wpAnyG_pure 10 43 (v := ?_) rfl (by kernel_rfl) rfl (by rfl) (fun w' => ?_) ?_
      rotate_left
      · go_simp <;> with_reducible rfl
      simp only [List.setIfInBounds_toArray, List.set_cons_zero, List.set_cons_succ]
      refine wpAnyG_pure 11 44 (v := ?_) rfl (by kernel_rfl) rfl (by rfl) (fun w' => ?_) ?_
      rotate_left
      · go_simp <;> with_reducible rfl
      simp only [List.setIfInBounds_toArray, List.set_cons_zero, List.set_cons_succ]
      refine wpAnyG_take 12 45 (v := ?_) rfl (by kernel_rfl) rfl (by rfl) (fun w' hG' => ?_) ?_
      rotate_left
      · have hx0 := (bS.grew hG').cell 1
        have hx1 := (bT.grew hG').cell 1
        have hx2 := (bG.grew hG').cell k
        have hx3 := (bJ.grew hG').cell k
        rw [hcx] at hx2
        rw [hcy] at hx3
        simp at hx0 hx1
        go_simp <;> with_reducible rfl
      simp only [List.setIfInBounds_toArray, List.set_cons_zero, List.set_cons_succ]
      refine wpAnyG_pure 13 46 (v := ?_) rfl (by kernel_rfl) rfl (by rfl) (fun w' => ?_) ?_
      rotate_left
      · go_simp <;> with_reducible rfl
      simp only [List.setIfInBounds_toArray, List.set_cons_zero, List.set_cons_succ]
      refine wpAnyG_pure 14 47 (v := ?_) rfl (by kernel_rfl) rfl (by rfl) (fun w' => ?_) ?_
      rotate_left
      · go_simp <;> with_reducible rfl
      simp only [List.setIfInBounds_toArray, List.set_cons_zero, List.set_cons_succ]
      refine wpAnyG_pure 15 48 (v := ?_) rfl (by kernel_rfl) rfl (by rfl) (fun w' => ?_) ?_
      rotate_left
      · go_simp <;> with_reducible rfl
      simp only [List.setIfInBounds_toArray, List.set_cons_zero, List.set_cons_succ]
      refine wpAnyG_take 16 49 (v := ?_) rfl (by kernel_rfl) rfl (by rfl) (fun w' hG' => ?_) ?_
      rotate_left
      · have hx0 := (bS.grew hG').cell 1
        have hx1 := (bT.grew hG').cell 1
        have hx2 := (bG.grew hG').cell k
        have hx3 := (bJ.grew hG').cell k
        rw [hcx] at hx2
        rw [hcy] at hx3
        simp at hx0 hx1
        go_simp <;> with_reducible rfl
      simp only [List.setIfInBounds_toArray, List.set_cons_zero, List.set_cons_succ]
      refine wpAnyG_pure 17 50 (v := ?_) rfl (by kernel_rfl) rfl (by rfl) (fun w' => ?_) ?_
      rotate_left
      · go_simp <;> with_reducible rfl
      simp only [List.setIfInBounds_toArray, List.set_cons_zero, List.set_cons_succ]
      refine wpAnyG_pure 18 51 (v := ?_) rfl (by kernel_rfl) rfl (by rfl) (fun w' => ?_) ?_
      rotate_left
      · go_simp <;> with_reducible rfl
      simp only [List.setIfInBounds_toArray, List.set_cons_zero, List.set_cons_succ]
      refine wpAnyG_take 19 52 (v := ?_) rfl (by kernel_rfl) rfl (by rfl) (fun w' hG' => ?_) ?_
      rotate_left
      · have hx0 := (bS.grew hG').cell 1
        have hx1 := (bT.grew hG').cell 1
        have hx2 := (bG.grew hG').cell k
        have hx3 := (bJ.grew hG').cell k
        rw [hcx] at hx2
        rw [hcy] at hx3
        simp at hx0 hx1
        go_simp <;> with_reducible rfl
      simp only [List.setIfInBounds_toArray, List.set_cons_zero, List.set_cons_succ]
      refine wpAnyG_step 20 53 rfl (by kernel_rfl) rfl (by rfl) (fun K hK' => ?_)
      go_simp
      refine (hF.out _).mono ?_
      rintro r w3 ⟨rfl, rfl⟩
      refine hK' _ _ (fun _ => (Kept.refl _ _)) ?_
      clear hK'
      simp only [List.setIfInBounds_toArray, List.set_cons_zero, List.set_cons_succ]
      refine wpAnyG_pure 21 54 (v := ?_) rfl (by kernel_rfl) rfl (by rfl) (fun w' => ?_) ?_
      rotate_left
      · go_simp <;> with_reducible rfl
      simp only [List.setIfInBounds_toArray, List.set_cons_zero, List.set_cons_succ]
      refine wpAnyG_store 22 rfl (by kernel_rfl) rfl (by rfl) (fun K hK' => ?_)
      have hfz := bG.frozen k
      have hcc := bG.cell k
      rw [hcx] at hcc
      go_simp
      refine hK' _ (fun h => absurd (by simp) h) ?_
      clear hK'
      refine wpAnyG_done (by kernel_rfl) ?_
      go_wp2_with fail
      go_roundw
      case rel => exact ⟨k + 1, by omega, by go_num, Lib.hid HP.out.1, hK.trans HP.out.2⟩
      case measure => simp [intOf]; omega
    · obtain rfl : L = k := by omega
      have hS := S1.out
      rw [← HL.out, mixW_all f HLen.out, HL.out] at hS
      have HS2 := Lib.hid hS
      clear hS
      go_wp2_with fail
      go_ret
      exact ⟨rfl, HS2.out, hK⟩
theorem and_yes (w : World) (S T n : Nat) (v u : Value) (ws ts : List Nat) (s : SetB w S n v ws) (r : SetB w T n u ts) (hap : ∀ j, SB T u j → ¬ SB S v j) : Calls Tryd.prog 20 #[pt S, pt T] w fun e w' => e = .returned (.bool true) ∧ SetB w' S n v (List.zipWith (fun x y => x &&& y) ws ts) ∧ Kept (SB S v) w w' := by
  have hW := Lib.hid (with_and w S T n v u ws ts s r hap)
  clear s r hap
  go_enter Tryd.func20, Tryd.ntmps20
  go_wp2_with fail
  refine hW.out.mono ?_
  rintro e w1 ⟨rfl, h1, h2⟩
  go_wp2_with fail
  go_ret
  exact ⟨rfl, h1, h2⟩
theorem and_other (w : World) (S T n m : Nat) (v u : Value) (ws ts : List Nat) (s : SetB w S n v ws) (r : SetB w T m u ts) (hne : n ≠ m) : Calls Tryd.prog 20 #[pt S, pt T] w fun e w' => e = .returned (.bool false) ∧ Grew w w' := by
  have hW := Lib.hid (fun f => with_other w f S T n m v u ws ts s r hne)
  clear s r hne
  go_enter Tryd.func20, Tryd.ntmps20
  go_wp2_with fail
  refine (hW.out _).mono ?_
  rintro e w1 ⟨rfl, h1⟩
  go_wp2_with fail
  go_ret
  exact ⟨rfl, h1⟩
theorem and_nil (w : World) (S n : Nat) (v : Value) (ws : List Nat) (s : SetB w S n v ws) : Calls Tryd.prog 20 #[pt S, .pointer none] w fun e w' => e = .returned (.bool false) ∧ Grew w w' := by
  have hW := Lib.hid (fun f => with_nil w .nilFunc f S n v ws s)
  clear s
  go_enter Tryd.func20, Tryd.ntmps20
  go_wp2_with fail
  refine (hW.out _).mono ?_
  rintro e w1 ⟨rfl, h1⟩
  go_wp2_with fail
  go_ret
  exact ⟨rfl, h1⟩
end Go.Proofs.YtabddnlcgmbopaaDoor
