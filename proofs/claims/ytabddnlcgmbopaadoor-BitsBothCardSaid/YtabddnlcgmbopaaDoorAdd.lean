/- Sets of numbers: Add and Drop. -/
import Derived.Test.YtabddnlcgmbopaaDoorSet
namespace Go.Proofs.YtabddnlcgmbopaaDoor
open Go.RowKit


theorem two_pow_wrap (b : Nat) (hb : b < 64) : IntKind.u64.wrap ((2 : Int) ^ b) = ((2 ^ b : Nat) : Int) := by
  have h2 : 2 ^ b < 2 ^ 64 := Nat.pow_lt_pow_right (by omega) hb
  have e : ((2 : Int) ^ b) = ((2 ^ b : Nat) : Int) := by rw [Int.natCast_pow]; rfl
  rw [e]
  obtain ⟨y, hy⟩ : ∃ y, 2 ^ b = y := ⟨_, rfl⟩
  rw [hy] at h2 ⊢
  clear e hy
  simp only [IntKind.wrap, IntKind.bits, IntKind.signed]
  simp
  omega
theorem or_bit (x b : Nat) (hx : x < W64) (hb : b < 64) : bits .or .u64 (x : Int) (IntKind.u64.wrap ((2 : Int) ^ b)) = ((x ||| 2 ^ b : Nat) : Int) := by
  unfold W64 at hx
  have h2 : 2 ^ b < 2 ^ 64 := Nat.pow_lt_pow_right (by omega) hb
  rw [two_pow_wrap b hb, u64_or_nat _ _ hx h2]
theorem andNot_bit (x b : Nat) (hx : x < W64) (hb : b < 64) : bits .andNot .u64 (x : Int) (IntKind.u64.wrap ((2 : Int) ^ b)) = ((x &&& (18446744073709551615 - 2 ^ b) : Nat) : Int) := by
  unfold W64 at hx
  have h2 : 2 ^ b < 2 ^ 64 := Nat.pow_lt_pow_right (by omega) hb
  rw [two_pow_wrap b hb, u64_andNot_nat _ _ hx h2]
theorem SetB.put {w : World} {S n g c q y : Nat} {ws : List Nat} (s : SetB w S n (.slice (some ⟨g, 0, none⟩) ws.length c) ws) (hne : 0 < ws.length) (hy : y < W64) (hout : ∀ i, n ≤ i → inW (ws.set q y) i = false) : SetB (w.setCell ⟨g, q, none⟩ (u64 y)).drew S n (.slice (some ⟨g, 0, none⟩) ws.length c) (ws.set q y) ∧ Kept (SB S (.slice (some ⟨g, 0, none⟩) ws.length c)) w (w.setCell ⟨g, q, none⟩ (u64 y)).drew := by
  obtain ⟨m, hm⟩ : ∃ m, ws.length = m + 1 := ⟨ws.length - 1, by omega⟩
  have hown : ownW (.slice (some ⟨g, 0, none⟩) ws.length c) = some g := by rw [hm]; rfl
  rcases s.row with ⟨h, _⟩ | ⟨g1, c1, cur, hv, h0, hb, hc⟩
  · rw [h] at hne; simp at hne
  · cases hv
    have hSg : S ≠ g := by
      rintro rfl
      have := s.box.symm.trans hb
      simp at this
    refine ⟨⟨(s.box.far (p := ⟨g, q, none⟩) hSg _).drew, .inr ⟨g, c, _, by rw [List.length_set], by rw [List.length_set]; exact h0, (hb.set q _).drew, ?_⟩, by rw [List.length_set]; exact s.len, ?_, hout, s.small⟩, ((Kept.refl _ _).setCell (p := ⟨g, q, none⟩) (.inl (.inr hown)) _).drew⟩
    · intro j x hj
      rw [List.getElem?_set] at hj
      rw [Array.getElem?_setIfInBounds]
      split at hj
      · rename_i hq
        subst hq
        have hql : q < ws.length := by
          rcases Nat.lt_or_ge q ws.length with h | h
          · exact h
          · simp [Nat.not_lt.2 h] at hj
        obtain ⟨z, hz⟩ : ∃ z, ws[q]? = some z := ⟨_, List.getElem?_eq_getElem hql⟩
        have hcq := hc q z hz
        have hqs := (Array.getElem?_eq_some_iff.1 hcq).1
        simp [hql] at hj
        subst hj
        simp [hqs]
      · rename_i hq
        rw [if_neg hq]
        exact hc j x hj
    · intro x hx
      rcases List.mem_or_eq_of_mem_set hx with h | h
      · exact s.lt x h
      · rw [h]; exact hy

theorem add_yes (w : World) (S n : Nat) (v : Value) (ws : List Nat) (s : SetB w S n v ws) (i : Nat) (hi : i < n) (hin : inW ws i = false) : Calls Tryd.prog 11 #[pt S, i64 (i : Int)] w fun e w' => e = .returned (.bool true) ∧ SetB w' S n v (addW ws i) ∧ Kept (SB S v) w w' := by
  have hS := Lib.hid (size_any w S n v ws s)
  have hH0 := has_in w S n v ws s i hi
  rw [hin] at hH0
  have hH := Lib.hid hH0
  have hsm := s.small
  have hj : i / 64 < ws.length := by rw [s.len]; omega
  obtain ⟨q, hq⟩ : ∃ q, i / 64 = q := ⟨_, rfl⟩
  obtain ⟨b, hb⟩ : ∃ b, i % 64 = b := ⟨_, rfl⟩
  rw [hq] at hj
  obtain ⟨x, hx⟩ : ∃ x, ws[q]? = some x := ⟨_, List.getElem?_eq_getElem hj⟩
  obtain ⟨g, c, cur, hv, hbl, hcq, hxl, hown⟩ := s.word hx
  subst hv
  have bH := s.box.drew
  have bG := hbl.drew
  have d0 : decide ((i : Int) < 0) = false := decide_eq_false (by omega)
  have d1 : decide ((n : Int) ≤ (i : Int)) = false := decide_eq_false (by omega)
  have d2 : decide (n ≤ i) = false := decide_eq_false (by omega)
  have i0 : (0 : Int) ≤ (i : Int) := by omega
  have e1 : (i : Int) / 64 = (q : Int) := by omega
  have e2 : (i : Int) % 64 = (b : Int) := by omega
  have b0 : (0 : Int) ≤ (b : Int) := by omega
  have b1 : (b : Int) < 64 := by omega
  have q0 : (0 : Int) ≤ (q : Int) := by omega
  have q1 : (q : Int) < (ws.length : Int) := by omega
  have hil : (i : Int) ≤ 65536 := by omega
  have e3 : Int.tmod (i : Int) 64 = (b : Int) := by rw [Int.tmod_eq_emod_of_nonneg i0]; exact e2
  have wq : IntKind.i64.wrap (q : Int) = (q : Int) := IntWalk.i64_in _ (by omega)
  obtain ⟨y, hy⟩ : ∃ y, x ||| 2 ^ b = y := ⟨_, rfl⟩
  have hyl : y < W64 := by rw [← hy]; exact or_lt x b hxl (by omega)
  have hset : addW ws i = ws.set q y := by unfold addW; rw [hq, hb, List.getD_eq_getElem?_getD, hx]; exact congrArg _ hy
  have hval : bits .or .u64 (x : Int) (IntKind.u64.wrap ((2 : Int) ^ b)) = (((x ||| 2 ^ b : Nat)) : Int) := or_bit x b hxl (by omega)
  rw [hset]
  have hP := Lib.hid (s.put (q := q) (y := y) (by omega) hyl (fun j hj2 => by rw [← hset, inW_add ws i j (by omega), s.out j hj2]; first | (simp; done) | (simp; omega)))
  clear s hq hb hin hx hH0 hbl hset
  rw [hy] at hval
  clear hy
  go_enter Tryd.func11, Tryd.ntmps11
  go_wp2_with fail
  refine hS.out.mono ?_
  rintro r w1 ⟨rfl, rfl⟩
  go_wp2_with fail
  refine hH.out.mono ?_
  rintro r w1 ⟨rfl, rfl⟩
  go_wp2_with fail
  refine wp_region_grow [13] (fun _ => False) (by kernel_rfl) ?_
  simp only [List.size_toArray, List.length_cons, List.length_nil, Nat.reduceAdd]
  refine wpAnyG_pure 0 18 (v := ?_) rfl (by kernel_rfl) rfl (by rfl) (fun w' => ?_) ?_
  rotate_left
  · go_simp <;> with_reducible rfl
  simp only [List.setIfInBounds_toArray, List.set_cons_zero, List.set_cons_succ]
  refine wpAnyG_pure 1 19 (v := ?_) rfl (by kernel_rfl) rfl (by rfl) (fun w' => ?_) ?_
  rotate_left
  · go_simp <;> with_reducible rfl
  simp only [List.setIfInBounds_toArray, List.set_cons_zero, List.set_cons_succ]
  refine wpAnyG_pure 2 20 (v := ?_) rfl (by kernel_rfl) rfl (by rfl) (fun w' => ?_) ?_
  rotate_left
  · go_simp <;> with_reducible rfl
  simp only [List.setIfInBounds_toArray, List.set_cons_zero, List.set_cons_succ]
  refine wpAnyG_take 3 21 (v := ?_) rfl (by kernel_rfl) rfl (by rfl) (fun w' hG' => ?_) ?_
  rotate_left
  · have hx0 := (bH.grew hG').cell 1
    have hx1 := (bG.grew hG').cell q
    rw [hcq] at hx1
    simp at hx0
    go_simp <;> with_reducible rfl
  simp only [List.setIfInBounds_toArray, List.set_cons_zero, List.set_cons_succ]
  refine wpAnyG_pure 4 22 (v := ?_) rfl (by kernel_rfl) rfl (by rfl) (fun w' => ?_) ?_
  rotate_left
  · go_simp <;> with_reducible rfl
  simp only [List.setIfInBounds_toArray, List.set_cons_zero, List.set_cons_succ]
  refine wpAnyG_pure 5 23 (v := ?_) rfl (by kernel_rfl) rfl (by rfl) (fun w' => ?_) ?_
  rotate_left
  · go_simp <;> with_reducible rfl
  simp only [List.setIfInBounds_toArray, List.set_cons_zero, List.set_cons_succ]
  refine wpAnyG_pure 6 24 (v := ?_) rfl (by kernel_rfl) rfl (by rfl) (fun w' => ?_) ?_
  rotate_left
  · go_simp <;> with_reducible rfl
  simp only [List.setIfInBounds_toArray, List.set_cons_zero, List.set_cons_succ]
  refine wpAnyG_take 7 25 (v := ?_) rfl (by kernel_rfl) rfl (by rfl) (fun w' hG' => ?_) ?_
  rotate_left
  · have hx0 := (bH.grew hG').cell 1
    have hx1 := (bG.grew hG').cell q
    rw [hcq] at hx1
    simp at hx0
    go_simp <;> with_reducible rfl
  simp only [List.setIfInBounds_toArray, List.set_cons_zero, List.set_cons_succ]
  refine wpAnyG_pure 8 26 (v := ?_) rfl (by kernel_rfl) rfl (by rfl) (fun w' => ?_) ?_
  rotate_left
  · go_simp <;> with_reducible rfl
  simp only [List.setIfInBounds_toArray, List.set_cons_zero, List.set_cons_succ]
  refine wpAnyG_pure 9 27 (v := ?_) rfl (by kernel_rfl) rfl (by rfl) (fun w' => ?_) ?_
  rotate_left
  · go_simp <;> with_reducible rfl
  simp only [List.setIfInBounds_toArray, List.set_cons_zero, List.set_cons_succ]
  refine wpAnyG_pure 10 28 (v := ?_) rfl (by kernel_rfl) rfl (by rfl) (fun w' => ?_) ?_
  rotate_left
  · go_simp <;> with_reducible rfl
  simp only [List.setIfInBounds_toArray, List.set_cons_zero, List.set_cons_succ]
  refine wpAnyG_pure 11 29 (v := ?_) rfl (by kernel_rfl) rfl (by rfl) (fun w' => ?_) ?_
  rotate_left
  · go_simp <;> with_reducible rfl
  simp only [List.setIfInBounds_toArray, List.set_cons_zero, List.set_cons_succ]
  refine wpAnyG_pure 12 30 (v := ?_) rfl (by kernel_rfl) rfl (by rfl) (fun w' => ?_) ?_
  rotate_left
  · go_simp <;> with_reducible rfl
  simp only [List.setIfInBounds_toArray, List.set_cons_zero, List.set_cons_succ]
  refine wpAnyG_store 13 rfl (by kernel_rfl) rfl (by rfl) (fun K hK' => ?_)
  have hfz := bG.frozen q
  have hcc := bG.cell q
  rw [hcq] at hcc
  go_simp
  refine hK' _ (fun h => absurd (by simp) h) ?_
  clear hK'
  refine wpAnyG_done (by kernel_rfl) ?_
  go_wp2_with fail
  go_ret
  exact ⟨rfl, hP.out.1, hP.out.2⟩

theorem drop_yes (w : World) (S n : Nat) (v : Value) (ws : List Nat) (s : SetB w S n v ws) (i : Nat) (hi : i < n) (hin : inW ws i = true) : Calls Tryd.prog 12 #[pt S, i64 (i : Int)] w fun e w' => e = .returned (.bool true) ∧ SetB w' S n v (dropW ws i) ∧ Kept (SB S v) w w' := by
  have hS := Lib.hid (size_any w S n v ws s)
  have hH0 := has_in w S n v ws s i hi
  rw [hin] at hH0
  have hH := Lib.hid hH0
  have hsm := s.small
  have hj : i / 64 < ws.length := by rw [s.len]; omega
  obtain ⟨q, hq⟩ : ∃ q, i / 64 = q := ⟨_, rfl⟩
  obtain ⟨b, hb⟩ : ∃ b, i % 64 = b := ⟨_, rfl⟩
  rw [hq] at hj
  obtain ⟨x, hx⟩ : ∃ x, ws[q]? = some x := ⟨_, List.getElem?_eq_getElem hj⟩
  obtain ⟨g, c, cur, hv, hbl, hcq, hxl, hown⟩ := s.word hx
  subst hv
  have bH := s.box.drew
  have bG := hbl.drew
  have d0 : decide ((i : Int) < 0) = false := decide_eq_false (by omega)
  have d1 : decide ((n : Int) ≤ (i : Int)) = false := decide_eq_false (by omega)
  have d2 : decide (n ≤ i) = false := decide_eq_false (by omega)
  have i0 : (0 : Int) ≤ (i : Int) := by omega
  have e1 : (i : Int) / 64 = (q : Int) := by omega
  have e2 : (i : Int) % 64 = (b : Int) := by omega
  have b0 : (0 : Int) ≤ (b : Int) := by omega
  have b1 : (b : Int) < 64 := by omega
  have q0 : (0 : Int) ≤ (q : Int) := by omega
  have q1 : (q : Int) < (ws.length : Int) := by omega
  have hil : (i : Int) ≤ 65536 := by omega
  have e3 : Int.tmod (i : Int) 64 = (b : Int) := by rw [Int.tmod_eq_emod_of_nonneg i0]; exact e2
  have wq : IntKind.i64.wrap (q : Int) = (q : Int) := IntWalk.i64_in _ (by omega)
  obtain ⟨y, hy⟩ : ∃ y, x &&& (18446744073709551615 - 2 ^ b) = y := ⟨_, rfl⟩
  have hyl : y < W64 := by rw [← hy]; exact and_lt x _ hxl
  have hset : dropW ws i = ws.set q y := by unfold dropW; rw [hq, hb, List.getD_eq_getElem?_getD, hx]; exact congrArg _ hy
  have hval : bits .andNot .u64 (x : Int) (IntKind.u64.wrap ((2 : Int) ^ b)) = (((x &&& (18446744073709551615 - 2 ^ b) : Nat)) : Int) := andNot_bit x b hxl (by omega)
  rw [hset]
  have hP := Lib.hid (s.put (q := q) (y := y) (by omega) hyl (fun j hj2 => by rw [← hset, inW_drop ws i j (by omega), s.out j hj2]; first | (simp; done) | (simp; omega)))
  clear s hq hb hin hx hH0 hbl hset
  rw [hy] at hval
  clear hy
  go_enter Tryd.func12, Tryd.ntmps12
  go_wp2_with fail
  refine hH.out.mono ?_
  rintro r w1 ⟨rfl, rfl⟩
  go_wp2_with fail
  refine wp_region_grow [13] (fun _ => False) (by kernel_rfl) ?_
  simp only [List.size_toArray, List.length_cons, List.length_nil, Nat.reduceAdd]
  refine wpAnyG_pure 0 9 (v := ?_) rfl (by kernel_rfl) rfl (by rfl) (fun w' => ?_) ?_
  rotate_left
  · go_simp <;> with_reducible rfl
  simp only [List.setIfInBounds_toArray, List.set_cons_zero, List.set_cons_succ]
  refine wpAnyG_pure 1 10 (v := ?_) rfl (by kernel_rfl) rfl (by rfl) (fun w' => ?_) ?_
  rotate_left
  · go_simp <;> with_reducible rfl
  simp only [List.setIfInBounds_toArray, List.set_cons_zero, List.set_cons_succ]
  refine wpAnyG_pure 2 11 (v := ?_) rfl (by kernel_rfl) rfl (by rfl) (fun w' => ?_) ?_
  rotate_left
  · go_simp <;> with_reducible rfl
  simp only [List.setIfInBounds_toArray, List.set_cons_zero, List.set_cons_succ]
  refine wpAnyG_take 3 12 (v := ?_) rfl (by kernel_rfl) rfl (by rfl) (fun w' hG' => ?_) ?_
  rotate_left
  · have hx0 := (bH.grew hG').cell 1
    have hx1 := (bG.grew hG').cell q
    rw [hcq] at hx1
    simp at hx0
    go_simp <;> with_reducible rfl
  simp only [List.setIfInBounds_toArray, List.set_cons_zero, List.set_cons_succ]
  refine wpAnyG_pure 4 13 (v := ?_) rfl (by kernel_rfl) rfl (by rfl) (fun w' => ?_) ?_
  rotate_left
  · go_simp <;> with_reducible rfl
  simp only [List.setIfInBounds_toArray, List.set_cons_zero, List.set_cons_succ]
  refine wpAnyG_pure 5 14 (v := ?_) rfl (by kernel_rfl) rfl (by rfl) (fun w' => ?_) ?_
  rotate_left
  · go_simp <;> with_reducible rfl
  simp only [List.setIfInBounds_toArray, List.set_cons_zero, List.set_cons_succ]
  refine wpAnyG_pure 6 15 (v := ?_) rfl (by kernel_rfl) rfl (by rfl) (fun w' => ?_) ?_
  rotate_left
  · go_simp <;> with_reducible rfl
  simp only [List.setIfInBounds_toArray, List.set_cons_zero, List.set_cons_succ]
  refine wpAnyG_take 7 16 (v := ?_) rfl (by kernel_rfl) rfl (by rfl) (fun w' hG' => ?_) ?_
  rotate_left
  · have hx0 := (bH.grew hG').cell 1
    have hx1 := (bG.grew hG').cell q
    rw [hcq] at hx1
    simp at hx0
    go_simp <;> with_reducible rfl
  simp only [List.setIfInBounds_toArray, List.set_cons_zero, List.set_cons_succ]
  refine wpAnyG_pure 8 17 (v := ?_) rfl (by kernel_rfl) rfl (by rfl) (fun w' => ?_) ?_
  rotate_left
  · go_simp <;> with_reducible rfl
  simp only [List.setIfInBounds_toArray, List.set_cons_zero, List.set_cons_succ]
  refine wpAnyG_pure 9 18 (v := ?_) rfl (by kernel_rfl) rfl (by rfl) (fun w' => ?_) ?_
  rotate_left
  · go_simp <;> with_reducible rfl
  simp only [List.setIfInBounds_toArray, List.set_cons_zero, List.set_cons_succ]
  refine wpAnyG_pure 10 19 (v := ?_) rfl (by kernel_rfl) rfl (by rfl) (fun w' => ?_) ?_
  rotate_left
  · go_simp <;> with_reducible rfl
  simp only [List.setIfInBounds_toArray, List.set_cons_zero, List.set_cons_succ]
  refine wpAnyG_pure 11 20 (v := ?_) rfl (by kernel_rfl) rfl (by rfl) (fun w' => ?_) ?_
  rotate_left
  · go_simp <;> with_reducible rfl
  simp only [List.setIfInBounds_toArray, List.set_cons_zero, List.set_cons_succ]
  refine wpAnyG_pure 12 21 (v := ?_) rfl (by kernel_rfl) rfl (by rfl) (fun w' => ?_) ?_
  rotate_left
  · go_simp <;> with_reducible rfl
  simp only [List.setIfInBounds_toArray, List.set_cons_zero, List.set_cons_succ]
  refine wpAnyG_store 13 rfl (by kernel_rfl) rfl (by rfl) (fun K hK' => ?_)
  have hfz := bG.frozen q
  have hcc := bG.cell q
  rw [hcq] at hcc
  go_simp
  refine hK' _ (fun h => absurd (by simp) h) ?_
  clear hK'
  refine wpAnyG_done (by kernel_rfl) ?_
  go_wp2_with fail
  go_ret
  exact ⟨rfl, hP.out.1, hP.out.2⟩

theorem add_no (w : World) (S n : Nat) (v : Value) (ws : List Nat) (s : SetB w S n v ws) (i : Nat) (hi : i < n) (hin : inW ws i = true) : Calls Tryd.prog 11 #[pt S, i64 (i : Int)] w fun e w' => e = .returned (.bool false) ∧ w = w' := by
  have hS := Lib.hid (size_any w S n v ws s)
  have hH0 := has_in w S n v ws s i hi
  rw [hin] at hH0
  have hH := Lib.hid hH0
  have d0 : decide ((i : Int) < 0) = false := decide_eq_false (by omega)
  have d2 : decide (n ≤ i) = false := decide_eq_false (by omega)
  clear hH0
  go_enter Tryd.func11, Tryd.ntmps11
  go_wp2_with fail
  refine hS.out.mono ?_
  rintro r w1 ⟨rfl, rfl⟩
  go_wp2_with fail
  refine hH.out.mono ?_
  rintro r w1 ⟨rfl, rfl⟩
  go_wp2_with fail
  go_ret
  exact ⟨rfl, rfl⟩
theorem add_out (w : World) (S n : Nat) (v : Value) (ws : List Nat) (s : SetB w S n v ws) (i : Int) (hi : i < 0 ∨ (n : Int) ≤ i) : Calls Tryd.prog 11 #[pt S, i64 i] w fun e w' => e = .returned (.bool false) ∧ w = w' := by
  have hS := Lib.hid (size_any w S n v ws s)
  rcases Int.lt_or_le i 0 with h0 | h0
  · have d0 : decide (i < 0) = true := decide_eq_true h0
    clear hi
    go_enter Tryd.func11, Tryd.ntmps11
    go_wp2_with fail
    go_ret
    exact ⟨rfl, rfl⟩
  · have d0 : decide (i < 0) = false := decide_eq_false (by omega)
    have d1 : decide ((n : Int) ≤ i) = true := decide_eq_true (by omega)
    clear hi
    go_enter Tryd.func11, Tryd.ntmps11
    go_wp2_with fail
    refine hS.out.mono ?_
    rintro r w1 ⟨rfl, rfl⟩
    go_wp2_with fail
    go_ret
    exact ⟨rfl, rfl⟩
theorem add_nil (i : Int) (w : World) : Calls Tryd.prog 11 #[.pointer none, i64 i] w fun e w' => e = .returned (.bool false) ∧ w = w' := by
  have hS := Lib.hid size_nil
  rcases Int.lt_or_le i 0 with h0 | h0
  · have d0 : decide (i < 0) = true := decide_eq_true h0
    go_enter Tryd.func11, Tryd.ntmps11
    go_wp2_with fail
    go_ret
    exact ⟨rfl, rfl⟩
  · have d0 : decide (i < 0) = false := decide_eq_false (by omega)
    have d1 : decide (0 ≤ i) = true := decide_eq_true (by omega)
    go_enter Tryd.func11, Tryd.ntmps11
    go_wp2_with fail
    refine (hS.out _).mono ?_
    rintro r w1 ⟨rfl, rfl⟩
    go_wp2_with fail
    go_ret
    exact ⟨rfl, rfl⟩
theorem drop_no (w : World) (p : Value) (i : Int) (hH0 : Calls Tryd.prog 10 #[p, i64 i] w fun e w' => e = .returned (.bool false) ∧ w = w') : Calls Tryd.prog 12 #[p, i64 i] w fun e w' => e = .returned (.bool false) ∧ w = w' := by
  have hH := Lib.hid hH0
  clear hH0
  go_enter Tryd.func12, Tryd.ntmps12
  go_wp2_with fail
  refine hH.out.mono ?_
  rintro r w1 ⟨rfl, rfl⟩
  go_wp2_with fail
  go_ret
  exact ⟨rfl, rfl⟩

end Go.Proofs.YtabddnlcgmbopaaDoor
