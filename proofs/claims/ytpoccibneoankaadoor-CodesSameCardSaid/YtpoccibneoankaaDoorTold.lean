/- What an error tells; the chapter's example. -/
import Derived.Test.YtpoccibneoankaaDoorErr
namespace Go.Proofs.YtpoccibneoankaaDoor
open Go.RowKit

/-- What an error of fault k tells. -/
def toldF (k : Nat) (s : ByteArray) : ByteArray := if s.toList = [] then wd k else wd k ++ ⟨#[32]⟩ ++ s
theorem wd_size : ∀ k, (wd k).size ≤ 100 := by
  intro k
  rcases Nat.lt_or_ge k 15 with h | h
  · match k, h with
    | 0, _ => decide
    | 1, _ => decide
    | 2, _ => decide
    | 3, _ => decide
    | 4, _ => decide
    | 5, _ => decide
    | 6, _ => decide
    | 7, _ => decide
    | 8, _ => decide
    | 9, _ => decide
    | 10, _ => decide
    | 11, _ => decide
    | 12, _ => decide
    | 13, _ => decide
    | 14, _ => decide
  · have : wd k = ⟨#[]⟩ := by
      unfold wd
      rw [List.getD_eq_getElem?_getD, List.getElem?_eq_none (by simpa [wordsL] using h)]
      rfl
    rw [this]
    decide

theorem told_empty (k : Nat) (hk : k < 15) (s : ByteArray) (w : World) (he : s.toList = []) : Calls Tryd.prog 14 #[i64 (k : Int), str s] w fun e w' => e = .returned (str (toldF k s)) ∧ Grew w w' := by
  have hT : toldF k s = wd k := if_pos he
  rw [hT]
  have hW := Lib.hid (fun W => rword_in k hk W)
  have h1 : s.toList.isEmpty = true := by rw [he]; rfl
  have h2 : (s.toList == []) = true := by rw [he]; rfl
  clear hT
  go_enter Tryd.func14, Tryd.ntmps14
  go_wp2_with fail
  refine (hW.out _).mono ?_
  rintro r w3 ⟨rfl, k3⟩
  go_wp2_with fail
  go_ret
  exact ⟨rfl, k3⟩
theorem told_some (k : Nat) (hk : k < 15) (s : ByteArray) (w : World) (he : s.toList ≠ []) (hs : s.size ≤ 100) : Calls Tryd.prog 14 #[i64 (k : Int), str s] w fun e w' => e = .returned (str (toldF k s)) ∧ Grew w w' := by
  have hT : toldF k s = wd k ++ ⟨#[32]⟩ ++ s := if_neg he
  rw [hT]
  have hW := Lib.hid (fun W => rword_in k hk W)
  have hne : (!s.toList.isEmpty) = true := by cases hh : s.toList with | nil => exact absurd hh he | cons _ _ => rfl
  have h1 : s.toList.isEmpty = false := by simpa using hne
  have h2 : (s.toList == []) = false := by cases hh : s.toList with | nil => exact absurd hh he | cons _ _ => rfl
  have z := wd_size k
  have z1 : (⟨#[32]⟩ : ByteArray).size = 1 := rfl
  have z2 : ¬ (wd k).size + (⟨#[32]⟩ : ByteArray).size > 9223372036854775807 := by omega
  have z3 : ¬ (wd k ++ ⟨#[32]⟩).size + s.size > 9223372036854775807 := by rw [ByteArray.size_append]; omega
  clear hT z1 hne
  go_enter Tryd.func14, Tryd.ntmps14
  go_wp2_with fail
  refine (hW.out _).mono ?_
  rintro r w3 ⟨rfl, k3⟩
  go_wp2_with fail
  go_ret
  exact ⟨rfl, k3⟩
theorem err_empty (k : Nat) (hk : k < 15) (s : ByteArray) (w : World) (g : Nat) (b : ErrB w g k s) (he : s.toList = []) : Calls Tryd.prog 13 #[.pointer (some ⟨g, 0, none⟩)] w fun e w' => e = .returned (str (toldF k s)) ∧ Grew w w' := by
  have hT : toldF k s = wd k := if_pos he
  rw [hT]
  have hW := Lib.hid (fun W => word_in k hk W)
  have h1 : s.toList.isEmpty = true := by rw [he]; rfl
  have h2 : (s.toList == []) = true := by rw [he]; rfl
  have c0 := b.cell 0
  have c1 := b.cell 1
  simp at c0 c1
  clear hT b
  go_enter Tryd.func13, Tryd.ntmps13
  go_wp2_with fail
  refine (hW.out _).mono ?_
  rintro r w3 ⟨rfl, k3⟩
  go_wp2_with fail
  go_ret
  exact ⟨rfl, k3⟩
theorem err_some (k : Nat) (hk : k < 15) (s : ByteArray) (w : World) (g : Nat) (b : ErrB w g k s) (he : s.toList ≠ []) (hs : s.size ≤ 100) : Calls Tryd.prog 13 #[.pointer (some ⟨g, 0, none⟩)] w fun e w' => e = .returned (str (toldF k s)) ∧ Grew w w' := by
  have hT : toldF k s = wd k ++ ⟨#[32]⟩ ++ s := if_neg he
  rw [hT]
  have hW := Lib.hid (fun W => word_in k hk W)
  have hne : (!s.toList.isEmpty) = true := by cases hh : s.toList with | nil => exact absurd hh he | cons _ _ => rfl
  have h1 : s.toList.isEmpty = false := by simpa using hne
  have h2 : (s.toList == []) = false := by cases hh : s.toList with | nil => exact absurd hh he | cons _ _ => rfl
  have z := wd_size k
  have z1 : (⟨#[32]⟩ : ByteArray).size = 1 := rfl
  have z2 : ¬ (wd k).size + (⟨#[32]⟩ : ByteArray).size > 9223372036854775807 := by omega
  have z3 : ¬ (wd k ++ ⟨#[32]⟩).size + s.size > 9223372036854775807 := by rw [ByteArray.size_append]; omega
  have z4 : ¬ 9223372036854775807 < (wd k).size + 1 := by omega
  have z5 : ¬ 9223372036854775807 < (wd k).size + 1 + s.size := by omega
  have bG := b.drew
  have c0 := b.cell 0
  have c1 := b.cell 1
  simp at c0 c1
  clear hT z1 hne b
  go_enter Tryd.func13, Tryd.ntmps13
  go_wp2_with fail
  refine wp_region_grow [] (fun _ => False) (by kernel_rfl) ?_
  simp only [List.size_toArray, List.length_cons, List.length_nil, Nat.reduceAdd]
  refine wpAnyG_pure 0 13 (v := ?_) rfl (by kernel_rfl) rfl (by rfl) (fun w' => ?_) ?_
  rotate_left
  · go_simp <;> with_reducible rfl
  simp only [List.setIfInBounds_toArray, List.set_cons_zero, List.set_cons_succ]
  refine wpAnyG_pure 1 14 (v := ?_) rfl (by kernel_rfl) rfl (by rfl) (fun w' => ?_) ?_
  rotate_left
  · go_simp <;> with_reducible rfl
  simp only [List.setIfInBounds_toArray, List.set_cons_zero, List.set_cons_succ]
  refine wpAnyG_pure 2 15 (v := ?_) rfl (by kernel_rfl) rfl (by rfl) (fun w' => ?_) ?_
  rotate_left
  · go_simp <;> with_reducible rfl
  simp only [List.setIfInBounds_toArray, List.set_cons_zero, List.set_cons_succ]
  refine wpAnyG_take 3 16 (v := ?_) rfl (by kernel_rfl) rfl (by rfl) (fun w' hG' => ?_) ?_
  rotate_left
  · have hx0 := (bG.grew hG').cell 0
    have hx1 := (bG.grew hG').cell 1
    simp at hx0 hx1
    go_simp <;> with_reducible rfl
  simp only [List.setIfInBounds_toArray, List.set_cons_zero, List.set_cons_succ]
  refine wpAnyG_pure 6 19 (v := ?_) rfl (by kernel_rfl) rfl (by rfl) (fun w' => ?_) ?_
  rotate_left
  · go_simp <;> with_reducible rfl
  simp only [List.setIfInBounds_toArray, List.set_cons_zero, List.set_cons_succ]
  refine wpAnyG_pure 7 20 (v := ?_) rfl (by kernel_rfl) rfl (by rfl) (fun w' => ?_) ?_
  rotate_left
  · go_simp <;> with_reducible rfl
  simp only [List.setIfInBounds_toArray, List.set_cons_zero, List.set_cons_succ]
  refine wpAnyG_pure 8 21 (v := ?_) rfl (by kernel_rfl) rfl (by rfl) (fun w' => ?_) ?_
  rotate_left
  · go_simp <;> with_reducible rfl
  simp only [List.setIfInBounds_toArray, List.set_cons_zero, List.set_cons_succ]
  refine wpAnyG_take 9 22 (v := ?_) rfl (by kernel_rfl) rfl (by rfl) (fun w' hG' => ?_) ?_
  rotate_left
  · have hx0 := (bG.grew hG').cell 0
    have hx1 := (bG.grew hG').cell 1
    simp at hx0 hx1
    go_simp <;> with_reducible rfl
  simp only [List.setIfInBounds_toArray, List.set_cons_zero, List.set_cons_succ]
  refine wpAnyG_step 4 17 rfl (by kernel_rfl) rfl (by rfl) (fun K hK' => ?_)
  go_simp
  refine (hW.out _).mono ?_
  rintro r w3 ⟨rfl, k3⟩
  refine hK' _ _ (fun _ => k3) ?_
  clear hK'
  simp only [List.setIfInBounds_toArray, List.set_cons_zero, List.set_cons_succ]
  refine wpAnyG_pure 5 18 (v := ?_) rfl (by kernel_rfl) rfl (by rfl) (fun w' => ?_) ?_
  rotate_left
  · go_simp <;> with_reducible rfl
  simp only [List.setIfInBounds_toArray, List.set_cons_zero, List.set_cons_succ]
  refine wpAnyG_pure 10 23 (v := ?_) rfl (by kernel_rfl) rfl (by rfl) (fun w' => ?_) ?_
  rotate_left
  · go_simp <;> with_reducible rfl
  simp only [List.setIfInBounds_toArray, List.set_cons_zero, List.set_cons_succ]
  refine wpAnyG_pure 11 2 (v := ?_) rfl (by kernel_rfl) rfl (by rfl) (fun w' => ?_) ?_
  rotate_left
  · go_simp <;> with_reducible rfl
  simp only [List.setIfInBounds_toArray, List.set_cons_zero, List.set_cons_succ]
  refine wpAnyG_done (by kernel_rfl) ?_
  go_wp2_with fail
  go_ret
  exact ⟨rfl, (Kept.refl _ _).drew.trans k3⟩
theorem err_any (k : Nat) (hk : k < 15) (s : ByteArray) (w : World) (g : Nat) (b : ErrB w g k s) (hs : s.size ≤ 100) : Calls Tryd.prog 13 #[.pointer (some ⟨g, 0, none⟩)] w fun e w' => e = .returned (str (toldF k s)) ∧ Grew w w' := by
  by_cases he : s.toList = []
  · exact err_empty k hk s w g b he
  · exact err_some k hk s w g b he hs
theorem told_any (k : Nat) (hk : k < 15) (s : ByteArray) (w : World) (hs : s.size ≤ 100) : Calls Tryd.prog 14 #[i64 (k : Int), str s] w fun e w' => e = .returned (str (toldF k s)) ∧ Grew w w' := by
  by_cases he : s.toList = []
  · exact told_empty k hk s w he
  · exact told_some k hk s w he hs

theorem alive_told : toldF 9 ⟨#[48, 32, 51]⟩ = ⟨#[110, 111, 112, 97, 116, 104, 32, 48, 32, 51]⟩ := by
  unfold toldF
  rw [if_neg (by rw [ByteArray.toList_eq]; decide)]
  decide
theorem alive_any (w : World) (hd : Door w) : Calls Tryd.prog 6 #[] w fun e w' => e = .returned (.bool true) ∧ Grew w w' := by
  have bT := Blk.new w 30 #[.pointer none]
  have k1 : Grew w (w.alloc (.cells #[.pointer none] 30 )) := (Kept.refl _ _).alloc _
  have hfin : Hid (∀ w', Kept (· = w.heap.size) (w.alloc (.cells #[.pointer none] 30 )) w' → Grew w w') := fun w' k => grew_of k
  obtain ⟨w1, hw1⟩ : ∃ w1, w.alloc (.cells #[.pointer none] 30 ) = w1 := ⟨_, rfl⟩
  rw [hw1] at bT k1 hfin
  obtain ⟨X, hX⟩ : ∃ X, w.heap.size = X := ⟨_, rfl⟩
  have hs1 : w1.heap.size = X + 1 := by rw [← hw1, ← hX]; simp
  rw [hX] at bT hfin
  have hN := Lib.hid (new_yes 9 ⟨#[48, 32, 51]⟩ w1 (by decide) (by decide))
  have D1 := Lib.hid (hd.grew k1)
  have BT := Lib.hid bT
  have HS := Lib.hid hs1
  clear hd k1 bT hs1
  go_enter Tryd.func6, Tryd.ntmps6
  go_wp2_with fail
  refine hN.out.mono ?_
  rintro r w2 ⟨g, rfl, bg, k2, hg⟩
  have hA := Lib.hid (As_hit w2 0 (eV g) ⟨g, 0, none⟩ X _ (D1.out.grew k2) rfl (BT.out.grew k2))
  have BG := Lib.hid bg
  have HG : Hid (¬ g = X) := by have := HS.out; show ¬ g = X; omega
  clear hN bg
  go_wp2_with fail
  refine hA.out.mono ?_
  rintro r w3 ⟨rfl, bT3, k3⟩
  have c0 : w3.cell? ⟨X, 0, none⟩ = some (.pointer (some ⟨g, 0, none⟩)) := bT3.cell 0
  have hE := err_any 9 (by omega) ⟨#[48, 32, 51]⟩ w3 g (BG.out.kept k3 HG.out) (by decide)
  rw [alive_told] at hE
  have HE := Lib.hid hE
  have hW := Lib.hid (fun W => word_in 13 (by omega) W)
  have K3 := Lib.hid (Kept.trans (Grew.kept (F := (· = X)) k2) k3)
  clear hA bT3 hE k3 k2
  go_wp2_with fail
  refine HE.out.mono ?_
  rintro r w4 ⟨rfl, k4⟩
  go_wp2_with fail
  refine (hW.out _).mono ?_
  rintro r w5 ⟨rfl, k5⟩
  have hb : ((wd 13).toList == [115, 116, 97, 108, 101]) = true := by rw [ByteArray.toList_eq]; decide
  go_wp2_with fail
  go_ret
  exact ⟨rfl, hfin.out _ ((K3.out.grew k4).grew k5)⟩
end Go.Proofs.YtpoccibneoankaaDoor
