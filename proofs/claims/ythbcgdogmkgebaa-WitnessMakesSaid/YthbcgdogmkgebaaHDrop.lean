/- The heap: who is first, and a number that is dropped. -/
import Derived.Test.YthbcgdogmkgebaaHPut
import Derived.Deep.DeepCutAuto
namespace Go.Proofs.Ythbcgdogmkgebaa.Hp
open Go.RowKit

theorem top_nil (w : World) : Calls Try.prog 56 #[.pointer none] w fun e w' => e = .returned (.tuple #[i64 0, u64 0, .bool false]) ∧ w = w' := by
  have hW := Lib.hid (len_nil w)
  go_enter Try.func56, Try.ntmps56
  go_wp2_with fail
  refine hW.out.mono ?_
  rintro e w1 ⟨rfl, rfl⟩
  go_wp2_with fail
  go_ret3
  exact ⟨rfl, rfl⟩
theorem top_none (w : World) (H A N : Nat) (v : Value) (a : List Int) (s : Heap w H A N v [] a) : Calls Try.prog 56 #[pt H] w fun e w' => e = .returned (.tuple #[i64 0, u64 0, .bool false]) ∧ w = w' := by
  have hW := Lib.hid (len_any w H A N v [] a s)
  go_enter Try.func56, Try.ntmps56
  go_wp2_with fail
  refine hW.out.mono ?_
  rintro e w1 ⟨rfl, rfl⟩
  go_wp2_with fail
  go_ret3
  exact ⟨rfl, rfl⟩
theorem top_some (w : World) (H A N : Nat) (v : Value) (l : List Itm) (a : List Int) (s : Heap w H A N v l a) (e : Itm) (he : l[0]? = some e) : Calls Try.prog 56 #[pt H] w fun r w' => r = .returned (.tuple #[i64 e.1, u64 e.2, .bool true]) ∧ Grew w w' := by
  have hW := Lib.hid (len_any w H A N v l a s)
  obtain ⟨g, c, hv, hg, f0, f1, _⟩ := (s.grew (Kept.refl (fun _ => False) _).drew).item he
  subst hv
  have bH := (s.grew (Kept.refl (fun _ => False) _).drew).box
  have hl := (List.getElem?_eq_some_iff.1 he).1
  obtain ⟨LL, hL⟩ : ∃ L, l.length = L := ⟨_, rfl⟩
  rw [hL] at hl bH hW
  have hf := s.few
  rw [hL] at hf
  have hb : ((LL : Int) == 0) = false := by
    have : ¬ ((LL : Int) = 0) := by omega
    simpa using this
  have h0 : (0 : Int) < (LL : Int) := by omega
  simp only [Nat.zero_mul, Nat.zero_add] at f0 f1
  clear s hL he
  go_enter Try.func56, Try.ntmps56
  go_wp2_with fail
  refine hW.out.mono ?_
  rintro r w1 ⟨rfl, rfl⟩
  go_wp2_with fail
  refine wp_region_grow [] (fun _ => False) (by kernel_rfl) ?_
  simp only [List.size_toArray, List.length_cons, List.length_nil, Nat.reduceAdd]
  refine wpAnyG_pure 0 8 (v := ?_) rfl (by kernel_rfl) rfl (by rfl) (fun w' => ?_) ?_
  rotate_left
  · go_simp <;> with_reducible rfl
  simp only [List.setIfInBounds_toArray, List.set_cons_zero, List.set_cons_succ]
  refine wpAnyG_pure 1 9 (v := ?_) rfl (by kernel_rfl) rfl (by rfl) (fun w' => ?_) ?_
  rotate_left
  · go_simp <;> with_reducible rfl
  simp only [List.setIfInBounds_toArray, List.set_cons_zero, List.set_cons_succ]
  refine wpAnyG_pure 2 10 (v := ?_) rfl (by kernel_rfl) rfl (by rfl) (fun w' => ?_) ?_
  rotate_left
  · go_simp <;> with_reducible rfl
  simp only [List.setIfInBounds_toArray, List.set_cons_zero, List.set_cons_succ]
  refine wpAnyG_take 3 11 (v := ?_) rfl (by kernel_rfl) rfl (by rfl) (fun w' hG' => ?_) ?_
  rotate_left
  · have hx0 := (bH.grew hG').cell 0
    have hx1 := Grew.cell hG' f0
    have hx2 := Grew.cell hG' f1
    simp at hx0
    go_simp <;> with_reducible rfl
  simp only [List.setIfInBounds_toArray, List.set_cons_zero, List.set_cons_succ]
  refine wpAnyG_pure 4 12 (v := ?_) rfl (by kernel_rfl) rfl (by rfl) (fun w' => ?_) ?_
  rotate_left
  · go_simp <;> with_reducible rfl
  simp only [List.setIfInBounds_toArray, List.set_cons_zero, List.set_cons_succ]
  refine wpAnyG_pure 5 13 (v := ?_) rfl (by kernel_rfl) rfl (by rfl) (fun w' => ?_) ?_
  rotate_left
  · go_simp <;> with_reducible rfl
  simp only [List.setIfInBounds_toArray, List.set_cons_zero, List.set_cons_succ]
  refine wpAnyG_take 6 14 (v := ?_) rfl (by kernel_rfl) rfl (by rfl) (fun w' hG' => ?_) ?_
  rotate_left
  · have hx0 := (bH.grew hG').cell 0
    have hx1 := Grew.cell hG' f0
    have hx2 := Grew.cell hG' f1
    simp at hx0
    go_simp <;> with_reducible rfl
  simp only [List.setIfInBounds_toArray, List.set_cons_zero, List.set_cons_succ]
  refine wpAnyG_pure 7 15 (v := ?_) rfl (by kernel_rfl) rfl (by rfl) (fun w' => ?_) ?_
  rotate_left
  · go_simp <;> with_reducible rfl
  simp only [List.setIfInBounds_toArray, List.set_cons_zero, List.set_cons_succ]
  refine wpAnyG_pure 8 16 (v := ?_) rfl (by kernel_rfl) rfl (by rfl) (fun w' => ?_) ?_
  rotate_left
  · go_simp <;> with_reducible rfl
  simp only [List.setIfInBounds_toArray, List.set_cons_zero, List.set_cons_succ]
  refine wpAnyG_pure 9 17 (v := ?_) rfl (by kernel_rfl) rfl (by rfl) (fun w' => ?_) ?_
  rotate_left
  · go_simp <;> with_reducible rfl
  simp only [List.setIfInBounds_toArray, List.set_cons_zero, List.set_cons_succ]
  refine wpAnyG_take 10 18 (v := ?_) rfl (by kernel_rfl) rfl (by rfl) (fun w' hG' => ?_) ?_
  rotate_left
  · have hx0 := (bH.grew hG').cell 0
    have hx1 := Grew.cell hG' f0
    have hx2 := Grew.cell hG' f1
    simp at hx0
    go_simp <;> with_reducible rfl
  simp only [List.setIfInBounds_toArray, List.set_cons_zero, List.set_cons_succ]
  refine wpAnyG_pure 11 19 (v := ?_) rfl (by kernel_rfl) rfl (by rfl) (fun w' => ?_) ?_
  rotate_left
  · go_simp <;> with_reducible rfl
  simp only [List.setIfInBounds_toArray, List.set_cons_zero, List.set_cons_succ]
  refine wpAnyG_pure 12 20 (v := ?_) rfl (by kernel_rfl) rfl (by rfl) (fun w' => ?_) ?_
  rotate_left
  · go_simp <;> with_reducible rfl
  simp only [List.setIfInBounds_toArray, List.set_cons_zero, List.set_cons_succ]
  refine wpAnyG_take 13 21 (v := ?_) rfl (by kernel_rfl) rfl (by rfl) (fun w' hG' => ?_) ?_
  rotate_left
  · have hx0 := (bH.grew hG').cell 0
    have hx1 := Grew.cell hG' f0
    have hx2 := Grew.cell hG' f1
    simp at hx0
    go_simp <;> with_reducible rfl
  simp only [List.setIfInBounds_toArray, List.set_cons_zero, List.set_cons_succ]
  refine wpAnyG_pure 14 2 (v := ?_) rfl (by kernel_rfl) rfl (by rfl) (fun w' => ?_) ?_
  rotate_left
  · go_simp <;> with_reducible rfl
  simp only [List.setIfInBounds_toArray, List.set_cons_zero, List.set_cons_succ]
  refine wpAnyG_pure 15 3 (v := ?_) rfl (by kernel_rfl) rfl (by rfl) (fun w' => ?_) ?_
  rotate_left
  · go_simp <;> with_reducible rfl
  simp only [List.setIfInBounds_toArray, List.set_cons_zero, List.set_cons_succ]
  refine wpAnyG_pure 16 4 (v := ?_) rfl (by kernel_rfl) rfl (by rfl) (fun w' => ?_) ?_
  rotate_left
  · go_simp <;> with_reducible rfl
  simp only [List.setIfInBounds_toArray, List.set_cons_zero, List.set_cons_succ]
  refine wpAnyG_done (by kernel_rfl) ?_
  go_wp2_with fail
  go_ret3
  exact ⟨rfl, (Kept.refl _ _).drew⟩

theorem Heap.mark {w : World} {H A N : Nat} {v : Value} {l : List Itm} {a : List Int} (s : Heap w H A N v l a) (p : Nat) (k : Int) : Heap (w.setCell ⟨A, p, none⟩ (i64 k)) H A N v l (a.set p k) := by
  have hlt := s.lt
  refine ⟨s.box.far (p := ⟨A, p, none⟩) (by simp; omega) _, ?_, Kept.own ((Kept.refl (· = A) _).setCell (p := ⟨A, p, none⟩) (.inl rfl) _) s.row (fun k hk h => by have := (s.row.lt k hk).1; omega), hlt, by rw [List.length_set]; exact s.len, s.few, s.small⟩
  have h2 := s.arr.set p (i64 k)
  have e : ((a.map i64).toArray.setIfInBounds p (i64 k)) = ((a.set p k).map i64).toArray := by simp [List.map_set]
  rw [e] at h2
  exact h2
theorem Heap.popped {w : World} {H A N g LL c : Nat} {l : List Itm} {a : List Int} (s : Heap w H A N (.slice (some ⟨g, 0, none⟩) (LL + 1) c) l a) (hl : l.length = LL + 1) :
    Heap (w.setCell ⟨H, 0, none⟩ (.slice (some ⟨g, 0, none⟩) LL c)) H A N (.slice (some ⟨g, 0, none⟩) LL c) l.dropLast a := by
  have hlt := s.lt
  have hf := s.few
  have hd : l.dropLast.length = LL := by rw [List.length_dropLast, hl]; rfl
  refine ⟨s.box.set 0 _, s.arr.far (p := ⟨H, 0, none⟩) (by simp; omega) _, ?_, hlt, s.len, by omega, s.small⟩
  rw [hd]
  refine Kept.own ((Kept.refl (· = H) _).setCell (p := ⟨H, 0, none⟩) (.inl rfl) _) ?_ (fun k hk h => ?_)
  · have hr := s.row
    rw [hl] at hr
    refine ⟨by rw [cellsI_length, hd], ?_⟩
    rcases hr.2 with ⟨h, h0⟩ | ⟨g1, cap, cur, hv, hb, hg, h1, h2, h3, h4⟩
    · cases h
    · cases hv
      refine .inr ⟨g, c, cur, rfl, hb, hg, by omega, h2, h3, ?_⟩
      have h5 := congrArg (List.take (LL * 2)) h4
      rw [List.take_take, Nat.min_eq_left (by omega)] at h5
      rw [h5]
      have hne : l ≠ [] := by intro h; rw [h] at hl; simp at hl
      conv => lhs; rw [← List.dropLast_concat_getLast hne]
      rw [cellsI_append, List.take_append_of_le_length (by rw [cellsI_length, hd]; exact Nat.le_refl _), List.take_of_length_le (by rw [cellsI_length, hd]; exact Nat.le_refl _)]
  · obtain rfl : g = k := Option.some.inj (show some g = some k from hk)
    have := (s.row.lt g rfl).1
    omega

theorem drop_nil (x : Int) (w : World) : Calls Try.prog 57 #[.pointer none, i64 x] w fun e w' => e = .returned (.bool false) ∧ w = w' := by
  have hW := Lib.hid (where_nil x w)
  go_enter Try.func57, Try.ntmps57
  go_wp2_with fail
  refine hW.out.mono ?_
  rintro e w1 ⟨rfl, rfl⟩
  go_wp2_with fail
  go_ret
  exact ⟨rfl, rfl⟩
theorem drop_out (w : World) (H A N : Nat) (v : Value) (l : List Itm) (a : List Int) (s : Heap w H A N v l a) (x : Int) (h : x < 0 ∨ (N : Int) ≤ x) : Calls Try.prog 57 #[pt H, i64 x] w fun e w' => e = .returned (.bool false) ∧ w = w' := by
  have hW := Lib.hid (where_out w H A N v l a s x h)
  clear h
  go_enter Try.func57, Try.ntmps57
  go_wp2_with fail
  refine hW.out.mono ?_
  rintro e w1 ⟨rfl, rfl⟩
  go_wp2_with fail
  go_ret
  exact ⟨rfl, rfl⟩
theorem drop_no (w : World) (H A N : Nat) (v : Value) (l : List Itm) (a : List Int) (s : Heap w H A N v l a) (p : Nat) (hp : a[p]? = some (-1)) : Calls Try.prog 57 #[pt H, i64 (p : Int)] w fun e w' => e = .returned (.bool false) ∧ w = w' := by
  have hW := Lib.hid (where_in w H A N v l a s p _ hp)
  clear hp
  go_enter Try.func57, Try.ntmps57
  go_wp2_with fail
  refine hW.out.mono ?_
  rintro e w1 ⟨rfl, rfl⟩
  go_wp2_with fail
  go_ret
  exact ⟨rfl, rfl⟩
/-- The last one is dropped. -/
theorem drop_last (w : World) (H A N : Nat) (v : Value) (l : List Itm) (a : List Int) (s : Heap w H A N v l a) (p i : Nat) (hp : a[p]? = some (i : Int)) (hi : i + 1 = l.length) : Calls Try.prog 57 #[pt H, i64 (p : Int)] w fun r w' => r = .returned (.bool true) ∧ ∃ v', Heap w' H A N v' l.dropLast (a.set p (-1)) ∧ Kept (HB H A v) w w' ∧ v'.ownBlock = v.ownBlock := by
  have hW := Lib.hid (where_in w H A N v l a s p _ hp)
  have hl := (List.getElem?_eq_some_iff.1 hp).1
  rw [s.len] at hl
  have p0 : (0 : Int) ≤ (p : Int) := by omega
  have p1 : (p : Int) < (N : Int) := by omega
  have ib : ((i : Int) == -1) = false := by simp
  have hL : l.length = i + 1 := hi.symm
  clear hi
  obtain ⟨⟨ev, ek⟩, he⟩ : ∃ e, l[i]? = some e := ⟨_, List.getElem?_eq_getElem (by omega)⟩
  obtain ⟨g, c, hv, hg, f0, f1, hcap⟩ := (s.mark p (-1)).item he
  rw [hL] at hv hcap
  subst hv
  have hcm : c ≤ maxLen := by
    have hr := s.row
    rw [hL] at hr
    rcases hr.2 with ⟨h, h0⟩ | ⟨g1, cap, cur, hv, hb, hg, h1, h2, h3, h4⟩
    · cases h
    · cases hv; exact h2
  unfold maxLen at hcm
  have hf := s.few
  have hsm := s.small
  have hlt := s.lt
  have hAw := s.arr.lt
  have hHw := s.box.lt
  rw [hL] at hf
  have k1 : Kept (HB H A (.slice (some ⟨g, 0, none⟩) (i + 1) c)) w (w.setCell ⟨A, p, none⟩ (i64 (-1))) := (Kept.refl _ _).setCell (p := ⟨A, p, none⟩) (.inl (.inr (.inl rfl))) _
  have S0 := Lib.hid s
  have S1 := Lib.hid (s.mark p (-1))
  have hbx := s.box.cell 1
  have hpl := s.place hp
  have hfz := s.arr.frozen p
  simp at hbx
  obtain ⟨w1, hw1⟩ : ∃ w1, w.setCell ⟨A, p, none⟩ (i64 (-1)) = w1 := ⟨_, rfl⟩
  rw [hw1] at S1 f0 f1 k1
  have HL := Lib.hid hL
  have HE := Lib.hid he
  clear s hp hL he
  go_enter Try.func57, Try.ntmps57
  go_wp2_with fail
  refine hW.out.mono ?_
  rintro e w1 ⟨rfl, rfl⟩
  obtain ⟨w2, hw2⟩ : ∃ w2, w1.alloc (.cells #[i64 ev, u64 ek] 99) = w2 := ⟨_, rfl⟩
  go_upto_region 5 with fail
  clear hw1 hbx hpl hfz
  have bH := S1.out.box
  have hb := bH.cell 0
  have hsub : IntKind.i64.wrap ((i : Int) + 1 - 1) = (i : Int) := by rw [Int.add_sub_cancel]; exact IntWalk.i64_in _ (by omega)
  simp at hb
  have l0 : (0 : Int) ≤ (i : Int) := by omega
  have l1 : (i : Int) < (i : Int) + 1 := by omega
  go_upto_region 7 with fail
  have k2 : Grew w1 w2 := by rw [← hw2]; exact (Kept.refl _ _).alloc _
  have bX : Blk w2 w1.heap.size 99 #[i64 ev, u64 ek] := by rw [← hw2]; exact Blk.new _ _ _
  have hs1 := k1.size
  have S2 := Lib.hid (S1.out.grew k2)
  have hb := S2.out.box.cell 0
  have hfz := S2.out.box.frozen 0
  simp at hb
  obtain ⟨w3, hw3⟩ : ∃ w3, w2.setCell ⟨H, 0, none⟩ (.slice (some ⟨g, 0, none⟩) i c) = w3 := ⟨_, rfl⟩
  have S3 := Lib.hid (S2.out.popped HL.out)
  have bX3 := bX.far (p := ⟨H, 0, none⟩) (by simp; omega) (.slice (some ⟨g, 0, none⟩) i c)
  have k3 : Kept (HB H A (.slice (some ⟨g, 0, none⟩) (i + 1) c)) w (w2.setCell ⟨H, 0, none⟩ (.slice (some ⟨g, 0, none⟩) i c)) := (k1.trans k2.kept).setCell (p := ⟨H, 0, none⟩) (.inl (.inl rfl)) _
  rw [hw3] at S3 bX3 k3
  clear hw2 bX k2 k1 S1 f0 f1 bH
  go_upto_region 8 with fail
  clear hw3 hb hfz
  go_wp2_with fail
  go_ret
  exact ⟨rfl, _, S3.out, k3, rfl⟩
/-- One ahead of the last is dropped. -/
theorem drop_in (w : World) (H A N : Nat) (v : Value) (l : List Itm) (a : List Int) (s : Heap w H A N v l a) (hR : Rng N l) (p i : Nat) (x : Itm) (hp : a[p]? = some (i : Int)) (hi : i + 1 < l.length) (hx : l[l.length - 1]? = some x) : Calls Try.prog 57 #[pt H, i64 (p : Int)] w fun r w' => r = .returned (.bool true) ∧ ∃ v', Heap w' H A N v' (dropF l a p i x).1 (dropF l a p i x).2 ∧ Kept (HB H A v) w w' ∧ v'.ownBlock = v.ownBlock := by
  have hW := Lib.hid (where_in w H A N v l a s p _ hp)
  have hl := (List.getElem?_eq_some_iff.1 hp).1
  rw [s.len] at hl
  have p0 : (0 : Int) ≤ (p : Int) := by omega
  have p1 : (p : Int) < (N : Int) := by omega
  have ib : ((i : Int) == -1) = false := by simp
  obtain ⟨LL, hL⟩ : ∃ L, l.length = L + 1 := ⟨l.length - 1, by omega⟩
  rw [hL, Nat.add_sub_cancel] at hx
  rw [hL] at hi
  obtain ⟨ev, ek⟩ := x
  have hxr := hR _ (List.mem_of_getElem? hx)
  obtain ⟨q, rfl⟩ := Int.eq_ofNat_of_zero_le hxr.1
  have hqN : q < N := by have := hxr.2; simp at this; omega
  have he := hx
  clear hx
  have HR := Lib.hid hR
  clear hR
  obtain ⟨D, hD⟩ : ∃ D, dropF l a p i ((q : Int), ek) = D := ⟨_, rfl⟩
  rw [hD]
  have HD0 := Lib.hid hD
  clear hD
  obtain ⟨g, c, hv, hg, f0, f1, hcap⟩ := (s.mark p (-1)).item he
  rw [hL] at hv hcap
  subst hv
  have hcm : c ≤ maxLen := by
    have hr := s.row
    rw [hL] at hr
    rcases hr.2 with ⟨h, h0⟩ | ⟨g1, cap, cur, hv, hb, hg, h1, h2, h3, h4⟩
    · cases h
    · cases hv; exact h2
  unfold maxLen at hcm
  have hf := s.few
  have hsm := s.small
  have hlt := s.lt
  have hAw := s.arr.lt
  have hHw := s.box.lt
  rw [hL] at hf
  have k1 : Kept (HB H A (.slice (some ⟨g, 0, none⟩) (LL + 1) c)) w (w.setCell ⟨A, p, none⟩ (i64 (-1))) := (Kept.refl _ _).setCell (p := ⟨A, p, none⟩) (.inl (.inr (.inl rfl))) _
  have S0 := Lib.hid s
  have S1 := Lib.hid (s.mark p (-1))
  have hbx := s.box.cell 1
  have hpl := s.place hp
  have hfz := s.arr.frozen p
  simp at hbx
  obtain ⟨w1, hw1⟩ : ∃ w1, w.setCell ⟨A, p, none⟩ (i64 (-1)) = w1 := ⟨_, rfl⟩
  rw [hw1] at S1 f0 f1 k1
  have HL := Lib.hid hL
  have HE := Lib.hid he
  clear s hp hL he
  go_enter Try.func57, Try.ntmps57
  go_wp2_with fail
  refine hW.out.mono ?_
  rintro e w1 ⟨rfl, rfl⟩
  obtain ⟨w2, hw2⟩ : ∃ w2, w1.alloc (.cells #[i64 (q : Int), u64 ek] 99) = w2 := ⟨_, rfl⟩
  go_upto_region 5 with fail
  clear hw1 hbx hpl hfz
  have bH := S1.out.box
  have hb := bH.cell 0
  have hsub : IntKind.i64.wrap ((LL : Int) + 1 - 1) = (LL : Int) := by rw [Int.add_sub_cancel]; exact IntWalk.i64_in _ (by omega)
  simp at hb
  have l0 : (0 : Int) ≤ (LL : Int) := by omega
  have l1 : (LL : Int) < (LL : Int) + 1 := by omega
  go_upto_region 7 with fail
  have k2 : Grew w1 w2 := by rw [← hw2]; exact (Kept.refl _ _).alloc _
  have bX : Blk w2 w1.heap.size 99 #[i64 (q : Int), u64 ek] := by rw [← hw2]; exact Blk.new _ _ _
  have hs1 := k1.size
  have S2 := Lib.hid (S1.out.grew k2)
  have hb := S2.out.box.cell 0
  have hfz := S2.out.box.frozen 0
  simp at hb
  obtain ⟨w3, hw3⟩ : ∃ w3, w2.setCell ⟨H, 0, none⟩ (.slice (some ⟨g, 0, none⟩) LL c) = w3 := ⟨_, rfl⟩
  have S3 := Lib.hid (S2.out.popped HL.out)
  have bX3 := bX.far (p := ⟨H, 0, none⟩) (by simp; omega) (.slice (some ⟨g, 0, none⟩) LL c)
  have k3 : Kept (HB H A (.slice (some ⟨g, 0, none⟩) (LL + 1) c)) w (w2.setCell ⟨H, 0, none⟩ (.slice (some ⟨g, 0, none⟩) LL c)) := (k1.trans k2.kept).setCell (p := ⟨H, 0, none⟩) (.inl (.inl rfl)) _
  rw [hw3] at S3 bX3 k3
  clear hw2 bX k2 k1 S1 f0 f1 bH
  go_upto_region 8 with fail
  clear hw3 hb hfz
  have hid : ((i : Int) == (LL : Int)) = false := by simp; omega
  have hdl : l.dropLast.length = LL := by rw [List.length_dropLast, HL.out]; rfl
  have hRd : Rng N l.dropLast := fun e he => HR.out e ((List.dropLast_sublist l).subset he)
  have hSink := Lib.hid (sink_any w3 H A N _ _ _ S3.out i ((q : Int), ek) (by omega) hxr hRd)
  obtain ⟨n1, n2, n3⟩ := sinkF_keeps N _ i l.dropLast (a.set p (-1)) ((q : Int), ek) rfl hRd hxr
  rw [hdl] at n1
  rw [List.length_set, S0.out.len] at n2
  have hD := HD0.out
  obtain ⟨⟨l2, a2⟩, hr⟩ : ∃ r, sinkF l.dropLast (a.set p (-1)) i ((q : Int), ek) = r := ⟨_, rfl⟩
  rw [dropF, hr] at hD
  rw [hr] at n1 n2 n3 hSink
  have N1 := Lib.hid n1
  have N2 := Lib.hid n2
  have N3 := Lib.hid n3
  have HD := Lib.hid hD
  have x0 := bX3.cell 0
  have x1 := bX3.cell 1
  simp at x0 x1
  have hgw := (S3.out.row.lt g rfl).2
  have hgX : Hid (¬ HB H A (.slice (some ⟨g, 0, none⟩) LL c) w1.heap.size) := by
    rintro (h | h | h)
    · omega
    · omega
    · have h2 : g = w1.heap.size := Option.some.inj (show some g = some w1.heap.size from h)
      have := (S0.out.row.lt g rfl).2
      omega
  clear hdl hr hD n1 n2 n3 hRd hgw
  go_wp2_with fail
  refine hSink.out.mono ?_
  rintro r w4 ⟨rfl, s4, k4⟩
  clear x0 x1 hSink
  obtain ⟨z, hz⟩ : ∃ z, a2[q]? = some z := ⟨_, List.getElem?_eq_getElem (by rw [show a2.length = N from N2.out]; exact hqN)⟩
  have bX4' := bX3.kept k4 hgX.out
  have s4d := s4.grew (Kept.refl (fun _ => False) _).drew
  have bH4 := s4d.box
  have fq := s4d.place hz
  have bX4 := bX4'.drew
  have S4 := Lib.hid s4d
  have HZ := Lib.hid hz
  have q0 : (0 : Int) ≤ (q : Int) := by omega
  have q1 : (q : Int) < (N : Int) := by omega
  have k5 := (k3.trans k4).drew
  clear s4 s4d hz bX4' k4 k3
  go_wp2_with fail
  refine wp_region_grow [] (fun _ => False) (by kernel_rfl) ?_
  simp only [List.size_toArray, List.length_cons, List.length_nil, Nat.reduceAdd]
  refine wpAnyG_pure 0 48 (v := ?_) rfl (by kernel_rfl) rfl (by rfl) (fun w' => ?_) ?_
  rotate_left
  · go_simp <;> with_reducible rfl
  simp only [List.setIfInBounds_toArray, List.set_cons_zero, List.set_cons_succ]
  refine wpAnyG_pure 1 49 (v := ?_) rfl (by kernel_rfl) rfl (by rfl) (fun w' => ?_) ?_
  rotate_left
  · go_simp <;> with_reducible rfl
  simp only [List.setIfInBounds_toArray, List.set_cons_zero, List.set_cons_succ]
  refine wpAnyG_pure 2 50 (v := ?_) rfl (by kernel_rfl) rfl (by rfl) (fun w' => ?_) ?_
  rotate_left
  · go_simp <;> with_reducible rfl
  simp only [List.setIfInBounds_toArray, List.set_cons_zero, List.set_cons_succ]
  refine wpAnyG_take 3 51 (v := ?_) rfl (by kernel_rfl) rfl (by rfl) (fun w' hG' => ?_) ?_
  rotate_left
  · have hx0 := (bH4.grew hG').cell 1
    have hx1 := (bX4.grew hG').cell 0
    have hx2 := Grew.cell hG' fq
    simp at hx0 hx1
    go_simp <;> with_reducible rfl
  simp only [List.setIfInBounds_toArray, List.set_cons_zero, List.set_cons_succ]
  refine wpAnyG_pure 4 52 (v := ?_) rfl (by kernel_rfl) rfl (by rfl) (fun w' => ?_) ?_
  rotate_left
  · go_simp <;> with_reducible rfl
  simp only [List.setIfInBounds_toArray, List.set_cons_zero, List.set_cons_succ]
  refine wpAnyG_take 5 53 (v := ?_) rfl (by kernel_rfl) rfl (by rfl) (fun w' hG' => ?_) ?_
  rotate_left
  · have hx0 := (bH4.grew hG').cell 1
    have hx1 := (bX4.grew hG').cell 0
    have hx2 := Grew.cell hG' fq
    simp at hx0 hx1
    go_simp <;> with_reducible rfl
  simp only [List.setIfInBounds_toArray, List.set_cons_zero, List.set_cons_succ]
  refine wpAnyG_pure 6 54 (v := ?_) rfl (by kernel_rfl) rfl (by rfl) (fun w' => ?_) ?_
  rotate_left
  · go_simp <;> with_reducible rfl
  simp only [List.setIfInBounds_toArray, List.set_cons_zero, List.set_cons_succ]
  refine wpAnyG_take 7 55 (v := ?_) rfl (by kernel_rfl) rfl (by rfl) (fun w' hG' => ?_) ?_
  rotate_left
  · have hx0 := (bH4.grew hG').cell 1
    have hx1 := (bX4.grew hG').cell 0
    have hx2 := Grew.cell hG' fq
    simp at hx0 hx1
    go_simp <;> with_reducible rfl
  simp only [List.setIfInBounds_toArray, List.set_cons_zero, List.set_cons_succ]
  refine wpAnyG_pure 8 56 (v := ?_) rfl (by kernel_rfl) rfl (by rfl) (fun w' => ?_) ?_
  rotate_left
  · go_simp <;> with_reducible rfl
  simp only [List.setIfInBounds_toArray, List.set_cons_zero, List.set_cons_succ]
  refine wpAnyG_pure 9 57 (v := ?_) rfl (by kernel_rfl) rfl (by rfl) (fun w' => ?_) ?_
  rotate_left
  · go_simp <;> with_reducible rfl
  simp only [List.setIfInBounds_toArray, List.set_cons_zero, List.set_cons_succ]
  refine wpAnyG_done (by kernel_rfl) ?_
  by_cases hzi : z = (i : Int)
  · subst hzi
    have hRise := Lib.hid (rise_any _ H A N _ _ _ S4.out i ((q : Int), ek) (by rw [show l2.length = LL from N1.out]; omega) hxr N3.out)
    have x0 := bX4.cell 0
    have x1 := bX4.cell 1
    simp at x0 x1
    clear bH4 fq
    have hD2 : Hid (riseF l2 a2 i ((q : Int), ek) = D) := by
      have h := HD.out
      rw [if_pos (by exact HZ.out)] at h
      exact h
    clear HD
    go_wp2_with fail
    refine hRise.out.mono ?_
    rintro r w5 ⟨rfl, s5, k6⟩
    go_wp2_with fail
    go_ret
    rw [← hD2.out]
    exact ⟨rfl, _, s5, k5.trans k6, rfl⟩
  · have hzb : (z == (i : Int)) = false := by simpa using hzi
    clear bH4 fq
    have hD2 : Hid ((l2, a2) = D) := by
      have h := HD.out
      rw [if_neg (fun h => hzi (by have := HZ.out.symm.trans h; exact Option.some.inj this))] at h
      exact h
    clear HD
    go_wp2_with fail
    go_ret
    rw [← hD2.out]
    exact ⟨rfl, _, S4.out, k5, rfl⟩
end Go.Proofs.Ythbcgdogmkgebaa.Hp
