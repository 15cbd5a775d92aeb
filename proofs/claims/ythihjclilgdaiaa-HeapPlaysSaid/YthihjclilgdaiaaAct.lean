/- An act on a heap and on the document's list: the same. -/
import Derived.Test.YthihjclilgdaiaaRef
namespace Go.Proofs.Ythihjclilgdaiaa
open Go.RowKit

theorem erase_perm : ∀ (l : List Itm) (a : Nat) (e : Itm), l[a]? = some e → (e :: l.eraseIdx a).Perm l
  | [], a, e, h => by simp at h
  | z :: l, 0, e, h => by
    simp only [List.getElem?_cons_zero, Option.some.injEq] at h
    subst h
    exact List.Perm.refl _
  | z :: l, a + 1, e, h => by
    rw [List.getElem?_cons_succ] at h
    rw [List.eraseIdx_cons_succ]
    exact (List.Perm.swap z e _).trans ((erase_perm l a e h).cons z)
theorem set_perm : ∀ (l : List Itm) (a : Nat) (y : Itm), a < l.length → (l.set a y).Perm (y :: l.eraseIdx a)
  | [], a, y, h => by simp at h
  | z :: l, 0, y, h => List.Perm.refl _
  | z :: l, a + 1, y, h => by
    rw [List.eraseIdx_cons_succ, List.set_cons_succ]
    exact ((set_perm l a y (by simpa using h)).cons z).trans (List.Perm.swap y z _)
theorem both_erase {x l : List Itm} {j a : Nat} {e : Itm} (p : x.Perm l) (hj : x[j]? = some e) (ha : l[a]? = some e) : (x.eraseIdx j).Perm (l.eraseIdx a) :=
  List.Perm.cons_inv (((erase_perm x j e hj).trans p).trans (erase_perm l a e ha).symm)
theorem woF_at (x : List Itm) (j : Nat) : woF x (j : Int) = x.eraseIdx j := by
  unfold woF
  rw [if_neg (by omega), Int.toNat_natCast]
theorem woF_none (x : List Itm) : woF x (-1) = x := by
  unfold woF
  rw [if_pos (by omega)]

/-- A heap, and the document's list: the same items. -/
structure Both (w0 w : World) (H A N : Nat) (v : Value) (l : List Itm) (xv : Value) (x : List Itm) : Prop where
  s : Sess w0 w H A N v l
  r : Items w w0.heap.size xv x
  p : x.Perm l
  few : N ≤ 65000
theorem Both.grew {w0 w w' : World} {H A N : Nat} {v xv : Value} {l x : List Itm} (b : Both w0 w H A N v l xv x) (k : Grew w w') : Both w0 w' H A N v l xv x := ⟨b.s.grew k, b.r.grew k, b.p, b.few⟩
theorem Both.len {w0 w : World} {H A N : Nat} {v xv : Value} {l x : List Itm} (b : Both w0 w H A N v l xv x) : x.length ≤ 65000 := by
  obtain ⟨a, _, g⟩ := b.s.hp
  have := g.1.few
  have := b.few
  rw [b.p.length_eq]
  omega
theorem Both.dup {w0 w : World} {H A N : Nat} {v xv : Value} {l x : List Itm} (b : Both w0 w H A N v l xv x) : ∀ (i j : Nat) (e f : Itm), x[i]? = some e → x[j]? = some f → e.1 = f.1 → i = j := by
  obtain ⟨a, _, g⟩ := b.s.hp
  have hn := (b.p.map (fun e => e.1.toNat)).nodup_iff.2 g.1.nums
  rw [List.nodup_iff_pairwise_ne, List.pairwise_iff_getElem] at hn
  intro i j e f hi hj he
  have hil := get_lt hi
  have hjl := get_lt hj
  have h1 := (List.getElem?_eq_some_iff.1 hi).2
  have h2 := (List.getElem?_eq_some_iff.1 hj).2
  rcases Nat.lt_trichotomy i j with h | h | h
  · have := hn i j (by rw [List.length_map]; exact hil) (by rw [List.length_map]; exact hjl) h
    rw [List.getElem_map, List.getElem_map, h1, h2, he] at this
    exact absurd rfl this
  · exact h
  · have := hn j i (by rw [List.length_map]; exact hjl) (by rw [List.length_map]; exact hil) h
    rw [List.getElem_map, List.getElem_map, h1, h2, he] at this
    exact absurd rfl this
theorem Both.turn {w0 w w1 w2 : World} {H A N : Nat} {v v' xv yv : Value} {l l' x y : List Itm} (b : Both w0 w H A N v l xv x) (k : Grew w w1) (hy : Items w1 w0.heap.size yv y) (t : Turn w1 w2 H A N v v' l') (p : y.Perm l') : Both w0 w2 H A N v' l' yv y :=
  ⟨(b.s.grew k).turn t, hy.turn (b.s.hp.grew k) t, p, b.few⟩

/-- What act answers. -/
def ActR (w0 : World) (H A N : Nat) (e : Ending) (w' : World) : Prop := ∃ v' l' yv y, e = .returned (.tuple #[yv, .bool true]) ∧ Both w0 w' H A N v' l' yv y


theorem act_put_no (w0 w : World) (H A N : Nat) (v xv : Value) (l x : List Itm) (p k : Int) (b : Both w0 w H A N v l xv x) (h : p < 0 ∨ (N : Int) ≤ p ∨ ∃ e ∈ x, e.1 = p ∧ e.2 ≤ k) : Calls Try.prog 11 #[pt H, xv, i64 N, .agg #[i64 0, i64 p, u64 k]] w (ActR w0 H A N) := by
  have bX := Blk.new w 30 #[i64 0, i64 p, u64 k]
  have k1 : Grew w (w.alloc (.cells #[i64 0, i64 p, u64 k] 30)) := (Kept.refl _ _).alloc _
  obtain ⟨w1, hw1⟩ : ∃ w1, w.alloc (.cells #[i64 0, i64 p, u64 k] 30) = w1 := ⟨_, rfl⟩
  rw [hw1] at bX k1
  have B := Lib.hid (b.grew k1)
  have x0 := bX.cell 0
  have x1 := bX.cell 1
  have x2 := bX.cell 2
  simp at x0 x1 x2
  have hR := Lib.hid (rput_no w1 _ xv x (N : Int) p k B.out.r (by have := b.len; omega) b.dup h)
  have hP := Lib.hid (put_false w1 H A N v l B.out.s.hp p k (by
    rcases h with h | h | ⟨e, he, h⟩
    · exact .inl h
    · exact .inr (.inl h)
    · exact .inr (.inr ⟨e, b.p.mem_iff.1 he, h⟩)))
  clear h b k1
  go_enter Try.func11, Try.ntmps11
  go_wp2_with fail
  refine hR.out.mono ?_
  rintro r w2 ⟨rfl, rfl⟩
  go_wp2_with fail
  refine hP.out.mono ?_
  rintro r w2 ⟨rfl, k2⟩
  go_wp2_with fail
  go_ret2
  exact ⟨v, l, xv, x, rfl, B.out.grew k2⟩

theorem act_put_new (w0 w : World) (H A N : Nat) (v xv : Value) (l x : List Itm) (p k : Int) (b : Both w0 w H A N v l xv x) (hp0 : 0 ≤ p) (hp1 : p < (N : Int)) (h : ∀ e ∈ x, e.1 ≠ p) : Calls Try.prog 11 #[pt H, xv, i64 N, .agg #[i64 0, i64 p, u64 k]] w (ActR w0 H A N) := by
  have bX := Blk.new w 30 #[i64 0, i64 p, u64 k]
  have k1 : Grew w (w.alloc (.cells #[i64 0, i64 p, u64 k] 30)) := (Kept.refl _ _).alloc _
  obtain ⟨w1, hw1⟩ : ∃ w1, w.alloc (.cells #[i64 0, i64 p, u64 k] 30) = w1 := ⟨_, rfl⟩
  rw [hw1] at bX k1
  have B := Lib.hid (b.grew k1)
  have x0 := bX.cell 0
  have x1 := bX.cell 1
  have x2 := bX.cell 2
  simp at x0 x1 x2
  have hR := Lib.hid (rput_yes w1 _ xv x (N : Int) p k (-1) B.out.r (by have := b.len; omega) b.dup hp0 hp1 (.inl ⟨rfl, h⟩) (fun j e hj => by omega))
  have HN : Hid (∀ e ∈ l, e.1 ≠ p) := fun e he => h e (b.p.mem_iff.2 he)
  clear h
  clear b k1
  go_enter Try.func11, Try.ntmps11
  go_wp2_with fail
  refine hR.out.mono ?_
  rintro r w2 ⟨yv, rfl, hy, k2⟩
  have bX2 := bX.grew k2
  have y1 := bX2.cell 1
  have y2 := bX2.cell 2
  simp at y1 y2
  have hP := Lib.hid (put_new2 w2 H A N v l (B.out.s.hp.grew k2) p k hp0 hp1 HN.out)
  have HY := Lib.hid (hy.base B.out.s.fro.size)
  clear hy bX bX2 x0 x1 x2 hR
  go_wp2_with fail
  refine hP.out.mono ?_
  rintro r w3 ⟨rfl, v', l', hp, ht⟩
  go_wp2_with fail
  go_ret2
  exact ⟨v', l', yv, _, rfl, B.out.turn k2 HY.out ht (by rw [woF_none]; exact (B.out.p.append_right _).trans hp.symm)⟩

theorem act_put_less (w0 w : World) (H A N : Nat) (v xv : Value) (l x : List Itm) (p k : Int) (b : Both w0 w H A N v l xv x) (hp0 : 0 ≤ p) (hp1 : p < (N : Int)) (j : Nat) (e : Itm) (hj : x[j]? = some e) (he : e.1 = p) (hk : k < e.2) : Calls Try.prog 11 #[pt H, xv, i64 N, .agg #[i64 0, i64 p, u64 k]] w (ActR w0 H A N) := by
  have bX := Blk.new w 30 #[i64 0, i64 p, u64 k]
  have k1 : Grew w (w.alloc (.cells #[i64 0, i64 p, u64 k] 30)) := (Kept.refl _ _).alloc _
  obtain ⟨w1, hw1⟩ : ∃ w1, w.alloc (.cells #[i64 0, i64 p, u64 k] 30) = w1 := ⟨_, rfl⟩
  rw [hw1] at bX k1
  have B := Lib.hid (b.grew k1)
  have x0 := bX.cell 0
  have x1 := bX.cell 1
  have x2 := bX.cell 2
  simp at x0 x1 x2
  have hR := Lib.hid (rput_yes w1 _ xv x (N : Int) p k (j : Int) B.out.r (by have := b.len; omega) b.dup hp0 hp1 (.inr ⟨j, e, rfl, hj, he⟩) (fun i f hi hf => by
    obtain rfl : j = i := by omega
    rw [hj] at hf
    cases hf
    exact hk))
  obtain ⟨a, ha⟩ := List.getElem?_of_mem (b.p.mem_iff.1 (List.mem_of_getElem? hj))
  have HJ := Lib.hid hj
  have HA := Lib.hid ha
  subst he
  clear hj ha
  clear b k1
  go_enter Try.func11, Try.ntmps11
  go_wp2_with fail
  refine hR.out.mono ?_
  rintro r w2 ⟨yv, rfl, hy, k2⟩
  have bX2 := bX.grew k2
  have y1 := bX2.cell 1
  have y2 := bX2.cell 2
  simp at y1 y2
  have hP := Lib.hid (put_less2 w2 H A N v l (B.out.s.hp.grew k2) a e k HA.out hk)
  have HY := Lib.hid (hy.base B.out.s.fro.size)
  clear hy bX bX2 x0 x1 x2 hR
  go_wp2_with fail
  refine hP.out.mono ?_
  rintro r w3 ⟨rfl, v', l', hp, ht⟩
  go_wp2_with fail
  go_ret2
  exact ⟨v', l', yv, _, rfl, B.out.turn k2 HY.out ht (by
    rw [woF_at]
    refine List.Perm.trans ?_ (hp.trans (set_perm l a (e.1, k) (get_lt HA.out))).symm
    exact (List.perm_append_singleton _ _).trans ((both_erase B.out.p HJ.out HA.out).cons _))⟩

theorem act_pop_none (w0 w : World) (H A N : Nat) (v xv : Value) (p k : Int) (b : Both w0 w H A N v [] xv []) : Calls Try.prog 11 #[pt H, xv, i64 N, .agg #[i64 1, i64 p, u64 k]] w (ActR w0 H A N) := by
  have bX := Blk.new w 30 #[i64 1, i64 p, u64 k]
  have k1 : Grew w (w.alloc (.cells #[i64 1, i64 p, u64 k] 30)) := (Kept.refl _ _).alloc _
  obtain ⟨w1, hw1⟩ : ∃ w1, w.alloc (.cells #[i64 1, i64 p, u64 k] 30) = w1 := ⟨_, rfl⟩
  rw [hw1] at bX k1
  have B := Lib.hid (b.grew k1)
  have x0 := bX.cell 0
  have x1 := bX.cell 1
  have x2 := bX.cell 2
  simp at x0 x1 x2
  have hP := Lib.hid (pop_none w1 H A N v B.out.s.hp)
  have hT := Lib.hid (rtop_none w1 _ xv B.out.r)
  clear b k1
  go_enter Try.func11, Try.ntmps11
  go_wp2_with fail
  refine hP.out.mono ?_
  rintro r w2 ⟨rfl, rfl⟩
  go_wp2_with fail
  refine hT.out.mono ?_
  rintro r w2 ⟨rfl, rfl⟩
  go_wp2_with fail
  go_ret2
  exact ⟨v, [], xv, [], rfl, B.out⟩
theorem act_pop_some (w0 w : World) (H A N : Nat) (v xv : Value) (l x : List Itm) (p k : Int) (b : Both w0 w H A N v l xv x) (hl : 0 < l.length) : Calls Try.prog 11 #[pt H, xv, i64 N, .agg #[i64 1, i64 p, u64 k]] w (ActR w0 H A N) := by
  have bX := Blk.new w 30 #[i64 1, i64 p, u64 k]
  have k1 : Grew w (w.alloc (.cells #[i64 1, i64 p, u64 k] 30)) := (Kept.refl _ _).alloc _
  obtain ⟨w1, hw1⟩ : ∃ w1, w.alloc (.cells #[i64 1, i64 p, u64 k] 30) = w1 := ⟨_, rfl⟩
  rw [hw1] at bX k1
  have B := Lib.hid (b.grew k1)
  have x0 := bX.cell 0
  have x1 := bX.cell 1
  have x2 := bX.cell 2
  simp at x0 x1 x2
  obtain ⟨⟨ev, ek⟩, he, hmin⟩ := B.out.s.hp.first hl
  obtain ⟨j, hj⟩ := List.getElem?_of_mem (b.p.mem_iff.2 (List.mem_of_getElem? he))
  have hP := Lib.hid (pop_some w1 H A N v l B.out.s.hp 0 _ he hmin)
  have hlen := b.len
  have hdup := Lib.hid b.dup
  have HM : Hid (∀ f ∈ x, ¬ lessI f (ev, ek) = true) := fun f hf => hmin f (b.p.mem_iff.1 hf)
  have HE := Lib.hid he
  have HJ := Lib.hid hj
  have hjl := get_lt hj
  obtain ⟨L, hL⟩ : ∃ L, x.length = L := ⟨_, rfl⟩
  rw [hL] at hlen hjl
  have HL := Lib.hid hL
  clear b k1 he hmin hj hL hl
  go_enter Try.func11, Try.ntmps11
  go_wp2_with fail
  refine hP.out.mono ?_
  rintro r w2 ⟨rfl, v', l', hp, ht⟩
  have r2 := B.out.r.turn B.out.s.hp ht
  have hT := Lib.hid (rtop_some w2 _ xv x j _ r2 (by rw [HL.out]; omega) HJ.out HM.out (fun i hi => hdup.out i j _ _ hi HJ.out rfl))
  have S2 := Lib.hid (B.out.s.turn ht)
  have R2 := Lib.hid r2
  have HP := Lib.hid hp
  clear hP hp ht r2 bX x0 x1 x2
  go_wp2_with fail
  refine hT.out.mono ?_
  rintro r w3 ⟨rfl, k3⟩
  have r3 := R2.out.grew k3
  obtain ⟨g, c, hv, _, a0, a1⟩ := r3.item HJ.out
  have R3 := Lib.hid r3
  have hD := Lib.hid (rdrop_any w3 _ xv x ev (j : Int) r3 (by rw [HL.out]; omega) hdup.out (.inr ⟨j, _, rfl, HJ.out, rfl⟩))
  rw [HL.out] at hv
  subst hv
  have d0 : decide ((j : Int) < 0) = false := decide_eq_false (by omega)
  have j0 : (0 : Int) ≤ (j : Int) := by omega
  have j1 : (j : Int) < (L : Int) := by omega
  have d1 : decide ((0 : Int) ≤ (j : Int)) = true := decide_eq_true (by omega)
  have b0 := a0
  have b1 := a1
  clear hT r3
  go_wp2_with fail
  refine hD.out.mono ?_
  rintro r w4 ⟨yv, rfl, hy, k4⟩
  have HY := Lib.hid hy
  replace a0 := (k4.cell b0)
  replace a1 := (k4.cell b1)
  replace a0 : w4.drew.cell? ⟨g, j * 2, none⟩ = some (.int .i64 ev) := a0
  replace a1 : w4.drew.cell? ⟨g, j * 2 + 1, none⟩ = some (.int .u64 ek) := a1
  have q0 : (ev == ev) = true := by simp
  have q1 : (ek == ek) = true := by simp
  clear hy b0 b1 hD
  go_wp2_with fail
  refine wp_region_grow [] (fun _ => False) (by kernel_rfl) ?_
  simp only [List.size_toArray, List.length_cons, List.length_nil, Nat.reduceAdd]
  refine wpAnyG_pure 0 76 (v := ?_) rfl (by kernel_rfl) rfl (by rfl) (fun w' => ?_) ?_
  rotate_left
  · go_simp <;> with_reducible rfl
  simp only [List.setIfInBounds_toArray, List.set_cons_zero, List.set_cons_succ]
  refine wpAnyG_pure 1 77 (v := ?_) rfl (by kernel_rfl) rfl (by rfl) (fun w' => ?_) ?_
  rotate_left
  · go_simp <;> with_reducible rfl
  simp only [List.setIfInBounds_toArray, List.set_cons_zero, List.set_cons_succ]
  refine wpAnyG_pure 2 78 (v := ?_) rfl (by kernel_rfl) rfl (by rfl) (fun w' => ?_) ?_
  rotate_left
  · go_simp <;> with_reducible rfl
  simp only [List.setIfInBounds_toArray, List.set_cons_zero, List.set_cons_succ]
  refine wpAnyG_pure 3 79 (v := ?_) rfl (by kernel_rfl) rfl (by rfl) (fun w' => ?_) ?_
  rotate_left
  · go_simp <;> with_reducible rfl
  simp only [List.setIfInBounds_toArray, List.set_cons_zero, List.set_cons_succ]
  refine wpAnyG_pure 4 80 (v := ?_) rfl (by kernel_rfl) rfl (by rfl) (fun w' => ?_) ?_
  rotate_left
  · go_simp <;> with_reducible rfl
  simp only [List.setIfInBounds_toArray, List.set_cons_zero, List.set_cons_succ]
  refine wpAnyG_pure 5 81 (v := ?_) rfl (by kernel_rfl) rfl (by rfl) (fun w' => ?_) ?_
  rotate_left
  · go_simp <;> with_reducible rfl
  simp only [List.setIfInBounds_toArray, List.set_cons_zero, List.set_cons_succ]
  refine wpAnyG_pure 6 82 (v := ?_) rfl (by kernel_rfl) rfl (by rfl) (fun w' => ?_) ?_
  rotate_left
  · go_simp <;> with_reducible rfl
  simp only [List.setIfInBounds_toArray, List.set_cons_zero, List.set_cons_succ]
  refine wpAnyG_pure 7 83 (v := ?_) rfl (by kernel_rfl) rfl (by rfl) (fun w' => ?_) ?_
  rotate_left
  · go_simp <;> with_reducible rfl
  simp only [List.setIfInBounds_toArray, List.set_cons_zero, List.set_cons_succ]
  refine wpAnyG_take 8 84 (v := ?_) rfl (by kernel_rfl) rfl (by rfl) (fun w' hG' => ?_) ?_
  rotate_left
  · have hx0 := Grew.cell hG' a0
    have hx1 := Grew.cell hG' a1
    go_simp <;> with_reducible rfl
  simp only [List.setIfInBounds_toArray, List.set_cons_zero, List.set_cons_succ]
  refine wpAnyG_pure 9 85 (v := ?_) rfl (by kernel_rfl) rfl (by rfl) (fun w' => ?_) ?_
  rotate_left
  · go_simp <;> with_reducible rfl
  simp only [List.setIfInBounds_toArray, List.set_cons_zero, List.set_cons_succ]
  refine wpAnyG_pure 10 86 (v := ?_) rfl (by kernel_rfl) rfl (by rfl) (fun w' => ?_) ?_
  rotate_left
  · go_simp <;> with_reducible rfl
  simp only [List.setIfInBounds_toArray, List.set_cons_zero, List.set_cons_succ]
  refine wpAnyG_pure 11 87 (v := ?_) rfl (by kernel_rfl) rfl (by rfl) (fun w' => ?_) ?_
  rotate_left
  · go_simp <;> with_reducible rfl
  simp only [List.setIfInBounds_toArray, List.set_cons_zero, List.set_cons_succ]
  refine wpAnyG_pure 12 88 (v := ?_) rfl (by kernel_rfl) rfl (by rfl) (fun w' => ?_) ?_
  rotate_left
  · go_simp <;> with_reducible rfl
  simp only [List.setIfInBounds_toArray, List.set_cons_zero, List.set_cons_succ]
  refine wpAnyG_pure 13 89 (v := ?_) rfl (by kernel_rfl) rfl (by rfl) (fun w' => ?_) ?_
  rotate_left
  · go_simp <;> with_reducible rfl
  simp only [List.setIfInBounds_toArray, List.set_cons_zero, List.set_cons_succ]
  refine wpAnyG_pure 14 90 (v := ?_) rfl (by kernel_rfl) rfl (by rfl) (fun w' => ?_) ?_
  rotate_left
  · go_simp <;> with_reducible rfl
  simp only [List.setIfInBounds_toArray, List.set_cons_zero, List.set_cons_succ]
  refine wpAnyG_pure 15 91 (v := ?_) rfl (by kernel_rfl) rfl (by rfl) (fun w' => ?_) ?_
  rotate_left
  · go_simp <;> with_reducible rfl
  simp only [List.setIfInBounds_toArray, List.set_cons_zero, List.set_cons_succ]
  refine wpAnyG_pure 16 92 (v := ?_) rfl (by kernel_rfl) rfl (by rfl) (fun w' => ?_) ?_
  rotate_left
  · go_simp <;> with_reducible rfl
  simp only [List.setIfInBounds_toArray, List.set_cons_zero, List.set_cons_succ]
  refine wpAnyG_take 17 93 (v := ?_) rfl (by kernel_rfl) rfl (by rfl) (fun w' hG' => ?_) ?_
  rotate_left
  · have hx0 := Grew.cell hG' a0
    have hx1 := Grew.cell hG' a1
    go_simp <;> with_reducible rfl
  simp only [List.setIfInBounds_toArray, List.set_cons_zero, List.set_cons_succ]
  refine wpAnyG_pure 18 94 (v := ?_) rfl (by kernel_rfl) rfl (by rfl) (fun w' => ?_) ?_
  rotate_left
  · go_simp <;> with_reducible rfl
  simp only [List.setIfInBounds_toArray, List.set_cons_zero, List.set_cons_succ]
  refine wpAnyG_pure 19 95 (v := ?_) rfl (by kernel_rfl) rfl (by rfl) (fun w' => ?_) ?_
  rotate_left
  · go_simp <;> with_reducible rfl
  simp only [List.setIfInBounds_toArray, List.set_cons_zero, List.set_cons_succ]
  refine wpAnyG_pure 20 8 (v := ?_) rfl (by kernel_rfl) rfl (by rfl) (fun w' => ?_) ?_
  rotate_left
  · go_simp <;> with_reducible rfl
  simp only [List.setIfInBounds_toArray, List.set_cons_zero, List.set_cons_succ]
  refine wpAnyG_pure 21 9 (v := ?_) rfl (by kernel_rfl) rfl (by rfl) (fun w' => ?_) ?_
  rotate_left
  · go_simp <;> with_reducible rfl
  simp only [List.setIfInBounds_toArray, List.set_cons_zero, List.set_cons_succ]
  refine wpAnyG_done (by kernel_rfl) ?_
  go_wp2_with fail
  go_ret2
  refine ⟨v', l', yv, _, rfl, ((S2.out.grew k3).grew k4).grew (Kept.refl _ _).drew, (HY.out.base ?_).grew (Kept.refl _ _).drew, ?_, B.out.few⟩
  · have := S2.out.fro.size
    have := k3.size
    omega
  · rw [woF_at]
    exact (both_erase B.out.p HJ.out HE.out).trans HP.out.symm
theorem act_drop_no (w0 w : World) (H A N : Nat) (v xv : Value) (l x : List Itm) (p k : Int) (b : Both w0 w H A N v l xv x) (h : ∀ e ∈ x, e.1 ≠ p) : Calls Try.prog 11 #[pt H, xv, i64 N, .agg #[i64 2, i64 p, u64 k]] w (ActR w0 H A N) := by
  have bX := Blk.new w 30 #[i64 2, i64 p, u64 k]
  have k1 : Grew w (w.alloc (.cells #[i64 2, i64 p, u64 k] 30)) := (Kept.refl _ _).alloc _
  obtain ⟨w1, hw1⟩ : ∃ w1, w.alloc (.cells #[i64 2, i64 p, u64 k] 30) = w1 := ⟨_, rfl⟩
  rw [hw1] at bX k1
  have B := Lib.hid (b.grew k1)
  have x0 := bX.cell 0
  have x1 := bX.cell 1
  have x2 := bX.cell 2
  simp at x0 x1 x2
  have hR := rdrop_any w1 _ xv x p (-1) B.out.r (by have := b.len; omega) b.dup (.inl ⟨rfl, h⟩)
  rw [decide_eq_false (by omega)] at hR
  replace hR := Lib.hid hR
  have HN : Hid (∀ e ∈ l, e.1 ≠ p) := fun e he => h e (b.p.mem_iff.2 he)
  clear b k1 h
  go_enter Try.func11, Try.ntmps11
  go_wp2_with fail
  refine hR.out.mono ?_
  rintro r w2 ⟨yv, rfl, hy, k2⟩
  have bX2 := bX.grew k2
  have y1 := bX2.cell 1
  have y2 := bX2.cell 2
  simp at y1 y2
  have hP := Lib.hid (drop_not w2 H A N v l (B.out.s.hp.grew k2) p HN.out)
  have HY := Lib.hid (hy.base B.out.s.fro.size)
  clear hy bX bX2 x0 x1 x2 hR
  go_wp2_with fail
  refine hP.out.mono ?_
  rintro r w3 ⟨rfl, rfl⟩
  go_wp2_with fail
  go_ret2
  exact ⟨v, l, yv, _, rfl, B.out.s.grew k2, HY.out, by rw [woF_none]; exact B.out.p, B.out.few⟩
theorem act_drop_yes (w0 w : World) (H A N : Nat) (v xv : Value) (l x : List Itm) (p k : Int) (b : Both w0 w H A N v l xv x) (j : Nat) (e : Itm) (hj : x[j]? = some e) (he : e.1 = p) : Calls Try.prog 11 #[pt H, xv, i64 N, .agg #[i64 2, i64 p, u64 k]] w (ActR w0 H A N) := by
  have bX := Blk.new w 30 #[i64 2, i64 p, u64 k]
  have k1 : Grew w (w.alloc (.cells #[i64 2, i64 p, u64 k] 30)) := (Kept.refl _ _).alloc _
  obtain ⟨w1, hw1⟩ : ∃ w1, w.alloc (.cells #[i64 2, i64 p, u64 k] 30) = w1 := ⟨_, rfl⟩
  rw [hw1] at bX k1
  have B := Lib.hid (b.grew k1)
  have x0 := bX.cell 0
  have x1 := bX.cell 1
  have x2 := bX.cell 2
  simp at x0 x1 x2
  have hR := rdrop_any w1 _ xv x p (j : Int) B.out.r (by have := b.len; omega) b.dup (.inr ⟨j, e, rfl, hj, he⟩)
  rw [decide_eq_true (by omega)] at hR
  replace hR := Lib.hid hR
  obtain ⟨a, ha⟩ := List.getElem?_of_mem (b.p.mem_iff.1 (List.mem_of_getElem? hj))
  have HJ := Lib.hid hj
  have HA := Lib.hid ha
  subst he
  clear b k1 hj ha
  go_enter Try.func11, Try.ntmps11
  go_wp2_with fail
  refine hR.out.mono ?_
  rintro r w2 ⟨yv, rfl, hy, k2⟩
  have bX2 := bX.grew k2
  have y1 := bX2.cell 1
  have y2 := bX2.cell 2
  simp at y1 y2
  have hP := Lib.hid (drop_has w2 H A N v l (B.out.s.hp.grew k2) a e HA.out)
  have HY := Lib.hid (hy.base B.out.s.fro.size)
  clear hy bX bX2 x0 x1 x2 hR
  go_wp2_with fail
  refine hP.out.mono ?_
  rintro r w3 ⟨rfl, v', l', hp, ht⟩
  go_wp2_with fail
  go_ret2
  exact ⟨v', l', yv, _, rfl, B.out.turn k2 HY.out ht (by rw [woF_at]; exact (both_erase B.out.p HJ.out HA.out).trans hp.symm)⟩
theorem act_clear (w0 w : World) (H A N : Nat) (v xv : Value) (l x : List Itm) (c p k : Int) (b : Both w0 w H A N v l xv x) (h0 : ¬ c = 0) (h1 : ¬ c = 1) (h2 : ¬ c = 2) : Calls Try.prog 11 #[pt H, xv, i64 N, .agg #[i64 c, i64 p, u64 k]] w (ActR w0 H A N) := by
  have bX := Blk.new w 30 #[i64 c, i64 p, u64 k]
  have k1 : Grew w (w.alloc (.cells #[i64 c, i64 p, u64 k] 30)) := (Kept.refl _ _).alloc _
  obtain ⟨w1, hw1⟩ : ∃ w1, w.alloc (.cells #[i64 c, i64 p, u64 k] 30) = w1 := ⟨_, rfl⟩
  rw [hw1] at bX k1
  have B := Lib.hid (b.grew k1)
  have x0 := bX.cell 0
  have x1 := bX.cell 1
  have x2 := bX.cell 2
  simp at x0 x1 x2
  have hC := Lib.hid (clear2 w1 H A N v l B.out.s.hp)
  have e0 : (c == 0) = false := by simpa using h0
  have e1 : (c == 1) = false := by simpa using h1
  have e2 : (c == 2) = false := by simpa using h2
  clear b k1 h0 h1 h2
  go_enter Try.func11, Try.ntmps11
  go_wp2_with fail
  refine hC.out.mono ?_
  rintro r w2 ⟨rfl, v', ht⟩
  go_wp2_with fail
  go_ret2
  exact ⟨v', [], _, [], rfl, B.out.s.turn ht, Items.nil _ _, List.Perm.refl _, B.out.few⟩
theorem act_any (w0 w : World) (H A N : Nat) (v xv : Value) (l x : List Itm) (a : Act3) (b : Both w0 w H A N v l xv x) : Calls Try.prog 11 #[pt H, xv, i64 N, .agg #[i64 a.kind, i64 a.i, u64 a.v]] w (ActR w0 H A N) := by
  obtain ⟨c, p, k⟩ := a
  simp only
  by_cases h0 : c = 0
  · subst h0
    by_cases h : p < 0 ∨ (N : Int) ≤ p ∨ ∃ e ∈ x, e.1 = p ∧ e.2 ≤ k
    · exact act_put_no w0 w H A N v xv l x p k b h
    · by_cases hex : ∃ e ∈ x, e.1 = p
      · obtain ⟨e, he, hp⟩ := hex
        obtain ⟨j, hj⟩ := List.getElem?_of_mem he
        exact act_put_less w0 w H A N v xv l x p k b (by omega) (by omega) j e hj hp (by
          rcases Int.lt_or_le k e.2 with h1 | h1
          · exact h1
          · exact absurd (.inr (.inr ⟨e, he, hp, h1⟩)) h)
      · exact act_put_new w0 w H A N v xv l x p k b (by omega) (by omega) (fun e he hp => hex ⟨e, he, hp⟩)
  · by_cases h1 : c = 1
    · subst h1
      rcases Nat.eq_zero_or_pos l.length with hl | hl
      · obtain rfl := List.eq_nil_of_length_eq_zero hl
        obtain rfl := List.Perm.eq_nil b.p
        exact act_pop_none w0 w H A N v xv p k b
      · exact act_pop_some w0 w H A N v xv l x p k b hl
    · by_cases h2 : c = 2
      · subst h2
        by_cases hex : ∃ e ∈ x, e.1 = p
        · obtain ⟨e, he, hp⟩ := hex
          obtain ⟨j, hj⟩ := List.getElem?_of_mem he
          exact act_drop_yes w0 w H A N v xv l x p k b j e hj hp
        · exact act_drop_no w0 w H A N v xv l x p k b (fun e he hp => hex ⟨e, he, hp⟩)
      · exact act_clear w0 w H A N v xv l x c p k b h0 h1 h2
end Go.Proofs.Ythihjclilgdaiaa
