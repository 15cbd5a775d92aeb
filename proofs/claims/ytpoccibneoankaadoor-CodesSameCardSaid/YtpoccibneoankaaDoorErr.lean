/- Errors of faults: the walks of New, Error, Fault, About, Is, and of errors.Is. -/
import Derived.Test.YtpoccibneoankaaDoorOf
namespace Go.Proofs.YtpoccibneoankaaDoor
open Go.RowKit Go.Extern.Stop Go.Stop Go.Extern

abbrev str (s : ByteArray) : Value := .string s
/-- The error at g is of fault p. -/
abbrev ErrB (w : World) (g : Nat) (p : Int) (s : ByteArray) : Prop := Blk w g 47 #[i64 p, str s]
abbrev eV (g : Nat) : Value := errV ⟨g, 0, none⟩
abbrev sV (g : Nat) : Value := .iface 68 (.pointer (some ⟨g, 0, none⟩))

theorem new_no (f : Int) (s : ByteArray) (w : World) (h : f = 0 ∨ isF f = false) : Calls Tryd.prog 7 #[i64 f, str s] w fun e w' => e = .returned .nilIface ∧ Grew w w' := by
  rcases h with rfl | h
  · go_enter Tryd.func7, Tryd.ntmps7
    go_wp2_with fail
    go_ret
    exact ⟨rfl, Kept.refl _ _⟩
  · have hI := Lib.hid (fun W => is_any f W)
    rw [h] at hI
    have h0 : (f == 0) = false := by
      have : f ≠ 0 := fun e => by subst e; simp [isF] at h
      simpa using this
    clear h
    go_enter Tryd.func7, Tryd.ntmps7
    go_wp2_with fail
    refine (hI.out _).mono ?_
    rintro r w1 ⟨rfl, k1⟩
    go_wp2_with fail
    go_ret
    exact ⟨rfl, k1⟩
theorem new_yes (f : Int) (s : ByteArray) (w : World) (h0 : f ≠ 0) (h : isF f = true) : Calls Tryd.prog 7 #[i64 f, str s] w fun e w' => ∃ g, e = .returned (eV g) ∧ ErrB w' g f s ∧ Grew w w' ∧ w.heap.size ≤ g := by
  have hI := Lib.hid (fun W => is_any f W)
  rw [h] at hI
  have h0 : (f == 0) = false := by simpa using h0
  clear h
  go_enter Tryd.func7, Tryd.ntmps7
  go_wp2_with fail
  refine (hI.out _).mono ?_
  rintro r w1 ⟨rfl, k1⟩
  go_wp2_with fail
  go_ret
  exact ⟨_, rfl, Blk.new _ _ _, k1.alloc _, k1.size⟩
theorem enew_any (s : ByteArray) (w : World) : Calls Tryd.prog 21 #[str s] w fun e w' => ∃ g, e = .returned (sV g) ∧ Blk w' g 70 #[str s] ∧ Grew w w' := by
  go_enter Tryd.func21, Tryd.ntmps21
  go_wp2_with fail
  go_ret
  exact ⟨_, rfl, Blk.new _ _ _, (Kept.refl _ _).alloc _⟩
theorem wrapped_any (tb : TypeId) (xb : Value) (n : Nat) (w : World) (hn : n ≤ 20) : Calls Tryd.prog 11 #[.iface tb xb, i64 (n : Int)] w fun e w' => ∃ v', e = .returned v' ∧ Wraps w' n v' (.iface tb xb) ∧ Grew w w' := by
  go_enter Tryd.func11, Tryd.ntmps11
  go_wp2_with fail
  go_loopw [0, 5] (fun s0 i wr => ∃ k : Nat, k ≤ n ∧ i = .int .i64 k ∧ Hid (Wraps wr k s0 (.iface tb xb)) ∧ Grew w wr) (fun _ i _ => n - (intOf i).toNat)
  case atStart => exact ⟨0, by omega, rfl, Lib.hid (show Wraps w 0 (.iface tb xb) (.iface tb xb) from rfl), Kept.refl _ _⟩
  case round =>
    obtain ⟨k, hk, rfl, W, hK⟩ := hrel
    obtain ⟨tt, xx, hu⟩ := W.out.iface
    subst hu
    by_cases hlt : k < n
    · go_wp2_with fail
      go_roundw
      case rel => exact ⟨k + 1, by omega, by go_num, Lib.hid ⟨_, _, rfl, Blk.new _ _ _, W.out.grew ((Kept.refl _ _).alloc _)⟩, hK.alloc _⟩
      case measure => simp [intOf]; omega
    · obtain rfl : n = k := by omega
      go_wp2_with fail
      go_ret
      exact ⟨_, rfl, W.out, hK⟩

theorem Blk.ne {w : World} {g h : Nat} {t u : TypeId} {cs ds : Array Value} (a : Blk w g t cs) (b : Blk w h u ds) (hne : t ≠ u) : g ≠ h := by
  rintro rfl
  have := a.symm.trans b
  simp at this
  exact hne this.2
theorem grew_of {w w' : World} {o : Obj} (k : Kept (· = w.heap.size) (w.alloc o) w') : Grew w w' :=
  ((Kept.refl (fun _ => False) w).alloc o).then k (fun i hi h => by omega)

/-! ### Fault, About, Is -/

theorem fault_nil (w : World) : Calls Tryd.prog 9 #[.nilIface] w fun e w' => e = .returned (i64 0) ∧ Grew w w' := by
  have hA := Lib.hid As_nil
  go_enter Tryd.func9, Tryd.ntmps9
  go_wp2_with fail
  go_ret
  exact ⟨rfl, (Kept.refl _ _).alloc _⟩
theorem fault_hit (w : World) (k : Nat) (v : Value) (g : Nat) (p : Int) (s : ByteArray) (hd : Door w) (hW : Wraps w k v (eV g)) (b : ErrB w g p s) : Calls Tryd.prog 9 #[v] w fun e w' => e = .returned (i64 p) ∧ Grew w w' := by
  obtain ⟨tt, xx, rfl⟩ := hW.iface
  have bT := Blk.new w 30 #[.pointer none]
  have k1 : Grew w (w.alloc (.cells #[.pointer none] 30)) := (Kept.refl _ _).alloc _
  have hgl := b.lt
  have hne : ¬ g = w.heap.size := by omega
  have hfin : Hid (∀ w', Kept (· = w.heap.size) (w.alloc (.cells #[.pointer none] 30)) w' → Grew w w') := fun w' k => grew_of k
  have hAs := Lib.hid (As_hit _ k _ ⟨g, 0, none⟩ w.heap.size _ (hd.grew k1) (hW.grew k1) bT)
  have b1 := Lib.hid (b.grew k1)
  clear hd k1 bT hgl hW b
  go_enter Tryd.func9, Tryd.ntmps9
  go_wp2_with fail
  refine hAs.out.mono ?_
  rintro r w2 ⟨rfl, bT2, k2⟩
  have c0 : w2.cell? ⟨w.heap.size, 0, none⟩ = some (.pointer (some ⟨g, 0, none⟩)) := bT2.cell 0
  have c1 : w2.cell? ⟨g, 0, none⟩ = some (i64 p) := (b1.out.kept k2 hne).cell 0
  have c2 : w2.cell? ⟨g, 1, none⟩ = some (str s) := (b1.out.kept k2 hne).cell 1
  clear hAs bT2
  go_wp2_with fail
  go_ret
  exact ⟨rfl, hfin.out _ k2⟩
theorem fault_miss (w : World) (k : Nat) (v : Value) (g : Nat) (hd : Door w) (hW : Wraps w k v (sV g)) : Calls Tryd.prog 9 #[v] w fun e w' => e = .returned (i64 1) ∧ Grew w w' := by
  obtain ⟨tt, xx, rfl⟩ := hW.iface
  have k1 : Grew w (w.alloc (.cells #[.pointer none] 30)) := (Kept.refl _ _).alloc _
  have hAs := Lib.hid (As_miss _ k _ ⟨g, 0, none⟩ w.heap.size (hd.grew k1) (hW.grew k1))
  have K1 := Lib.hid k1
  clear hd k1 hW
  go_enter Tryd.func9, Tryd.ntmps9
  go_wp2_with fail
  refine hAs.out.mono ?_
  rintro r w2 ⟨rfl, k2⟩
  go_wp2_with fail
  go_ret
  exact ⟨rfl, K1.out.trans k2⟩

theorem about_nil (w : World) : Calls Tryd.prog 10 #[.nilIface] w fun e w' => e = .returned (str ⟨#[]⟩) ∧ Grew w w' := by
  have hA := Lib.hid As_nil
  go_enter Tryd.func10, Tryd.ntmps10
  go_wp2_with fail
  refine (hA.out _ _).mono ?_
  rintro r w1 ⟨rfl, rfl⟩
  go_wp2_with fail
  go_ret
  exact ⟨rfl, (Kept.refl _ _).alloc _⟩
theorem about_hit (w : World) (k : Nat) (v : Value) (g : Nat) (p : Int) (s : ByteArray) (hd : Door w) (hW : Wraps w k v (eV g)) (b : ErrB w g p s) : Calls Tryd.prog 10 #[v] w fun e w' => e = .returned (str s) ∧ Grew w w' := by
  obtain ⟨tt, xx, rfl⟩ := hW.iface
  have bT := Blk.new w 30 #[.pointer none]
  have k1 : Grew w (w.alloc (.cells #[.pointer none] 30)) := (Kept.refl _ _).alloc _
  have hgl := b.lt
  have hne : ¬ g = w.heap.size := by omega
  have hfin : Hid (∀ w', Kept (· = w.heap.size) (w.alloc (.cells #[.pointer none] 30)) w' → Grew w w') := fun w' k => grew_of k
  have hAs := Lib.hid (As_hit _ k _ ⟨g, 0, none⟩ w.heap.size _ (hd.grew k1) (hW.grew k1) bT)
  have b1 := Lib.hid (b.grew k1)
  clear hd k1 bT hgl hW b
  go_enter Tryd.func10, Tryd.ntmps10
  go_wp2_with fail
  refine hAs.out.mono ?_
  rintro r w2 ⟨rfl, bT2, k2⟩
  have c0 : w2.cell? ⟨w.heap.size, 0, none⟩ = some (.pointer (some ⟨g, 0, none⟩)) := bT2.cell 0
  have c1 : w2.cell? ⟨g, 0, none⟩ = some (i64 p) := (b1.out.kept k2 hne).cell 0
  have c2 : w2.cell? ⟨g, 1, none⟩ = some (str s) := (b1.out.kept k2 hne).cell 1
  clear hAs bT2
  go_wp2_with fail
  go_ret
  exact ⟨rfl, hfin.out _ k2⟩
theorem about_miss (w : World) (k : Nat) (v : Value) (g : Nat) (hd : Door w) (hW : Wraps w k v (sV g)) : Calls Tryd.prog 10 #[v] w fun e w' => e = .returned (str ⟨#[]⟩) ∧ Grew w w' := by
  obtain ⟨tt, xx, rfl⟩ := hW.iface
  have k1 : Grew w (w.alloc (.cells #[.pointer none] 30)) := (Kept.refl _ _).alloc _
  have hAs := Lib.hid (As_miss _ k _ ⟨g, 0, none⟩ w.heap.size (hd.grew k1) (hW.grew k1))
  have K1 := Lib.hid k1
  clear hd k1 hW
  go_enter Tryd.func10, Tryd.ntmps10
  go_wp2_with fail
  refine hAs.out.mono ?_
  rintro r w2 ⟨rfl, k2⟩
  go_wp2_with fail
  go_ret
  exact ⟨rfl, K1.out.trans k2⟩

theorem eis_hit (w : World) (g1 g2 : Nat) (p q : Int) (s1 s2 : ByteArray) (hd : Door w) (b1 : ErrB w g1 p s1) (b2 : ErrB w g2 q s2) :
    Calls Tryd.prog 51 #[.pointer (some ⟨g1, 0, none⟩), eV g2] w fun e w' => e = .returned (.bool (q == p)) ∧ Grew w w' := by
  have bT := Blk.new w 30 #[.pointer none]
  have k1 : Grew w (w.alloc (.cells #[.pointer none] 30)) := (Kept.refl _ _).alloc _
  obtain ⟨X, hX⟩ : ∃ X, w.heap.size = X := ⟨_, rfl⟩
  have hg1 := b1.lt
  have hg2 := b2.lt
  have hne1 : ¬ g1 = X := by omega
  have hne2 : ¬ g2 = X := by omega
  have hfin : Hid (∀ w', Kept (· = X) (w.alloc (.cells #[.pointer none] 30)).drew w' → Grew w w') := fun w' k => grew_of (w := w) (o := .cells #[.pointer none] 30) (by subst hX; exact ((Kept.refl _ _).drew).trans k)
  obtain ⟨w1, hw1⟩ : ∃ w1, w.alloc (.cells #[.pointer none] 30) = w1 := ⟨_, rfl⟩
  rw [hw1] at bT k1 hfin
  rw [hX] at bT
  replace b1 := (b1.grew k1).drew
  replace b2 := (b2.grew k1).drew
  have hAs := Lib.hid (As_hit w1.drew 0 (eV g2) ⟨g2, 0, none⟩ X _ (hd.grew k1.drew) rfl bT.drew)
  clear hd k1 bT hg1 hg2
  go_enter Tryd.func51, Tryd.ntmps51
  go_wp2_with fail
  clear hw1
  refine wp_region_grow [2] (fun _ => False) (by kernel_rfl) ?_
  simp only [List.size_toArray, List.length_cons, List.length_nil, Nat.reduceAdd]
  refine wpAnyG_pure 0 6 (v := ?_) rfl (by kernel_rfl) rfl (by rfl) (fun w' => ?_) ?_
  rotate_left
  · go_simp <;> with_reducible rfl
  simp only [List.setIfInBounds_toArray, List.set_cons_zero, List.set_cons_succ]
  refine wpAnyG_pure 1 7 (v := ?_) rfl (by kernel_rfl) rfl (by rfl) (fun w' => ?_) ?_
  rotate_left
  · go_simp <;> with_reducible rfl
  simp only [List.setIfInBounds_toArray, List.set_cons_zero, List.set_cons_succ]
  refine wpAnyG_step 2 8 rfl (by kernel_rfl) rfl (by rfl) (fun K hK' => ?_)
  go_simp
  refine hAs.out.mono ?_
  rintro r w3 ⟨rfl, bT3, k3⟩
  have c0 : w3.cell? ⟨X, 0, none⟩ = some (.pointer (some ⟨g2, 0, none⟩)) := bT3.cell 0
  have c1 : w3.cell? ⟨g2, 0, none⟩ = some (i64 q) := (b2.kept k3 hne2).cell 0
  have c2 : w3.cell? ⟨g1, 0, none⟩ = some (i64 p) := (b1.kept k3 hne1).cell 0
  refine hK' _ _ (fun h => absurd (by simp) h) ?_
  clear hK'
  simp only [List.setIfInBounds_toArray, List.set_cons_zero, List.set_cons_succ]
  refine wpAnyG_pure 3 9 (v := ?_) rfl (by kernel_rfl) rfl (by rfl) (fun w' => ?_) ?_
  rotate_left
  · go_simp <;> with_reducible rfl
  simp only [List.setIfInBounds_toArray, List.set_cons_zero, List.set_cons_succ]
  refine wpAnyG_take 4 10 (v := ?_) rfl (by kernel_rfl) rfl (by rfl) (fun w' hG' => ?_) ?_
  rotate_left
  · have hx0 := Grew.cell hG' c0
    have hx1 := Grew.cell hG' c1
    have hx2 := Grew.cell hG' c2
    go_simp <;> with_reducible rfl
  simp only [List.setIfInBounds_toArray, List.set_cons_zero, List.set_cons_succ]
  refine wpAnyG_pure 5 11 (v := ?_) rfl (by kernel_rfl) rfl (by rfl) (fun w' => ?_) ?_
  rotate_left
  · go_simp <;> with_reducible rfl
  simp only [List.setIfInBounds_toArray, List.set_cons_zero, List.set_cons_succ]
  refine wpAnyG_pure 6 12 (v := ?_) rfl (by kernel_rfl) rfl (by rfl) (fun w' => ?_) ?_
  rotate_left
  · go_simp <;> with_reducible rfl
  simp only [List.setIfInBounds_toArray, List.set_cons_zero, List.set_cons_succ]
  refine wpAnyG_take 7 13 (v := ?_) rfl (by kernel_rfl) rfl (by rfl) (fun w' hG' => ?_) ?_
  rotate_left
  · have hx0 := Grew.cell hG' c0
    have hx1 := Grew.cell hG' c1
    have hx2 := Grew.cell hG' c2
    go_simp <;> with_reducible rfl
  simp only [List.setIfInBounds_toArray, List.set_cons_zero, List.set_cons_succ]
  refine wpAnyG_pure 8 14 (v := ?_) rfl (by kernel_rfl) rfl (by rfl) (fun w' => ?_) ?_
  rotate_left
  · go_simp <;> with_reducible rfl
  simp only [List.setIfInBounds_toArray, List.set_cons_zero, List.set_cons_succ]
  refine wpAnyG_pure 9 15 (v := ?_) rfl (by kernel_rfl) rfl (by rfl) (fun w' => ?_) ?_
  rotate_left
  · go_simp <;> with_reducible rfl
  simp only [List.setIfInBounds_toArray, List.set_cons_zero, List.set_cons_succ]
  refine wpAnyG_pure 10 16 (v := ?_) rfl (by kernel_rfl) rfl (by rfl) (fun w' => ?_) ?_
  rotate_left
  · go_simp <;> with_reducible rfl
  simp only [List.setIfInBounds_toArray, List.set_cons_zero, List.set_cons_succ]
  refine wpAnyG_take 11 17 (v := ?_) rfl (by kernel_rfl) rfl (by rfl) (fun w' hG' => ?_) ?_
  rotate_left
  · have hx0 := Grew.cell hG' c0
    have hx1 := Grew.cell hG' c1
    have hx2 := Grew.cell hG' c2
    go_simp <;> with_reducible rfl
  simp only [List.setIfInBounds_toArray, List.set_cons_zero, List.set_cons_succ]
  refine wpAnyG_pure 12 18 (v := ?_) rfl (by kernel_rfl) rfl (by rfl) (fun w' => ?_) ?_
  rotate_left
  · go_simp <;> with_reducible rfl
  simp only [List.setIfInBounds_toArray, List.set_cons_zero, List.set_cons_succ]
  refine wpAnyG_pure 13 19 (v := ?_) rfl (by kernel_rfl) rfl (by rfl) (fun w' => ?_) ?_
  rotate_left
  · go_simp <;> with_reducible rfl
  simp only [List.setIfInBounds_toArray, List.set_cons_zero, List.set_cons_succ]
  refine wpAnyG_pure 14 4 (v := ?_) rfl (by kernel_rfl) rfl (by rfl) (fun w' => ?_) ?_
  rotate_left
  · go_simp <;> with_reducible rfl
  simp only [List.setIfInBounds_toArray, List.set_cons_zero, List.set_cons_succ]
  refine wpAnyG_done (by kernel_rfl) ?_
  go_wp2_with fail
  go_ret
  exact ⟨rfl, hfin.out _ k3⟩
theorem eis_miss (w : World) (g1 g2 : Nat) (hd : Door w) :
    Calls Tryd.prog 51 #[.pointer (some ⟨g1, 0, none⟩), sV g2] w fun e w' => e = .returned (.bool false) ∧ Grew w w' := by
  have k1 : Grew w (w.alloc (.cells #[.pointer none] 30)) := (Kept.refl _ _).alloc _
  obtain ⟨w1, hw1⟩ : ∃ w1, w.alloc (.cells #[.pointer none] 30) = w1 := ⟨_, rfl⟩
  rw [hw1] at k1
  have hAs := Lib.hid (As_miss w1.drew 0 (sV g2) ⟨g2, 0, none⟩ w.heap.size (hd.grew k1.drew) rfl)
  have K1 := Lib.hid k1
  clear hd k1
  go_enter Tryd.func51, Tryd.ntmps51
  go_wp2_with fail
  clear hw1
  refine wp_region_grow [2] (fun _ => False) (by kernel_rfl) ?_
  simp only [List.size_toArray, List.length_cons, List.length_nil, Nat.reduceAdd]
  refine wpAnyG_pure 0 6 (v := ?_) rfl (by kernel_rfl) rfl (by rfl) (fun w' => ?_) ?_
  rotate_left
  · go_simp <;> with_reducible rfl
  simp only [List.setIfInBounds_toArray, List.set_cons_zero, List.set_cons_succ]
  refine wpAnyG_pure 1 7 (v := ?_) rfl (by kernel_rfl) rfl (by rfl) (fun w' => ?_) ?_
  rotate_left
  · go_simp <;> with_reducible rfl
  simp only [List.setIfInBounds_toArray, List.set_cons_zero, List.set_cons_succ]
  refine wpAnyG_step 2 8 rfl (by kernel_rfl) rfl (by rfl) (fun K hK' => ?_)
  go_simp
  refine hAs.out.mono ?_
  rintro r w3 ⟨rfl, k3⟩
  refine hK' _ _ (fun h => absurd (by simp) h) ?_
  clear hK'
  simp only [List.setIfInBounds_toArray, List.set_cons_zero, List.set_cons_succ]
  refine wpAnyG_pure 3 9 (v := ?_) rfl (by kernel_rfl) rfl (by rfl) (fun w' => ?_) ?_
  rotate_left
  · go_simp <;> with_reducible rfl
  simp only [List.setIfInBounds_toArray, List.set_cons_zero, List.set_cons_succ]
  refine wpAnyG_pass 4 10 rfl (by kernel_rfl) rfl (by rfl) ?_
  simp only [List.setIfInBounds_toArray, List.set_cons_zero, List.set_cons_succ]
  refine wpAnyG_pass 5 11 rfl (by kernel_rfl) rfl (by rfl) ?_
  simp only [List.setIfInBounds_toArray, List.set_cons_zero, List.set_cons_succ]
  refine wpAnyG_pass 6 12 rfl (by kernel_rfl) rfl (by rfl) ?_
  simp only [List.setIfInBounds_toArray, List.set_cons_zero, List.set_cons_succ]
  refine wpAnyG_pass 7 13 rfl (by kernel_rfl) rfl (by rfl) ?_
  simp only [List.setIfInBounds_toArray, List.set_cons_zero, List.set_cons_succ]
  refine wpAnyG_pass 8 14 rfl (by kernel_rfl) rfl (by rfl) ?_
  simp only [List.setIfInBounds_toArray, List.set_cons_zero, List.set_cons_succ]
  refine wpAnyG_pass 9 15 rfl (by kernel_rfl) rfl (by rfl) ?_
  simp only [List.setIfInBounds_toArray, List.set_cons_zero, List.set_cons_succ]
  refine wpAnyG_pass 10 16 rfl (by kernel_rfl) rfl (by rfl) ?_
  simp only [List.setIfInBounds_toArray, List.set_cons_zero, List.set_cons_succ]
  refine wpAnyG_pass 11 17 rfl (by kernel_rfl) rfl (by rfl) ?_
  simp only [List.setIfInBounds_toArray, List.set_cons_zero, List.set_cons_succ]
  refine wpAnyG_pass 12 18 rfl (by kernel_rfl) rfl (by rfl) ?_
  simp only [List.setIfInBounds_toArray, List.set_cons_zero, List.set_cons_succ]
  refine wpAnyG_pure 13 19 (v := ?_) rfl (by kernel_rfl) rfl (by rfl) (fun w' => ?_) ?_
  rotate_left
  · go_simp <;> with_reducible rfl
  simp only [List.setIfInBounds_toArray, List.set_cons_zero, List.set_cons_succ]
  refine wpAnyG_pure 14 4 (v := ?_) rfl (by kernel_rfl) rfl (by rfl) (fun w' => ?_) ?_
  rotate_left
  · go_simp <;> with_reducible rfl
  simp only [List.setIfInBounds_toArray, List.set_cons_zero, List.set_cons_succ]
  refine wpAnyG_done (by kernel_rfl) ?_
  go_wp2_with fail
  go_ret
  exact ⟨rfl, K1.out.drew.trans k3⟩

/-! ### errors.Is -/
set_option maxHeartbeats 4000000 in
set_option maxRecDepth 100000 in
theorem is_hit (w : World) (k : Nat) (v : Value) (g1 g2 : Nat) (p q : Int) (s1 s2 : ByteArray) (hd : Door w) (hW : Wraps w k v (eV g1)) (b1 : ErrB w g1 p s1) (b2 : ErrB w g2 q s2) (hne : g1 ≠ g2) :
    Calls Tryd.prog 31 #[v, eV g2, .bool true] w fun e w' => e = .returned (.bool (q == p)) ∧ Grew w w' := by
  obtain ⟨i, hi, hcmp⟩ := Option.map_eq_some_iff.1 Tryd.compE
  obtain ⟨j, hj, hjs⟩ := Option.map_eq_some_iff.1 Tryd.sizeE
  have nO := Tryd.noIsO
  have hI := Tryd.hasIsE
  have uO := Tryd.hasUnwrapO
  have uE := Tryd.noUnwrapE
  have usE := Tryd.noUnwrapsE
  have mU := Tryd.mUnwrap
  have mI := Tryd.mIs
  have hneA : (⟨g1, 0, none⟩ : Addr) ≠ ⟨g2, 0, none⟩ := fun h => hne (congrArg Addr.block h)
  have hty := fun W x => run_eql_iface_types (P := Tryd.prog) 50 30 x (.pointer (some ⟨g2, 0, none⟩)) Tryd.underlying25 (by decide) W
  have hjs' : j.size ≠ 0 := by rw [hjs]; decide
  obtain ⟨bb, hbb⟩ : ∃ b, (q == p) = b := ⟨_, rfl⟩
  rw [hbb]
  have HB := Lib.hid hbb
  clear hne hbb
  go_enter Tryd.func31, Tryd.ntmps31
  go_wp2_with fail
  go_loopg [0] k (fun n s0 wr => w = wr ∧ Wraps wr n s0 (eV g1))
  case atStart => exact ⟨rfl, hW⟩
  case round =>
    clear hW
    obtain ⟨rfl, hW⟩ := hrel
    cases gk with
    | zero =>
      have hv : u0 = eV g1 := hW
      subst hv
      have heq := run_eql_iface_ptr_other (P := Tryd.prog) w Tryd.underlying25 Tryd.underlying30 hi hcmp hj hjs' hneA b1 b2
      have hE0 := eis_hit w g1 g2 p q s1 s2 hd b1 b2
      rw [HB.out] at hE0
      have hE := Lib.hid hE0
      clear hd b1 b2 hW hE0
      cases bb
      · skip
        go_wp2_with fail
        refine hE.out.mono ?_
        rintro r w2 ⟨rfl, k2⟩
        go_wp2_with fail
        go_ret
        exact ⟨rfl, k2⟩
      · skip
        go_wp2_with fail
        refine hE.out.mono ?_
        rintro r w2 ⟨rfl, k2⟩
        go_wp2_with fail
        go_ret
        exact ⟨rfl, k2⟩
    | succ n =>
      obtain ⟨a, v', rfl, hB, hW⟩ := hW
      obtain ⟨tt, xx, rfl⟩ := hW.iface
      have hU := Lib.hid (unwrap_any w a _ hB)
      go_wp2_with fail
      refine hU.out.mono ?_
      rintro r w2 ⟨rfl, rfl⟩
      go_wp2_with fail
      go_roundg n
      case measure => omega
      case rel => exact ⟨rfl, hW⟩
set_option maxHeartbeats 4000000 in
set_option maxRecDepth 100000 in
theorem is_miss (w : World) (k : Nat) (v : Value) (g1 g2 : Nat) (hd : Door w) (hW : Wraps w k v (eV g1)) :
    Calls Tryd.prog 31 #[v, sV g2, .bool true] w fun e w' => e = .returned (.bool false) ∧ Grew w w' := by
  have nO := Tryd.noIsO
  have hI := Tryd.hasIsE
  have uO := Tryd.hasUnwrapO
  have uE := Tryd.noUnwrapE
  have usE := Tryd.noUnwrapsE
  have mU := Tryd.mUnwrap
  have mI := Tryd.mIs
  have hty := fun W x => run_eql_iface_types (P := Tryd.prog) 50 68 x (.pointer (some ⟨g2, 0, none⟩)) Tryd.underlying25 (by decide) W
  have hty2 := fun W x => run_eql_iface_types (P := Tryd.prog) 30 68 x (.pointer (some ⟨g2, 0, none⟩)) Tryd.underlying25 (by decide) W
  go_enter Tryd.func31, Tryd.ntmps31
  go_wp2_with fail
  go_loopg [0] k (fun n s0 wr => w = wr ∧ Wraps wr n s0 (eV g1))
  case atStart => exact ⟨rfl, hW⟩
  case round =>
    clear hW
    obtain ⟨rfl, hW⟩ := hrel
    cases gk with
    | zero =>
      have hv : u0 = eV g1 := hW
      subst hv
      have hE := Lib.hid (eis_miss w g1 g2 hd)
      clear hd hW
      go_wp2_with fail
      refine hE.out.mono ?_
      rintro r w2 ⟨rfl, k2⟩
      go_wp2_with fail
      go_ret
      exact ⟨rfl, k2⟩
    | succ n =>
      obtain ⟨a, v', rfl, hB, hW⟩ := hW
      obtain ⟨tt, xx, rfl⟩ := hW.iface
      have hU := Lib.hid (unwrap_any w a _ hB)
      go_wp2_with fail
      refine hU.out.mono ?_
      rintro r w2 ⟨rfl, rfl⟩
      go_wp2_with fail
      go_roundg n
      case measure => omega
      case rel => exact ⟨rfl, hW⟩
theorem Is_hit (w : World) (k : Nat) (v : Value) (g1 g2 : Nat) (p q : Int) (s1 s2 : ByteArray) (hd : Door w) (hW : Wraps w k v (eV g1)) (b1 : ErrB w g1 p s1) (b2 : ErrB w g2 q s2) (hne : g1 ≠ g2) :
    Calls Tryd.prog 22 #[v, eV g2] w fun e w' => e = .returned (.bool (q == p)) ∧ Grew w w' := by
  have h30 := @run_callFunc_extern Tryd.prog 30 _ ReflectliteType.typeOf Tryd.func30 (by kernel_rfl) (by kernel_rfl) (by kernel_rfl) (by kernel_rfl)
  have tE := Tryd.typeOfE
  have cE := Tryd.callCompE
  have mC := Tryd.mComparable
  have hX := Lib.hid (is_hit w k v g1 g2 p q s1 s2 hd hW b1 b2 hne)
  obtain ⟨tt, xx, rfl⟩ := hW.iface
  clear hd hW b1 b2 hne
  go_enter Tryd.func22, Tryd.ntmps22
  go_wp2_with fail
  refine hX.out.mono ?_
  rintro r w2 ⟨rfl, k2⟩
  go_wp2_with fail
  go_ret
  exact ⟨rfl, k2⟩
theorem Is_miss (w : World) (k : Nat) (v : Value) (g1 g2 : Nat) (hd : Door w) (hW : Wraps w k v (eV g1)) :
    Calls Tryd.prog 22 #[v, sV g2] w fun e w' => e = .returned (.bool false) ∧ Grew w w' := by
  have h30 := @run_callFunc_extern Tryd.prog 30 _ ReflectliteType.typeOf Tryd.func30 (by kernel_rfl) (by kernel_rfl) (by kernel_rfl) (by kernel_rfl)
  have tS := Tryd.typeOfS
  have cS := Tryd.callCompS
  have mC := Tryd.mComparable
  have hX := Lib.hid (is_miss w k v g1 g2 hd hW)
  obtain ⟨tt, xx, rfl⟩ := hW.iface
  clear hd hW
  go_enter Tryd.func22, Tryd.ntmps22
  go_wp2_with fail
  refine hX.out.mono ?_
  rintro r w2 ⟨rfl, k2⟩
  go_wp2_with fail
  go_ret
  exact ⟨rfl, k2⟩
end Go.Proofs.YtpoccibneoankaaDoor
