/- The heap: a number is put. -/
import Derived.Test.YthbcgdogmkgebaaHSink
import Derived.Deep.AppendLies
namespace Go.Proofs.Ythbcgdogmkgebaa.Hp
open Go.RowKit

theorem info_item : (Try.prog.info? 99).map (fun i => (i.zero, i.size, i.bytes)) = some (some (.agg #[i64 0, u64 0]), 2, 16) := by kernel_rfl
theorem Kept.realloc {F : Nat → Prop} {w : World} {o o2 : Obj} (h : F w.heap.size) : Kept F (w.alloc o) (w.alloc o2) :=
  ⟨rfl, rfl, rfl, by simp, fun k hk hf => by
    rcases Nat.lt_or_ge k w.heap.size with hl | hl
    · rw [Below.heap_alloc w o2 k hl, Below.heap_alloc w o k hl]
    · obtain rfl : k = w.heap.size := by simp at hk; omega
      exact absurd h hf⟩
theorem Kept.alloc_drew {F : Nat → Prop} (w : World) (o : Obj) : Kept F w.drew (w.alloc o).drew := ⟨rfl, rfl, rfl, by simp, fun k hk _ => Below.heap_alloc w o k hk⟩
theorem Kept.realloc_drew {F : Nat → Prop} {w : World} {o o2 : Obj} (h : F w.heap.size) : Kept F (w.alloc o).drew (w.alloc o2).drew := by
  have k := Kept.realloc (F := F) (w := w) (o := o) (o2 := o2) h
  exact ⟨k.os, k.tape, k.output, k.size, k.block⟩
theorem put_nil (x key : Int) (w : World) : Calls Try.prog 41 #[.pointer none, i64 x, u64 key] w fun e w' => e = .returned (.bool false) ∧ w = w' := by
  go_enter Try.func41, Try.ntmps41
  go_wp2_with fail
  go_ret
  exact ⟨rfl, rfl⟩
theorem put_out0 (w : World) (H A N : Nat) (v : Value) (l : List Itm) (a : List Int) (s : Heap w H A N v l a) (x key : Int) (h : x < 0) :
    Calls Try.prog 41 #[pt H, i64 x, u64 key] w fun e w' => e = .returned (.bool false) ∧ w = w' := by
  have hc : w.cell? ⟨H, 1, none⟩ = some (.slice (some ⟨A, 0, none⟩) N N) := s.box.cell 1
  have hs := s.small

  go_enter Try.func41, Try.ntmps41
  go_wp2_with fail
  go_ret
  exact ⟨rfl, rfl⟩
theorem put_out1 (w : World) (H A N : Nat) (v : Value) (l : List Itm) (a : List Int) (s : Heap w H A N v l a) (x key : Int) (h : (N : Int) ≤ x) :
    Calls Try.prog 41 #[pt H, i64 x, u64 key] w fun e w' => e = .returned (.bool false) ∧ w = w' := by
  have hc : w.cell? ⟨H, 1, none⟩ = some (.slice (some ⟨A, 0, none⟩) N N) := s.box.cell 1
  have hs := s.small
  have h0 : ¬ x < 0 := by omega
  go_enter Try.func41, Try.ntmps41
  go_wp2_with fail
  go_ret
  exact ⟨rfl, rfl⟩
/-- It is there, with a key that is not greater. -/
theorem put_keep (w : World) (H A N : Nat) (v : Value) (l : List Itm) (a : List Int) (s : Heap w H A N v l a) (p i : Nat) (key : Int) (e : Itm) (hp : a[p]? = some (i : Int)) (he : l[i]? = some e) (hk : e.2 ≤ key) :
    Calls Try.prog 41 #[pt H, i64 (p : Int), u64 key] w fun r w' => r = .returned (.bool false) ∧ Grew w w' := by
  have hc : w.cell? ⟨H, 1, none⟩ = some (.slice (some ⟨A, 0, none⟩) N N) := s.box.cell 1
  have hs := s.small
  have hf := s.few
  have hlt := s.lt
  have hAw := s.arr.lt
  have hHw := s.box.lt
  have hl := (List.getElem?_eq_some_iff.1 hp).1
  rw [s.len] at hl
  have hp0 := (s.grew (Kept.refl (fun _ => False) _).drew).place hp
  have p0 : (0 : Int) ≤ (p : Int) := by omega
  have p1 : (p : Int) < (N : Int) := by omega
  have bH := (s.grew (Kept.refl (fun _ => False) _).drew).box
  have d0 : decide ((p : Int) < 0) = false := decide_eq_false (by omega)
  have d1 : decide (N ≤ p) = false := decide_eq_false (by omega)
  have hH' : ¬ w.heap.size ≤ H := by omega
  have hA' : ¬ w.heap.size ≤ A := by omega
  have S0 := Lib.hid s
  clear s hp
  go_enter Try.func41, Try.ntmps41
  go_wp2_with fail
  refine wp_region_grow [] (fun j => w.heap.size ≤ j) (by kernel_rfl) ?_
  simp only [List.size_toArray, List.length_cons, List.length_nil, Nat.reduceAdd]
  refine wpAnyG_pure 0 24 (v := ?_) rfl (by kernel_rfl) rfl (by rfl) (fun w' => ?_) ?_
  rotate_left
  · go_simp <;> with_reducible rfl
  simp only [List.setIfInBounds_toArray, List.set_cons_zero, List.set_cons_succ]
  refine wpAnyG_pure 1 25 (v := ?_) rfl (by kernel_rfl) rfl (by rfl) (fun w' => ?_) ?_
  rotate_left
  · go_simp <;> with_reducible rfl
  simp only [List.setIfInBounds_toArray, List.set_cons_zero, List.set_cons_succ]
  refine wpAnyG_pure 2 26 (v := ?_) rfl (by kernel_rfl) rfl (by rfl) (fun w' => ?_) ?_
  rotate_left
  · go_simp <;> with_reducible rfl
  simp only [List.setIfInBounds_toArray, List.set_cons_zero, List.set_cons_succ]
  refine wpAnyG_pure 3 27 (v := ?_) rfl (by kernel_rfl) rfl (by rfl) (fun w' => ?_) ?_
  rotate_left
  · go_simp <;> with_reducible rfl
  simp only [List.setIfInBounds_toArray, List.set_cons_zero, List.set_cons_succ]
  refine wpAnyG_pure 4 28 (v := ?_) rfl (by kernel_rfl) rfl (by rfl) (fun w' => ?_) ?_
  rotate_left
  · go_simp <;> with_reducible rfl
  simp only [List.setIfInBounds_toArray, List.set_cons_zero, List.set_cons_succ]
  refine wpAnyG_pure 5 29 (v := ?_) rfl (by kernel_rfl) rfl (by rfl) (fun w' => ?_) ?_
  rotate_left
  · go_simp <;> with_reducible rfl
  simp only [List.setIfInBounds_toArray, List.set_cons_zero, List.set_cons_succ]
  refine wpAnyG_take 6 30 (v := ?_) rfl (by kernel_rfl) rfl (by rfl) (fun w' hG' => ?_) ?_
  rotate_left
  · have hx0 := (bH.kept hG' hH').cell 1
    have hx1 := Kept.cell hG' hp0 hA'
    simp at hx0
    go_simp <;> with_reducible rfl
  simp only [List.setIfInBounds_toArray, List.set_cons_zero, List.set_cons_succ]
  refine wpAnyG_pure 7 31 (v := ?_) rfl (by kernel_rfl) rfl (by rfl) (fun w' => ?_) ?_
  rotate_left
  · go_simp <;> with_reducible rfl
  simp only [List.setIfInBounds_toArray, List.set_cons_zero, List.set_cons_succ]
  refine wpAnyG_pure 8 32 (v := ?_) rfl (by kernel_rfl) rfl (by rfl) (fun w' => ?_) ?_
  rotate_left
  · go_simp <;> with_reducible rfl
  simp only [List.setIfInBounds_toArray, List.set_cons_zero, List.set_cons_succ]
  refine wpAnyG_take 9 33 (v := ?_) rfl (by kernel_rfl) rfl (by rfl) (fun w' hG' => ?_) ?_
  rotate_left
  · have hx0 := (bH.kept hG' hH').cell 1
    have hx1 := Kept.cell hG' hp0 hA'
    simp at hx0
    go_simp <;> with_reducible rfl
  simp only [List.setIfInBounds_toArray, List.set_cons_zero, List.set_cons_succ]
  refine wpAnyG_step 10 7 rfl (by kernel_rfl) rfl (by rfl) (fun K hK' => ?_)
  go_simp
  refine hK' _ _ (fun _ => Kept.alloc_drew _ _) ?_
  clear hK'
  simp only [List.setIfInBounds_toArray, List.set_cons_zero, List.set_cons_succ]
  refine wpAnyG_store 11 rfl (by kernel_rfl) rfl (by rfl) (fun K hK' => ?_)
  go_simp
  refine hK' _ (fun _ => Kept.realloc_drew (Nat.le_refl _)) ?_
  clear hK'
  refine wpAnyG_pure 12 8 (v := ?_) rfl (by kernel_rfl) rfl (by rfl) (fun w' => ?_) ?_
  rotate_left
  · go_simp <;> with_reducible rfl
  simp only [List.setIfInBounds_toArray, List.set_cons_zero, List.set_cons_succ]
  refine wpAnyG_done (by kernel_rfl) ?_
  obtain ⟨wb, hwb⟩ : ∃ wb, (w.alloc (.cells #[i64 (p : Int), u64 key] 99)).drew = wb := ⟨_, rfl⟩
  have hK : Grew w wb := by rw [← hwb]; exact Grew.alloc_drew _ _
  have bX : Blk wb w.heap.size 99 #[i64 (p : Int), u64 key] := by rw [← hwb]; exact (Blk.new w _ _).drew
  rw [hwb]
  clear hwb hp0 bH hH' hA' hc
  have s1 := S0.out.grew hK
  obtain ⟨g, c', hv, hg, f0, f1, _⟩ := s1.item he
  subst hv
  have hb := s1.box.cell 0
  simp at hb
  have hil := (List.getElem?_eq_some_iff.1 he).1
  have i0 : (0 : Int) ≤ (i : Int) := by omega
  have i1 : (i : Int) < (l.length : Int) := by omega
  have ib : ((i : Int) == -1) = false := by simp
  have hkd : decide (e.2 ≤ key) = true := decide_eq_true hk
  clear he
  go_wp2_with fail
  go_ret
  exact ⟨rfl, hK⟩
/-- It is there, with a greater key. -/
theorem put_less (w : World) (H A N : Nat) (v : Value) (l : List Itm) (a : List Int) (s : Heap w H A N v l a) (hR : Rng N l) (p i : Nat) (key : Int) (e : Itm) (hp : a[p]? = some (i : Int)) (he : l[i]? = some e) (hk : key < e.2) :
    Calls Try.prog 41 #[pt H, i64 (p : Int), u64 key] w fun r w' => r = .returned (.bool true) ∧ Heap w' H A N v (riseF l a i ((p : Int), key)).1 (riseF l a i ((p : Int), key)).2 ∧ Kept (HB H A v) w w' := by
  have hc : w.cell? ⟨H, 1, none⟩ = some (.slice (some ⟨A, 0, none⟩) N N) := s.box.cell 1
  have hs := s.small
  have hf := s.few
  have hlt := s.lt
  have hAw := s.arr.lt
  have hHw := s.box.lt
  have hl := (List.getElem?_eq_some_iff.1 hp).1
  rw [s.len] at hl
  have hp0 := (s.grew (Kept.refl (fun _ => False) _).drew).place hp
  have p0 : (0 : Int) ≤ (p : Int) := by omega
  have p1 : (p : Int) < (N : Int) := by omega
  have bH := (s.grew (Kept.refl (fun _ => False) _).drew).box
  have d0 : decide ((p : Int) < 0) = false := decide_eq_false (by omega)
  have d1 : decide (N ≤ p) = false := decide_eq_false (by omega)
  have hH' : ¬ w.heap.size ≤ H := by omega
  have hA' : ¬ w.heap.size ≤ A := by omega
  have S0 := Lib.hid s
  have HR := Lib.hid hR
  clear s hp hR
  go_enter Try.func41, Try.ntmps41
  go_wp2_with fail
  refine wp_region_grow [] (fun j => w.heap.size ≤ j) (by kernel_rfl) ?_
  simp only [List.size_toArray, List.length_cons, List.length_nil, Nat.reduceAdd]
  refine wpAnyG_pure 0 24 (v := ?_) rfl (by kernel_rfl) rfl (by rfl) (fun w' => ?_) ?_
  rotate_left
  · go_simp <;> with_reducible rfl
  simp only [List.setIfInBounds_toArray, List.set_cons_zero, List.set_cons_succ]
  refine wpAnyG_pure 1 25 (v := ?_) rfl (by kernel_rfl) rfl (by rfl) (fun w' => ?_) ?_
  rotate_left
  · go_simp <;> with_reducible rfl
  simp only [List.setIfInBounds_toArray, List.set_cons_zero, List.set_cons_succ]
  refine wpAnyG_pure 2 26 (v := ?_) rfl (by kernel_rfl) rfl (by rfl) (fun w' => ?_) ?_
  rotate_left
  · go_simp <;> with_reducible rfl
  simp only [List.setIfInBounds_toArray, List.set_cons_zero, List.set_cons_succ]
  refine wpAnyG_pure 3 27 (v := ?_) rfl (by kernel_rfl) rfl (by rfl) (fun w' => ?_) ?_
  rotate_left
  · go_simp <;> with_reducible rfl
  simp only [List.setIfInBounds_toArray, List.set_cons_zero, List.set_cons_succ]
  refine wpAnyG_pure 4 28 (v := ?_) rfl (by kernel_rfl) rfl (by rfl) (fun w' => ?_) ?_
  rotate_left
  · go_simp <;> with_reducible rfl
  simp only [List.setIfInBounds_toArray, List.set_cons_zero, List.set_cons_succ]
  refine wpAnyG_pure 5 29 (v := ?_) rfl (by kernel_rfl) rfl (by rfl) (fun w' => ?_) ?_
  rotate_left
  · go_simp <;> with_reducible rfl
  simp only [List.setIfInBounds_toArray, List.set_cons_zero, List.set_cons_succ]
  refine wpAnyG_take 6 30 (v := ?_) rfl (by kernel_rfl) rfl (by rfl) (fun w' hG' => ?_) ?_
  rotate_left
  · have hx0 := (bH.kept hG' hH').cell 1
    have hx1 := Kept.cell hG' hp0 hA'
    simp at hx0
    go_simp <;> with_reducible rfl
  simp only [List.setIfInBounds_toArray, List.set_cons_zero, List.set_cons_succ]
  refine wpAnyG_pure 7 31 (v := ?_) rfl (by kernel_rfl) rfl (by rfl) (fun w' => ?_) ?_
  rotate_left
  · go_simp <;> with_reducible rfl
  simp only [List.setIfInBounds_toArray, List.set_cons_zero, List.set_cons_succ]
  refine wpAnyG_pure 8 32 (v := ?_) rfl (by kernel_rfl) rfl (by rfl) (fun w' => ?_) ?_
  rotate_left
  · go_simp <;> with_reducible rfl
  simp only [List.setIfInBounds_toArray, List.set_cons_zero, List.set_cons_succ]
  refine wpAnyG_take 9 33 (v := ?_) rfl (by kernel_rfl) rfl (by rfl) (fun w' hG' => ?_) ?_
  rotate_left
  · have hx0 := (bH.kept hG' hH').cell 1
    have hx1 := Kept.cell hG' hp0 hA'
    simp at hx0
    go_simp <;> with_reducible rfl
  simp only [List.setIfInBounds_toArray, List.set_cons_zero, List.set_cons_succ]
  refine wpAnyG_step 10 7 rfl (by kernel_rfl) rfl (by rfl) (fun K hK' => ?_)
  go_simp
  refine hK' _ _ (fun _ => Kept.alloc_drew _ _) ?_
  clear hK'
  simp only [List.setIfInBounds_toArray, List.set_cons_zero, List.set_cons_succ]
  refine wpAnyG_store 11 rfl (by kernel_rfl) rfl (by rfl) (fun K hK' => ?_)
  go_simp
  refine hK' _ (fun _ => Kept.realloc_drew (Nat.le_refl _)) ?_
  clear hK'
  refine wpAnyG_pure 12 8 (v := ?_) rfl (by kernel_rfl) rfl (by rfl) (fun w' => ?_) ?_
  rotate_left
  · go_simp <;> with_reducible rfl
  simp only [List.setIfInBounds_toArray, List.set_cons_zero, List.set_cons_succ]
  refine wpAnyG_done (by kernel_rfl) ?_
  obtain ⟨wb, hwb⟩ : ∃ wb, (w.alloc (.cells #[i64 (p : Int), u64 key] 99)).drew = wb := ⟨_, rfl⟩
  have hK : Grew w wb := by rw [← hwb]; exact Grew.alloc_drew _ _
  have bX : Blk wb w.heap.size 99 #[i64 (p : Int), u64 key] := by rw [← hwb]; exact (Blk.new w _ _).drew
  rw [hwb]
  clear hwb hp0 bH hH' hA' hc
  have s1 := S0.out.grew hK
  have hil := (List.getElem?_eq_some_iff.1 he).1
  have hRise := Lib.hid (rise_any wb H A N v l a s1 i ((p : Int), key) hil ⟨p0, p1⟩ HR.out)
  obtain ⟨g, c', hv, hg, f0, f1, _⟩ := s1.item he
  subst hv
  have hb := s1.box.cell 0
  have x0 := bX.cell 0
  have x1 := bX.cell 1
  simp at hb x0 x1
  have i0 : (0 : Int) ≤ (i : Int) := by omega
  have i1 : (i : Int) < (l.length : Int) := by omega
  have ib : ((i : Int) == -1) = false := by simp
  have hkd : decide (e.2 ≤ key) = false := decide_eq_false (by omega)
  clear he
  go_wp2_with fail
  refine hRise.out.mono ?_
  rintro r w3 ⟨rfl, s3, k3⟩
  go_wp2_with fail
  go_ret
  exact ⟨rfl, s3, hK.kept.trans k3⟩
/-- It is not there. -/
theorem put_new (w : World) (H A N : Nat) (v : Value) (l : List Itm) (a : List Int) (s : Heap w H A N v l a) (hR : Rng N l) (p : Nat) (key : Int) (hp : a[p]? = some (-1)) (hll : l.length < 65536) :
    Calls Try.prog 41 #[pt H, i64 (p : Int), u64 key] w fun r w' => r = .returned (.bool true) ∧ ∃ v', Heap w' H A N v' (riseF (l ++ [((p : Int), key)]) a l.length ((p : Int), key)).1 (riseF (l ++ [((p : Int), key)]) a l.length ((p : Int), key)).2 ∧ Kept (HB H A v) w w' ∧ ∀ j, j < w.heap.size → v'.ownBlock = some j → v.ownBlock = some j := by
  obtain ⟨i0, hi, hz0, hz1, hz2⟩ := info_parts info_item
  have hc : w.cell? ⟨H, 1, none⟩ = some (.slice (some ⟨A, 0, none⟩) N N) := s.box.cell 1
  have hs := s.small
  have hf := s.few
  have hlt := s.lt
  have hAw := s.arr.lt
  have hHw := s.box.lt
  have hl := (List.getElem?_eq_some_iff.1 hp).1
  rw [s.len] at hl
  have hp0 := (s.grew (Kept.refl (fun _ => False) _).drew).place hp
  have p0 : (0 : Int) ≤ (p : Int) := by omega
  have p1 : (p : Int) < (N : Int) := by omega
  have bH := (s.grew (Kept.refl (fun _ => False) _).drew).box
  have d0 : decide ((p : Int) < 0) = false := decide_eq_false (by omega)
  have d1 : decide (N ≤ p) = false := decide_eq_false (by omega)
  have hH' : ¬ w.heap.size ≤ H := by omega
  have hA' : ¬ w.heap.size ≤ A := by omega
  have S0 := Lib.hid s
  have HR := Lib.hid hR
  obtain ⟨V, c, hv⟩ := s.slice
  obtain ⟨LL, hL⟩ : ∃ L, l.length = L := ⟨_, rfl⟩
  rw [hL] at hv hll hf ⊢
  subst hv
  have HLen := Lib.hid hL
  clear s hp hR hL
  go_enter Try.func41, Try.ntmps41
  go_wp2_with fail
  refine wp_region_grow [] (fun j => w.heap.size ≤ j) (by kernel_rfl) ?_
  simp only [List.size_toArray, List.length_cons, List.length_nil, Nat.reduceAdd]
  refine wpAnyG_pure 0 24 (v := ?_) rfl (by kernel_rfl) rfl (by rfl) (fun w' => ?_) ?_
  rotate_left
  · go_simp <;> with_reducible rfl
  simp only [List.setIfInBounds_toArray, List.set_cons_zero, List.set_cons_succ]
  refine wpAnyG_pure 1 25 (v := ?_) rfl (by kernel_rfl) rfl (by rfl) (fun w' => ?_) ?_
  rotate_left
  · go_simp <;> with_reducible rfl
  simp only [List.setIfInBounds_toArray, List.set_cons_zero, List.set_cons_succ]
  refine wpAnyG_pure 2 26 (v := ?_) rfl (by kernel_rfl) rfl (by rfl) (fun w' => ?_) ?_
  rotate_left
  · go_simp <;> with_reducible rfl
  simp only [List.setIfInBounds_toArray, List.set_cons_zero, List.set_cons_succ]
  refine wpAnyG_pure 3 27 (v := ?_) rfl (by kernel_rfl) rfl (by rfl) (fun w' => ?_) ?_
  rotate_left
  · go_simp <;> with_reducible rfl
  simp only [List.setIfInBounds_toArray, List.set_cons_zero, List.set_cons_succ]
  refine wpAnyG_pure 4 28 (v := ?_) rfl (by kernel_rfl) rfl (by rfl) (fun w' => ?_) ?_
  rotate_left
  · go_simp <;> with_reducible rfl
  simp only [List.setIfInBounds_toArray, List.set_cons_zero, List.set_cons_succ]
  refine wpAnyG_pure 5 29 (v := ?_) rfl (by kernel_rfl) rfl (by rfl) (fun w' => ?_) ?_
  rotate_left
  · go_simp <;> with_reducible rfl
  simp only [List.setIfInBounds_toArray, List.set_cons_zero, List.set_cons_succ]
  refine wpAnyG_take 6 30 (v := ?_) rfl (by kernel_rfl) rfl (by rfl) (fun w' hG' => ?_) ?_
  rotate_left
  · have hx0 := (bH.kept hG' hH').cell 1
    have hx1 := Kept.cell hG' hp0 hA'
    simp at hx0
    go_simp <;> with_reducible rfl
  simp only [List.setIfInBounds_toArray, List.set_cons_zero, List.set_cons_succ]
  refine wpAnyG_pure 7 31 (v := ?_) rfl (by kernel_rfl) rfl (by rfl) (fun w' => ?_) ?_
  rotate_left
  · go_simp <;> with_reducible rfl
  simp only [List.setIfInBounds_toArray, List.set_cons_zero, List.set_cons_succ]
  refine wpAnyG_pure 8 32 (v := ?_) rfl (by kernel_rfl) rfl (by rfl) (fun w' => ?_) ?_
  rotate_left
  · go_simp <;> with_reducible rfl
  simp only [List.setIfInBounds_toArray, List.set_cons_zero, List.set_cons_succ]
  refine wpAnyG_take 9 33 (v := ?_) rfl (by kernel_rfl) rfl (by rfl) (fun w' hG' => ?_) ?_
  rotate_left
  · have hx0 := (bH.kept hG' hH').cell 1
    have hx1 := Kept.cell hG' hp0 hA'
    simp at hx0
    go_simp <;> with_reducible rfl
  simp only [List.setIfInBounds_toArray, List.set_cons_zero, List.set_cons_succ]
  refine wpAnyG_step 10 7 rfl (by kernel_rfl) rfl (by rfl) (fun K hK' => ?_)
  go_simp
  refine hK' _ _ (fun _ => Kept.alloc_drew _ _) ?_
  clear hK'
  simp only [List.setIfInBounds_toArray, List.set_cons_zero, List.set_cons_succ]
  refine wpAnyG_store 11 rfl (by kernel_rfl) rfl (by rfl) (fun K hK' => ?_)
  go_simp
  refine hK' _ (fun _ => Kept.realloc_drew (Nat.le_refl _)) ?_
  clear hK'
  refine wpAnyG_pure 12 8 (v := ?_) rfl (by kernel_rfl) rfl (by rfl) (fun w' => ?_) ?_
  rotate_left
  · go_simp <;> with_reducible rfl
  simp only [List.setIfInBounds_toArray, List.set_cons_zero, List.set_cons_succ]
  refine wpAnyG_done (by kernel_rfl) ?_
  obtain ⟨wb, hwb⟩ : ∃ wb, (w.alloc (.cells #[i64 (p : Int), u64 key] 99)).drew = wb := ⟨_, rfl⟩
  have hK : Grew w wb := by rw [← hwb]; exact Grew.alloc_drew _ _
  have bX : Blk wb w.heap.size 99 #[i64 (p : Int), u64 key] := by rw [← hwb]; exact (Blk.new w _ _).drew
  rw [hwb]
  clear hwb hp0 bH hH' hA' hc
  have s1 := S0.out.grew hK
  have hrow := Lib.hid (show wb.ownsRow (H + 1) 99 2 (.slice V LL c) LL (cellsI l) from HLen.out ▸ s1.row)
  have hown2 := Lib.hid (show (wb.drew.alloc (.cells #[i64 (p : Int), u64 key] 99)).ownsRow (H + 1) 99 2 (.slice V LL c) LL (cellsI l) from Grew.own ((Kept.refl _ _).drew.alloc _) hrow.out)
  have hneH : ¬ (Value.slice V LL c).ownBlock = some H := fun h => by have := (hrow.out.lt H h).1; omega
  have hneX : ¬ (Value.slice V LL c).ownBlock = some w.heap.size := fun h => by have := (S0.out.row.lt w.heap.size h).2; omega
  have hneA : Hid (¬ (Value.slice V LL c).ownBlock = some A) := Lib.hid (fun h => by have := (hrow.out.lt A h).1; omega)
  have bH2 := s1.box.drew
  have bX2 := bX.drew
  have hwbs : H < wb.heap.size := s1.box.lt
  have S1 := Lib.hid s1
  have hb := s1.box.cell 0
  simp at hb
  clear s1
  go_wp2_with fail
  refine wp_region_grow [10] (fun j => (Value.slice V LL c).ownBlock = some j) (by kernel_rfl) ?_
  simp only [List.size_toArray, List.length_cons, List.length_nil, Nat.reduceAdd]
  refine wpAnyG_pure 0 37 (v := ?_) rfl (by kernel_rfl) rfl (by rfl) (fun w' => ?_) ?_
  rotate_left
  · go_simp <;> with_reducible rfl
  simp only [List.setIfInBounds_toArray, List.set_cons_zero, List.set_cons_succ]
  refine wpAnyG_pure 1 38 (v := ?_) rfl (by kernel_rfl) rfl (by rfl) (fun w' => ?_) ?_
  rotate_left
  · go_simp <;> with_reducible rfl
  simp only [List.setIfInBounds_toArray, List.set_cons_zero, List.set_cons_succ]
  refine wpAnyG_pure 2 39 (v := ?_) rfl (by kernel_rfl) rfl (by rfl) (fun w' => ?_) ?_
  rotate_left
  · go_simp <;> with_reducible rfl
  simp only [List.setIfInBounds_toArray, List.set_cons_zero, List.set_cons_succ]
  refine wpAnyG_pure 3 40 (v := ?_) rfl (by kernel_rfl) rfl (by rfl) (fun w' => ?_) ?_
  rotate_left
  · go_simp <;> with_reducible rfl
  simp only [List.setIfInBounds_toArray, List.set_cons_zero, List.set_cons_succ]
  refine wpAnyG_take 4 41 (v := ?_) rfl (by kernel_rfl) rfl (by rfl) (fun w' hG' => ?_) ?_
  rotate_left
  · have hx0 := (bH2.kept hG' hneH).cell 0
    have hx1 := (bX2.kept hG' hneX).cell 0
    have hx2 := (bX2.kept hG' hneX).cell 1
    simp at hx0 hx1 hx2
    go_simp <;> with_reducible rfl
  simp only [List.setIfInBounds_toArray, List.set_cons_zero, List.set_cons_succ]
  refine wpAnyG_take 5 42 (v := ?_) rfl (by kernel_rfl) rfl (by rfl) (fun w' hG' => ?_) ?_
  rotate_left
  · have hx0 := (bH2.kept hG' hneH).cell 0
    have hx1 := (bX2.kept hG' hneX).cell 0
    have hx2 := (bX2.kept hG' hneX).cell 1
    simp at hx0 hx1 hx2
    go_simp <;> with_reducible rfl
  simp only [List.setIfInBounds_toArray, List.set_cons_zero, List.set_cons_succ]
  refine wpAnyG_step 6 43 rfl (by kernel_rfl) rfl (by rfl) (fun K hK' => ?_)
  go_simp
  refine hK' _ _ (fun _ => (Kept.refl _ _).alloc _) ?_
  clear hK'
  simp only [List.setIfInBounds_toArray, List.set_cons_zero, List.set_cons_succ]
  refine wpAnyG_step 7 44 rfl (by kernel_rfl) rfl (by rfl) (fun K hK' => ?_)
  refine wp_append_lies _ (.tmp 41) (.tmp 43) 91 (by rfl) (H + 1) 99 i0 (.agg #[i64 0, u64 0]) 2 16 Try.underlying91 hi hz0 hz1 hz2 (by rfl) (by omega) (.slice V LL c) _ _ (by rfl) hown2.out ⟨wb.heap.size, 0, none⟩ 1 1 (itmCells ((p : Int), key)) (by rfl) (by rfl) (World.news_of_block (heap_alloc_new _ _)) ?_ (by omega) ?_ ?_ ?_ _ rfl ?_
  · intro u hu; simp [itmCells] at hu; rcases hu with rfl | rfl <;> rfl
  · unfold maxLen; omega
  · omega
  · have := bH2.lt; simp; omega
  intro g cap wa hown1 hgrow1 hat1 hlt1
  have bH3 := (bH2.alloc (.cells #[i64 (p : Int), u64 key] 99)).grown hgrow1 (fun h => hneH h.symm)
  have bX3 := (bX2.alloc (.cells #[i64 (p : Int), u64 key] 99)).grown hgrow1 (fun h => hneX h.symm)
  have hc1' := bH3.cell 0
  have hf1' := bH3.frozen 0
  simp at hc1'
  refine hK' _ _ (fun _ => (Kept.refl _ _).grown hgrow1 (fun k hk => .inl hk)) ?_
  clear hK'
  simp only [List.setIfInBounds_toArray, List.set_cons_zero, List.set_cons_succ]
  refine wpAnyG_pure 8 45 (v := ?_) rfl (by kernel_rfl) rfl (by rfl) (fun w' => ?_) ?_
  rotate_left
  · go_simp <;> with_reducible rfl
  simp only [List.setIfInBounds_toArray, List.set_cons_zero, List.set_cons_succ]
  refine wpAnyG_pure 9 46 (v := ?_) rfl (by kernel_rfl) rfl (by rfl) (fun w' => ?_) ?_
  rotate_left
  · go_simp <;> with_reducible rfl
  simp only [List.setIfInBounds_toArray, List.set_cons_zero, List.set_cons_succ]
  refine wpAnyG_store 10 rfl (by kernel_rfl) rfl (by rfl) (fun K hK' => ?_)
  go_simp
  refine hK' _ (fun h => absurd (by simp) h) ?_
  clear hK'
  refine wpAnyG_done (by kernel_rfl) ?_
  have bH4 := bH3.set 0 (.slice (some ⟨g, 0, none⟩) (LL + 1) cap)
  have hgX : ¬ w.heap.size = H := by omega
  have bX4 := bX3.far (p := ⟨H, 0, none⟩) hgX (.slice (some ⟨g, 0, none⟩) (LL + 1) cap)
  have hgA : ¬ A = H := by omega
  have bA4 := ((S1.out.arr.alloc (.cells #[i64 (p : Int), u64 key] 99)).drew.grown hgrow1 (fun h => hneA.out h.symm)).far (p := ⟨H, 0, none⟩) hgA (.slice (some ⟨g, 0, none⟩) (LL + 1) cap)
  have hgb : H + 1 ≤ g := (hown1.lt g rfl).1
  have hgH : ¬ g = H := by omega
  have hown4 := Kept.own ((Kept.refl (· = H) _).setCell (p := ⟨H, 0, none⟩) (.inl rfl) (.slice (some ⟨g, 0, none⟩) (LL + 1) cap)) hown1 (fun k hk h => hgH ((Option.some.inj (show some g = some k from hk)).trans h))
  have hKa : Kept (HB H A (.slice V LL c)) w (wa.setCell ⟨H, 0, none⟩ (.slice (some ⟨g, 0, none⟩) (LL + 1) cap)) := (((hK.kept (F := HB H A (.slice V LL c))).alloc _).drew.grown hgrow1 (fun k hk => .inl (.inr (.inr hk)))).setCell (p := ⟨H, 0, none⟩) (.inl (.inl rfl)) _
  have hcells : cellsI (l ++ [((p : Int), key)]) = cellsI l ++ itmCells ((p : Int), key) := by rw [cellsI_append]; rfl
  have hlen1 : (l ++ [((p : Int), key)]).length = LL + 1 := by rw [List.length_append, HLen.out]; rfl
  have s4 : Heap (wa.setCell ⟨H, 0, none⟩ (.slice (some ⟨g, 0, none⟩) (LL + 1) cap)) H A N (.slice (some ⟨g, 0, none⟩) (LL + 1) cap) (l ++ [((p : Int), key)]) a :=
    ⟨bH4, bA4, by rw [hlen1, hcells]; exact hown4, hlt, S1.out.len, by rw [hlen1]; omega, hs⟩
  have hfar : Hid (∀ j, j < w.heap.size → (Value.slice (some ⟨g, 0, none⟩) (LL + 1) cap).ownBlock = some j → (Value.slice V LL c).ownBlock = some j) := by
    intro j hj h
    obtain rfl : g = j := Option.some.inj (show some g = some j from h)
    rcases hat1 with h1 | h1
    · exact h1
    · have := hK.size
      simp only [World.size_drew, World.size_alloc] at h1
      omega
  have hRise := Lib.hid (rise_any _ H A N _ _ a s4 LL ((p : Int), key) (by omega) ⟨p0, p1⟩ (fun x hx => by
    rcases List.mem_append.1 hx with h | h
    · exact HR.out x h
    · obtain rfl := List.mem_singleton.1 h; exact ⟨p0, p1⟩))
  have S4 := Lib.hid s4
  obtain ⟨w4, hw4⟩ : ∃ w4, wa.setCell ⟨H, 0, none⟩ (.slice (some ⟨g, 0, none⟩) (LL + 1) cap) = w4 := ⟨_, rfl⟩
  rw [hw4] at bH4 bX4 bA4 hown4 hKa hRise s4
  rw [hw4]
  clear S4 hown2 hown1 hgrow1 hw4 hlen1 hcells hown4 bA4 bH3 bX3 hc1' hf1' S1 s4 hat1
  have hb0 := bH4.cell 0
  have x0 := bX4.cell 0
  have x1 := bX4.cell 1
  simp at hb0 x0 x1
  go_wp2_with fail
  refine hRise.out.mono ?_
  rintro r w3 ⟨rfl, s3, k3⟩
  go_wp2_with fail
  go_ret
  exact ⟨rfl, _, s3, hKa.then k3 (fun j hj h => by
    rcases h with h | h | h
    · exact .inl h
    · exact .inr (.inl h)
    · exact .inr (.inr (hfar.out j hj h))), hfar.out⟩
end Go.Proofs.Ythbcgdogmkgebaa.Hp
