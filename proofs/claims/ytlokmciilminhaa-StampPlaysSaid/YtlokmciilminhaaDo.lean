/- The places by the document: what Do answers. -/
import Derived.Test.YtlokmciilminhaaAgain
import Derived.Deep.AppendLies
namespace Go.Proofs.Ytlokmciilminhaa
open Go.RowKit

theorem own_form {w : World} {base n size : Nat} {e : TypeId} {v : Value} {xs : List Value} (h : w.ownsRow base e size v n xs) (hn : 0 < n) : ∃ g c, v = .slice (some ⟨g, 0, none⟩) n c := by
  rcases h.2 with ⟨_, h0⟩ | ⟨g, cap, _, hv, _⟩
  · omega
  · exact ⟨g, cap, hv⟩
theorem own_slice2 {w : World} {base n size : Nat} {e : TypeId} {v : Value} {xs : List Value} (h : w.ownsRow base e size v n xs) : ∃ A c, v = .slice A n c := by
  rcases h.2 with ⟨h, h0⟩ | ⟨g, cap, _, hv, _⟩
  · exact ⟨none, 0, by rw [h, h0]⟩
  · exact ⟨_, cap, hv⟩
def cellOne (o : Option Int) : List Value := [.bool o.isSome, u64 (o.getD 0)]
def cellsR (h : Have) : Nat → List Value
  | 0 => []
  | n + 1 => cellsR h n ++ cellOne (h n)
theorem cellsR_length (h : Have) : ∀ n, (cellsR h n).length = n * 2
  | 0 => rfl
  | n + 1 => by rw [cellsR, List.length_append, cellsR_length h n]; simp [cellOne]; omega
theorem cellsR_get (h : Have) : ∀ n i j, i < n → j < 2 → (cellsR h n)[i * 2 + j]? = (cellOne (h i))[j]?
  | n + 1, i, j, hi, hj => by
    rw [cellsR]
    rcases Nat.lt_or_ge i n with hl | hl
    · rw [List.getElem?_append_left (by rw [cellsR_length]; omega)]
      exact cellsR_get h n i j hl hj
    · obtain rfl : i = n := by omega
      rw [List.getElem?_append_right (by rw [cellsR_length]; omega), cellsR_length, Nat.add_sub_cancel_left]
theorem cellsR_upd (h : Have) (n i : Nat) (v : Int) (hi : i < n) : ((cellsR h n).set (i * 2) (.bool true)).set (i * 2 + 1) (u64 v) = cellsR (upd h i v) n := by
  apply List.ext_getElem?
  intro k
  have hd := Nat.div_add_mod k 2
  have hm := Nat.mod_lt k (show 0 < 2 by decide)
  rcases Nat.lt_or_ge (k / 2) n with hk | hk
  · have hr := cellsR_get (upd h i v) n (k / 2) (k % 2) hk hm
    have hl := cellsR_get h n (k / 2) (k % 2) hk hm
    rw [show k / 2 * 2 + k % 2 = k by omega] at hr hl
    rw [hr]
    by_cases hki : k / 2 = i
    · have e : upd h i v ((k / 2 : Nat) : Int) = some v := by simp [upd, hki]
      rw [e]
      rcases (show k % 2 = 0 ∨ k % 2 = 1 by omega) with g | g
      · rw [g, List.getElem?_set_ne (by omega), show k = i * 2 by omega, List.getElem?_set_self (by rw [cellsR_length]; omega)]; rfl
      · rw [g, show k = i * 2 + 1 by omega, List.getElem?_set_self (by simp [cellsR_length]; omega)]; rfl
    · have e : upd h i v ((k / 2 : Nat) : Int) = h ((k / 2 : Nat) : Int) := by unfold upd; rw [if_neg (by omega)]
      rw [e, ← hl, List.getElem?_set_ne (by omega), List.getElem?_set_ne (by omega)]
  · rw [List.getElem?_eq_none (by simp [cellsR_length]; omega), List.getElem?_eq_none (by rw [cellsR_length]; omega)]
theorem cellsR_none : ∀ n, cellsR (fun _ => none) n = (List.range (n * 2)).map fun k => if k % 2 = 0 then Value.bool false else u64 0
  | 0 => rfl
  | n + 1 => by
    rw [cellsR, cellsR_none n, show (n + 1) * 2 = n * 2 + 1 + 1 by omega, List.range_succ, List.range_succ]
    simp [cellOne]
theorem cellsR_one (h : Have) (n : Nat) : ∀ u ∈ cellsR h n, u.oneCell' = true := by
  induction n with
  | zero => simp [cellsR]
  | succ n ih =>
    intro u hu
    rw [cellsR, List.mem_append] at hu
    rcases hu with hu | hu
    · exact ih u hu
    · simp [cellOne] at hu
      rcases hu with rfl | rfl <;> rfl

/-- The document's row: v holds what is to be had at each of n places. -/
def RefR (w : World) (B : Nat) (v : Value) (n : Nat) (h : Have) : Prop := w.ownsRow B 51 2 v n (cellsR h n)
theorem RefR.form {w : World} {B n : Nat} {v : Value} {h : Have} (s : RefR w B v n h) : ∃ A c, v = .slice A n c := by
  rcases s.2 with ⟨h, h0⟩ | ⟨g, cap, _, hv, _⟩
  · exact ⟨none, 0, by rw [h, h0]⟩
  · exact ⟨_, cap, hv⟩
theorem RefR.at {w : World} {B n c i : Nat} {A : Option Addr} {h : Have} (s : RefR w B (.slice A n c) n h) (hi : i < n) :
    ∃ g, A = some ⟨g, 0, none⟩ ∧ B ≤ g ∧ g < w.heap.size ∧ w.cell? ⟨g, i * 2, none⟩ = some (.bool (h i).isSome) ∧ w.cell? ⟨g, i * 2 + 1, none⟩ = some (u64 ((h i).getD 0)) := by
  rcases s.2 with ⟨_, h0⟩ | ⟨g, cap, cur, hv, hb, hg, _⟩
  · omega
  · cases hv
    have hl := (Array.getElem?_eq_some_iff.1 hg).1
    refine ⟨g, rfl, hb, hl, ?_, ?_⟩
    · exact (World.ownsRow.cellAt s (i * 2 + 0) (by omega)).trans (cellsR_get h n i 0 hi (by omega))
    · exact (World.ownsRow.cellAt s (i * 2 + 1) (by omega)).trans (cellsR_get h n i 1 hi (by omega))
theorem RefR.grew {w w' : World} {B n : Nat} {v : Value} {h : Have} (s : RefR w B v n h) (k : Grew w w') : RefR w' B v n h := k.own s
theorem RefR.keptT {F : Nat → Prop} {w w' : World} {B n : Nat} {v : Value} {h : Have} (s : RefR w B v n h) (k : Kept F w w') (hf : ∀ k, v.ownBlock = some k → ¬ F k) : RefR w' B v n h := k.own s hf

theorem info_rcell : (Try.prog.info? 51).map (fun i => (i.zero, i.size, i.bytes)) = some (some (.agg #[.bool false, u64 0]), 2, 16) := by kernel_rfl

theorem made_row (n : Nat) (w : World) (B : Nat) (hB : B ≤ w.heap.size) (hn : n ≤ 65536) : RefR (w.alloc (.cells (madeCells #[.bool false, u64 0] (n * 2)) 51)) B (.slice (some ⟨w.heap.size, 0, none⟩) n n) n (fun _ => none) := by
  refine ⟨cellsR_length _ n, .inr ⟨w.heap.size, n, _, rfl, hB, heap_alloc_new w _, Nat.le_refl _, by unfold maxLen; omega, by rw [size_madeCells], ?_⟩⟩
  rw [cellsR_none]
  apply List.ext_getElem?
  intro k
  rcases Nat.lt_or_ge k (n * 2) with hk | hk
  · rw [List.getElem?_take_of_lt hk]
    rcases (show k % 2 = 0 ∨ k % 2 = 1 by omega) with g | g
    · simp [madeCells, Value.cells, hk, g]
    · simp [madeCells, Value.cells, hk, g]
  · rw [List.getElem?_eq_none (by simp; omega), List.getElem?_eq_none (by simp; omega)]

set_option maxHeartbeats 1000000 in
theorem do_forget (X : Value) (n : Nat) (i v : Int) (w : World) (A : Option Addr) (c : Nat) (hX : X = .slice A n c) (hn : n ≤ 65536) :
    Calls Try.prog 12 #[X, .agg #[i64 2, i64 i, u64 v]] w fun e w' => ∃ X', e = .returned (.tuple #[X', .bool false]) ∧ RefR w' w.heap.size X' n (fun _ => none) ∧ Grew w w' := by
  subst hX
  obtain ⟨i0, hi, hz0, hz1, hz2⟩ := info_parts info_rcell
  have hmk := fun W => run_make (P := Try.prog) W 34 51 i0 _ Try.underlying34 hi hz0 .i64 .i64 (n : Int) (n : Int) (by omega) (Int.le_refl _) (by rw [hz2]; omega) (by omega)
  simp only [Int.toNat_natCast, hz1] at hmk
  go_enter Try.func12, Try.ntmps12
  go_wp2
  go_ret2
  have hm := made_row n (w.alloc (.cells #[i64 2, i64 i, u64 v] 29)) w.heap.size (by simp) hn
  rw [World.size_alloc] at hm
  exact ⟨_, rfl, hm, ((Kept.refl _ _).alloc _).alloc _⟩


set_option maxHeartbeats 1000000 in
set_option maxRecDepth 100000 in
theorem do_same_neg (n : Nat) (k i v : Int) (h : Have) (w : World) (B : Nat) (A : Option Addr) (c : Nat) (s : RefR w B (.slice A n c) n h) (hn : n ≤ 65536) (hk : ¬ k = 2) (hi : i < 0) :
    Calls Try.prog 12 #[.slice A n c, .agg #[i64 k, i64 i, u64 v]] w fun e w' => e = .returned (.tuple #[.slice A n c, .bool false]) ∧ Grew w w' := by
  have bA := Blk.new w 29 #[i64 k, i64 i, u64 v]
  have hK : Grew w (w.alloc (.cells #[i64 k, i64 i, u64 v] 29)) := (Kept.refl _ _).alloc _
  have g1 : decide (i < 0) = true := decide_eq_true hi
  have g2 : (k == 2) = false := by simpa using hk
  have c0 := bA.cell 0
  simp at c0
  go_enter Try.func12, Try.ntmps12
  go_wp2_with fail
  refine wp_region_grow [] (fun _ => False) (by kernel_rfl) ?_
  simp only [List.size_toArray, List.length_cons, List.length_nil, Nat.reduceAdd]
  refine wpAnyG_pure 0 13 (v := ?_) rfl (by kernel_rfl) rfl (by rfl) (fun w' => ?_) ?_
  rotate_left
  · go_simp <;> with_reducible rfl
  simp only [List.setIfInBounds_toArray, List.set_cons_zero, List.set_cons_succ]
  refine wpAnyG_take 1 14 (v := ?_) rfl (by kernel_rfl) rfl (by rfl) (fun w' hG' => ?_) ?_
  rotate_left
  · have hx0 := (bA.drew.grew hG').cell 0
    have hx1 := (bA.drew.grew hG').cell 1
    have hx2 := (bA.drew.grew hG').cell 2
    simp at hx0 hx1 hx2
    go_simp <;> with_reducible rfl
  simp only [List.setIfInBounds_toArray, List.set_cons_zero, List.set_cons_succ]
  refine wpAnyG_pure 2 15 (v := ?_) rfl (by kernel_rfl) rfl (by rfl) (fun w' => ?_) ?_
  rotate_left
  · go_simp <;> with_reducible rfl
  simp only [List.setIfInBounds_toArray, List.set_cons_zero, List.set_cons_succ]
  refine wpAnyG_pure 3 16 (v := ?_) rfl (by kernel_rfl) rfl (by rfl) (fun w' => ?_) ?_
  rotate_left
  · go_simp <;> with_reducible rfl
  simp only [List.setIfInBounds_toArray, List.set_cons_zero, List.set_cons_succ]
  refine wpAnyG_pass 4 17 rfl (by kernel_rfl) rfl (by rfl) ?_
  simp only [List.setIfInBounds_toArray, List.set_cons_zero, List.set_cons_succ]
  refine wpAnyG_pass 5 18 rfl (by kernel_rfl) rfl (by rfl) ?_
  simp only [List.setIfInBounds_toArray, List.set_cons_zero, List.set_cons_succ]
  refine wpAnyG_pass 6 19 rfl (by kernel_rfl) rfl (by rfl) ?_
  simp only [List.setIfInBounds_toArray, List.set_cons_zero, List.set_cons_succ]
  refine wpAnyG_pass 7 20 rfl (by kernel_rfl) rfl (by rfl) ?_
  simp only [List.setIfInBounds_toArray, List.set_cons_zero, List.set_cons_succ]
  refine wpAnyG_pass 8 21 rfl (by kernel_rfl) rfl (by rfl) ?_
  simp only [List.setIfInBounds_toArray, List.set_cons_zero, List.set_cons_succ]
  refine wpAnyG_pure 9 22 (v := ?_) rfl (by kernel_rfl) rfl (by rfl) (fun w' => ?_) ?_
  rotate_left
  · go_simp <;> with_reducible rfl
  simp only [List.setIfInBounds_toArray, List.set_cons_zero, List.set_cons_succ]
  refine wpAnyG_pure 10 23 (v := ?_) rfl (by kernel_rfl) rfl (by rfl) (fun w' => ?_) ?_
  rotate_left
  · go_simp <;> with_reducible rfl
  simp only [List.setIfInBounds_toArray, List.set_cons_zero, List.set_cons_succ]
  refine wpAnyG_pass 11 24 rfl (by kernel_rfl) rfl (by rfl) ?_
  simp only [List.setIfInBounds_toArray, List.set_cons_zero, List.set_cons_succ]
  refine wpAnyG_pass 12 25 rfl (by kernel_rfl) rfl (by rfl) ?_
  simp only [List.setIfInBounds_toArray, List.set_cons_zero, List.set_cons_succ]
  refine wpAnyG_pass 13 26 rfl (by kernel_rfl) rfl (by rfl) ?_
  simp only [List.setIfInBounds_toArray, List.set_cons_zero, List.set_cons_succ]
  refine wpAnyG_pass 14 27 rfl (by kernel_rfl) rfl (by rfl) ?_
  simp only [List.setIfInBounds_toArray, List.set_cons_zero, List.set_cons_succ]
  refine wpAnyG_pass 15 28 rfl (by kernel_rfl) rfl (by rfl) ?_
  simp only [List.setIfInBounds_toArray, List.set_cons_zero, List.set_cons_succ]
  refine wpAnyG_pass 16 29 rfl (by kernel_rfl) rfl (by rfl) ?_
  simp only [List.setIfInBounds_toArray, List.set_cons_zero, List.set_cons_succ]
  refine wpAnyG_pass 17 30 rfl (by kernel_rfl) rfl (by rfl) ?_
  simp only [List.setIfInBounds_toArray, List.set_cons_zero, List.set_cons_succ]
  refine wpAnyG_pass 18 31 rfl (by kernel_rfl) rfl (by rfl) ?_
  simp only [List.setIfInBounds_toArray, List.set_cons_zero, List.set_cons_succ]
  refine wpAnyG_pass 19 32 rfl (by kernel_rfl) rfl (by rfl) ?_
  simp only [List.setIfInBounds_toArray, List.set_cons_zero, List.set_cons_succ]
  refine wpAnyG_pass 20 33 rfl (by kernel_rfl) rfl (by rfl) ?_
  simp only [List.setIfInBounds_toArray, List.set_cons_zero, List.set_cons_succ]
  refine wpAnyG_pass 21 34 rfl (by kernel_rfl) rfl (by rfl) ?_
  simp only [List.setIfInBounds_toArray, List.set_cons_zero, List.set_cons_succ]
  refine wpAnyG_pass 22 35 rfl (by kernel_rfl) rfl (by rfl) ?_
  simp only [List.setIfInBounds_toArray, List.set_cons_zero, List.set_cons_succ]
  refine wpAnyG_pass 23 36 rfl (by kernel_rfl) rfl (by rfl) ?_
  simp only [List.setIfInBounds_toArray, List.set_cons_zero, List.set_cons_succ]
  refine wpAnyG_pass 24 37 rfl (by kernel_rfl) rfl (by rfl) ?_
  simp only [List.setIfInBounds_toArray, List.set_cons_zero, List.set_cons_succ]
  refine wpAnyG_pass 25 38 rfl (by kernel_rfl) rfl (by rfl) ?_
  simp only [List.setIfInBounds_toArray, List.set_cons_zero, List.set_cons_succ]
  refine wpAnyG_pass 26 39 rfl (by kernel_rfl) rfl (by rfl) ?_
  simp only [List.setIfInBounds_toArray, List.set_cons_zero, List.set_cons_succ]
  refine wpAnyG_pass 27 40 rfl (by kernel_rfl) rfl (by rfl) ?_
  simp only [List.setIfInBounds_toArray, List.set_cons_zero, List.set_cons_succ]
  refine wpAnyG_pass 28 41 rfl (by kernel_rfl) rfl (by rfl) ?_
  simp only [List.setIfInBounds_toArray, List.set_cons_zero, List.set_cons_succ]
  refine wpAnyG_pass 29 42 rfl (by kernel_rfl) rfl (by rfl) ?_
  simp only [List.setIfInBounds_toArray, List.set_cons_zero, List.set_cons_succ]
  refine wpAnyG_pass 30 43 rfl (by kernel_rfl) rfl (by rfl) ?_
  simp only [List.setIfInBounds_toArray, List.set_cons_zero, List.set_cons_succ]
  refine wpAnyG_pass 31 44 rfl (by kernel_rfl) rfl (by rfl) ?_
  simp only [List.setIfInBounds_toArray, List.set_cons_zero, List.set_cons_succ]
  refine wpAnyG_pass 32 45 rfl (by kernel_rfl) rfl (by rfl) ?_
  simp only [List.setIfInBounds_toArray, List.set_cons_zero, List.set_cons_succ]
  refine wpAnyG_pure 33 46 (v := ?_) rfl (by kernel_rfl) rfl (by rfl) (fun w' => ?_) ?_
  rotate_left
  · go_simp <;> with_reducible rfl
  simp only [List.setIfInBounds_toArray, List.set_cons_zero, List.set_cons_succ]
  refine wpAnyG_done (by kernel_rfl) ?_
  go_wp2_with fail
  go_ret2
  exact ⟨rfl, hK.drew⟩


set_option maxHeartbeats 1000000 in
set_option maxRecDepth 100000 in
theorem do_same_big (n : Nat) (k i v : Int) (h : Have) (w : World) (B : Nat) (A : Option Addr) (c : Nat) (s : RefR w B (.slice A n c) n h) (hn : n ≤ 65536) (hk : ¬ k = 2) (hi : 0 ≤ i) (hi2 : n ≤ i) :
    Calls Try.prog 12 #[.slice A n c, .agg #[i64 k, i64 i, u64 v]] w fun e w' => e = .returned (.tuple #[.slice A n c, .bool false]) ∧ Grew w w' := by
  have bA := Blk.new w 29 #[i64 k, i64 i, u64 v]
  have hK : Grew w (w.alloc (.cells #[i64 k, i64 i, u64 v] 29)) := (Kept.refl _ _).alloc _
  have g1 : decide (i < 0) = false := decide_eq_false (by omega)
  have g2 : (k == 2) = false := by simpa using hk
  have g3 : decide ((n : Int) ≤ i) = true := decide_eq_true hi2
  have c0 := bA.cell 0
  simp at c0
  go_enter Try.func12, Try.ntmps12
  go_wp2_with fail
  refine wp_region_grow [] (fun _ => False) (by kernel_rfl) ?_
  simp only [List.size_toArray, List.length_cons, List.length_nil, Nat.reduceAdd]
  refine wpAnyG_pure 0 13 (v := ?_) rfl (by kernel_rfl) rfl (by rfl) (fun w' => ?_) ?_
  rotate_left
  · go_simp <;> with_reducible rfl
  simp only [List.setIfInBounds_toArray, List.set_cons_zero, List.set_cons_succ]
  refine wpAnyG_take 1 14 (v := ?_) rfl (by kernel_rfl) rfl (by rfl) (fun w' hG' => ?_) ?_
  rotate_left
  · have hx0 := (bA.drew.grew hG').cell 0
    have hx1 := (bA.drew.grew hG').cell 1
    have hx2 := (bA.drew.grew hG').cell 2
    simp at hx0 hx1 hx2
    go_simp <;> with_reducible rfl
  simp only [List.setIfInBounds_toArray, List.set_cons_zero, List.set_cons_succ]
  refine wpAnyG_pure 2 15 (v := ?_) rfl (by kernel_rfl) rfl (by rfl) (fun w' => ?_) ?_
  rotate_left
  · go_simp <;> with_reducible rfl
  simp only [List.setIfInBounds_toArray, List.set_cons_zero, List.set_cons_succ]
  refine wpAnyG_pure 3 16 (v := ?_) rfl (by kernel_rfl) rfl (by rfl) (fun w' => ?_) ?_
  rotate_left
  · go_simp <;> with_reducible rfl
  simp only [List.setIfInBounds_toArray, List.set_cons_zero, List.set_cons_succ]
  refine wpAnyG_pure 4 17 (v := ?_) rfl (by kernel_rfl) rfl (by rfl) (fun w' => ?_) ?_
  rotate_left
  · go_simp <;> with_reducible rfl
  simp only [List.setIfInBounds_toArray, List.set_cons_zero, List.set_cons_succ]
  refine wpAnyG_take 5 18 (v := ?_) rfl (by kernel_rfl) rfl (by rfl) (fun w' hG' => ?_) ?_
  rotate_left
  · have hx0 := (bA.drew.grew hG').cell 0
    have hx1 := (bA.drew.grew hG').cell 1
    have hx2 := (bA.drew.grew hG').cell 2
    simp at hx0 hx1 hx2
    go_simp <;> with_reducible rfl
  simp only [List.setIfInBounds_toArray, List.set_cons_zero, List.set_cons_succ]
  refine wpAnyG_pure 6 19 (v := ?_) rfl (by kernel_rfl) rfl (by rfl) (fun w' => ?_) ?_
  rotate_left
  · go_simp <;> with_reducible rfl
  simp only [List.setIfInBounds_toArray, List.set_cons_zero, List.set_cons_succ]
  refine wpAnyG_pure 7 20 (v := ?_) rfl (by kernel_rfl) rfl (by rfl) (fun w' => ?_) ?_
  rotate_left
  · go_simp <;> with_reducible rfl
  simp only [List.setIfInBounds_toArray, List.set_cons_zero, List.set_cons_succ]
  refine wpAnyG_pure 8 21 (v := ?_) rfl (by kernel_rfl) rfl (by rfl) (fun w' => ?_) ?_
  rotate_left
  · go_simp <;> with_reducible rfl
  simp only [List.setIfInBounds_toArray, List.set_cons_zero, List.set_cons_succ]
  refine wpAnyG_pure 9 22 (v := ?_) rfl (by kernel_rfl) rfl (by rfl) (fun w' => ?_) ?_
  rotate_left
  · go_simp <;> with_reducible rfl
  simp only [List.setIfInBounds_toArray, List.set_cons_zero, List.set_cons_succ]
  refine wpAnyG_pure 10 23 (v := ?_) rfl (by kernel_rfl) rfl (by rfl) (fun w' => ?_) ?_
  rotate_left
  · go_simp <;> with_reducible rfl
  simp only [List.setIfInBounds_toArray, List.set_cons_zero, List.set_cons_succ]
  refine wpAnyG_pass 11 24 rfl (by kernel_rfl) rfl (by rfl) ?_
  simp only [List.setIfInBounds_toArray, List.set_cons_zero, List.set_cons_succ]
  refine wpAnyG_pass 12 25 rfl (by kernel_rfl) rfl (by rfl) ?_
  simp only [List.setIfInBounds_toArray, List.set_cons_zero, List.set_cons_succ]
  refine wpAnyG_pass 13 26 rfl (by kernel_rfl) rfl (by rfl) ?_
  simp only [List.setIfInBounds_toArray, List.set_cons_zero, List.set_cons_succ]
  refine wpAnyG_pass 14 27 rfl (by kernel_rfl) rfl (by rfl) ?_
  simp only [List.setIfInBounds_toArray, List.set_cons_zero, List.set_cons_succ]
  refine wpAnyG_pass 15 28 rfl (by kernel_rfl) rfl (by rfl) ?_
  simp only [List.setIfInBounds_toArray, List.set_cons_zero, List.set_cons_succ]
  refine wpAnyG_pass 16 29 rfl (by kernel_rfl) rfl (by rfl) ?_
  simp only [List.setIfInBounds_toArray, List.set_cons_zero, List.set_cons_succ]
  refine wpAnyG_pass 17 30 rfl (by kernel_rfl) rfl (by rfl) ?_
  simp only [List.setIfInBounds_toArray, List.set_cons_zero, List.set_cons_succ]
  refine wpAnyG_pass 18 31 rfl (by kernel_rfl) rfl (by rfl) ?_
  simp only [List.setIfInBounds_toArray, List.set_cons_zero, List.set_cons_succ]
  refine wpAnyG_pass 19 32 rfl (by kernel_rfl) rfl (by rfl) ?_
  simp only [List.setIfInBounds_toArray, List.set_cons_zero, List.set_cons_succ]
  refine wpAnyG_pass 20 33 rfl (by kernel_rfl) rfl (by rfl) ?_
  simp only [List.setIfInBounds_toArray, List.set_cons_zero, List.set_cons_succ]
  refine wpAnyG_pass 21 34 rfl (by kernel_rfl) rfl (by rfl) ?_
  simp only [List.setIfInBounds_toArray, List.set_cons_zero, List.set_cons_succ]
  refine wpAnyG_pass 22 35 rfl (by kernel_rfl) rfl (by rfl) ?_
  simp only [List.setIfInBounds_toArray, List.set_cons_zero, List.set_cons_succ]
  refine wpAnyG_pass 23 36 rfl (by kernel_rfl) rfl (by rfl) ?_
  simp only [List.setIfInBounds_toArray, List.set_cons_zero, List.set_cons_succ]
  refine wpAnyG_pass 24 37 rfl (by kernel_rfl) rfl (by rfl) ?_
  simp only [List.setIfInBounds_toArray, List.set_cons_zero, List.set_cons_succ]
  refine wpAnyG_pass 25 38 rfl (by kernel_rfl) rfl (by rfl) ?_
  simp only [List.setIfInBounds_toArray, List.set_cons_zero, List.set_cons_succ]
  refine wpAnyG_pass 26 39 rfl (by kernel_rfl) rfl (by rfl) ?_
  simp only [List.setIfInBounds_toArray, List.set_cons_zero, List.set_cons_succ]
  refine wpAnyG_pass 27 40 rfl (by kernel_rfl) rfl (by rfl) ?_
  simp only [List.setIfInBounds_toArray, List.set_cons_zero, List.set_cons_succ]
  refine wpAnyG_pass 28 41 rfl (by kernel_rfl) rfl (by rfl) ?_
  simp only [List.setIfInBounds_toArray, List.set_cons_zero, List.set_cons_succ]
  refine wpAnyG_pass 29 42 rfl (by kernel_rfl) rfl (by rfl) ?_
  simp only [List.setIfInBounds_toArray, List.set_cons_zero, List.set_cons_succ]
  refine wpAnyG_pass 30 43 rfl (by kernel_rfl) rfl (by rfl) ?_
  simp only [List.setIfInBounds_toArray, List.set_cons_zero, List.set_cons_succ]
  refine wpAnyG_pass 31 44 rfl (by kernel_rfl) rfl (by rfl) ?_
  simp only [List.setIfInBounds_toArray, List.set_cons_zero, List.set_cons_succ]
  refine wpAnyG_pass 32 45 rfl (by kernel_rfl) rfl (by rfl) ?_
  simp only [List.setIfInBounds_toArray, List.set_cons_zero, List.set_cons_succ]
  refine wpAnyG_pure 33 46 (v := ?_) rfl (by kernel_rfl) rfl (by rfl) (fun w' => ?_) ?_
  rotate_left
  · go_simp <;> with_reducible rfl
  simp only [List.setIfInBounds_toArray, List.set_cons_zero, List.set_cons_succ]
  refine wpAnyG_done (by kernel_rfl) ?_
  go_wp2_with fail
  go_ret2
  exact ⟨rfl, hK.drew⟩


set_option maxHeartbeats 1000000 in
set_option maxRecDepth 100000 in
theorem do_same_least (n : Nat) (i : Nat) (x v : Int) (h : Have) (w : World) (B : Nat) (A : Option Addr) (c : Nat) (s : RefR w B (.slice A n c) n h) (hn : n ≤ 65536) (hi : i < n) (hh : h i = some x) (hx : x ≤ v) :
    Calls Try.prog 12 #[.slice A n c, .agg #[i64 1, i64 i, u64 v]] w fun e w' => e = .returned (.tuple #[.slice A n c, .bool false]) ∧ Grew w w' := by
  have bA := Blk.new w 29 #[i64 1, i64 i, u64 v]
  have hK : Grew w (w.alloc (.cells #[i64 1, i64 i, u64 v] 29)) := (Kept.refl _ _).alloc _
  obtain ⟨g, rfl, hBg, hg, r0, r1⟩ := s.at hi
  rw [hh] at r0 r1
  simp at r0 r1
  replace r0 := Grew.cell hK.drew r0
  replace r1 := Grew.cell hK.drew r1
  have g3 : decide (x ≤ v) = true := decide_eq_true hx
  have g1 : decide ((i : Int) < 0) = false := decide_eq_false (by omega)
  have g2 : decide (n ≤ i) = false := decide_eq_false (by omega)
  have g4 : (i : Int) < (n : Int) := by omega
  have g5 : 0 ≤ (i : Int) := by omega
  clear s hh
  have c0 := bA.cell 0
  simp at c0
  go_enter Try.func12, Try.ntmps12
  go_wp2_with fail
  refine wp_region_grow [] (fun _ => False) (by kernel_rfl) ?_
  simp only [List.size_toArray, List.length_cons, List.length_nil, Nat.reduceAdd]
  refine wpAnyG_pure 0 13 (v := ?_) rfl (by kernel_rfl) rfl (by rfl) (fun w' => ?_) ?_
  rotate_left
  · go_simp <;> with_reducible rfl
  simp only [List.setIfInBounds_toArray, List.set_cons_zero, List.set_cons_succ]
  refine wpAnyG_take 1 14 (v := ?_) rfl (by kernel_rfl) rfl (by rfl) (fun w' hG' => ?_) ?_
  rotate_left
  · have hx0 := (bA.drew.grew hG').cell 0
    have hx1 := (bA.drew.grew hG').cell 1
    have hx2 := (bA.drew.grew hG').cell 2
    simp at hx0 hx1 hx2
    have hx3 := Grew.cell hG' r0
    have hx4 := Grew.cell hG' r1
    go_simp <;> with_reducible rfl
  simp only [List.setIfInBounds_toArray, List.set_cons_zero, List.set_cons_succ]
  refine wpAnyG_pure 2 15 (v := ?_) rfl (by kernel_rfl) rfl (by rfl) (fun w' => ?_) ?_
  rotate_left
  · go_simp <;> with_reducible rfl
  simp only [List.setIfInBounds_toArray, List.set_cons_zero, List.set_cons_succ]
  refine wpAnyG_pure 3 16 (v := ?_) rfl (by kernel_rfl) rfl (by rfl) (fun w' => ?_) ?_
  rotate_left
  · go_simp <;> with_reducible rfl
  simp only [List.setIfInBounds_toArray, List.set_cons_zero, List.set_cons_succ]
  refine wpAnyG_pure 4 17 (v := ?_) rfl (by kernel_rfl) rfl (by rfl) (fun w' => ?_) ?_
  rotate_left
  · go_simp <;> with_reducible rfl
  simp only [List.setIfInBounds_toArray, List.set_cons_zero, List.set_cons_succ]
  refine wpAnyG_take 5 18 (v := ?_) rfl (by kernel_rfl) rfl (by rfl) (fun w' hG' => ?_) ?_
  rotate_left
  · have hx0 := (bA.drew.grew hG').cell 0
    have hx1 := (bA.drew.grew hG').cell 1
    have hx2 := (bA.drew.grew hG').cell 2
    simp at hx0 hx1 hx2
    have hx3 := Grew.cell hG' r0
    have hx4 := Grew.cell hG' r1
    go_simp <;> with_reducible rfl
  simp only [List.setIfInBounds_toArray, List.set_cons_zero, List.set_cons_succ]
  refine wpAnyG_pure 6 19 (v := ?_) rfl (by kernel_rfl) rfl (by rfl) (fun w' => ?_) ?_
  rotate_left
  · go_simp <;> with_reducible rfl
  simp only [List.setIfInBounds_toArray, List.set_cons_zero, List.set_cons_succ]
  refine wpAnyG_pure 7 20 (v := ?_) rfl (by kernel_rfl) rfl (by rfl) (fun w' => ?_) ?_
  rotate_left
  · go_simp <;> with_reducible rfl
  simp only [List.setIfInBounds_toArray, List.set_cons_zero, List.set_cons_succ]
  refine wpAnyG_pure 8 21 (v := ?_) rfl (by kernel_rfl) rfl (by rfl) (fun w' => ?_) ?_
  rotate_left
  · go_simp <;> with_reducible rfl
  simp only [List.setIfInBounds_toArray, List.set_cons_zero, List.set_cons_succ]
  refine wpAnyG_pure 9 22 (v := ?_) rfl (by kernel_rfl) rfl (by rfl) (fun w' => ?_) ?_
  rotate_left
  · go_simp <;> with_reducible rfl
  simp only [List.setIfInBounds_toArray, List.set_cons_zero, List.set_cons_succ]
  refine wpAnyG_pure 10 23 (v := ?_) rfl (by kernel_rfl) rfl (by rfl) (fun w' => ?_) ?_
  rotate_left
  · go_simp <;> with_reducible rfl
  simp only [List.setIfInBounds_toArray, List.set_cons_zero, List.set_cons_succ]
  refine wpAnyG_pure 11 24 (v := ?_) rfl (by kernel_rfl) rfl (by rfl) (fun w' => ?_) ?_
  rotate_left
  · go_simp <;> with_reducible rfl
  simp only [List.setIfInBounds_toArray, List.set_cons_zero, List.set_cons_succ]
  refine wpAnyG_take 12 25 (v := ?_) rfl (by kernel_rfl) rfl (by rfl) (fun w' hG' => ?_) ?_
  rotate_left
  · have hx0 := (bA.drew.grew hG').cell 0
    have hx1 := (bA.drew.grew hG').cell 1
    have hx2 := (bA.drew.grew hG').cell 2
    simp at hx0 hx1 hx2
    have hx3 := Grew.cell hG' r0
    have hx4 := Grew.cell hG' r1
    go_simp <;> with_reducible rfl
  simp only [List.setIfInBounds_toArray, List.set_cons_zero, List.set_cons_succ]
  refine wpAnyG_pure 13 26 (v := ?_) rfl (by kernel_rfl) rfl (by rfl) (fun w' => ?_) ?_
  rotate_left
  · go_simp <;> with_reducible rfl
  simp only [List.setIfInBounds_toArray, List.set_cons_zero, List.set_cons_succ]
  refine wpAnyG_pure 14 27 (v := ?_) rfl (by kernel_rfl) rfl (by rfl) (fun w' => ?_) ?_
  rotate_left
  · go_simp <;> with_reducible rfl
  simp only [List.setIfInBounds_toArray, List.set_cons_zero, List.set_cons_succ]
  refine wpAnyG_pure 15 28 (v := ?_) rfl (by kernel_rfl) rfl (by rfl) (fun w' => ?_) ?_
  rotate_left
  · go_simp <;> with_reducible rfl
  simp only [List.setIfInBounds_toArray, List.set_cons_zero, List.set_cons_succ]
  refine wpAnyG_pure 16 29 (v := ?_) rfl (by kernel_rfl) rfl (by rfl) (fun w' => ?_) ?_
  rotate_left
  · go_simp <;> with_reducible rfl
  simp only [List.setIfInBounds_toArray, List.set_cons_zero, List.set_cons_succ]
  refine wpAnyG_take 17 30 (v := ?_) rfl (by kernel_rfl) rfl (by rfl) (fun w' hG' => ?_) ?_
  rotate_left
  · have hx0 := (bA.drew.grew hG').cell 0
    have hx1 := (bA.drew.grew hG').cell 1
    have hx2 := (bA.drew.grew hG').cell 2
    simp at hx0 hx1 hx2
    have hx3 := Grew.cell hG' r0
    have hx4 := Grew.cell hG' r1
    go_simp <;> with_reducible rfl
  simp only [List.setIfInBounds_toArray, List.set_cons_zero, List.set_cons_succ]
  refine wpAnyG_pure 18 31 (v := ?_) rfl (by kernel_rfl) rfl (by rfl) (fun w' => ?_) ?_
  rotate_left
  · go_simp <;> with_reducible rfl
  simp only [List.setIfInBounds_toArray, List.set_cons_zero, List.set_cons_succ]
  refine wpAnyG_pure 19 32 (v := ?_) rfl (by kernel_rfl) rfl (by rfl) (fun w' => ?_) ?_
  rotate_left
  · go_simp <;> with_reducible rfl
  simp only [List.setIfInBounds_toArray, List.set_cons_zero, List.set_cons_succ]
  refine wpAnyG_take 20 33 (v := ?_) rfl (by kernel_rfl) rfl (by rfl) (fun w' hG' => ?_) ?_
  rotate_left
  · have hx0 := (bA.drew.grew hG').cell 0
    have hx1 := (bA.drew.grew hG').cell 1
    have hx2 := (bA.drew.grew hG').cell 2
    simp at hx0 hx1 hx2
    have hx3 := Grew.cell hG' r0
    have hx4 := Grew.cell hG' r1
    go_simp <;> with_reducible rfl
  simp only [List.setIfInBounds_toArray, List.set_cons_zero, List.set_cons_succ]
  refine wpAnyG_pure 21 34 (v := ?_) rfl (by kernel_rfl) rfl (by rfl) (fun w' => ?_) ?_
  rotate_left
  · go_simp <;> with_reducible rfl
  simp only [List.setIfInBounds_toArray, List.set_cons_zero, List.set_cons_succ]
  refine wpAnyG_pure 22 35 (v := ?_) rfl (by kernel_rfl) rfl (by rfl) (fun w' => ?_) ?_
  rotate_left
  · go_simp <;> with_reducible rfl
  simp only [List.setIfInBounds_toArray, List.set_cons_zero, List.set_cons_succ]
  refine wpAnyG_pure 23 36 (v := ?_) rfl (by kernel_rfl) rfl (by rfl) (fun w' => ?_) ?_
  rotate_left
  · go_simp <;> with_reducible rfl
  simp only [List.setIfInBounds_toArray, List.set_cons_zero, List.set_cons_succ]
  refine wpAnyG_pure 24 37 (v := ?_) rfl (by kernel_rfl) rfl (by rfl) (fun w' => ?_) ?_
  rotate_left
  · go_simp <;> with_reducible rfl
  simp only [List.setIfInBounds_toArray, List.set_cons_zero, List.set_cons_succ]
  refine wpAnyG_take 25 38 (v := ?_) rfl (by kernel_rfl) rfl (by rfl) (fun w' hG' => ?_) ?_
  rotate_left
  · have hx0 := (bA.drew.grew hG').cell 0
    have hx1 := (bA.drew.grew hG').cell 1
    have hx2 := (bA.drew.grew hG').cell 2
    simp at hx0 hx1 hx2
    have hx3 := Grew.cell hG' r0
    have hx4 := Grew.cell hG' r1
    go_simp <;> with_reducible rfl
  simp only [List.setIfInBounds_toArray, List.set_cons_zero, List.set_cons_succ]
  refine wpAnyG_pure 26 39 (v := ?_) rfl (by kernel_rfl) rfl (by rfl) (fun w' => ?_) ?_
  rotate_left
  · go_simp <;> with_reducible rfl
  simp only [List.setIfInBounds_toArray, List.set_cons_zero, List.set_cons_succ]
  refine wpAnyG_pure 27 40 (v := ?_) rfl (by kernel_rfl) rfl (by rfl) (fun w' => ?_) ?_
  rotate_left
  · go_simp <;> with_reducible rfl
  simp only [List.setIfInBounds_toArray, List.set_cons_zero, List.set_cons_succ]
  refine wpAnyG_take 28 41 (v := ?_) rfl (by kernel_rfl) rfl (by rfl) (fun w' hG' => ?_) ?_
  rotate_left
  · have hx0 := (bA.drew.grew hG').cell 0
    have hx1 := (bA.drew.grew hG').cell 1
    have hx2 := (bA.drew.grew hG').cell 2
    simp at hx0 hx1 hx2
    have hx3 := Grew.cell hG' r0
    have hx4 := Grew.cell hG' r1
    go_simp <;> with_reducible rfl
  simp only [List.setIfInBounds_toArray, List.set_cons_zero, List.set_cons_succ]
  refine wpAnyG_pure 29 42 (v := ?_) rfl (by kernel_rfl) rfl (by rfl) (fun w' => ?_) ?_
  rotate_left
  · go_simp <;> with_reducible rfl
  simp only [List.setIfInBounds_toArray, List.set_cons_zero, List.set_cons_succ]
  refine wpAnyG_take 30 43 (v := ?_) rfl (by kernel_rfl) rfl (by rfl) (fun w' hG' => ?_) ?_
  rotate_left
  · have hx0 := (bA.drew.grew hG').cell 0
    have hx1 := (bA.drew.grew hG').cell 1
    have hx2 := (bA.drew.grew hG').cell 2
    simp at hx0 hx1 hx2
    have hx3 := Grew.cell hG' r0
    have hx4 := Grew.cell hG' r1
    go_simp <;> with_reducible rfl
  simp only [List.setIfInBounds_toArray, List.set_cons_zero, List.set_cons_succ]
  refine wpAnyG_pure 31 44 (v := ?_) rfl (by kernel_rfl) rfl (by rfl) (fun w' => ?_) ?_
  rotate_left
  · go_simp <;> with_reducible rfl
  simp only [List.setIfInBounds_toArray, List.set_cons_zero, List.set_cons_succ]
  refine wpAnyG_pure 32 45 (v := ?_) rfl (by kernel_rfl) rfl (by rfl) (fun w' => ?_) ?_
  rotate_left
  · go_simp <;> with_reducible rfl
  simp only [List.setIfInBounds_toArray, List.set_cons_zero, List.set_cons_succ]
  refine wpAnyG_pure 33 46 (v := ?_) rfl (by kernel_rfl) rfl (by rfl) (fun w' => ?_) ?_
  rotate_left
  · go_simp <;> with_reducible rfl
  simp only [List.setIfInBounds_toArray, List.set_cons_zero, List.set_cons_succ]
  refine wpAnyG_done (by kernel_rfl) ?_
  go_wp2_with fail
  go_ret2
  exact ⟨rfl, hK.drew⟩


set_option maxHeartbeats 1000000 in
set_option maxRecDepth 100000 in
theorem do_put_put (n i : Nat) (v : Int) (h : Have) (w : World) (B : Nat) (A : Option Addr) (c : Nat) (s : RefR w B (.slice A n c) n h) (hn : n ≤ 65536) (hi : i < n)  :
    Calls Try.prog 12 #[.slice A n c, .agg #[i64 0, i64 i, u64 v]] w fun e w' => ∃ X', e = .returned (.tuple #[X', .bool true]) ∧ RefR w' w.heap.size X' n (upd h i v) ∧ Grew w w' := by
  obtain ⟨i0, hi0, hz0, hz1, hz2⟩ := info_parts info_rcell
  have bA := Blk.new w 29 #[i64 0, i64 i, u64 v]
  have hK : Grew w (w.alloc (.cells #[i64 0, i64 i, u64 v] 29)) := (Kept.refl _ _).alloc _
  obtain ⟨g, rfl, hBg, hg, r0, r1⟩ := s.at hi
  have g1 : decide ((i : Int) < 0) = false := decide_eq_false (by omega)
  have g2 : decide (n ≤ i) = false := decide_eq_false (by omega)
  have g4 : (i : Int) < (n : Int) := by omega
  have g5 : 0 ≤ (i : Int) := by omega
  replace r0 := Grew.cell hK.drew r0
  replace r1 := Grew.cell hK.drew r1
  have hnews : Hid (∀ j u, (cellsR h n)[j]? = some u → ((w.alloc (.cells #[i64 0, i64 i, u64 v] 29)).drew.alloc (.cells #[] 51)).cell? ((⟨g, 0, none⟩ : Addr).add j) = some u) := by
    intro j u hu
    exact World.ownsRow.cells ((s.grew hK).grew ((Kept.refl _ _).drew.alloc _)) rfl j u hu
  have hone := Lib.hid (cellsR_one h n)
  have hlen := Lib.hid (cellsR_length h n)
  have hemp : Hid (World.ownsRow ((w.alloc (.cells #[i64 0, i64 i, u64 v] 29)).drew.alloc (.cells #[] 51)) w.heap.size 51 2 (.slice (some ⟨w.heap.size + 1, 0, none⟩) 0 0) 0 []) := by
    refine ⟨rfl, .inr ⟨w.heap.size + 1, 0, #[], rfl, by omega, ?_, Nat.le_refl _, by unfold maxLen; omega, rfl, rfl⟩⟩
    have hh := heap_alloc_new (w.alloc (.cells #[i64 0, i64 i, u64 v] 29)).drew (.cells #[] 51)
    rw [World.size_drew, World.size_alloc] at hh
    exact hh
  have c0 := bA.cell 0
  simp at c0
  clear s
  go_enter Try.func12, Try.ntmps12
  go_wp2_with fail
  refine wp_region_grow [] (fun _ => False) (by kernel_rfl) ?_
  simp only [List.size_toArray, List.length_cons, List.length_nil, Nat.reduceAdd]
  refine wpAnyG_pure 0 13 (v := ?_) rfl (by kernel_rfl) rfl (by rfl) (fun w' => ?_) ?_
  rotate_left
  · go_simp <;> with_reducible rfl
  simp only [List.setIfInBounds_toArray, List.set_cons_zero, List.set_cons_succ]
  refine wpAnyG_take 1 14 (v := ?_) rfl (by kernel_rfl) rfl (by rfl) (fun w' hG' => ?_) ?_
  rotate_left
  · have hx0 := (bA.drew.grew hG').cell 0
    have hx1 := (bA.drew.grew hG').cell 1
    have hx2 := (bA.drew.grew hG').cell 2
    simp at hx0 hx1 hx2
    have hx3 := Grew.cell hG' r0
    have hx4 := Grew.cell hG' r1
    go_simp <;> with_reducible rfl
  simp only [List.setIfInBounds_toArray, List.set_cons_zero, List.set_cons_succ]
  refine wpAnyG_pure 2 15 (v := ?_) rfl (by kernel_rfl) rfl (by rfl) (fun w' => ?_) ?_
  rotate_left
  · go_simp <;> with_reducible rfl
  simp only [List.setIfInBounds_toArray, List.set_cons_zero, List.set_cons_succ]
  refine wpAnyG_pure 3 16 (v := ?_) rfl (by kernel_rfl) rfl (by rfl) (fun w' => ?_) ?_
  rotate_left
  · go_simp <;> with_reducible rfl
  simp only [List.setIfInBounds_toArray, List.set_cons_zero, List.set_cons_succ]
  refine wpAnyG_pure 4 17 (v := ?_) rfl (by kernel_rfl) rfl (by rfl) (fun w' => ?_) ?_
  rotate_left
  · go_simp <;> with_reducible rfl
  simp only [List.setIfInBounds_toArray, List.set_cons_zero, List.set_cons_succ]
  refine wpAnyG_take 5 18 (v := ?_) rfl (by kernel_rfl) rfl (by rfl) (fun w' hG' => ?_) ?_
  rotate_left
  · have hx0 := (bA.drew.grew hG').cell 0
    have hx1 := (bA.drew.grew hG').cell 1
    have hx2 := (bA.drew.grew hG').cell 2
    simp at hx0 hx1 hx2
    have hx3 := Grew.cell hG' r0
    have hx4 := Grew.cell hG' r1
    go_simp <;> with_reducible rfl
  simp only [List.setIfInBounds_toArray, List.set_cons_zero, List.set_cons_succ]
  refine wpAnyG_pure 6 19 (v := ?_) rfl (by kernel_rfl) rfl (by rfl) (fun w' => ?_) ?_
  rotate_left
  · go_simp <;> with_reducible rfl
  simp only [List.setIfInBounds_toArray, List.set_cons_zero, List.set_cons_succ]
  refine wpAnyG_pure 7 20 (v := ?_) rfl (by kernel_rfl) rfl (by rfl) (fun w' => ?_) ?_
  rotate_left
  · go_simp <;> with_reducible rfl
  simp only [List.setIfInBounds_toArray, List.set_cons_zero, List.set_cons_succ]
  refine wpAnyG_pure 8 21 (v := ?_) rfl (by kernel_rfl) rfl (by rfl) (fun w' => ?_) ?_
  rotate_left
  · go_simp <;> with_reducible rfl
  simp only [List.setIfInBounds_toArray, List.set_cons_zero, List.set_cons_succ]
  refine wpAnyG_pure 9 22 (v := ?_) rfl (by kernel_rfl) rfl (by rfl) (fun w' => ?_) ?_
  rotate_left
  · go_simp <;> with_reducible rfl
  simp only [List.setIfInBounds_toArray, List.set_cons_zero, List.set_cons_succ]
  refine wpAnyG_pure 10 23 (v := ?_) rfl (by kernel_rfl) rfl (by rfl) (fun w' => ?_) ?_
  rotate_left
  · go_simp <;> with_reducible rfl
  simp only [List.setIfInBounds_toArray, List.set_cons_zero, List.set_cons_succ]
  refine wpAnyG_pure 11 24 (v := ?_) rfl (by kernel_rfl) rfl (by rfl) (fun w' => ?_) ?_
  rotate_left
  · go_simp <;> with_reducible rfl
  simp only [List.setIfInBounds_toArray, List.set_cons_zero, List.set_cons_succ]
  refine wpAnyG_take 12 25 (v := ?_) rfl (by kernel_rfl) rfl (by rfl) (fun w' hG' => ?_) ?_
  rotate_left
  · have hx0 := (bA.drew.grew hG').cell 0
    have hx1 := (bA.drew.grew hG').cell 1
    have hx2 := (bA.drew.grew hG').cell 2
    simp at hx0 hx1 hx2
    have hx3 := Grew.cell hG' r0
    have hx4 := Grew.cell hG' r1
    go_simp <;> with_reducible rfl
  simp only [List.setIfInBounds_toArray, List.set_cons_zero, List.set_cons_succ]
  refine wpAnyG_pure 13 26 (v := ?_) rfl (by kernel_rfl) rfl (by rfl) (fun w' => ?_) ?_
  rotate_left
  · go_simp <;> with_reducible rfl
  simp only [List.setIfInBounds_toArray, List.set_cons_zero, List.set_cons_succ]
  refine wpAnyG_pure 14 27 (v := ?_) rfl (by kernel_rfl) rfl (by rfl) (fun w' => ?_) ?_
  rotate_left
  · go_simp <;> with_reducible rfl
  simp only [List.setIfInBounds_toArray, List.set_cons_zero, List.set_cons_succ]
  refine wpAnyG_pass 15 28 rfl (by kernel_rfl) rfl (by rfl) ?_
  simp only [List.setIfInBounds_toArray, List.set_cons_zero, List.set_cons_succ]
  refine wpAnyG_pass 16 29 rfl (by kernel_rfl) rfl (by rfl) ?_
  simp only [List.setIfInBounds_toArray, List.set_cons_zero, List.set_cons_succ]
  refine wpAnyG_pass 17 30 rfl (by kernel_rfl) rfl (by rfl) ?_
  simp only [List.setIfInBounds_toArray, List.set_cons_zero, List.set_cons_succ]
  refine wpAnyG_pass 18 31 rfl (by kernel_rfl) rfl (by rfl) ?_
  simp only [List.setIfInBounds_toArray, List.set_cons_zero, List.set_cons_succ]
  refine wpAnyG_pass 19 32 rfl (by kernel_rfl) rfl (by rfl) ?_
  simp only [List.setIfInBounds_toArray, List.set_cons_zero, List.set_cons_succ]
  refine wpAnyG_pass 20 33 rfl (by kernel_rfl) rfl (by rfl) ?_
  simp only [List.setIfInBounds_toArray, List.set_cons_zero, List.set_cons_succ]
  refine wpAnyG_pure 21 34 (v := ?_) rfl (by kernel_rfl) rfl (by rfl) (fun w' => ?_) ?_
  rotate_left
  · go_simp <;> with_reducible rfl
  simp only [List.setIfInBounds_toArray, List.set_cons_zero, List.set_cons_succ]
  refine wpAnyG_pure 22 35 (v := ?_) rfl (by kernel_rfl) rfl (by rfl) (fun w' => ?_) ?_
  rotate_left
  · go_simp <;> with_reducible rfl
  simp only [List.setIfInBounds_toArray, List.set_cons_zero, List.set_cons_succ]
  refine wpAnyG_pass 23 36 rfl (by kernel_rfl) rfl (by rfl) ?_
  simp only [List.setIfInBounds_toArray, List.set_cons_zero, List.set_cons_succ]
  refine wpAnyG_pass 24 37 rfl (by kernel_rfl) rfl (by rfl) ?_
  simp only [List.setIfInBounds_toArray, List.set_cons_zero, List.set_cons_succ]
  refine wpAnyG_pass 25 38 rfl (by kernel_rfl) rfl (by rfl) ?_
  simp only [List.setIfInBounds_toArray, List.set_cons_zero, List.set_cons_succ]
  refine wpAnyG_pass 26 39 rfl (by kernel_rfl) rfl (by rfl) ?_
  simp only [List.setIfInBounds_toArray, List.set_cons_zero, List.set_cons_succ]
  refine wpAnyG_pass 27 40 rfl (by kernel_rfl) rfl (by rfl) ?_
  simp only [List.setIfInBounds_toArray, List.set_cons_zero, List.set_cons_succ]
  refine wpAnyG_pass 28 41 rfl (by kernel_rfl) rfl (by rfl) ?_
  simp only [List.setIfInBounds_toArray, List.set_cons_zero, List.set_cons_succ]
  refine wpAnyG_pass 29 42 rfl (by kernel_rfl) rfl (by rfl) ?_
  simp only [List.setIfInBounds_toArray, List.set_cons_zero, List.set_cons_succ]
  refine wpAnyG_pass 30 43 rfl (by kernel_rfl) rfl (by rfl) ?_
  simp only [List.setIfInBounds_toArray, List.set_cons_zero, List.set_cons_succ]
  refine wpAnyG_pass 31 44 rfl (by kernel_rfl) rfl (by rfl) ?_
  simp only [List.setIfInBounds_toArray, List.set_cons_zero, List.set_cons_succ]
  refine wpAnyG_pure 32 45 (v := ?_) rfl (by kernel_rfl) rfl (by rfl) (fun w' => ?_) ?_
  rotate_left
  · go_simp <;> with_reducible rfl
  simp only [List.setIfInBounds_toArray, List.set_cons_zero, List.set_cons_succ]
  refine wpAnyG_pure 33 46 (v := ?_) rfl (by kernel_rfl) rfl (by rfl) (fun w' => ?_) ?_
  rotate_left
  · go_simp <;> with_reducible rfl
  simp only [List.setIfInBounds_toArray, List.set_cons_zero, List.set_cons_succ]
  refine wpAnyG_done (by kernel_rfl) ?_
  have bD := bA.drew
  go_wp2_with (at_builtin; go_loud (refine wpList_append_own _ rfl (.tmp 48) (.tmp 49) 34 (by rfl) w.heap.size 51 i0 (.agg #[.bool false, u64 0]) 2 16 Try.underlying34 hi0 hz0 hz1 hz2 (by rfl) (by omega) _ 0 [] rfl hemp.out ⟨g, 0, none⟩ n c (cellsR h n) rfl hlen.out hnews.out hone.out (by unfold maxLen; omega) (by omega) (by simp; omega) ?_; intro v' w1 hown hgr _; rw [Nat.zero_add, List.nil_append] at hown; obtain ⟨g', c', rfl⟩ := own_form hown (by omega); have f0 := World.ownsRow.frozenAt hown (i * 2); have f1 := World.ownsRow.frozenAt hown (i * 2 + 1); have e0 := (World.ownsRow.cellAt hown (i * 2 + 0) (by omega)).trans (cellsR_get h n i 0 hi (by omega)); have e1 := (World.ownsRow.cellAt hown (i * 2 + 1) (by omega)).trans (cellsR_get h n i 1 hi (by omega)); have bW := (bD.alloc (.cells #[] 51)).grown hgr (fun h => absurd (Option.some.inj (show some w.heap.size = some (w.heap.size + 1) from h)) (by omega)); have d1 := bW.cell 1; have d2 := bW.cell 2; simp [cellOne] at e0 e1 d1 d2; have hownH := Lib.hid hown; have hgrH := Lib.hid hgr; clear hown hgr))
  go_ret2
  have hown := hownH.out
  have h1 := ((World.ownsRow.stored hown (i * 2) (.bool true)).1.stored (i * 2 + 1) (u64 v)).1
  rw [cellsR_upd h n i v hi] at h1
  refine ⟨_, rfl, h1, ?_⟩
  have hlt := (World.ownsRow.lt hown g' rfl).1
  have hk1 : Grew w w1 := ((hK.drew).alloc _).grown hgrH.out (fun k hk => by cases hk; exact .inr (by simp))
  exact (hk1.setCell (p := ⟨g', i * 2, none⟩) (.inr hlt) _).setCell (p := ⟨g', i * 2 + 1, none⟩) (.inr hlt) _


set_option maxHeartbeats 1000000 in
set_option maxRecDepth 100000 in
theorem do_put_none (n i : Nat) (v : Int) (h : Have) (w : World) (B : Nat) (A : Option Addr) (c : Nat) (s : RefR w B (.slice A n c) n h) (hn : n ≤ 65536) (hi : i < n) (hh : h i = none) :
    Calls Try.prog 12 #[.slice A n c, .agg #[i64 1, i64 i, u64 v]] w fun e w' => ∃ X', e = .returned (.tuple #[X', .bool true]) ∧ RefR w' w.heap.size X' n (upd h i v) ∧ Grew w w' := by
  obtain ⟨i0, hi0, hz0, hz1, hz2⟩ := info_parts info_rcell
  have bA := Blk.new w 29 #[i64 1, i64 i, u64 v]
  have hK : Grew w (w.alloc (.cells #[i64 1, i64 i, u64 v] 29)) := (Kept.refl _ _).alloc _
  obtain ⟨g, rfl, hBg, hg, r0, r1⟩ := s.at hi
  rw [hh] at r0 r1
  simp at r0 r1
  clear hh
  have g1 : decide ((i : Int) < 0) = false := decide_eq_false (by omega)
  have g2 : decide (n ≤ i) = false := decide_eq_false (by omega)
  have g4 : (i : Int) < (n : Int) := by omega
  have g5 : 0 ≤ (i : Int) := by omega
  replace r0 := Grew.cell hK.drew r0
  replace r1 := Grew.cell hK.drew r1
  have hnews : Hid (∀ j u, (cellsR h n)[j]? = some u → ((w.alloc (.cells #[i64 1, i64 i, u64 v] 29)).drew.alloc (.cells #[] 51)).cell? ((⟨g, 0, none⟩ : Addr).add j) = some u) := by
    intro j u hu
    exact World.ownsRow.cells ((s.grew hK).grew ((Kept.refl _ _).drew.alloc _)) rfl j u hu
  have hone := Lib.hid (cellsR_one h n)
  have hlen := Lib.hid (cellsR_length h n)
  have hemp : Hid (World.ownsRow ((w.alloc (.cells #[i64 1, i64 i, u64 v] 29)).drew.alloc (.cells #[] 51)) w.heap.size 51 2 (.slice (some ⟨w.heap.size + 1, 0, none⟩) 0 0) 0 []) := by
    refine ⟨rfl, .inr ⟨w.heap.size + 1, 0, #[], rfl, by omega, ?_, Nat.le_refl _, by unfold maxLen; omega, rfl, rfl⟩⟩
    have hh := heap_alloc_new (w.alloc (.cells #[i64 1, i64 i, u64 v] 29)).drew (.cells #[] 51)
    rw [World.size_drew, World.size_alloc] at hh
    exact hh
  have c0 := bA.cell 0
  simp at c0
  clear s
  go_enter Try.func12, Try.ntmps12
  go_wp2_with fail
  refine wp_region_grow [] (fun _ => False) (by kernel_rfl) ?_
  simp only [List.size_toArray, List.length_cons, List.length_nil, Nat.reduceAdd]
  refine wpAnyG_pure 0 13 (v := ?_) rfl (by kernel_rfl) rfl (by rfl) (fun w' => ?_) ?_
  rotate_left
  · go_simp <;> with_reducible rfl
  simp only [List.setIfInBounds_toArray, List.set_cons_zero, List.set_cons_succ]
  refine wpAnyG_take 1 14 (v := ?_) rfl (by kernel_rfl) rfl (by rfl) (fun w' hG' => ?_) ?_
  rotate_left
  · have hx0 := (bA.drew.grew hG').cell 0
    have hx1 := (bA.drew.grew hG').cell 1
    have hx2 := (bA.drew.grew hG').cell 2
    simp at hx0 hx1 hx2
    have hx3 := Grew.cell hG' r0
    have hx4 := Grew.cell hG' r1
    go_simp <;> with_reducible rfl
  simp only [List.setIfInBounds_toArray, List.set_cons_zero, List.set_cons_succ]
  refine wpAnyG_pure 2 15 (v := ?_) rfl (by kernel_rfl) rfl (by rfl) (fun w' => ?_) ?_
  rotate_left
  · go_simp <;> with_reducible rfl
  simp only [List.setIfInBounds_toArray, List.set_cons_zero, List.set_cons_succ]
  refine wpAnyG_pure 3 16 (v := ?_) rfl (by kernel_rfl) rfl (by rfl) (fun w' => ?_) ?_
  rotate_left
  · go_simp <;> with_reducible rfl
  simp only [List.setIfInBounds_toArray, List.set_cons_zero, List.set_cons_succ]
  refine wpAnyG_pure 4 17 (v := ?_) rfl (by kernel_rfl) rfl (by rfl) (fun w' => ?_) ?_
  rotate_left
  · go_simp <;> with_reducible rfl
  simp only [List.setIfInBounds_toArray, List.set_cons_zero, List.set_cons_succ]
  refine wpAnyG_take 5 18 (v := ?_) rfl (by kernel_rfl) rfl (by rfl) (fun w' hG' => ?_) ?_
  rotate_left
  · have hx0 := (bA.drew.grew hG').cell 0
    have hx1 := (bA.drew.grew hG').cell 1
    have hx2 := (bA.drew.grew hG').cell 2
    simp at hx0 hx1 hx2
    have hx3 := Grew.cell hG' r0
    have hx4 := Grew.cell hG' r1
    go_simp <;> with_reducible rfl
  simp only [List.setIfInBounds_toArray, List.set_cons_zero, List.set_cons_succ]
  refine wpAnyG_pure 6 19 (v := ?_) rfl (by kernel_rfl) rfl (by rfl) (fun w' => ?_) ?_
  rotate_left
  · go_simp <;> with_reducible rfl
  simp only [List.setIfInBounds_toArray, List.set_cons_zero, List.set_cons_succ]
  refine wpAnyG_pure 7 20 (v := ?_) rfl (by kernel_rfl) rfl (by rfl) (fun w' => ?_) ?_
  rotate_left
  · go_simp <;> with_reducible rfl
  simp only [List.setIfInBounds_toArray, List.set_cons_zero, List.set_cons_succ]
  refine wpAnyG_pure 8 21 (v := ?_) rfl (by kernel_rfl) rfl (by rfl) (fun w' => ?_) ?_
  rotate_left
  · go_simp <;> with_reducible rfl
  simp only [List.setIfInBounds_toArray, List.set_cons_zero, List.set_cons_succ]
  refine wpAnyG_pure 9 22 (v := ?_) rfl (by kernel_rfl) rfl (by rfl) (fun w' => ?_) ?_
  rotate_left
  · go_simp <;> with_reducible rfl
  simp only [List.setIfInBounds_toArray, List.set_cons_zero, List.set_cons_succ]
  refine wpAnyG_pure 10 23 (v := ?_) rfl (by kernel_rfl) rfl (by rfl) (fun w' => ?_) ?_
  rotate_left
  · go_simp <;> with_reducible rfl
  simp only [List.setIfInBounds_toArray, List.set_cons_zero, List.set_cons_succ]
  refine wpAnyG_pure 11 24 (v := ?_) rfl (by kernel_rfl) rfl (by rfl) (fun w' => ?_) ?_
  rotate_left
  · go_simp <;> with_reducible rfl
  simp only [List.setIfInBounds_toArray, List.set_cons_zero, List.set_cons_succ]
  refine wpAnyG_take 12 25 (v := ?_) rfl (by kernel_rfl) rfl (by rfl) (fun w' hG' => ?_) ?_
  rotate_left
  · have hx0 := (bA.drew.grew hG').cell 0
    have hx1 := (bA.drew.grew hG').cell 1
    have hx2 := (bA.drew.grew hG').cell 2
    simp at hx0 hx1 hx2
    have hx3 := Grew.cell hG' r0
    have hx4 := Grew.cell hG' r1
    go_simp <;> with_reducible rfl
  simp only [List.setIfInBounds_toArray, List.set_cons_zero, List.set_cons_succ]
  refine wpAnyG_pure 13 26 (v := ?_) rfl (by kernel_rfl) rfl (by rfl) (fun w' => ?_) ?_
  rotate_left
  · go_simp <;> with_reducible rfl
  simp only [List.setIfInBounds_toArray, List.set_cons_zero, List.set_cons_succ]
  refine wpAnyG_pure 14 27 (v := ?_) rfl (by kernel_rfl) rfl (by rfl) (fun w' => ?_) ?_
  rotate_left
  · go_simp <;> with_reducible rfl
  simp only [List.setIfInBounds_toArray, List.set_cons_zero, List.set_cons_succ]
  refine wpAnyG_pure 15 28 (v := ?_) rfl (by kernel_rfl) rfl (by rfl) (fun w' => ?_) ?_
  rotate_left
  · go_simp <;> with_reducible rfl
  simp only [List.setIfInBounds_toArray, List.set_cons_zero, List.set_cons_succ]
  refine wpAnyG_pure 16 29 (v := ?_) rfl (by kernel_rfl) rfl (by rfl) (fun w' => ?_) ?_
  rotate_left
  · go_simp <;> with_reducible rfl
  simp only [List.setIfInBounds_toArray, List.set_cons_zero, List.set_cons_succ]
  refine wpAnyG_take 17 30 (v := ?_) rfl (by kernel_rfl) rfl (by rfl) (fun w' hG' => ?_) ?_
  rotate_left
  · have hx0 := (bA.drew.grew hG').cell 0
    have hx1 := (bA.drew.grew hG').cell 1
    have hx2 := (bA.drew.grew hG').cell 2
    simp at hx0 hx1 hx2
    have hx3 := Grew.cell hG' r0
    have hx4 := Grew.cell hG' r1
    go_simp <;> with_reducible rfl
  simp only [List.setIfInBounds_toArray, List.set_cons_zero, List.set_cons_succ]
  refine wpAnyG_pure 18 31 (v := ?_) rfl (by kernel_rfl) rfl (by rfl) (fun w' => ?_) ?_
  rotate_left
  · go_simp <;> with_reducible rfl
  simp only [List.setIfInBounds_toArray, List.set_cons_zero, List.set_cons_succ]
  refine wpAnyG_pure 19 32 (v := ?_) rfl (by kernel_rfl) rfl (by rfl) (fun w' => ?_) ?_
  rotate_left
  · go_simp <;> with_reducible rfl
  simp only [List.setIfInBounds_toArray, List.set_cons_zero, List.set_cons_succ]
  refine wpAnyG_take 20 33 (v := ?_) rfl (by kernel_rfl) rfl (by rfl) (fun w' hG' => ?_) ?_
  rotate_left
  · have hx0 := (bA.drew.grew hG').cell 0
    have hx1 := (bA.drew.grew hG').cell 1
    have hx2 := (bA.drew.grew hG').cell 2
    simp at hx0 hx1 hx2
    have hx3 := Grew.cell hG' r0
    have hx4 := Grew.cell hG' r1
    go_simp <;> with_reducible rfl
  simp only [List.setIfInBounds_toArray, List.set_cons_zero, List.set_cons_succ]
  refine wpAnyG_pure 21 34 (v := ?_) rfl (by kernel_rfl) rfl (by rfl) (fun w' => ?_) ?_
  rotate_left
  · go_simp <;> with_reducible rfl
  simp only [List.setIfInBounds_toArray, List.set_cons_zero, List.set_cons_succ]
  refine wpAnyG_pure 22 35 (v := ?_) rfl (by kernel_rfl) rfl (by rfl) (fun w' => ?_) ?_
  rotate_left
  · go_simp <;> with_reducible rfl
  simp only [List.setIfInBounds_toArray, List.set_cons_zero, List.set_cons_succ]
  refine wpAnyG_pass 23 36 rfl (by kernel_rfl) rfl (by rfl) ?_
  simp only [List.setIfInBounds_toArray, List.set_cons_zero, List.set_cons_succ]
  refine wpAnyG_pass 24 37 rfl (by kernel_rfl) rfl (by rfl) ?_
  simp only [List.setIfInBounds_toArray, List.set_cons_zero, List.set_cons_succ]
  refine wpAnyG_pass 25 38 rfl (by kernel_rfl) rfl (by rfl) ?_
  simp only [List.setIfInBounds_toArray, List.set_cons_zero, List.set_cons_succ]
  refine wpAnyG_pass 26 39 rfl (by kernel_rfl) rfl (by rfl) ?_
  simp only [List.setIfInBounds_toArray, List.set_cons_zero, List.set_cons_succ]
  refine wpAnyG_pass 27 40 rfl (by kernel_rfl) rfl (by rfl) ?_
  simp only [List.setIfInBounds_toArray, List.set_cons_zero, List.set_cons_succ]
  refine wpAnyG_pass 28 41 rfl (by kernel_rfl) rfl (by rfl) ?_
  simp only [List.setIfInBounds_toArray, List.set_cons_zero, List.set_cons_succ]
  refine wpAnyG_pass 29 42 rfl (by kernel_rfl) rfl (by rfl) ?_
  simp only [List.setIfInBounds_toArray, List.set_cons_zero, List.set_cons_succ]
  refine wpAnyG_pass 30 43 rfl (by kernel_rfl) rfl (by rfl) ?_
  simp only [List.setIfInBounds_toArray, List.set_cons_zero, List.set_cons_succ]
  refine wpAnyG_pass 31 44 rfl (by kernel_rfl) rfl (by rfl) ?_
  simp only [List.setIfInBounds_toArray, List.set_cons_zero, List.set_cons_succ]
  refine wpAnyG_pure 32 45 (v := ?_) rfl (by kernel_rfl) rfl (by rfl) (fun w' => ?_) ?_
  rotate_left
  · go_simp <;> with_reducible rfl
  simp only [List.setIfInBounds_toArray, List.set_cons_zero, List.set_cons_succ]
  refine wpAnyG_pure 33 46 (v := ?_) rfl (by kernel_rfl) rfl (by rfl) (fun w' => ?_) ?_
  rotate_left
  · go_simp <;> with_reducible rfl
  simp only [List.setIfInBounds_toArray, List.set_cons_zero, List.set_cons_succ]
  refine wpAnyG_done (by kernel_rfl) ?_
  have bD := bA.drew
  go_wp2_with (at_builtin; go_loud (refine wpList_append_own _ rfl (.tmp 48) (.tmp 49) 34 (by rfl) w.heap.size 51 i0 (.agg #[.bool false, u64 0]) 2 16 Try.underlying34 hi0 hz0 hz1 hz2 (by rfl) (by omega) _ 0 [] rfl hemp.out ⟨g, 0, none⟩ n c (cellsR h n) rfl hlen.out hnews.out hone.out (by unfold maxLen; omega) (by omega) (by simp; omega) ?_; intro v' w1 hown hgr _; rw [Nat.zero_add, List.nil_append] at hown; obtain ⟨g', c', rfl⟩ := own_form hown (by omega); have f0 := World.ownsRow.frozenAt hown (i * 2); have f1 := World.ownsRow.frozenAt hown (i * 2 + 1); have e0 := (World.ownsRow.cellAt hown (i * 2 + 0) (by omega)).trans (cellsR_get h n i 0 hi (by omega)); have e1 := (World.ownsRow.cellAt hown (i * 2 + 1) (by omega)).trans (cellsR_get h n i 1 hi (by omega)); have bW := (bD.alloc (.cells #[] 51)).grown hgr (fun h => absurd (Option.some.inj (show some w.heap.size = some (w.heap.size + 1) from h)) (by omega)); have d1 := bW.cell 1; have d2 := bW.cell 2; simp [cellOne] at e0 e1 d1 d2; have hownH := Lib.hid hown; have hgrH := Lib.hid hgr; clear hown hgr))
  go_ret2
  have hown := hownH.out
  have h1 := ((World.ownsRow.stored hown (i * 2) (.bool true)).1.stored (i * 2 + 1) (u64 v)).1
  rw [cellsR_upd h n i v hi] at h1
  refine ⟨_, rfl, h1, ?_⟩
  have hlt := (World.ownsRow.lt hown g' rfl).1
  have hk1 : Grew w w1 := ((hK.drew).alloc _).grown hgrH.out (fun k hk => by cases hk; exact .inr (by simp))
  exact (hk1.setCell (p := ⟨g', i * 2, none⟩) (.inr hlt) _).setCell (p := ⟨g', i * 2 + 1, none⟩) (.inr hlt) _


set_option maxHeartbeats 1000000 in
set_option maxRecDepth 100000 in
theorem do_put_less (n i : Nat) (x v : Int) (h : Have) (w : World) (B : Nat) (A : Option Addr) (c : Nat) (s : RefR w B (.slice A n c) n h) (hn : n ≤ 65536) (hi : i < n) (hh : h i = some x) (hx : v < x) :
    Calls Try.prog 12 #[.slice A n c, .agg #[i64 1, i64 i, u64 v]] w fun e w' => ∃ X', e = .returned (.tuple #[X', .bool true]) ∧ RefR w' w.heap.size X' n (upd h i v) ∧ Grew w w' := by
  obtain ⟨i0, hi0, hz0, hz1, hz2⟩ := info_parts info_rcell
  have bA := Blk.new w 29 #[i64 1, i64 i, u64 v]
  have hK : Grew w (w.alloc (.cells #[i64 1, i64 i, u64 v] 29)) := (Kept.refl _ _).alloc _
  obtain ⟨g, rfl, hBg, hg, r0, r1⟩ := s.at hi
  rw [hh] at r0 r1
  simp at r0 r1
  clear hh
  have g3 : decide (x ≤ v) = false := decide_eq_false (by omega)
  have g1 : decide ((i : Int) < 0) = false := decide_eq_false (by omega)
  have g2 : decide (n ≤ i) = false := decide_eq_false (by omega)
  have g4 : (i : Int) < (n : Int) := by omega
  have g5 : 0 ≤ (i : Int) := by omega
  replace r0 := Grew.cell hK.drew r0
  replace r1 := Grew.cell hK.drew r1
  have hnews : Hid (∀ j u, (cellsR h n)[j]? = some u → ((w.alloc (.cells #[i64 1, i64 i, u64 v] 29)).drew.alloc (.cells #[] 51)).cell? ((⟨g, 0, none⟩ : Addr).add j) = some u) := by
    intro j u hu
    exact World.ownsRow.cells ((s.grew hK).grew ((Kept.refl _ _).drew.alloc _)) rfl j u hu
  have hone := Lib.hid (cellsR_one h n)
  have hlen := Lib.hid (cellsR_length h n)
  have hemp : Hid (World.ownsRow ((w.alloc (.cells #[i64 1, i64 i, u64 v] 29)).drew.alloc (.cells #[] 51)) w.heap.size 51 2 (.slice (some ⟨w.heap.size + 1, 0, none⟩) 0 0) 0 []) := by
    refine ⟨rfl, .inr ⟨w.heap.size + 1, 0, #[], rfl, by omega, ?_, Nat.le_refl _, by unfold maxLen; omega, rfl, rfl⟩⟩
    have hh := heap_alloc_new (w.alloc (.cells #[i64 1, i64 i, u64 v] 29)).drew (.cells #[] 51)
    rw [World.size_drew, World.size_alloc] at hh
    exact hh
  have c0 := bA.cell 0
  simp at c0
  clear s
  go_enter Try.func12, Try.ntmps12
  go_wp2_with fail
  refine wp_region_grow [] (fun _ => False) (by kernel_rfl) ?_
  simp only [List.size_toArray, List.length_cons, List.length_nil, Nat.reduceAdd]
  refine wpAnyG_pure 0 13 (v := ?_) rfl (by kernel_rfl) rfl (by rfl) (fun w' => ?_) ?_
  rotate_left
  · go_simp <;> with_reducible rfl
  simp only [List.setIfInBounds_toArray, List.set_cons_zero, List.set_cons_succ]
  refine wpAnyG_take 1 14 (v := ?_) rfl (by kernel_rfl) rfl (by rfl) (fun w' hG' => ?_) ?_
  rotate_left
  · have hx0 := (bA.drew.grew hG').cell 0
    have hx1 := (bA.drew.grew hG').cell 1
    have hx2 := (bA.drew.grew hG').cell 2
    simp at hx0 hx1 hx2
    have hx3 := Grew.cell hG' r0
    have hx4 := Grew.cell hG' r1
    go_simp <;> with_reducible rfl
  simp only [List.setIfInBounds_toArray, List.set_cons_zero, List.set_cons_succ]
  refine wpAnyG_pure 2 15 (v := ?_) rfl (by kernel_rfl) rfl (by rfl) (fun w' => ?_) ?_
  rotate_left
  · go_simp <;> with_reducible rfl
  simp only [List.setIfInBounds_toArray, List.set_cons_zero, List.set_cons_succ]
  refine wpAnyG_pure 3 16 (v := ?_) rfl (by kernel_rfl) rfl (by rfl) (fun w' => ?_) ?_
  rotate_left
  · go_simp <;> with_reducible rfl
  simp only [List.setIfInBounds_toArray, List.set_cons_zero, List.set_cons_succ]
  refine wpAnyG_pure 4 17 (v := ?_) rfl (by kernel_rfl) rfl (by rfl) (fun w' => ?_) ?_
  rotate_left
  · go_simp <;> with_reducible rfl
  simp only [List.setIfInBounds_toArray, List.set_cons_zero, List.set_cons_succ]
  refine wpAnyG_take 5 18 (v := ?_) rfl (by kernel_rfl) rfl (by rfl) (fun w' hG' => ?_) ?_
  rotate_left
  · have hx0 := (bA.drew.grew hG').cell 0
    have hx1 := (bA.drew.grew hG').cell 1
    have hx2 := (bA.drew.grew hG').cell 2
    simp at hx0 hx1 hx2
    have hx3 := Grew.cell hG' r0
    have hx4 := Grew.cell hG' r1
    go_simp <;> with_reducible rfl
  simp only [List.setIfInBounds_toArray, List.set_cons_zero, List.set_cons_succ]
  refine wpAnyG_pure 6 19 (v := ?_) rfl (by kernel_rfl) rfl (by rfl) (fun w' => ?_) ?_
  rotate_left
  · go_simp <;> with_reducible rfl
  simp only [List.setIfInBounds_toArray, List.set_cons_zero, List.set_cons_succ]
  refine wpAnyG_pure 7 20 (v := ?_) rfl (by kernel_rfl) rfl (by rfl) (fun w' => ?_) ?_
  rotate_left
  · go_simp <;> with_reducible rfl
  simp only [List.setIfInBounds_toArray, List.set_cons_zero, List.set_cons_succ]
  refine wpAnyG_pure 8 21 (v := ?_) rfl (by kernel_rfl) rfl (by rfl) (fun w' => ?_) ?_
  rotate_left
  · go_simp <;> with_reducible rfl
  simp only [List.setIfInBounds_toArray, List.set_cons_zero, List.set_cons_succ]
  refine wpAnyG_pure 9 22 (v := ?_) rfl (by kernel_rfl) rfl (by rfl) (fun w' => ?_) ?_
  rotate_left
  · go_simp <;> with_reducible rfl
  simp only [List.setIfInBounds_toArray, List.set_cons_zero, List.set_cons_succ]
  refine wpAnyG_pure 10 23 (v := ?_) rfl (by kernel_rfl) rfl (by rfl) (fun w' => ?_) ?_
  rotate_left
  · go_simp <;> with_reducible rfl
  simp only [List.setIfInBounds_toArray, List.set_cons_zero, List.set_cons_succ]
  refine wpAnyG_pure 11 24 (v := ?_) rfl (by kernel_rfl) rfl (by rfl) (fun w' => ?_) ?_
  rotate_left
  · go_simp <;> with_reducible rfl
  simp only [List.setIfInBounds_toArray, List.set_cons_zero, List.set_cons_succ]
  refine wpAnyG_take 12 25 (v := ?_) rfl (by kernel_rfl) rfl (by rfl) (fun w' hG' => ?_) ?_
  rotate_left
  · have hx0 := (bA.drew.grew hG').cell 0
    have hx1 := (bA.drew.grew hG').cell 1
    have hx2 := (bA.drew.grew hG').cell 2
    simp at hx0 hx1 hx2
    have hx3 := Grew.cell hG' r0
    have hx4 := Grew.cell hG' r1
    go_simp <;> with_reducible rfl
  simp only [List.setIfInBounds_toArray, List.set_cons_zero, List.set_cons_succ]
  refine wpAnyG_pure 13 26 (v := ?_) rfl (by kernel_rfl) rfl (by rfl) (fun w' => ?_) ?_
  rotate_left
  · go_simp <;> with_reducible rfl
  simp only [List.setIfInBounds_toArray, List.set_cons_zero, List.set_cons_succ]
  refine wpAnyG_pure 14 27 (v := ?_) rfl (by kernel_rfl) rfl (by rfl) (fun w' => ?_) ?_
  rotate_left
  · go_simp <;> with_reducible rfl
  simp only [List.setIfInBounds_toArray, List.set_cons_zero, List.set_cons_succ]
  refine wpAnyG_pure 15 28 (v := ?_) rfl (by kernel_rfl) rfl (by rfl) (fun w' => ?_) ?_
  rotate_left
  · go_simp <;> with_reducible rfl
  simp only [List.setIfInBounds_toArray, List.set_cons_zero, List.set_cons_succ]
  refine wpAnyG_pure 16 29 (v := ?_) rfl (by kernel_rfl) rfl (by rfl) (fun w' => ?_) ?_
  rotate_left
  · go_simp <;> with_reducible rfl
  simp only [List.setIfInBounds_toArray, List.set_cons_zero, List.set_cons_succ]
  refine wpAnyG_take 17 30 (v := ?_) rfl (by kernel_rfl) rfl (by rfl) (fun w' hG' => ?_) ?_
  rotate_left
  · have hx0 := (bA.drew.grew hG').cell 0
    have hx1 := (bA.drew.grew hG').cell 1
    have hx2 := (bA.drew.grew hG').cell 2
    simp at hx0 hx1 hx2
    have hx3 := Grew.cell hG' r0
    have hx4 := Grew.cell hG' r1
    go_simp <;> with_reducible rfl
  simp only [List.setIfInBounds_toArray, List.set_cons_zero, List.set_cons_succ]
  refine wpAnyG_pure 18 31 (v := ?_) rfl (by kernel_rfl) rfl (by rfl) (fun w' => ?_) ?_
  rotate_left
  · go_simp <;> with_reducible rfl
  simp only [List.setIfInBounds_toArray, List.set_cons_zero, List.set_cons_succ]
  refine wpAnyG_pure 19 32 (v := ?_) rfl (by kernel_rfl) rfl (by rfl) (fun w' => ?_) ?_
  rotate_left
  · go_simp <;> with_reducible rfl
  simp only [List.setIfInBounds_toArray, List.set_cons_zero, List.set_cons_succ]
  refine wpAnyG_take 20 33 (v := ?_) rfl (by kernel_rfl) rfl (by rfl) (fun w' hG' => ?_) ?_
  rotate_left
  · have hx0 := (bA.drew.grew hG').cell 0
    have hx1 := (bA.drew.grew hG').cell 1
    have hx2 := (bA.drew.grew hG').cell 2
    simp at hx0 hx1 hx2
    have hx3 := Grew.cell hG' r0
    have hx4 := Grew.cell hG' r1
    go_simp <;> with_reducible rfl
  simp only [List.setIfInBounds_toArray, List.set_cons_zero, List.set_cons_succ]
  refine wpAnyG_pure 21 34 (v := ?_) rfl (by kernel_rfl) rfl (by rfl) (fun w' => ?_) ?_
  rotate_left
  · go_simp <;> with_reducible rfl
  simp only [List.setIfInBounds_toArray, List.set_cons_zero, List.set_cons_succ]
  refine wpAnyG_pure 22 35 (v := ?_) rfl (by kernel_rfl) rfl (by rfl) (fun w' => ?_) ?_
  rotate_left
  · go_simp <;> with_reducible rfl
  simp only [List.setIfInBounds_toArray, List.set_cons_zero, List.set_cons_succ]
  refine wpAnyG_pure 23 36 (v := ?_) rfl (by kernel_rfl) rfl (by rfl) (fun w' => ?_) ?_
  rotate_left
  · go_simp <;> with_reducible rfl
  simp only [List.setIfInBounds_toArray, List.set_cons_zero, List.set_cons_succ]
  refine wpAnyG_pure 24 37 (v := ?_) rfl (by kernel_rfl) rfl (by rfl) (fun w' => ?_) ?_
  rotate_left
  · go_simp <;> with_reducible rfl
  simp only [List.setIfInBounds_toArray, List.set_cons_zero, List.set_cons_succ]
  refine wpAnyG_take 25 38 (v := ?_) rfl (by kernel_rfl) rfl (by rfl) (fun w' hG' => ?_) ?_
  rotate_left
  · have hx0 := (bA.drew.grew hG').cell 0
    have hx1 := (bA.drew.grew hG').cell 1
    have hx2 := (bA.drew.grew hG').cell 2
    simp at hx0 hx1 hx2
    have hx3 := Grew.cell hG' r0
    have hx4 := Grew.cell hG' r1
    go_simp <;> with_reducible rfl
  simp only [List.setIfInBounds_toArray, List.set_cons_zero, List.set_cons_succ]
  refine wpAnyG_pure 26 39 (v := ?_) rfl (by kernel_rfl) rfl (by rfl) (fun w' => ?_) ?_
  rotate_left
  · go_simp <;> with_reducible rfl
  simp only [List.setIfInBounds_toArray, List.set_cons_zero, List.set_cons_succ]
  refine wpAnyG_pure 27 40 (v := ?_) rfl (by kernel_rfl) rfl (by rfl) (fun w' => ?_) ?_
  rotate_left
  · go_simp <;> with_reducible rfl
  simp only [List.setIfInBounds_toArray, List.set_cons_zero, List.set_cons_succ]
  refine wpAnyG_take 28 41 (v := ?_) rfl (by kernel_rfl) rfl (by rfl) (fun w' hG' => ?_) ?_
  rotate_left
  · have hx0 := (bA.drew.grew hG').cell 0
    have hx1 := (bA.drew.grew hG').cell 1
    have hx2 := (bA.drew.grew hG').cell 2
    simp at hx0 hx1 hx2
    have hx3 := Grew.cell hG' r0
    have hx4 := Grew.cell hG' r1
    go_simp <;> with_reducible rfl
  simp only [List.setIfInBounds_toArray, List.set_cons_zero, List.set_cons_succ]
  refine wpAnyG_pure 29 42 (v := ?_) rfl (by kernel_rfl) rfl (by rfl) (fun w' => ?_) ?_
  rotate_left
  · go_simp <;> with_reducible rfl
  simp only [List.setIfInBounds_toArray, List.set_cons_zero, List.set_cons_succ]
  refine wpAnyG_take 30 43 (v := ?_) rfl (by kernel_rfl) rfl (by rfl) (fun w' hG' => ?_) ?_
  rotate_left
  · have hx0 := (bA.drew.grew hG').cell 0
    have hx1 := (bA.drew.grew hG').cell 1
    have hx2 := (bA.drew.grew hG').cell 2
    simp at hx0 hx1 hx2
    have hx3 := Grew.cell hG' r0
    have hx4 := Grew.cell hG' r1
    go_simp <;> with_reducible rfl
  simp only [List.setIfInBounds_toArray, List.set_cons_zero, List.set_cons_succ]
  refine wpAnyG_pure 31 44 (v := ?_) rfl (by kernel_rfl) rfl (by rfl) (fun w' => ?_) ?_
  rotate_left
  · go_simp <;> with_reducible rfl
  simp only [List.setIfInBounds_toArray, List.set_cons_zero, List.set_cons_succ]
  refine wpAnyG_pure 32 45 (v := ?_) rfl (by kernel_rfl) rfl (by rfl) (fun w' => ?_) ?_
  rotate_left
  · go_simp <;> with_reducible rfl
  simp only [List.setIfInBounds_toArray, List.set_cons_zero, List.set_cons_succ]
  refine wpAnyG_pure 33 46 (v := ?_) rfl (by kernel_rfl) rfl (by rfl) (fun w' => ?_) ?_
  rotate_left
  · go_simp <;> with_reducible rfl
  simp only [List.setIfInBounds_toArray, List.set_cons_zero, List.set_cons_succ]
  refine wpAnyG_done (by kernel_rfl) ?_
  have bD := bA.drew
  go_wp2_with (at_builtin; go_loud (refine wpList_append_own _ rfl (.tmp 48) (.tmp 49) 34 (by rfl) w.heap.size 51 i0 (.agg #[.bool false, u64 0]) 2 16 Try.underlying34 hi0 hz0 hz1 hz2 (by rfl) (by omega) _ 0 [] rfl hemp.out ⟨g, 0, none⟩ n c (cellsR h n) rfl hlen.out hnews.out hone.out (by unfold maxLen; omega) (by omega) (by simp; omega) ?_; intro v' w1 hown hgr _; rw [Nat.zero_add, List.nil_append] at hown; obtain ⟨g', c', rfl⟩ := own_form hown (by omega); have f0 := World.ownsRow.frozenAt hown (i * 2); have f1 := World.ownsRow.frozenAt hown (i * 2 + 1); have e0 := (World.ownsRow.cellAt hown (i * 2 + 0) (by omega)).trans (cellsR_get h n i 0 hi (by omega)); have e1 := (World.ownsRow.cellAt hown (i * 2 + 1) (by omega)).trans (cellsR_get h n i 1 hi (by omega)); have bW := (bD.alloc (.cells #[] 51)).grown hgr (fun h => absurd (Option.some.inj (show some w.heap.size = some (w.heap.size + 1) from h)) (by omega)); have d1 := bW.cell 1; have d2 := bW.cell 2; simp [cellOne] at e0 e1 d1 d2; have hownH := Lib.hid hown; have hgrH := Lib.hid hgr; clear hown hgr))
  go_ret2
  have hown := hownH.out
  have h1 := ((World.ownsRow.stored hown (i * 2) (.bool true)).1.stored (i * 2 + 1) (u64 v)).1
  rw [cellsR_upd h n i v hi] at h1
  refine ⟨_, rfl, h1, ?_⟩
  have hlt := (World.ownsRow.lt hown g' rfl).1
  have hk1 : Grew w w1 := ((hK.drew).alloc _).grown hgrH.out (fun k hk => by cases hk; exact .inr (by simp))
  exact (hk1.setCell (p := ⟨g', i * 2, none⟩) (.inr hlt) _).setCell (p := ⟨g', i * 2 + 1, none⟩) (.inr hlt) _


theorem do_any (a : Act3) (n : Nat) (h : Have) (w : World) (B : Nat) (X : Value) (s : RefR w B X n h) (hn : n ≤ 65536) (hB : B ≤ w.heap.size) (hout : ∀ i : Int, i < 0 ∨ n ≤ i → h i = none) (hk : a.kind = 0 ∨ a.kind = 1 ∨ a.kind = 2) :
    Calls Try.prog 12 #[X, actV a] w fun e w' => ∃ X', e = .returned (.tuple #[X', .bool (actB n h a)]) ∧ RefR w' B X' n (actH n h a) ∧ Grew w w' := by
  obtain ⟨A, c, rfl⟩ := s.form
  obtain ⟨k, i, v⟩ := a
  have down : ∀ (w' : World) (X' : Value) (h' : Have), RefR w' w.heap.size X' n h' → RefR w' B X' n h' := fun w' X' h' r => by
    refine ⟨r.1, ?_⟩
    rcases r.2 with r | ⟨g, cap, cur, hv, hb, rest⟩
    · exact .inl r
    · exact .inr ⟨g, cap, cur, hv, by omega, rest⟩
  rcases hk with rfl | rfl | rfl
  · show Calls _ _ _ _ fun e w' => ∃ X', e = .returned (.tuple #[X', .bool (inn n i)]) ∧ RefR w' B X' n (putH n h i v) ∧ Grew w w'
    by_cases hin : 0 ≤ i ∧ i < n
    · obtain ⟨j, rfl⟩ := Int.eq_ofNat_of_zero_le hin.1
      have e : inn n j = true := decide_eq_true hin
      simp only [putH, e, if_true]
      exact (do_put_put n j v h w B A c s hn (by omega)).mono fun e w' ⟨X', he, hr, hK⟩ => ⟨X', he, down _ _ _ hr, hK⟩
    · have e : inn n i = false := decide_eq_false hin
      simp only [putH, e, Bool.false_eq_true, if_false]
      rcases Int.lt_or_le i 0 with hi | hi
      · exact (do_same_neg n 0 i v h w B A c s hn (by omega) hi).mono fun e w' ⟨he, hK⟩ => ⟨_, he, s.grew hK, hK⟩
      · exact (do_same_big n 0 i v h w B A c s hn (by omega) hi (by omega)).mono fun e w' ⟨he, hK⟩ => ⟨_, he, s.grew hK, hK⟩
  · show Calls _ _ _ _ fun e w' => ∃ X', e = .returned (.tuple #[X', .bool (leastB n h i v)]) ∧ RefR w' B X' n (leastH n h i v) ∧ Grew w w'
    by_cases hin : 0 ≤ i ∧ i < n
    · obtain ⟨j, rfl⟩ := Int.eq_ofNat_of_zero_le hin.1
      have e : inn n j = true := decide_eq_true hin
      cases ho : h j with
      | none =>
        have e2 : leastB n h j v = true := by simp [leastB, e, ho]
        simp only [leastH, e2, if_true]
        exact (do_put_none n j v h w B A c s hn (by omega) ho).mono fun e w' ⟨X', he, hr, hK⟩ => ⟨X', he, down _ _ _ hr, hK⟩
      | some x =>
        rcases Int.lt_or_le v x with hx | hx
        · have e2 : leastB n h j v = true := by simp [leastB, e, ho]; omega
          simp only [leastH, e2, if_true]
          exact (do_put_less n j x v h w B A c s hn (by omega) ho hx).mono fun e w' ⟨X', he, hr, hK⟩ => ⟨X', he, down _ _ _ hr, hK⟩
        · have e2 : leastB n h j v = false := by simp [leastB, e, ho, hx]
          simp only [leastH, e2, Bool.false_eq_true, if_false]
          exact (do_same_least n j x v h w B A c s hn (by omega) ho hx).mono fun e w' ⟨he, hK⟩ => ⟨_, he, s.grew hK, hK⟩
    · have e : inn n i = false := decide_eq_false hin
      have e2 : leastB n h i v = false := by simp [leastB, e]
      simp only [leastH, e2, Bool.false_eq_true, if_false]
      rcases Int.lt_or_le i 0 with hi | hi
      · exact (do_same_neg n 1 i v h w B A c s hn (by omega) hi).mono fun e w' ⟨he, hK⟩ => ⟨_, he, s.grew hK, hK⟩
      · exact (do_same_big n 1 i v h w B A c s hn (by omega) hi (by omega)).mono fun e w' ⟨he, hK⟩ => ⟨_, he, s.grew hK, hK⟩
  · exact (do_forget _ n i v w A c rfl hn).mono fun e w' ⟨X', he, hr, hK⟩ => ⟨X', he, down _ _ _ hr, hK⟩

end Go.Proofs.Ytlokmciilminhaa
