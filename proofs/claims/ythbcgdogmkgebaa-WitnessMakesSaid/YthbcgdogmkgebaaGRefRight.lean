/- Whether a graph is right, by the document: the walk. -/
import Derived.Test.YthbcgdogmkgebaaGEdge
namespace Go.Proofs.Ythbcgdogmkgebaa.Gr
open Go.RowKit

def nodeOk (n : Int) (e : Edg) : Bool := decide (0 ≤ e.1 ∧ e.1 < n) && (decide (0 ≤ e.2.1 ∧ e.2.1 < n) && !decide (e.1 = e.2.1))
def wOk (e : Edg) : Bool := decide (1 ≤ e.2.2 ∧ e.2.2 ≤ 4294967296)
def rightF (n : Int) (es : List Edg) : Int := if n < 1 ∨ 4096 < n then 2 else if 16384 < es.length then 5 else if es.all (nodeOk n) = true then (if es.all wOk = true then 0 else 2) else 7

theorem all_next {es : List Edg} {p : Edg → Bool} {k : Nat} {e : Edg} (h : (es.take k).all p = true) (he : es[k]? = some e) (hp : p e = true) : (es.take (k + 1)).all p = true := by
  rw [List.take_add_one, List.all_append, h, he]
  simp [hp]
theorem all_fail {es : List Edg} {p : Edg → Bool} {k : Nat} {e : Edg} (he : es[k]? = some e) (hp : p e = false) : es.all p = false := by
  rw [List.all_eq_false]
  exact ⟨e, List.mem_of_getElem? he, by simp [hp]⟩

theorem refNode_any (n : Int) (A : Option Addr) (L c : Nat) (v : Int) (w : World) : Calls Try.prog 36 #[.agg #[i64 n, .slice A L c], i64 v] w fun e w' => e = .returned (.bool (decide (0 ≤ v ∧ v < n))) ∧ Grew w w' := by
  have hk : Grew w (w.alloc (.cells #[i64 n, .slice A L c] 41)) := (Kept.refl _ _).alloc _
  rcases Int.lt_or_le v 0 with h1 | h1
  · have hr : decide (0 ≤ v ∧ v < n) = false := decide_eq_false (by omega)
    rw [hr]
    clear hr
    have h2 : ¬ 0 ≤ v := by omega
    go_enter Try.func36, Try.ntmps36
    go_wp2_with fail
    go_ret
    exact ⟨rfl, hk⟩
  · rcases Int.lt_or_le v n with h2 | h2
    · have hr : decide (0 ≤ v ∧ v < n) = true := decide_eq_true (by omega)
      rw [hr]
      clear hr
      go_enter Try.func36, Try.ntmps36
      go_wp2_with fail
      go_ret
      exact ⟨rfl, hk⟩
    · have hr : decide (0 ≤ v ∧ v < n) = false := decide_eq_false (by omega)
      rw [hr]
      clear hr
      have h3 : ¬ v < n := by omega
      go_enter Try.func36, Try.ntmps36
      go_wp2_with fail
      go_ret
      exact ⟨by simp, hk⟩
theorem refWeight_any (v : Int) (w : World) : Calls Try.prog 37 #[u64 v] w fun e w' => e = .returned (.bool (decide (1 ≤ v ∧ v ≤ 4294967296))) ∧ w = w' := by
  rcases Int.lt_or_le v 1 with h1 | h1
  · have hr : decide (1 ≤ v ∧ v ≤ 4294967296) = false := decide_eq_false (by omega)
    rw [hr]
    clear hr
    have h2 : ¬ 1 ≤ v := by omega
    go_enter Try.func37, Try.ntmps37
    go_wp2_with fail
    go_ret
    exact ⟨rfl, rfl⟩
  · rcases Int.lt_or_le 4294967296 v with h2 | h2
    · have hr : decide (1 ≤ v ∧ v ≤ 4294967296) = false := decide_eq_false (by omega)
      rw [hr]
      clear hr
      have h3 : ¬ v ≤ 4294967296 := by omega
      go_enter Try.func37, Try.ntmps37
      go_wp2_with fail
      go_ret
      exact ⟨by simp, rfl⟩
    · have hr : decide (1 ≤ v ∧ v ≤ 4294967296) = true := decide_eq_true (by omega)
      rw [hr]
      clear hr
      go_enter Try.func37, Try.ntmps37
      go_wp2_with fail
      go_ret
      exact ⟨rfl, rfl⟩

set_option maxHeartbeats 4000000 in
set_option maxRecDepth 100000 in
theorem refRight_any (n : Int) (A : Option Addr) (c : Nat) (es : List Edg) (w : World) (h : RowE w A es) (hl : es.length ≤ 100000) :
    Calls Try.prog 19 #[.agg #[i64 n, .slice A es.length c]] w fun e w' => e = .returned (i64 (rightF n es)) ∧ Grew w w' := by
  obtain ⟨L, hL⟩ : ∃ L, es.length = L := ⟨_, rfl⟩
  have HL := Lib.hid hL
  rw [hL] at hl
  rw [hL]
  clear hL
  have b0 := Blk.new w 41 #[i64 n, .slice A L c]
  have hK0 : Grew w (w.alloc (.cells #[i64 n, .slice A L c] 41)) := (Kept.refl _ _).alloc _
  have hE := Lib.hid (h.grew hK0)
  clear h
  have hg0 := b0.cell 0
  have hg1 := b0.cell 1
  simp at hg0 hg1
  rcases Int.lt_or_le n 1 with h1 | h1
  · have hr : Hid (rightF n es = 2) := if_pos (.inl h1)
    go_enter Try.func19, Try.ntmps19
    go_wp2_with fail
    go_ret
    rw [hr.out]
    exact ⟨rfl, hK0⟩
  rcases Int.lt_or_le 4096 n with h2 | h2
  · have hr : Hid (rightF n es = 2) := if_pos (.inr h2)
    go_enter Try.func19, Try.ntmps19
    go_wp2_with fail
    go_ret
    rw [hr.out]
    exact ⟨rfl, hK0⟩
  have hs0 : Hid (rightF n es = if 16384 < es.length then 5 else if es.all (nodeOk n) = true then (if es.all wOk = true then 0 else 2) else 7) := if_neg (by omega)
  rcases Nat.lt_or_ge 16384 L with h3 | h3
  · have hr : Hid (rightF n es = 5) := hs0.out.trans (if_pos (by rw [HL.out]; exact h3))
    go_enter Try.func19, Try.ntmps19
    go_wp2_with fail
    go_ret
    rw [hr.out]
    exact ⟨rfl, hK0⟩
  have hs1 : Hid (rightF n es = if es.all (nodeOk n) = true then (if es.all wOk = true then 0 else 2) else 7) := hs0.out.trans (if_neg (by rw [HL.out]; omega))
  clear hs0
  go_enter Try.func19, Try.ntmps19
  go_wp2_with fail
  go_loopw [3] (fun i wr => ∃ (k : Nat), k ≤ L ∧ i = .int .i64 k ∧ Hid ((es.take k).all (nodeOk n) = true) ∧ Blk wr w.heap.size 41 #[i64 n, .slice A L c] ∧ Hid (RowE wr A es) ∧ Grew w wr) (fun i _ => L - (intOf i).toNat)
  case atStart => exact ⟨0, by omega, rfl, rfl, b0, hE, hK0⟩
  case round =>
    clear b0 hE hK0 hg0 hg1
    obtain ⟨k, hk, rfl, hS, b0, hE, hK⟩ := hrel
    have hg0 := b0.cell 0
    have hg1 := b0.cell 1
    simp at hg0 hg1
    by_cases hlt : k < L
    · obtain ⟨x, hx⟩ : ∃ x, es[k]? = some x := ⟨_, List.getElem?_eq_getElem (by rw [HL.out]; exact hlt)⟩
      obtain ⟨b, off, hAe, hb, e00, e01, e02⟩ := hE.out k x hx
      have HX := Lib.hid hx
      clear hx
      subst hAe
      obtain ⟨p, q, r⟩ := x
      have hk0 : (0 : Int) ≤ (k : Int) := by omega
      have hk1 : (k : Int) < (L : Int) := by omega
      replace b0 := b0.drew
      replace e00 : wr.drew.cell? ⟨b, off + k * 3, none⟩ = some (i64 p) := e00
      replace e01 : wr.drew.cell? ⟨b, off + k * 3 + 1, none⟩ = some (i64 q) := e01
      by_cases hp : 0 ≤ p ∧ p < n
      · have hnp : decide (0 ≤ p ∧ p < n) = true := decide_eq_true hp
        by_cases hq : 0 ≤ q ∧ q < n
        · have hnq : decide (0 ≤ q ∧ q < n) = true := decide_eq_true hq
          by_cases hpq : p = q
          · have hr : Hid (rightF n es = 7) := by
              show rightF n es = 7
              rw [hs1.out, all_fail HX.out (show nodeOk n (p, q, r) = false by simp [nodeOk, hpq])]
              rfl
            have hbq : (p == q) = true := by simpa using hpq
            clear hp hq hpq
            go_wp2_with fail
            refine wp_region_grow [] (fun _ => False) (by kernel_rfl) ?_
            simp only [List.size_toArray, List.length_cons, List.length_nil, Nat.reduceAdd]
            refine wpAnyG_take 0 24 (v := ?_) rfl (by kernel_rfl) rfl (by rfl) (fun w' hG' => ?_) ?_
            rotate_left
            · have hx0 := (b0.grew hG').cell 0
              have hx1 := (b0.grew hG').cell 1
              simp at hx0 hx1
              go_simp <;> with_reducible rfl
            simp only [List.setIfInBounds_toArray, List.set_cons_zero, List.set_cons_succ]
            refine wpAnyG_pure 1 25 (v := ?_) rfl (by kernel_rfl) rfl (by rfl) (fun w' => ?_) ?_
            rotate_left
            · go_simp <;> with_reducible rfl
            simp only [List.setIfInBounds_toArray, List.set_cons_zero, List.set_cons_succ]
            refine wpAnyG_take 2 26 (v := ?_) rfl (by kernel_rfl) rfl (by rfl) (fun w' hG' => ?_) ?_
            rotate_left
            · have hx0 := (b0.grew hG').cell 0
              have hx1 := (b0.grew hG').cell 1
              simp at hx0 hx1
              go_simp <;> with_reducible rfl
            simp only [List.setIfInBounds_toArray, List.set_cons_zero, List.set_cons_succ]
            refine wpAnyG_pure 3 27 (v := ?_) rfl (by kernel_rfl) rfl (by rfl) (fun w' => ?_) ?_
            rotate_left
            · go_simp <;> with_reducible rfl
            simp only [List.setIfInBounds_toArray, List.set_cons_zero, List.set_cons_succ]
            refine wpAnyG_pure 4 28 (v := ?_) rfl (by kernel_rfl) rfl (by rfl) (fun w' => ?_) ?_
            rotate_left
            · go_simp <;> with_reducible rfl
            simp only [List.setIfInBounds_toArray, List.set_cons_zero, List.set_cons_succ]
            refine wpAnyG_pure 5 29 (v := ?_) rfl (by kernel_rfl) rfl (by rfl) (fun w' => ?_) ?_
            rotate_left
            · go_simp <;> with_reducible rfl
            simp only [List.setIfInBounds_toArray, List.set_cons_zero, List.set_cons_succ]
            refine wpAnyG_take 6 30 (v := ?_) rfl (by kernel_rfl) rfl (by rfl) (fun w' hG' => ?_) ?_
            rotate_left
            · have hx := Grew.cell hG' e00
              go_simp <;> with_reducible rfl
            simp only [List.setIfInBounds_toArray, List.set_cons_zero, List.set_cons_succ]
            refine wpAnyG_step 7 31 rfl (by kernel_rfl) rfl (by rfl) (fun K hK' => ?_)
            go_simp
            refine (refNode_any n (some ⟨b, off, none⟩) L c p wr.drew).mono ?_
            rintro e w1 ⟨rfl, k1⟩
            rw [hnp]
            have b1 := b0.grew k1
            have e10 := Grew.cell k1 e00
            have e11 := Grew.cell k1 e01
            refine hK' _ _ (fun _ => k1) ?_
            clear hK'
            simp only [List.setIfInBounds_toArray, List.set_cons_zero, List.set_cons_succ]
            refine wpAnyG_pure 8 32 (v := ?_) rfl (by kernel_rfl) rfl (by rfl) (fun w' => ?_) ?_
            rotate_left
            · go_simp <;> with_reducible rfl
            simp only [List.setIfInBounds_toArray, List.set_cons_zero, List.set_cons_succ]
            refine wpAnyG_pure 9 33 (v := ?_) rfl (by kernel_rfl) rfl (by rfl) (fun w' => ?_) ?_
            rotate_left
            · go_simp <;> with_reducible rfl
            simp only [List.setIfInBounds_toArray, List.set_cons_zero, List.set_cons_succ]
            refine wpAnyG_take 10 34 (v := ?_) rfl (by kernel_rfl) rfl (by rfl) (fun w' hG' => ?_) ?_
            rotate_left
            · have hx0 := (b1.grew hG').cell 0
              have hx1 := (b1.grew hG').cell 1
              simp at hx0 hx1
              go_simp <;> with_reducible rfl
            simp only [List.setIfInBounds_toArray, List.set_cons_zero, List.set_cons_succ]
            refine wpAnyG_pure 11 35 (v := ?_) rfl (by kernel_rfl) rfl (by rfl) (fun w' => ?_) ?_
            rotate_left
            · go_simp <;> with_reducible rfl
            simp only [List.setIfInBounds_toArray, List.set_cons_zero, List.set_cons_succ]
            refine wpAnyG_take 12 36 (v := ?_) rfl (by kernel_rfl) rfl (by rfl) (fun w' hG' => ?_) ?_
            rotate_left
            · have hx0 := (b1.grew hG').cell 0
              have hx1 := (b1.grew hG').cell 1
              simp at hx0 hx1
              go_simp <;> with_reducible rfl
            simp only [List.setIfInBounds_toArray, List.set_cons_zero, List.set_cons_succ]
            refine wpAnyG_pure 13 37 (v := ?_) rfl (by kernel_rfl) rfl (by rfl) (fun w' => ?_) ?_
            rotate_left
            · go_simp <;> with_reducible rfl
            simp only [List.setIfInBounds_toArray, List.set_cons_zero, List.set_cons_succ]
            refine wpAnyG_pure 14 38 (v := ?_) rfl (by kernel_rfl) rfl (by rfl) (fun w' => ?_) ?_
            rotate_left
            · go_simp <;> with_reducible rfl
            simp only [List.setIfInBounds_toArray, List.set_cons_zero, List.set_cons_succ]
            refine wpAnyG_pure 15 39 (v := ?_) rfl (by kernel_rfl) rfl (by rfl) (fun w' => ?_) ?_
            rotate_left
            · go_simp <;> with_reducible rfl
            simp only [List.setIfInBounds_toArray, List.set_cons_zero, List.set_cons_succ]
            refine wpAnyG_take 16 40 (v := ?_) rfl (by kernel_rfl) rfl (by rfl) (fun w' hG' => ?_) ?_
            rotate_left
            · have hx := Grew.cell hG' e11
              go_simp <;> with_reducible rfl
            simp only [List.setIfInBounds_toArray, List.set_cons_zero, List.set_cons_succ]
            refine wpAnyG_step 17 41 rfl (by kernel_rfl) rfl (by rfl) (fun K hK' => ?_)
            go_simp
            refine (refNode_any n (some ⟨b, off, none⟩) L c q w1).mono ?_
            rintro e w2 ⟨rfl, k2⟩
            rw [hnq]
            have b2 := b1.grew k2
            have e20 := Grew.cell k2 e10
            have e21 := Grew.cell k2 e11
            refine hK' _ _ (fun _ => k2) ?_
            clear hK'
            simp only [List.setIfInBounds_toArray, List.set_cons_zero, List.set_cons_succ]
            refine wpAnyG_pure 18 42 (v := ?_) rfl (by kernel_rfl) rfl (by rfl) (fun w' => ?_) ?_
            rotate_left
            · go_simp <;> with_reducible rfl
            simp only [List.setIfInBounds_toArray, List.set_cons_zero, List.set_cons_succ]
            refine wpAnyG_pure 19 43 (v := ?_) rfl (by kernel_rfl) rfl (by rfl) (fun w' => ?_) ?_
            rotate_left
            · go_simp <;> with_reducible rfl
            simp only [List.setIfInBounds_toArray, List.set_cons_zero, List.set_cons_succ]
            refine wpAnyG_pure 20 44 (v := ?_) rfl (by kernel_rfl) rfl (by rfl) (fun w' => ?_) ?_
            rotate_left
            · go_simp <;> with_reducible rfl
            simp only [List.setIfInBounds_toArray, List.set_cons_zero, List.set_cons_succ]
            refine wpAnyG_pure 21 45 (v := ?_) rfl (by kernel_rfl) rfl (by rfl) (fun w' => ?_) ?_
            rotate_left
            · go_simp <;> with_reducible rfl
            simp only [List.setIfInBounds_toArray, List.set_cons_zero, List.set_cons_succ]
            refine wpAnyG_take 22 46 (v := ?_) rfl (by kernel_rfl) rfl (by rfl) (fun w' hG' => ?_) ?_
            rotate_left
            · have hx0 := (b2.grew hG').cell 0
              have hx1 := (b2.grew hG').cell 1
              simp at hx0 hx1
              go_simp <;> with_reducible rfl
            simp only [List.setIfInBounds_toArray, List.set_cons_zero, List.set_cons_succ]
            refine wpAnyG_pure 23 47 (v := ?_) rfl (by kernel_rfl) rfl (by rfl) (fun w' => ?_) ?_
            rotate_left
            · go_simp <;> with_reducible rfl
            simp only [List.setIfInBounds_toArray, List.set_cons_zero, List.set_cons_succ]
            refine wpAnyG_pure 24 48 (v := ?_) rfl (by kernel_rfl) rfl (by rfl) (fun w' => ?_) ?_
            rotate_left
            · go_simp <;> with_reducible rfl
            simp only [List.setIfInBounds_toArray, List.set_cons_zero, List.set_cons_succ]
            refine wpAnyG_pure 25 49 (v := ?_) rfl (by kernel_rfl) rfl (by rfl) (fun w' => ?_) ?_
            rotate_left
            · go_simp <;> with_reducible rfl
            simp only [List.setIfInBounds_toArray, List.set_cons_zero, List.set_cons_succ]
            refine wpAnyG_take 26 50 (v := ?_) rfl (by kernel_rfl) rfl (by rfl) (fun w' hG' => ?_) ?_
            rotate_left
            · have hx := Grew.cell hG' e20
              go_simp <;> with_reducible rfl
            simp only [List.setIfInBounds_toArray, List.set_cons_zero, List.set_cons_succ]
            refine wpAnyG_pure 27 51 (v := ?_) rfl (by kernel_rfl) rfl (by rfl) (fun w' => ?_) ?_
            rotate_left
            · go_simp <;> with_reducible rfl
            simp only [List.setIfInBounds_toArray, List.set_cons_zero, List.set_cons_succ]
            refine wpAnyG_take 28 52 (v := ?_) rfl (by kernel_rfl) rfl (by rfl) (fun w' hG' => ?_) ?_
            rotate_left
            · have hx0 := (b2.grew hG').cell 0
              have hx1 := (b2.grew hG').cell 1
              simp at hx0 hx1
              go_simp <;> with_reducible rfl
            simp only [List.setIfInBounds_toArray, List.set_cons_zero, List.set_cons_succ]
            refine wpAnyG_pure 29 53 (v := ?_) rfl (by kernel_rfl) rfl (by rfl) (fun w' => ?_) ?_
            rotate_left
            · go_simp <;> with_reducible rfl
            simp only [List.setIfInBounds_toArray, List.set_cons_zero, List.set_cons_succ]
            refine wpAnyG_pure 30 54 (v := ?_) rfl (by kernel_rfl) rfl (by rfl) (fun w' => ?_) ?_
            rotate_left
            · go_simp <;> with_reducible rfl
            simp only [List.setIfInBounds_toArray, List.set_cons_zero, List.set_cons_succ]
            refine wpAnyG_pure 31 55 (v := ?_) rfl (by kernel_rfl) rfl (by rfl) (fun w' => ?_) ?_
            rotate_left
            · go_simp <;> with_reducible rfl
            simp only [List.setIfInBounds_toArray, List.set_cons_zero, List.set_cons_succ]
            refine wpAnyG_take 32 56 (v := ?_) rfl (by kernel_rfl) rfl (by rfl) (fun w' hG' => ?_) ?_
            rotate_left
            · have hx := Grew.cell hG' e21
              go_simp <;> with_reducible rfl
            simp only [List.setIfInBounds_toArray, List.set_cons_zero, List.set_cons_succ]
            refine wpAnyG_pure 33 57 (v := ?_) rfl (by kernel_rfl) rfl (by rfl) (fun w' => ?_) ?_
            rotate_left
            · go_simp <;> with_reducible rfl
            simp only [List.setIfInBounds_toArray, List.set_cons_zero, List.set_cons_succ]
            refine wpAnyG_pure 34 58 (v := ?_) rfl (by kernel_rfl) rfl (by rfl) (fun w' => ?_) ?_
            rotate_left
            · go_simp <;> with_reducible rfl
            simp only [List.setIfInBounds_toArray, List.set_cons_zero, List.set_cons_succ]
            refine wpAnyG_done (by kernel_rfl) ?_
            go_wp2_with fail
            go_ret
            rw [hr.out]
            exact ⟨rfl, hK.trans (Kept.trans (Kept.refl _ _).drew (k1.trans k2))⟩
          · have hS1 : Hid ((es.take (k + 1)).all (nodeOk n) = true) := all_next hS.out HX.out (show nodeOk n (p, q, r) = true by simp [nodeOk, hnp, hnq, hpq])
            have hbq : (p == q) = false := by simpa using hpq
            clear hp hq hpq
            go_wp2_with fail
            refine wp_region_grow [] (fun _ => False) (by kernel_rfl) ?_
            simp only [List.size_toArray, List.length_cons, List.length_nil, Nat.reduceAdd]
            refine wpAnyG_take 0 24 (v := ?_) rfl (by kernel_rfl) rfl (by rfl) (fun w' hG' => ?_) ?_
            rotate_left
            · have hx0 := (b0.grew hG').cell 0
              have hx1 := (b0.grew hG').cell 1
              simp at hx0 hx1
              go_simp <;> with_reducible rfl
            simp only [List.setIfInBounds_toArray, List.set_cons_zero, List.set_cons_succ]
            refine wpAnyG_pure 1 25 (v := ?_) rfl (by kernel_rfl) rfl (by rfl) (fun w' => ?_) ?_
            rotate_left
            · go_simp <;> with_reducible rfl
            simp only [List.setIfInBounds_toArray, List.set_cons_zero, List.set_cons_succ]
            refine wpAnyG_take 2 26 (v := ?_) rfl (by kernel_rfl) rfl (by rfl) (fun w' hG' => ?_) ?_
            rotate_left
            · have hx0 := (b0.grew hG').cell 0
              have hx1 := (b0.grew hG').cell 1
              simp at hx0 hx1
              go_simp <;> with_reducible rfl
            simp only [List.setIfInBounds_toArray, List.set_cons_zero, List.set_cons_succ]
            refine wpAnyG_pure 3 27 (v := ?_) rfl (by kernel_rfl) rfl (by rfl) (fun w' => ?_) ?_
            rotate_left
            · go_simp <;> with_reducible rfl
            simp only [List.setIfInBounds_toArray, List.set_cons_zero, List.set_cons_succ]
            refine wpAnyG_pure 4 28 (v := ?_) rfl (by kernel_rfl) rfl (by rfl) (fun w' => ?_) ?_
            rotate_left
            · go_simp <;> with_reducible rfl
            simp only [List.setIfInBounds_toArray, List.set_cons_zero, List.set_cons_succ]
            refine wpAnyG_pure 5 29 (v := ?_) rfl (by kernel_rfl) rfl (by rfl) (fun w' => ?_) ?_
            rotate_left
            · go_simp <;> with_reducible rfl
            simp only [List.setIfInBounds_toArray, List.set_cons_zero, List.set_cons_succ]
            refine wpAnyG_take 6 30 (v := ?_) rfl (by kernel_rfl) rfl (by rfl) (fun w' hG' => ?_) ?_
            rotate_left
            · have hx := Grew.cell hG' e00
              go_simp <;> with_reducible rfl
            simp only [List.setIfInBounds_toArray, List.set_cons_zero, List.set_cons_succ]
            refine wpAnyG_step 7 31 rfl (by kernel_rfl) rfl (by rfl) (fun K hK' => ?_)
            go_simp
            refine (refNode_any n (some ⟨b, off, none⟩) L c p wr.drew).mono ?_
            rintro e w1 ⟨rfl, k1⟩
            rw [hnp]
            have b1 := b0.grew k1
            have e10 := Grew.cell k1 e00
            have e11 := Grew.cell k1 e01
            refine hK' _ _ (fun _ => k1) ?_
            clear hK'
            simp only [List.setIfInBounds_toArray, List.set_cons_zero, List.set_cons_succ]
            refine wpAnyG_pure 8 32 (v := ?_) rfl (by kernel_rfl) rfl (by rfl) (fun w' => ?_) ?_
            rotate_left
            · go_simp <;> with_reducible rfl
            simp only [List.setIfInBounds_toArray, List.set_cons_zero, List.set_cons_succ]
            refine wpAnyG_pure 9 33 (v := ?_) rfl (by kernel_rfl) rfl (by rfl) (fun w' => ?_) ?_
            rotate_left
            · go_simp <;> with_reducible rfl
            simp only [List.setIfInBounds_toArray, List.set_cons_zero, List.set_cons_succ]
            refine wpAnyG_take 10 34 (v := ?_) rfl (by kernel_rfl) rfl (by rfl) (fun w' hG' => ?_) ?_
            rotate_left
            · have hx0 := (b1.grew hG').cell 0
              have hx1 := (b1.grew hG').cell 1
              simp at hx0 hx1
              go_simp <;> with_reducible rfl
            simp only [List.setIfInBounds_toArray, List.set_cons_zero, List.set_cons_succ]
            refine wpAnyG_pure 11 35 (v := ?_) rfl (by kernel_rfl) rfl (by rfl) (fun w' => ?_) ?_
            rotate_left
            · go_simp <;> with_reducible rfl
            simp only [List.setIfInBounds_toArray, List.set_cons_zero, List.set_cons_succ]
            refine wpAnyG_take 12 36 (v := ?_) rfl (by kernel_rfl) rfl (by rfl) (fun w' hG' => ?_) ?_
            rotate_left
            · have hx0 := (b1.grew hG').cell 0
              have hx1 := (b1.grew hG').cell 1
              simp at hx0 hx1
              go_simp <;> with_reducible rfl
            simp only [List.setIfInBounds_toArray, List.set_cons_zero, List.set_cons_succ]
            refine wpAnyG_pure 13 37 (v := ?_) rfl (by kernel_rfl) rfl (by rfl) (fun w' => ?_) ?_
            rotate_left
            · go_simp <;> with_reducible rfl
            simp only [List.setIfInBounds_toArray, List.set_cons_zero, List.set_cons_succ]
            refine wpAnyG_pure 14 38 (v := ?_) rfl (by kernel_rfl) rfl (by rfl) (fun w' => ?_) ?_
            rotate_left
            · go_simp <;> with_reducible rfl
            simp only [List.setIfInBounds_toArray, List.set_cons_zero, List.set_cons_succ]
            refine wpAnyG_pure 15 39 (v := ?_) rfl (by kernel_rfl) rfl (by rfl) (fun w' => ?_) ?_
            rotate_left
            · go_simp <;> with_reducible rfl
            simp only [List.setIfInBounds_toArray, List.set_cons_zero, List.set_cons_succ]
            refine wpAnyG_take 16 40 (v := ?_) rfl (by kernel_rfl) rfl (by rfl) (fun w' hG' => ?_) ?_
            rotate_left
            · have hx := Grew.cell hG' e11
              go_simp <;> with_reducible rfl
            simp only [List.setIfInBounds_toArray, List.set_cons_zero, List.set_cons_succ]
            refine wpAnyG_step 17 41 rfl (by kernel_rfl) rfl (by rfl) (fun K hK' => ?_)
            go_simp
            refine (refNode_any n (some ⟨b, off, none⟩) L c q w1).mono ?_
            rintro e w2 ⟨rfl, k2⟩
            rw [hnq]
            have b2 := b1.grew k2
            have e20 := Grew.cell k2 e10
            have e21 := Grew.cell k2 e11
            refine hK' _ _ (fun _ => k2) ?_
            clear hK'
            simp only [List.setIfInBounds_toArray, List.set_cons_zero, List.set_cons_succ]
            refine wpAnyG_pure 18 42 (v := ?_) rfl (by kernel_rfl) rfl (by rfl) (fun w' => ?_) ?_
            rotate_left
            · go_simp <;> with_reducible rfl
            simp only [List.setIfInBounds_toArray, List.set_cons_zero, List.set_cons_succ]
            refine wpAnyG_pure 19 43 (v := ?_) rfl (by kernel_rfl) rfl (by rfl) (fun w' => ?_) ?_
            rotate_left
            · go_simp <;> with_reducible rfl
            simp only [List.setIfInBounds_toArray, List.set_cons_zero, List.set_cons_succ]
            refine wpAnyG_pure 20 44 (v := ?_) rfl (by kernel_rfl) rfl (by rfl) (fun w' => ?_) ?_
            rotate_left
            · go_simp <;> with_reducible rfl
            simp only [List.setIfInBounds_toArray, List.set_cons_zero, List.set_cons_succ]
            refine wpAnyG_pure 21 45 (v := ?_) rfl (by kernel_rfl) rfl (by rfl) (fun w' => ?_) ?_
            rotate_left
            · go_simp <;> with_reducible rfl
            simp only [List.setIfInBounds_toArray, List.set_cons_zero, List.set_cons_succ]
            refine wpAnyG_take 22 46 (v := ?_) rfl (by kernel_rfl) rfl (by rfl) (fun w' hG' => ?_) ?_
            rotate_left
            · have hx0 := (b2.grew hG').cell 0
              have hx1 := (b2.grew hG').cell 1
              simp at hx0 hx1
              go_simp <;> with_reducible rfl
            simp only [List.setIfInBounds_toArray, List.set_cons_zero, List.set_cons_succ]
            refine wpAnyG_pure 23 47 (v := ?_) rfl (by kernel_rfl) rfl (by rfl) (fun w' => ?_) ?_
            rotate_left
            · go_simp <;> with_reducible rfl
            simp only [List.setIfInBounds_toArray, List.set_cons_zero, List.set_cons_succ]
            refine wpAnyG_pure 24 48 (v := ?_) rfl (by kernel_rfl) rfl (by rfl) (fun w' => ?_) ?_
            rotate_left
            · go_simp <;> with_reducible rfl
            simp only [List.setIfInBounds_toArray, List.set_cons_zero, List.set_cons_succ]
            refine wpAnyG_pure 25 49 (v := ?_) rfl (by kernel_rfl) rfl (by rfl) (fun w' => ?_) ?_
            rotate_left
            · go_simp <;> with_reducible rfl
            simp only [List.setIfInBounds_toArray, List.set_cons_zero, List.set_cons_succ]
            refine wpAnyG_take 26 50 (v := ?_) rfl (by kernel_rfl) rfl (by rfl) (fun w' hG' => ?_) ?_
            rotate_left
            · have hx := Grew.cell hG' e20
              go_simp <;> with_reducible rfl
            simp only [List.setIfInBounds_toArray, List.set_cons_zero, List.set_cons_succ]
            refine wpAnyG_pure 27 51 (v := ?_) rfl (by kernel_rfl) rfl (by rfl) (fun w' => ?_) ?_
            rotate_left
            · go_simp <;> with_reducible rfl
            simp only [List.setIfInBounds_toArray, List.set_cons_zero, List.set_cons_succ]
            refine wpAnyG_take 28 52 (v := ?_) rfl (by kernel_rfl) rfl (by rfl) (fun w' hG' => ?_) ?_
            rotate_left
            · have hx0 := (b2.grew hG').cell 0
              have hx1 := (b2.grew hG').cell 1
              simp at hx0 hx1
              go_simp <;> with_reducible rfl
            simp only [List.setIfInBounds_toArray, List.set_cons_zero, List.set_cons_succ]
            refine wpAnyG_pure 29 53 (v := ?_) rfl (by kernel_rfl) rfl (by rfl) (fun w' => ?_) ?_
            rotate_left
            · go_simp <;> with_reducible rfl
            simp only [List.setIfInBounds_toArray, List.set_cons_zero, List.set_cons_succ]
            refine wpAnyG_pure 30 54 (v := ?_) rfl (by kernel_rfl) rfl (by rfl) (fun w' => ?_) ?_
            rotate_left
            · go_simp <;> with_reducible rfl
            simp only [List.setIfInBounds_toArray, List.set_cons_zero, List.set_cons_succ]
            refine wpAnyG_pure 31 55 (v := ?_) rfl (by kernel_rfl) rfl (by rfl) (fun w' => ?_) ?_
            rotate_left
            · go_simp <;> with_reducible rfl
            simp only [List.setIfInBounds_toArray, List.set_cons_zero, List.set_cons_succ]
            refine wpAnyG_take 32 56 (v := ?_) rfl (by kernel_rfl) rfl (by rfl) (fun w' hG' => ?_) ?_
            rotate_left
            · have hx := Grew.cell hG' e21
              go_simp <;> with_reducible rfl
            simp only [List.setIfInBounds_toArray, List.set_cons_zero, List.set_cons_succ]
            refine wpAnyG_pure 33 57 (v := ?_) rfl (by kernel_rfl) rfl (by rfl) (fun w' => ?_) ?_
            rotate_left
            · go_simp <;> with_reducible rfl
            simp only [List.setIfInBounds_toArray, List.set_cons_zero, List.set_cons_succ]
            refine wpAnyG_pure 34 58 (v := ?_) rfl (by kernel_rfl) rfl (by rfl) (fun w' => ?_) ?_
            rotate_left
            · go_simp <;> with_reducible rfl
            simp only [List.setIfInBounds_toArray, List.set_cons_zero, List.set_cons_succ]
            refine wpAnyG_done (by kernel_rfl) ?_
            go_wp2_with fail
            go_roundw
            case rel => exact ⟨k + 1, by omega, by go_num, hS1, b2, Lib.hid (hE.out.grew (Kept.trans (Kept.refl _ _).drew (k1.trans k2))), hK.trans (Kept.trans (Kept.refl _ _).drew (k1.trans k2))⟩
            case measure => simp [intOf]; omega
        · have hnq : decide (0 ≤ q ∧ q < n) = false := decide_eq_false hq
          have hr : Hid (rightF n es = 7) := by
            show rightF n es = 7
            rw [hs1.out, all_fail HX.out (show nodeOk n (p, q, r) = false by simp [nodeOk, hnq])]
            rfl
          clear hp hq
          go_wp2_with fail
          refine wp_region_grow [] (fun _ => False) (by kernel_rfl) ?_
          simp only [List.size_toArray, List.length_cons, List.length_nil, Nat.reduceAdd]
          refine wpAnyG_take 0 24 (v := ?_) rfl (by kernel_rfl) rfl (by rfl) (fun w' hG' => ?_) ?_
          rotate_left
          · have hx0 := (b0.grew hG').cell 0
            have hx1 := (b0.grew hG').cell 1
            simp at hx0 hx1
            go_simp <;> with_reducible rfl
          simp only [List.setIfInBounds_toArray, List.set_cons_zero, List.set_cons_succ]
          refine wpAnyG_pure 1 25 (v := ?_) rfl (by kernel_rfl) rfl (by rfl) (fun w' => ?_) ?_
          rotate_left
          · go_simp <;> with_reducible rfl
          simp only [List.setIfInBounds_toArray, List.set_cons_zero, List.set_cons_succ]
          refine wpAnyG_take 2 26 (v := ?_) rfl (by kernel_rfl) rfl (by rfl) (fun w' hG' => ?_) ?_
          rotate_left
          · have hx0 := (b0.grew hG').cell 0
            have hx1 := (b0.grew hG').cell 1
            simp at hx0 hx1
            go_simp <;> with_reducible rfl
          simp only [List.setIfInBounds_toArray, List.set_cons_zero, List.set_cons_succ]
          refine wpAnyG_pure 3 27 (v := ?_) rfl (by kernel_rfl) rfl (by rfl) (fun w' => ?_) ?_
          rotate_left
          · go_simp <;> with_reducible rfl
          simp only [List.setIfInBounds_toArray, List.set_cons_zero, List.set_cons_succ]
          refine wpAnyG_pure 4 28 (v := ?_) rfl (by kernel_rfl) rfl (by rfl) (fun w' => ?_) ?_
          rotate_left
          · go_simp <;> with_reducible rfl
          simp only [List.setIfInBounds_toArray, List.set_cons_zero, List.set_cons_succ]
          refine wpAnyG_pure 5 29 (v := ?_) rfl (by kernel_rfl) rfl (by rfl) (fun w' => ?_) ?_
          rotate_left
          · go_simp <;> with_reducible rfl
          simp only [List.setIfInBounds_toArray, List.set_cons_zero, List.set_cons_succ]
          refine wpAnyG_take 6 30 (v := ?_) rfl (by kernel_rfl) rfl (by rfl) (fun w' hG' => ?_) ?_
          rotate_left
          · have hx := Grew.cell hG' e00
            go_simp <;> with_reducible rfl
          simp only [List.setIfInBounds_toArray, List.set_cons_zero, List.set_cons_succ]
          refine wpAnyG_step 7 31 rfl (by kernel_rfl) rfl (by rfl) (fun K hK' => ?_)
          go_simp
          refine (refNode_any n (some ⟨b, off, none⟩) L c p wr.drew).mono ?_
          rintro e w1 ⟨rfl, k1⟩
          rw [hnp]
          have b1 := b0.grew k1
          have e10 := Grew.cell k1 e00
          have e11 := Grew.cell k1 e01
          refine hK' _ _ (fun _ => k1) ?_
          clear hK'
          simp only [List.setIfInBounds_toArray, List.set_cons_zero, List.set_cons_succ]
          refine wpAnyG_pure 8 32 (v := ?_) rfl (by kernel_rfl) rfl (by rfl) (fun w' => ?_) ?_
          rotate_left
          · go_simp <;> with_reducible rfl
          simp only [List.setIfInBounds_toArray, List.set_cons_zero, List.set_cons_succ]
          refine wpAnyG_pure 9 33 (v := ?_) rfl (by kernel_rfl) rfl (by rfl) (fun w' => ?_) ?_
          rotate_left
          · go_simp <;> with_reducible rfl
          simp only [List.setIfInBounds_toArray, List.set_cons_zero, List.set_cons_succ]
          refine wpAnyG_take 10 34 (v := ?_) rfl (by kernel_rfl) rfl (by rfl) (fun w' hG' => ?_) ?_
          rotate_left
          · have hx0 := (b1.grew hG').cell 0
            have hx1 := (b1.grew hG').cell 1
            simp at hx0 hx1
            go_simp <;> with_reducible rfl
          simp only [List.setIfInBounds_toArray, List.set_cons_zero, List.set_cons_succ]
          refine wpAnyG_pure 11 35 (v := ?_) rfl (by kernel_rfl) rfl (by rfl) (fun w' => ?_) ?_
          rotate_left
          · go_simp <;> with_reducible rfl
          simp only [List.setIfInBounds_toArray, List.set_cons_zero, List.set_cons_succ]
          refine wpAnyG_take 12 36 (v := ?_) rfl (by kernel_rfl) rfl (by rfl) (fun w' hG' => ?_) ?_
          rotate_left
          · have hx0 := (b1.grew hG').cell 0
            have hx1 := (b1.grew hG').cell 1
            simp at hx0 hx1
            go_simp <;> with_reducible rfl
          simp only [List.setIfInBounds_toArray, List.set_cons_zero, List.set_cons_succ]
          refine wpAnyG_pure 13 37 (v := ?_) rfl (by kernel_rfl) rfl (by rfl) (fun w' => ?_) ?_
          rotate_left
          · go_simp <;> with_reducible rfl
          simp only [List.setIfInBounds_toArray, List.set_cons_zero, List.set_cons_succ]
          refine wpAnyG_pure 14 38 (v := ?_) rfl (by kernel_rfl) rfl (by rfl) (fun w' => ?_) ?_
          rotate_left
          · go_simp <;> with_reducible rfl
          simp only [List.setIfInBounds_toArray, List.set_cons_zero, List.set_cons_succ]
          refine wpAnyG_pure 15 39 (v := ?_) rfl (by kernel_rfl) rfl (by rfl) (fun w' => ?_) ?_
          rotate_left
          · go_simp <;> with_reducible rfl
          simp only [List.setIfInBounds_toArray, List.set_cons_zero, List.set_cons_succ]
          refine wpAnyG_take 16 40 (v := ?_) rfl (by kernel_rfl) rfl (by rfl) (fun w' hG' => ?_) ?_
          rotate_left
          · have hx := Grew.cell hG' e11
            go_simp <;> with_reducible rfl
          simp only [List.setIfInBounds_toArray, List.set_cons_zero, List.set_cons_succ]
          refine wpAnyG_step 17 41 rfl (by kernel_rfl) rfl (by rfl) (fun K hK' => ?_)
          go_simp
          refine (refNode_any n (some ⟨b, off, none⟩) L c q w1).mono ?_
          rintro e w2 ⟨rfl, k2⟩
          rw [hnq]
          have b2 := b1.grew k2
          have e20 := Grew.cell k2 e10
          have e21 := Grew.cell k2 e11
          refine hK' _ _ (fun _ => k2) ?_
          clear hK'
          simp only [List.setIfInBounds_toArray, List.set_cons_zero, List.set_cons_succ]
          refine wpAnyG_pure 18 42 (v := ?_) rfl (by kernel_rfl) rfl (by rfl) (fun w' => ?_) ?_
          rotate_left
          · go_simp <;> with_reducible rfl
          simp only [List.setIfInBounds_toArray, List.set_cons_zero, List.set_cons_succ]
          refine wpAnyG_pure 19 43 (v := ?_) rfl (by kernel_rfl) rfl (by rfl) (fun w' => ?_) ?_
          rotate_left
          · go_simp <;> with_reducible rfl
          simp only [List.setIfInBounds_toArray, List.set_cons_zero, List.set_cons_succ]
          refine wpAnyG_pure 20 44 (v := ?_) rfl (by kernel_rfl) rfl (by rfl) (fun w' => ?_) ?_
          rotate_left
          · go_simp <;> with_reducible rfl
          simp only [List.setIfInBounds_toArray, List.set_cons_zero, List.set_cons_succ]
          refine wpAnyG_pass 21 45 rfl (by kernel_rfl) rfl (by rfl) ?_
          simp only [List.setIfInBounds_toArray, List.set_cons_zero, List.set_cons_succ]
          refine wpAnyG_pass 22 46 rfl (by kernel_rfl) rfl (by rfl) ?_
          simp only [List.setIfInBounds_toArray, List.set_cons_zero, List.set_cons_succ]
          refine wpAnyG_pass 23 47 rfl (by kernel_rfl) rfl (by rfl) ?_
          simp only [List.setIfInBounds_toArray, List.set_cons_zero, List.set_cons_succ]
          refine wpAnyG_pass 24 48 rfl (by kernel_rfl) rfl (by rfl) ?_
          simp only [List.setIfInBounds_toArray, List.set_cons_zero, List.set_cons_succ]
          refine wpAnyG_pass 25 49 rfl (by kernel_rfl) rfl (by rfl) ?_
          simp only [List.setIfInBounds_toArray, List.set_cons_zero, List.set_cons_succ]
          refine wpAnyG_pass 26 50 rfl (by kernel_rfl) rfl (by rfl) ?_
          simp only [List.setIfInBounds_toArray, List.set_cons_zero, List.set_cons_succ]
          refine wpAnyG_pass 27 51 rfl (by kernel_rfl) rfl (by rfl) ?_
          simp only [List.setIfInBounds_toArray, List.set_cons_zero, List.set_cons_succ]
          refine wpAnyG_pass 28 52 rfl (by kernel_rfl) rfl (by rfl) ?_
          simp only [List.setIfInBounds_toArray, List.set_cons_zero, List.set_cons_succ]
          refine wpAnyG_pass 29 53 rfl (by kernel_rfl) rfl (by rfl) ?_
          simp only [List.setIfInBounds_toArray, List.set_cons_zero, List.set_cons_succ]
          refine wpAnyG_pass 30 54 rfl (by kernel_rfl) rfl (by rfl) ?_
          simp only [List.setIfInBounds_toArray, List.set_cons_zero, List.set_cons_succ]
          refine wpAnyG_pass 31 55 rfl (by kernel_rfl) rfl (by rfl) ?_
          simp only [List.setIfInBounds_toArray, List.set_cons_zero, List.set_cons_succ]
          refine wpAnyG_pass 32 56 rfl (by kernel_rfl) rfl (by rfl) ?_
          simp only [List.setIfInBounds_toArray, List.set_cons_zero, List.set_cons_succ]
          refine wpAnyG_pass 33 57 rfl (by kernel_rfl) rfl (by rfl) ?_
          simp only [List.setIfInBounds_toArray, List.set_cons_zero, List.set_cons_succ]
          refine wpAnyG_pure 34 58 (v := ?_) rfl (by kernel_rfl) rfl (by rfl) (fun w' => ?_) ?_
          rotate_left
          · go_simp <;> with_reducible rfl
          simp only [List.setIfInBounds_toArray, List.set_cons_zero, List.set_cons_succ]
          refine wpAnyG_done (by kernel_rfl) ?_
          go_wp2_with fail
          go_ret
          rw [hr.out]
          exact ⟨rfl, hK.trans (Kept.trans (Kept.refl _ _).drew (k1.trans k2))⟩
      · have hnp : decide (0 ≤ p ∧ p < n) = false := decide_eq_false hp
        have hr : Hid (rightF n es = 7) := by
          show rightF n es = 7
          rw [hs1.out, all_fail HX.out (show nodeOk n (p, q, r) = false by simp [nodeOk, hnp])]
          rfl
        clear hp
        go_wp2_with fail
        refine wp_region_grow [] (fun _ => False) (by kernel_rfl) ?_
        simp only [List.size_toArray, List.length_cons, List.length_nil, Nat.reduceAdd]
        refine wpAnyG_take 0 24 (v := ?_) rfl (by kernel_rfl) rfl (by rfl) (fun w' hG' => ?_) ?_
        rotate_left
        · have hx0 := (b0.grew hG').cell 0
          have hx1 := (b0.grew hG').cell 1
          simp at hx0 hx1
          go_simp <;> with_reducible rfl
        simp only [List.setIfInBounds_toArray, List.set_cons_zero, List.set_cons_succ]
        refine wpAnyG_pure 1 25 (v := ?_) rfl (by kernel_rfl) rfl (by rfl) (fun w' => ?_) ?_
        rotate_left
        · go_simp <;> with_reducible rfl
        simp only [List.setIfInBounds_toArray, List.set_cons_zero, List.set_cons_succ]
        refine wpAnyG_take 2 26 (v := ?_) rfl (by kernel_rfl) rfl (by rfl) (fun w' hG' => ?_) ?_
        rotate_left
        · have hx0 := (b0.grew hG').cell 0
          have hx1 := (b0.grew hG').cell 1
          simp at hx0 hx1
          go_simp <;> with_reducible rfl
        simp only [List.setIfInBounds_toArray, List.set_cons_zero, List.set_cons_succ]
        refine wpAnyG_pure 3 27 (v := ?_) rfl (by kernel_rfl) rfl (by rfl) (fun w' => ?_) ?_
        rotate_left
        · go_simp <;> with_reducible rfl
        simp only [List.setIfInBounds_toArray, List.set_cons_zero, List.set_cons_succ]
        refine wpAnyG_pure 4 28 (v := ?_) rfl (by kernel_rfl) rfl (by rfl) (fun w' => ?_) ?_
        rotate_left
        · go_simp <;> with_reducible rfl
        simp only [List.setIfInBounds_toArray, List.set_cons_zero, List.set_cons_succ]
        refine wpAnyG_pure 5 29 (v := ?_) rfl (by kernel_rfl) rfl (by rfl) (fun w' => ?_) ?_
        rotate_left
        · go_simp <;> with_reducible rfl
        simp only [List.setIfInBounds_toArray, List.set_cons_zero, List.set_cons_succ]
        refine wpAnyG_take 6 30 (v := ?_) rfl (by kernel_rfl) rfl (by rfl) (fun w' hG' => ?_) ?_
        rotate_left
        · have hx := Grew.cell hG' e00
          go_simp <;> with_reducible rfl
        simp only [List.setIfInBounds_toArray, List.set_cons_zero, List.set_cons_succ]
        refine wpAnyG_step 7 31 rfl (by kernel_rfl) rfl (by rfl) (fun K hK' => ?_)
        go_simp
        refine (refNode_any n (some ⟨b, off, none⟩) L c p wr.drew).mono ?_
        rintro e w1 ⟨rfl, k1⟩
        rw [hnp]
        have b1 := b0.grew k1
        have e10 := Grew.cell k1 e00
        have e11 := Grew.cell k1 e01
        refine hK' _ _ (fun _ => k1) ?_
        clear hK'
        simp only [List.setIfInBounds_toArray, List.set_cons_zero, List.set_cons_succ]
        refine wpAnyG_pure 8 32 (v := ?_) rfl (by kernel_rfl) rfl (by rfl) (fun w' => ?_) ?_
        rotate_left
        · go_simp <;> with_reducible rfl
        simp only [List.setIfInBounds_toArray, List.set_cons_zero, List.set_cons_succ]
        refine wpAnyG_pure 9 33 (v := ?_) rfl (by kernel_rfl) rfl (by rfl) (fun w' => ?_) ?_
        rotate_left
        · go_simp <;> with_reducible rfl
        simp only [List.setIfInBounds_toArray, List.set_cons_zero, List.set_cons_succ]
        refine wpAnyG_pass 10 34 rfl (by kernel_rfl) rfl (by rfl) ?_
        simp only [List.setIfInBounds_toArray, List.set_cons_zero, List.set_cons_succ]
        refine wpAnyG_pass 11 35 rfl (by kernel_rfl) rfl (by rfl) ?_
        simp only [List.setIfInBounds_toArray, List.set_cons_zero, List.set_cons_succ]
        refine wpAnyG_pass 12 36 rfl (by kernel_rfl) rfl (by rfl) ?_
        simp only [List.setIfInBounds_toArray, List.set_cons_zero, List.set_cons_succ]
        refine wpAnyG_pass 13 37 rfl (by kernel_rfl) rfl (by rfl) ?_
        simp only [List.setIfInBounds_toArray, List.set_cons_zero, List.set_cons_succ]
        refine wpAnyG_pass 14 38 rfl (by kernel_rfl) rfl (by rfl) ?_
        simp only [List.setIfInBounds_toArray, List.set_cons_zero, List.set_cons_succ]
        refine wpAnyG_pass 15 39 rfl (by kernel_rfl) rfl (by rfl) ?_
        simp only [List.setIfInBounds_toArray, List.set_cons_zero, List.set_cons_succ]
        refine wpAnyG_pass 16 40 rfl (by kernel_rfl) rfl (by rfl) ?_
        simp only [List.setIfInBounds_toArray, List.set_cons_zero, List.set_cons_succ]
        refine wpAnyG_pass 17 41 rfl (by kernel_rfl) rfl (by rfl) ?_
        simp only [List.setIfInBounds_toArray, List.set_cons_zero, List.set_cons_succ]
        refine wpAnyG_pass 18 42 rfl (by kernel_rfl) rfl (by rfl) ?_
        simp only [List.setIfInBounds_toArray, List.set_cons_zero, List.set_cons_succ]
        refine wpAnyG_pure 19 43 (v := ?_) rfl (by kernel_rfl) rfl (by rfl) (fun w' => ?_) ?_
        rotate_left
        · go_simp <;> with_reducible rfl
        simp only [List.setIfInBounds_toArray, List.set_cons_zero, List.set_cons_succ]
        refine wpAnyG_pure 20 44 (v := ?_) rfl (by kernel_rfl) rfl (by rfl) (fun w' => ?_) ?_
        rotate_left
        · go_simp <;> with_reducible rfl
        simp only [List.setIfInBounds_toArray, List.set_cons_zero, List.set_cons_succ]
        refine wpAnyG_pass 21 45 rfl (by kernel_rfl) rfl (by rfl) ?_
        simp only [List.setIfInBounds_toArray, List.set_cons_zero, List.set_cons_succ]
        refine wpAnyG_pass 22 46 rfl (by kernel_rfl) rfl (by rfl) ?_
        simp only [List.setIfInBounds_toArray, List.set_cons_zero, List.set_cons_succ]
        refine wpAnyG_pass 23 47 rfl (by kernel_rfl) rfl (by rfl) ?_
        simp only [List.setIfInBounds_toArray, List.set_cons_zero, List.set_cons_succ]
        refine wpAnyG_pass 24 48 rfl (by kernel_rfl) rfl (by rfl) ?_
        simp only [List.setIfInBounds_toArray, List.set_cons_zero, List.set_cons_succ]
        refine wpAnyG_pass 25 49 rfl (by kernel_rfl) rfl (by rfl) ?_
        simp only [List.setIfInBounds_toArray, List.set_cons_zero, List.set_cons_succ]
        refine wpAnyG_pass 26 50 rfl (by kernel_rfl) rfl (by rfl) ?_
        simp only [List.setIfInBounds_toArray, List.set_cons_zero, List.set_cons_succ]
        refine wpAnyG_pass 27 51 rfl (by kernel_rfl) rfl (by rfl) ?_
        simp only [List.setIfInBounds_toArray, List.set_cons_zero, List.set_cons_succ]
        refine wpAnyG_pass 28 52 rfl (by kernel_rfl) rfl (by rfl) ?_
        simp only [List.setIfInBounds_toArray, List.set_cons_zero, List.set_cons_succ]
        refine wpAnyG_pass 29 53 rfl (by kernel_rfl) rfl (by rfl) ?_
        simp only [List.setIfInBounds_toArray, List.set_cons_zero, List.set_cons_succ]
        refine wpAnyG_pass 30 54 rfl (by kernel_rfl) rfl (by rfl) ?_
        simp only [List.setIfInBounds_toArray, List.set_cons_zero, List.set_cons_succ]
        refine wpAnyG_pass 31 55 rfl (by kernel_rfl) rfl (by rfl) ?_
        simp only [List.setIfInBounds_toArray, List.set_cons_zero, List.set_cons_succ]
        refine wpAnyG_pass 32 56 rfl (by kernel_rfl) rfl (by rfl) ?_
        simp only [List.setIfInBounds_toArray, List.set_cons_zero, List.set_cons_succ]
        refine wpAnyG_pass 33 57 rfl (by kernel_rfl) rfl (by rfl) ?_
        simp only [List.setIfInBounds_toArray, List.set_cons_zero, List.set_cons_succ]
        refine wpAnyG_pure 34 58 (v := ?_) rfl (by kernel_rfl) rfl (by rfl) (fun w' => ?_) ?_
        rotate_left
        · go_simp <;> with_reducible rfl
        simp only [List.setIfInBounds_toArray, List.set_cons_zero, List.set_cons_succ]
        refine wpAnyG_done (by kernel_rfl) ?_
        go_wp2_with fail
        go_ret
        rw [hr.out]
        exact ⟨rfl, hK.trans (Kept.trans (Kept.refl _ _).drew k1)⟩
    · obtain rfl : k = L := by omega
      have hs2 : Hid (rightF n es = if es.all wOk = true then 0 else 2) := by
        have h := hS.out
        rw [List.take_of_length_le (by rw [HL.out]; exact Nat.le_refl _)] at h
        exact hs1.out.trans (if_pos h)
      go_wp2_with fail
      go_loopw [4] (fun i wz => ∃ (j : Nat), j ≤ k ∧ i = .int .i64 j ∧ Hid ((es.take j).all wOk = true) ∧ Blk wz w.heap.size 41 #[i64 n, .slice A k c] ∧ Hid (RowE wz A es) ∧ Grew w wz) (fun i _ => k - (intOf i).toNat)
      case atStart => exact ⟨0, by omega, rfl, rfl, b0, hE, hK⟩
      case round =>
        clear b0 hE hK hg0 hg1 hS
        rename_i wz _ _
        obtain ⟨j, hj, rfl, hS, b0, hE, hK⟩ := hrel
        have hg0 := b0.cell 0
        have hg1 := b0.cell 1
        simp at hg0 hg1
        by_cases hlt : j < k
        · obtain ⟨x, hx⟩ : ∃ x, es[j]? = some x := ⟨_, List.getElem?_eq_getElem (by rw [HL.out]; exact hlt)⟩
          obtain ⟨b, off, hAe, hb, e00, e01, e02⟩ := hE.out j x hx
          have HX := Lib.hid hx
          clear hx
          subst hAe
          obtain ⟨p, q, r⟩ := x
          by_cases hp : 1 ≤ r ∧ r ≤ 4294967296
          · have hW := Lib.hid (fun W => refWeight_any r W)
            rw [decide_eq_true hp] at hW
            have hS1 : Hid ((es.take (j + 1)).all wOk = true) := all_next hS.out HX.out (decide_eq_true hp)
            clear hp
            go_wp2_with fail
            refine (hW.out _).mono ?_
            rintro e w1 ⟨rfl, rfl⟩
            go_wp2_with fail
            go_roundw
            case rel => exact ⟨j + 1, by omega, by go_num, hS1, b0, hE, hK⟩
            case measure => simp [intOf]; omega
          · have hW := Lib.hid (fun W => refWeight_any r W)
            rw [decide_eq_false hp] at hW
            have hr : Hid (rightF n es = 2) := by
              show rightF n es = 2
              rw [hs2.out, all_fail HX.out (show wOk (p, q, r) = false from decide_eq_false hp)]
              rfl
            clear hp
            go_wp2_with fail
            refine (hW.out _).mono ?_
            rintro e w1 ⟨rfl, rfl⟩
            go_wp2_with fail
            go_ret
            rw [hr.out]
            exact ⟨rfl, hK⟩
        · obtain rfl : j = k := by omega
          have hr : Hid (rightF n es = 0) := by
            have h := hS.out
            rw [List.take_of_length_le (by rw [HL.out]; exact Nat.le_refl _)] at h
            exact hs2.out.trans (if_pos h)
          go_wp2_with fail
          go_ret
          rw [hr.out]
          exact ⟨rfl, hK⟩
end Go.Proofs.Ythbcgdogmkgebaa.Gr
