/- Arcs merged by definition. -/
import Derived.Test.YthbcgdogmkgebaaMerge
import Derived.RegionTactic
import Derived.Deep.DeepCutAuto
namespace Go.Proofs.Ythbcgdogmkgebaa
open Go.RowKit

theorem info_rarc : (Try.prog.info? 58).map (fun i => (i.zero, i.size, i.bytes)) = some (some (.agg #[i64 0, u64 0]), 2, 16) := by kernel_rfl
/-- A row of the document's arcs of one's own. -/
def OwnR (w : World) (B : Nat) (v : Value) (l : List Ar) : Prop := w.ownsRow B 58 2 v l.length (cellsA l)
theorem OwnR.grew {w w' : World} {B : Nat} {v : Value} {l : List Ar} (h : OwnR w B v l) (k : Grew w w') : OwnR w' B v l := k.own h
theorem OwnR.row {w : World} {B : Nat} {v : Value} {l : List Ar} (h : OwnR w B v l) : ∃ A c, v = .slice A l.length c ∧ RowA w A l := by
  rcases h.2 with ⟨hv, h0⟩ | ⟨g, cap, cur, hv, hb, hg, rest⟩
  · exact ⟨none, 0, by rw [hv, h0], by rw [List.eq_nil_of_length_eq_zero h0]; exact RowA.nil _ _⟩
  · refine ⟨_, cap, hv, fun i e hi => ⟨g, 0, rfl, (Array.getElem?_eq_some_iff.1 hg).1, ?_, ?_⟩⟩
    · subst hv
      have hl := (List.getElem?_eq_some_iff.1 hi).1
      have h1 := World.ownsRow.cellAt h (i * 2 + 0) (by omega)
      rw [Nat.zero_add]
      exact h1.trans (cellsA_get l i 0 e hi (by omega))
    · subst hv
      have hl := (List.getElem?_eq_some_iff.1 hi).1
      have h1 := World.ownsRow.cellAt h (i * 2 + 1) (by omega)
      rw [Nat.zero_add]
      exact h1.trans (cellsA_get l i 1 e hi (by omega))
theorem rarc_empty (w : World) (B : Nat) (hB : B ≤ w.heap.size) : (w.alloc (.cells #[] 58)).ownsRow B 58 2 (.slice (some ⟨w.heap.size, 0, none⟩) 0 0) 0 [] :=
  ⟨rfl, .inr ⟨w.heap.size, 0, #[], rfl, hB, heap_alloc_new w _, Nat.le_refl _, by unfold maxLen; omega, rfl, rfl⟩⟩
theorem OwnR.base {w : World} {B B' : Nat} {v : Value} {l : List Ar} (h : OwnR w B v l) (hB : B' ≤ B) : OwnR w B' v l := by
  refine ⟨h.1, ?_⟩
  rcases h.2 with hn | ⟨g, cap, cur, hv, hg, r⟩
  · exact .inl hn
  · exact .inr ⟨g, cap, cur, hv, by omega, r⟩
theorem OwnR.some {w : World} {B c n : Nat} {A : Option Addr} {l : List Ar} (h : OwnR w B (.slice A n c) l) : n = l.length ∧ ((A = none ∧ l = [] ∧ c = 0) ∨ ∃ g, A = some ⟨g, 0, none⟩ ∧ B ≤ g ∧ g < w.heap.size ∧ l.length ≤ c ∧ c ≤ maxLen) := by
  rcases h.2 with ⟨hv, h0⟩ | ⟨g, cap, cur, hv, hb, hg, h1, h2, _⟩
  · obtain ⟨a1, a2, a3⟩ := Value.slice.inj hv
    exact ⟨by omega, .inl ⟨a1, List.eq_nil_of_length_eq_zero h0, a3⟩⟩
  · obtain ⟨a1, a2, a3⟩ := Value.slice.inj hv
    exact ⟨a2, .inr ⟨g, a1, hb, (Array.getElem?_eq_some_iff.1 hg).1, by omega, by omega⟩⟩

theorem run_append_none {i0 : TypeInfo} (hi : Try.prog.info? 58 = some i0) (w : World) (g n c : Nat) (h : n ≤ c) (ty : TypeId) : (Builtin.append_ #[42, 42] ty #[.slice (some ⟨g, 0, none⟩) n c, .slice none 0 0]).run Try.prog w = .ok (.slice (some ⟨g, 0, none⟩) n c) w := by
  simp [Builtin.append_, run_underlying Try.underlying42, sizeOf, typeInfo, hi, Builtin.lenOf, Builtin.firstCells, loadCells, loadCellsFrom, storeCells, h]

theorem own_cap {w : World} {base n size g cap : Nat} {e : TypeId} {xs : List Value} (h : w.ownsRow base e size (.slice (some ⟨g, 0, none⟩) n cap) n xs) : n ≤ cap := by
  rcases h.2 with ⟨hv, _⟩ | ⟨g', cap', _, hv, _, _, q, _⟩
  · cases hv
  · cases hv; exact q
/-! ### Plain -/
def beats (l : List Ar) (i : Nat) (x : Ar) (j : Nat) : Prop := ∃ y, l[j]? = some y ∧ y.1 = x.1 ∧ (y.2 < x.2 ∨ (y.2 = x.2 ∧ j < i))
theorem beats_not {l : List Ar} {k n : Nat} {x y : Ar} (hy : l[n]? = some y) (h : ¬ (y.1 = x.1 ∧ (y.2 < x.2 ∨ (y.2 = x.2 ∧ n < k)))) : ¬ beats l k x n := fun ⟨y', h1, h2, h3⟩ => by
  rw [hy] at h1
  obtain rfl := Option.some.inj h1
  exact h ⟨h2, h3⟩
theorem best_all {l : List Ar} {L i : Nat} {x : Ar} (hL : l.length = L) : (∀ j, j < L → ¬ beats l i x j) ↔ bestI l i x :=
  ⟨fun h j y hy h1 h2 => h j (by rw [← hL]; exact (List.getElem?_eq_some_iff.1 hy).1) ⟨y, hy, h1, h2⟩, fun h j _ ⟨y, hy, h1, h2⟩ => h j y hy h1 h2⟩
def BT (l : List Ar) (i : Nat) (x : Ar) (n : Nat) (t : Bool) : Prop := t = true ↔ ∀ j, j < n → ¬ beats l i x j
theorem BT.start (l : List Ar) (i : Nat) (x : Ar) : BT l i x 0 true := ⟨fun _ j h => by omega, fun _ => rfl⟩
theorem BT.no {l : List Ar} {i n : Nat} {x : Ar} {t : Bool} (h : BT l i x n t) (hb : ¬ beats l i x n) : BT l i x (n + 1) t :=
  h.trans ⟨fun q j hj => by
    by_cases e : j = n
    · rw [e]; exact hb
    · exact q j (by omega), fun q j hj => q j (by omega)⟩
theorem BT.yes {l : List Ar} {i n : Nat} {x : Ar} (hb : beats l i x n) : BT l i x (n + 1) false :=
  ⟨fun h => absurd h (by decide), fun q => absurd hb (q n (by omega))⟩
theorem cellsA_drop : ∀ (l : List Ar) (n j : Nat), (cellsA (l.drop n))[j]? = (cellsA l)[n * 2 + j]?
  | l, 0, j => by simp
  | [], n + 1, j => by simp [cellsA]
  | x :: l, n + 1, j => by
    rw [List.drop_succ_cons, cellsA_drop l n j, cellsA, cellsA, List.flatMap_cons, List.getElem?_append_right (by simp [arCells]; omega)]
    congr 1
    simp [arCells]
    omega
theorem cellsA_take (l : List Ar) (n j : Nat) (u : Value) (h : (cellsA (l.take n))[j]? = some u) : (cellsA l)[j]? = some u := by
  have e : cellsA l = cellsA (l.take n) ++ cellsA (l.drop n) := by rw [← cellsA_append, List.take_append_drop]
  rw [e, List.getElem?_append_left ((List.getElem?_eq_some_iff.1 h).1)]
  exact h

set_option maxHeartbeats 8000000 in
set_option maxRecDepth 100000 in
theorem refMerged_any (A : Option Addr) (c : Nat) (l : List Ar) (w : World) (h : RowA w A l) (hl : l.length ≤ 60) :
    Calls Try.prog 18 #[.slice A l.length c] w fun e w' => ∃ A' c' out, e = .returned (.slice A' (List.length out) c') ∧ RowA w' A' out ∧ List.length out ≤ 60 ∧ Kept2 l l.length out ∧ Grew w w' := by
  obtain ⟨i0, hi, hz0, hz1, hz2⟩ := info_parts info_rarc
  obtain ⟨L, hL⟩ : ∃ L, l.length = L := ⟨_, rfl⟩
  have HL := Lib.hid hL
  have HE := Lib.hid h
  rw [hL] at hl ⊢
  clear h hL
  go_enter Try.func18, Try.ntmps18
  go_wp2_with fail
  go_loopw [3, 4] (fun o i wr => ∃ (k : Nat) (out : List Ar), k ≤ L ∧ i = .int .i64 k ∧ Hid (OwnR wr w.heap.size o out ∧ Kept2 l k out ∧ out.length ≤ k) ∧ Grew w wr) (fun _ i _ => L - (intOf i).toNat)
  case atStart => exact ⟨0, [], by omega, rfl, ⟨World.ownsRow_nil _ _ _ _, Kept2.start l, by simp⟩, Kept.refl _ _⟩
  case round =>
    obtain ⟨k, out, hk, rfl, hS, hK⟩ := hrel
    obtain ⟨Ao, co, ho, _⟩ := hS.out.1.row
    subst ho
    by_cases hlt : k < L
    · obtain ⟨⟨p, q⟩, hx⟩ : ∃ x, l[k]? = some x := ⟨_, List.getElem?_eq_getElem (by rw [HL.out]; exact hlt)⟩
      obtain ⟨b, off, hAe, hb, e0, e1⟩ := HE.out k _ hx
      have hAe' := Lib.hid hAe
      dsimp only at e0 e1
      have HX := Lib.hid hx
      have HC := Lib.hid (show w.cell? _ = _ ∧ w.cell? _ = _ from ⟨e0, e1⟩)
      have hOS := hS.out.1.some.2
      have hKP := Lib.hid hS.out.2
      obtain ⟨no, hno⟩ : ∃ n, out.length = n := ⟨_, rfl⟩
      have HO := Lib.hid hno
      have hnk0 : no ≤ k := by have := hS.out.2.2; omega
      have k0 : (0 : Int) ≤ (k : Int) := by omega
      have k1 : (k : Int) < (L : Int) := by omega
      rw [hno] at hS ⊢
      have hS0 : Hid (OwnR wr w.heap.size (.slice Ao no co) out ∧ BT l k (p, q) 0 true) := ⟨hS.out.1, BT.start l k (p, q)⟩
      clear hS hno hx
      go_wp2_with fail
      go_loopw [5, 7] (fun t j wr => ∃ (n : Nat) (tr : Bool), n ≤ L ∧ t = .bool tr ∧ j = .int .i64 n ∧ Hid (OwnR wr w.heap.size (.slice Ao no co) out ∧ BT l k (p, q) n tr) ∧ Grew w wr) (fun _ j _ => L - (intOf j).toNat)
      case atStart => exact ⟨0, true, by omega, rfl, rfl, hS0, hK⟩
      case round =>
        clear hS0 hK
        obtain ⟨n, tr, hn, rfl, rfl, hS, hK⟩ := hrel
        by_cases hlt2 : n < L
        · as_aux_lemma =>
          obtain ⟨⟨p', q'⟩, hy⟩ : ∃ y, l[n]? = some y := ⟨_, List.getElem?_eq_getElem (by rw [HL.out]; exact hlt2)⟩
          obtain ⟨b', off', hAe2, hb', d0, d1⟩ := HE.out n _ hy
          rw [hAe] at hAe2
          obtain ⟨rfl, rfl, _⟩ : b = b' ∧ off = off' ∧ True := by cases hAe2; exact ⟨rfl, rfl, trivial⟩
          subst hAe
          replace e0 := hK.cell e0
          replace e1 := hK.cell e1
          replace d0 := hK.cell d0
          replace d1 := hK.cell d1
          dsimp only at d0 d1
          have HY := Lib.hid hy
          have k2 : (0 : Int) ≤ (n : Int) := by omega
          have k3 : (n : Int) < (L : Int) := by omega
          clear hy hAe2 hOS hKP HC HE
          by_cases hp : p' = p
          · subst hp
            by_cases hq : q' < q
            · as_aux_lemma =>
              have hp1 : decide (q' < q) = true := decide_eq_true hq
              have hS1 : Hid (OwnR wr w.heap.size (.slice Ao no co) out ∧ BT l k (p', q) (n + 1) false) := ⟨hS.out.1, BT.yes ⟨_, HY.out, rfl, .inl hq⟩⟩
              clear hS HY
              go_upto_region 10 with fail
              refine wp_region_grow [] (fun _ => False) (by kernel_rfl) ?_
              simp only [List.size_toArray, List.length_cons, List.length_nil, Nat.reduceAdd]
              refine wpAnyG_pure 0 21 (v := ?_) rfl (by kernel_rfl) rfl (by rfl) (fun w' => ?_) ?_
              rotate_left
              · go_simp <;> with_reducible rfl
              simp only [List.setIfInBounds_toArray, List.set_cons_zero, List.set_cons_succ]
              refine wpAnyG_pure 1 22 (v := ?_) rfl (by kernel_rfl) rfl (by rfl) (fun w' => ?_) ?_
              rotate_left
              · go_simp <;> with_reducible rfl
              simp only [List.setIfInBounds_toArray, List.set_cons_zero, List.set_cons_succ]
              refine wpAnyG_pure 2 23 (v := ?_) rfl (by kernel_rfl) rfl (by rfl) (fun w' => ?_) ?_
              rotate_left
              · go_simp <;> with_reducible rfl
              simp only [List.setIfInBounds_toArray, List.set_cons_zero, List.set_cons_succ]
              refine wpAnyG_pure 3 24 (v := ?_) rfl (by kernel_rfl) rfl (by rfl) (fun w' => ?_) ?_
              rotate_left
              · go_simp <;> with_reducible rfl
              simp only [List.setIfInBounds_toArray, List.set_cons_zero, List.set_cons_succ]
              refine wpAnyG_take 4 25 (v := ?_) rfl (by kernel_rfl) rfl (by rfl) (fun w' hG' => ?_) ?_
              rotate_left
              · have hx0 := Grew.cell hG' (show wr.drew.cell? _ = _ from e0)
                have hx1 := Grew.cell hG' (show wr.drew.cell? _ = _ from e1)
                have hx2 := Grew.cell hG' (show wr.drew.cell? _ = _ from d0)
                have hx3 := Grew.cell hG' (show wr.drew.cell? _ = _ from d1)
                go_simp <;> with_reducible rfl
              simp only [List.setIfInBounds_toArray, List.set_cons_zero, List.set_cons_succ]
              refine wpAnyG_pure 5 26 (v := ?_) rfl (by kernel_rfl) rfl (by rfl) (fun w' => ?_) ?_
              rotate_left
              · go_simp <;> with_reducible rfl
              simp only [List.setIfInBounds_toArray, List.set_cons_zero, List.set_cons_succ]
              refine wpAnyG_pure 6 27 (v := ?_) rfl (by kernel_rfl) rfl (by rfl) (fun w' => ?_) ?_
              rotate_left
              · go_simp <;> with_reducible rfl
              simp only [List.setIfInBounds_toArray, List.set_cons_zero, List.set_cons_succ]
              refine wpAnyG_pure 7 28 (v := ?_) rfl (by kernel_rfl) rfl (by rfl) (fun w' => ?_) ?_
              rotate_left
              · go_simp <;> with_reducible rfl
              simp only [List.setIfInBounds_toArray, List.set_cons_zero, List.set_cons_succ]
              refine wpAnyG_pure 8 29 (v := ?_) rfl (by kernel_rfl) rfl (by rfl) (fun w' => ?_) ?_
              rotate_left
              · go_simp <;> with_reducible rfl
              simp only [List.setIfInBounds_toArray, List.set_cons_zero, List.set_cons_succ]
              refine wpAnyG_take 9 30 (v := ?_) rfl (by kernel_rfl) rfl (by rfl) (fun w' hG' => ?_) ?_
              rotate_left
              · have hx0 := Grew.cell hG' (show wr.drew.cell? _ = _ from e0)
                have hx1 := Grew.cell hG' (show wr.drew.cell? _ = _ from e1)
                have hx2 := Grew.cell hG' (show wr.drew.cell? _ = _ from d0)
                have hx3 := Grew.cell hG' (show wr.drew.cell? _ = _ from d1)
                go_simp <;> with_reducible rfl
              simp only [List.setIfInBounds_toArray, List.set_cons_zero, List.set_cons_succ]
              refine wpAnyG_pure 10 31 (v := ?_) rfl (by kernel_rfl) rfl (by rfl) (fun w' => ?_) ?_
              rotate_left
              · go_simp <;> with_reducible rfl
              simp only [List.setIfInBounds_toArray, List.set_cons_zero, List.set_cons_succ]
              refine wpAnyG_pure 11 32 (v := ?_) rfl (by kernel_rfl) rfl (by rfl) (fun w' => ?_) ?_
              rotate_left
              · go_simp <;> with_reducible rfl
              simp only [List.setIfInBounds_toArray, List.set_cons_zero, List.set_cons_succ]
              refine wpAnyG_pure 12 33 (v := ?_) rfl (by kernel_rfl) rfl (by rfl) (fun w' => ?_) ?_
              rotate_left
              · go_simp <;> with_reducible rfl
              simp only [List.setIfInBounds_toArray, List.set_cons_zero, List.set_cons_succ]
              refine wpAnyG_pure 13 34 (v := ?_) rfl (by kernel_rfl) rfl (by rfl) (fun w' => ?_) ?_
              rotate_left
              · go_simp <;> with_reducible rfl
              simp only [List.setIfInBounds_toArray, List.set_cons_zero, List.set_cons_succ]
              refine wpAnyG_pure 14 35 (v := ?_) rfl (by kernel_rfl) rfl (by rfl) (fun w' => ?_) ?_
              rotate_left
              · go_simp <;> with_reducible rfl
              simp only [List.setIfInBounds_toArray, List.set_cons_zero, List.set_cons_succ]
              refine wpAnyG_pure 15 36 (v := ?_) rfl (by kernel_rfl) rfl (by rfl) (fun w' => ?_) ?_
              rotate_left
              · go_simp <;> with_reducible rfl
              simp only [List.setIfInBounds_toArray, List.set_cons_zero, List.set_cons_succ]
              refine wpAnyG_take 16 37 (v := ?_) rfl (by kernel_rfl) rfl (by rfl) (fun w' hG' => ?_) ?_
              rotate_left
              · have hx0 := Grew.cell hG' (show wr.drew.cell? _ = _ from e0)
                have hx1 := Grew.cell hG' (show wr.drew.cell? _ = _ from e1)
                have hx2 := Grew.cell hG' (show wr.drew.cell? _ = _ from d0)
                have hx3 := Grew.cell hG' (show wr.drew.cell? _ = _ from d1)
                go_simp <;> with_reducible rfl
              simp only [List.setIfInBounds_toArray, List.set_cons_zero, List.set_cons_succ]
              refine wpAnyG_pure 17 38 (v := ?_) rfl (by kernel_rfl) rfl (by rfl) (fun w' => ?_) ?_
              rotate_left
              · go_simp <;> with_reducible rfl
              simp only [List.setIfInBounds_toArray, List.set_cons_zero, List.set_cons_succ]
              refine wpAnyG_pure 18 39 (v := ?_) rfl (by kernel_rfl) rfl (by rfl) (fun w' => ?_) ?_
              rotate_left
              · go_simp <;> with_reducible rfl
              simp only [List.setIfInBounds_toArray, List.set_cons_zero, List.set_cons_succ]
              refine wpAnyG_pure 19 40 (v := ?_) rfl (by kernel_rfl) rfl (by rfl) (fun w' => ?_) ?_
              rotate_left
              · go_simp <;> with_reducible rfl
              simp only [List.setIfInBounds_toArray, List.set_cons_zero, List.set_cons_succ]
              refine wpAnyG_pure 20 41 (v := ?_) rfl (by kernel_rfl) rfl (by rfl) (fun w' => ?_) ?_
              rotate_left
              · go_simp <;> with_reducible rfl
              simp only [List.setIfInBounds_toArray, List.set_cons_zero, List.set_cons_succ]
              refine wpAnyG_take 21 42 (v := ?_) rfl (by kernel_rfl) rfl (by rfl) (fun w' hG' => ?_) ?_
              rotate_left
              · have hx0 := Grew.cell hG' (show wr.drew.cell? _ = _ from e0)
                have hx1 := Grew.cell hG' (show wr.drew.cell? _ = _ from e1)
                have hx2 := Grew.cell hG' (show wr.drew.cell? _ = _ from d0)
                have hx3 := Grew.cell hG' (show wr.drew.cell? _ = _ from d1)
                go_simp <;> with_reducible rfl
              simp only [List.setIfInBounds_toArray, List.set_cons_zero, List.set_cons_succ]
              refine wpAnyG_pure 22 43 (v := ?_) rfl (by kernel_rfl) rfl (by rfl) (fun w' => ?_) ?_
              rotate_left
              · go_simp <;> with_reducible rfl
              simp only [List.setIfInBounds_toArray, List.set_cons_zero, List.set_cons_succ]
              refine wpAnyG_pure 23 44 (v := ?_) rfl (by kernel_rfl) rfl (by rfl) (fun w' => ?_) ?_
              rotate_left
              · go_simp <;> with_reducible rfl
              simp only [List.setIfInBounds_toArray, List.set_cons_zero, List.set_cons_succ]
              refine wpAnyG_pass 24 45 rfl (by kernel_rfl) rfl (by rfl) ?_
              simp only [List.setIfInBounds_toArray, List.set_cons_zero, List.set_cons_succ]
              refine wpAnyG_pass 25 46 rfl (by kernel_rfl) rfl (by rfl) ?_
              simp only [List.setIfInBounds_toArray, List.set_cons_zero, List.set_cons_succ]
              refine wpAnyG_pass 26 47 rfl (by kernel_rfl) rfl (by rfl) ?_
              simp only [List.setIfInBounds_toArray, List.set_cons_zero, List.set_cons_succ]
              refine wpAnyG_pass 27 48 rfl (by kernel_rfl) rfl (by rfl) ?_
              simp only [List.setIfInBounds_toArray, List.set_cons_zero, List.set_cons_succ]
              refine wpAnyG_pass 28 49 rfl (by kernel_rfl) rfl (by rfl) ?_
              simp only [List.setIfInBounds_toArray, List.set_cons_zero, List.set_cons_succ]
              refine wpAnyG_pass 29 50 rfl (by kernel_rfl) rfl (by rfl) ?_
              simp only [List.setIfInBounds_toArray, List.set_cons_zero, List.set_cons_succ]
              refine wpAnyG_pass 30 51 rfl (by kernel_rfl) rfl (by rfl) ?_
              simp only [List.setIfInBounds_toArray, List.set_cons_zero, List.set_cons_succ]
              refine wpAnyG_pass 31 52 rfl (by kernel_rfl) rfl (by rfl) ?_
              simp only [List.setIfInBounds_toArray, List.set_cons_zero, List.set_cons_succ]
              refine wpAnyG_pass 32 53 rfl (by kernel_rfl) rfl (by rfl) ?_
              simp only [List.setIfInBounds_toArray, List.set_cons_zero, List.set_cons_succ]
              refine wpAnyG_pass 33 54 rfl (by kernel_rfl) rfl (by rfl) ?_
              simp only [List.setIfInBounds_toArray, List.set_cons_zero, List.set_cons_succ]
              refine wpAnyG_pass 34 55 rfl (by kernel_rfl) rfl (by rfl) ?_
              simp only [List.setIfInBounds_toArray, List.set_cons_zero, List.set_cons_succ]
              refine wpAnyG_pass 35 56 rfl (by kernel_rfl) rfl (by rfl) ?_
              simp only [List.setIfInBounds_toArray, List.set_cons_zero, List.set_cons_succ]
              refine wpAnyG_pass 36 57 rfl (by kernel_rfl) rfl (by rfl) ?_
              simp only [List.setIfInBounds_toArray, List.set_cons_zero, List.set_cons_succ]
              refine wpAnyG_pass 37 58 rfl (by kernel_rfl) rfl (by rfl) ?_
              simp only [List.setIfInBounds_toArray, List.set_cons_zero, List.set_cons_succ]
              refine wpAnyG_pass 38 59 rfl (by kernel_rfl) rfl (by rfl) ?_
              simp only [List.setIfInBounds_toArray, List.set_cons_zero, List.set_cons_succ]
              refine wpAnyG_pass 39 60 rfl (by kernel_rfl) rfl (by rfl) ?_
              simp only [List.setIfInBounds_toArray, List.set_cons_zero, List.set_cons_succ]
              refine wpAnyG_pure 40 61 (v := ?_) rfl (by kernel_rfl) rfl (by rfl) (fun w' => ?_) ?_
              rotate_left
              · go_simp <;> with_reducible rfl
              simp only [List.setIfInBounds_toArray, List.set_cons_zero, List.set_cons_succ]
              refine wpAnyG_pure 41 62 (v := ?_) rfl (by kernel_rfl) rfl (by rfl) (fun w' => ?_) ?_
              rotate_left
              · go_simp <;> with_reducible rfl
              simp only [List.setIfInBounds_toArray, List.set_cons_zero, List.set_cons_succ]
              refine wpAnyG_done (by kernel_rfl) ?_
              clear e0 e1 d0 d1
              have hK1 := hK.drew
              go_wp2_with fail
              go_roundw
              case rel => exact ⟨n + 1, false, by omega, by go_num, by go_num, hS1, hK1⟩
              case measure => simp [intOf]; omega
            · by_cases hq2 : q' = q
              · subst hq2
                by_cases hnk : n < k
                · as_aux_lemma =>
                  have hp1 : decide (q' < q') = false := decide_eq_false hq
                  have l3 : (n : Int) < (k : Int) := by omega
                  have hS1 : Hid (OwnR wr w.heap.size (.slice Ao no co) out ∧ BT l k (p', q') (n + 1) false) := ⟨hS.out.1, BT.yes ⟨_, HY.out, rfl, .inr ⟨rfl, hnk⟩⟩⟩
                  clear hS HY
                  go_upto_region 10 with fail
                  refine wp_region_grow [] (fun _ => False) (by kernel_rfl) ?_
                  simp only [List.size_toArray, List.length_cons, List.length_nil, Nat.reduceAdd]
                  refine wpAnyG_pure 0 21 (v := ?_) rfl (by kernel_rfl) rfl (by rfl) (fun w' => ?_) ?_
                  rotate_left
                  · go_simp <;> with_reducible rfl
                  simp only [List.setIfInBounds_toArray, List.set_cons_zero, List.set_cons_succ]
                  refine wpAnyG_pure 1 22 (v := ?_) rfl (by kernel_rfl) rfl (by rfl) (fun w' => ?_) ?_
                  rotate_left
                  · go_simp <;> with_reducible rfl
                  simp only [List.setIfInBounds_toArray, List.set_cons_zero, List.set_cons_succ]
                  refine wpAnyG_pure 2 23 (v := ?_) rfl (by kernel_rfl) rfl (by rfl) (fun w' => ?_) ?_
                  rotate_left
                  · go_simp <;> with_reducible rfl
                  simp only [List.setIfInBounds_toArray, List.set_cons_zero, List.set_cons_succ]
                  refine wpAnyG_pure 3 24 (v := ?_) rfl (by kernel_rfl) rfl (by rfl) (fun w' => ?_) ?_
                  rotate_left
                  · go_simp <;> with_reducible rfl
                  simp only [List.setIfInBounds_toArray, List.set_cons_zero, List.set_cons_succ]
                  refine wpAnyG_take 4 25 (v := ?_) rfl (by kernel_rfl) rfl (by rfl) (fun w' hG' => ?_) ?_
                  rotate_left
                  · have hx0 := Grew.cell hG' (show wr.drew.cell? _ = _ from e0)
                    have hx1 := Grew.cell hG' (show wr.drew.cell? _ = _ from e1)
                    have hx2 := Grew.cell hG' (show wr.drew.cell? _ = _ from d0)
                    have hx3 := Grew.cell hG' (show wr.drew.cell? _ = _ from d1)
                    go_simp <;> with_reducible rfl
                  simp only [List.setIfInBounds_toArray, List.set_cons_zero, List.set_cons_succ]
                  refine wpAnyG_pure 5 26 (v := ?_) rfl (by kernel_rfl) rfl (by rfl) (fun w' => ?_) ?_
                  rotate_left
                  · go_simp <;> with_reducible rfl
                  simp only [List.setIfInBounds_toArray, List.set_cons_zero, List.set_cons_succ]
                  refine wpAnyG_pure 6 27 (v := ?_) rfl (by kernel_rfl) rfl (by rfl) (fun w' => ?_) ?_
                  rotate_left
                  · go_simp <;> with_reducible rfl
                  simp only [List.setIfInBounds_toArray, List.set_cons_zero, List.set_cons_succ]
                  refine wpAnyG_pure 7 28 (v := ?_) rfl (by kernel_rfl) rfl (by rfl) (fun w' => ?_) ?_
                  rotate_left
                  · go_simp <;> with_reducible rfl
                  simp only [List.setIfInBounds_toArray, List.set_cons_zero, List.set_cons_succ]
                  refine wpAnyG_pure 8 29 (v := ?_) rfl (by kernel_rfl) rfl (by rfl) (fun w' => ?_) ?_
                  rotate_left
                  · go_simp <;> with_reducible rfl
                  simp only [List.setIfInBounds_toArray, List.set_cons_zero, List.set_cons_succ]
                  refine wpAnyG_take 9 30 (v := ?_) rfl (by kernel_rfl) rfl (by rfl) (fun w' hG' => ?_) ?_
                  rotate_left
                  · have hx0 := Grew.cell hG' (show wr.drew.cell? _ = _ from e0)
                    have hx1 := Grew.cell hG' (show wr.drew.cell? _ = _ from e1)
                    have hx2 := Grew.cell hG' (show wr.drew.cell? _ = _ from d0)
                    have hx3 := Grew.cell hG' (show wr.drew.cell? _ = _ from d1)
                    go_simp <;> with_reducible rfl
                  simp only [List.setIfInBounds_toArray, List.set_cons_zero, List.set_cons_succ]
                  refine wpAnyG_pure 10 31 (v := ?_) rfl (by kernel_rfl) rfl (by rfl) (fun w' => ?_) ?_
                  rotate_left
                  · go_simp <;> with_reducible rfl
                  simp only [List.setIfInBounds_toArray, List.set_cons_zero, List.set_cons_succ]
                  refine wpAnyG_pure 11 32 (v := ?_) rfl (by kernel_rfl) rfl (by rfl) (fun w' => ?_) ?_
                  rotate_left
                  · go_simp <;> with_reducible rfl
                  simp only [List.setIfInBounds_toArray, List.set_cons_zero, List.set_cons_succ]
                  refine wpAnyG_pure 12 33 (v := ?_) rfl (by kernel_rfl) rfl (by rfl) (fun w' => ?_) ?_
                  rotate_left
                  · go_simp <;> with_reducible rfl
                  simp only [List.setIfInBounds_toArray, List.set_cons_zero, List.set_cons_succ]
                  refine wpAnyG_pure 13 34 (v := ?_) rfl (by kernel_rfl) rfl (by rfl) (fun w' => ?_) ?_
                  rotate_left
                  · go_simp <;> with_reducible rfl
                  simp only [List.setIfInBounds_toArray, List.set_cons_zero, List.set_cons_succ]
                  refine wpAnyG_pure 14 35 (v := ?_) rfl (by kernel_rfl) rfl (by rfl) (fun w' => ?_) ?_
                  rotate_left
                  · go_simp <;> with_reducible rfl
                  simp only [List.setIfInBounds_toArray, List.set_cons_zero, List.set_cons_succ]
                  refine wpAnyG_pure 15 36 (v := ?_) rfl (by kernel_rfl) rfl (by rfl) (fun w' => ?_) ?_
                  rotate_left
                  · go_simp <;> with_reducible rfl
                  simp only [List.setIfInBounds_toArray, List.set_cons_zero, List.set_cons_succ]
                  refine wpAnyG_take 16 37 (v := ?_) rfl (by kernel_rfl) rfl (by rfl) (fun w' hG' => ?_) ?_
                  rotate_left
                  · have hx0 := Grew.cell hG' (show wr.drew.cell? _ = _ from e0)
                    have hx1 := Grew.cell hG' (show wr.drew.cell? _ = _ from e1)
                    have hx2 := Grew.cell hG' (show wr.drew.cell? _ = _ from d0)
                    have hx3 := Grew.cell hG' (show wr.drew.cell? _ = _ from d1)
                    go_simp <;> with_reducible rfl
                  simp only [List.setIfInBounds_toArray, List.set_cons_zero, List.set_cons_succ]
                  refine wpAnyG_pure 17 38 (v := ?_) rfl (by kernel_rfl) rfl (by rfl) (fun w' => ?_) ?_
                  rotate_left
                  · go_simp <;> with_reducible rfl
                  simp only [List.setIfInBounds_toArray, List.set_cons_zero, List.set_cons_succ]
                  refine wpAnyG_pure 18 39 (v := ?_) rfl (by kernel_rfl) rfl (by rfl) (fun w' => ?_) ?_
                  rotate_left
                  · go_simp <;> with_reducible rfl
                  simp only [List.setIfInBounds_toArray, List.set_cons_zero, List.set_cons_succ]
                  refine wpAnyG_pure 19 40 (v := ?_) rfl (by kernel_rfl) rfl (by rfl) (fun w' => ?_) ?_
                  rotate_left
                  · go_simp <;> with_reducible rfl
                  simp only [List.setIfInBounds_toArray, List.set_cons_zero, List.set_cons_succ]
                  refine wpAnyG_pure 20 41 (v := ?_) rfl (by kernel_rfl) rfl (by rfl) (fun w' => ?_) ?_
                  rotate_left
                  · go_simp <;> with_reducible rfl
                  simp only [List.setIfInBounds_toArray, List.set_cons_zero, List.set_cons_succ]
                  refine wpAnyG_take 21 42 (v := ?_) rfl (by kernel_rfl) rfl (by rfl) (fun w' hG' => ?_) ?_
                  rotate_left
                  · have hx0 := Grew.cell hG' (show wr.drew.cell? _ = _ from e0)
                    have hx1 := Grew.cell hG' (show wr.drew.cell? _ = _ from e1)
                    have hx2 := Grew.cell hG' (show wr.drew.cell? _ = _ from d0)
                    have hx3 := Grew.cell hG' (show wr.drew.cell? _ = _ from d1)
                    go_simp <;> with_reducible rfl
                  simp only [List.setIfInBounds_toArray, List.set_cons_zero, List.set_cons_succ]
                  refine wpAnyG_pure 22 43 (v := ?_) rfl (by kernel_rfl) rfl (by rfl) (fun w' => ?_) ?_
                  rotate_left
                  · go_simp <;> with_reducible rfl
                  simp only [List.setIfInBounds_toArray, List.set_cons_zero, List.set_cons_succ]
                  refine wpAnyG_pure 23 44 (v := ?_) rfl (by kernel_rfl) rfl (by rfl) (fun w' => ?_) ?_
                  rotate_left
                  · go_simp <;> with_reducible rfl
                  simp only [List.setIfInBounds_toArray, List.set_cons_zero, List.set_cons_succ]
                  refine wpAnyG_pure 24 45 (v := ?_) rfl (by kernel_rfl) rfl (by rfl) (fun w' => ?_) ?_
                  rotate_left
                  · go_simp <;> with_reducible rfl
                  simp only [List.setIfInBounds_toArray, List.set_cons_zero, List.set_cons_succ]
                  refine wpAnyG_pure 25 46 (v := ?_) rfl (by kernel_rfl) rfl (by rfl) (fun w' => ?_) ?_
                  rotate_left
                  · go_simp <;> with_reducible rfl
                  simp only [List.setIfInBounds_toArray, List.set_cons_zero, List.set_cons_succ]
                  refine wpAnyG_pure 26 47 (v := ?_) rfl (by kernel_rfl) rfl (by rfl) (fun w' => ?_) ?_
                  rotate_left
                  · go_simp <;> with_reducible rfl
                  simp only [List.setIfInBounds_toArray, List.set_cons_zero, List.set_cons_succ]
                  refine wpAnyG_pure 27 48 (v := ?_) rfl (by kernel_rfl) rfl (by rfl) (fun w' => ?_) ?_
                  rotate_left
                  · go_simp <;> with_reducible rfl
                  simp only [List.setIfInBounds_toArray, List.set_cons_zero, List.set_cons_succ]
                  refine wpAnyG_take 28 49 (v := ?_) rfl (by kernel_rfl) rfl (by rfl) (fun w' hG' => ?_) ?_
                  rotate_left
                  · have hx0 := Grew.cell hG' (show wr.drew.cell? _ = _ from e0)
                    have hx1 := Grew.cell hG' (show wr.drew.cell? _ = _ from e1)
                    have hx2 := Grew.cell hG' (show wr.drew.cell? _ = _ from d0)
                    have hx3 := Grew.cell hG' (show wr.drew.cell? _ = _ from d1)
                    go_simp <;> with_reducible rfl
                  simp only [List.setIfInBounds_toArray, List.set_cons_zero, List.set_cons_succ]
                  refine wpAnyG_pure 29 50 (v := ?_) rfl (by kernel_rfl) rfl (by rfl) (fun w' => ?_) ?_
                  rotate_left
                  · go_simp <;> with_reducible rfl
                  simp only [List.setIfInBounds_toArray, List.set_cons_zero, List.set_cons_succ]
                  refine wpAnyG_pure 30 51 (v := ?_) rfl (by kernel_rfl) rfl (by rfl) (fun w' => ?_) ?_
                  rotate_left
                  · go_simp <;> with_reducible rfl
                  simp only [List.setIfInBounds_toArray, List.set_cons_zero, List.set_cons_succ]
                  refine wpAnyG_pure 31 52 (v := ?_) rfl (by kernel_rfl) rfl (by rfl) (fun w' => ?_) ?_
                  rotate_left
                  · go_simp <;> with_reducible rfl
                  simp only [List.setIfInBounds_toArray, List.set_cons_zero, List.set_cons_succ]
                  refine wpAnyG_pure 32 53 (v := ?_) rfl (by kernel_rfl) rfl (by rfl) (fun w' => ?_) ?_
                  rotate_left
                  · go_simp <;> with_reducible rfl
                  simp only [List.setIfInBounds_toArray, List.set_cons_zero, List.set_cons_succ]
                  refine wpAnyG_take 33 54 (v := ?_) rfl (by kernel_rfl) rfl (by rfl) (fun w' hG' => ?_) ?_
                  rotate_left
                  · have hx0 := Grew.cell hG' (show wr.drew.cell? _ = _ from e0)
                    have hx1 := Grew.cell hG' (show wr.drew.cell? _ = _ from e1)
                    have hx2 := Grew.cell hG' (show wr.drew.cell? _ = _ from d0)
                    have hx3 := Grew.cell hG' (show wr.drew.cell? _ = _ from d1)
                    go_simp <;> with_reducible rfl
                  simp only [List.setIfInBounds_toArray, List.set_cons_zero, List.set_cons_succ]
                  refine wpAnyG_pure 34 55 (v := ?_) rfl (by kernel_rfl) rfl (by rfl) (fun w' => ?_) ?_
                  rotate_left
                  · go_simp <;> with_reducible rfl
                  simp only [List.setIfInBounds_toArray, List.set_cons_zero, List.set_cons_succ]
                  refine wpAnyG_pure 35 56 (v := ?_) rfl (by kernel_rfl) rfl (by rfl) (fun w' => ?_) ?_
                  rotate_left
                  · go_simp <;> with_reducible rfl
                  simp only [List.setIfInBounds_toArray, List.set_cons_zero, List.set_cons_succ]
                  refine wpAnyG_pure 36 57 (v := ?_) rfl (by kernel_rfl) rfl (by rfl) (fun w' => ?_) ?_
                  rotate_left
                  · go_simp <;> with_reducible rfl
                  simp only [List.setIfInBounds_toArray, List.set_cons_zero, List.set_cons_succ]
                  refine wpAnyG_pure 37 58 (v := ?_) rfl (by kernel_rfl) rfl (by rfl) (fun w' => ?_) ?_
                  rotate_left
                  · go_simp <;> with_reducible rfl
                  simp only [List.setIfInBounds_toArray, List.set_cons_zero, List.set_cons_succ]
                  refine wpAnyG_pure 38 59 (v := ?_) rfl (by kernel_rfl) rfl (by rfl) (fun w' => ?_) ?_
                  rotate_left
                  · go_simp <;> with_reducible rfl
                  simp only [List.setIfInBounds_toArray, List.set_cons_zero, List.set_cons_succ]
                  refine wpAnyG_pure 39 60 (v := ?_) rfl (by kernel_rfl) rfl (by rfl) (fun w' => ?_) ?_
                  rotate_left
                  · go_simp <;> with_reducible rfl
                  simp only [List.setIfInBounds_toArray, List.set_cons_zero, List.set_cons_succ]
                  refine wpAnyG_pure 40 61 (v := ?_) rfl (by kernel_rfl) rfl (by rfl) (fun w' => ?_) ?_
                  rotate_left
                  · go_simp <;> with_reducible rfl
                  simp only [List.setIfInBounds_toArray, List.set_cons_zero, List.set_cons_succ]
                  refine wpAnyG_pure 41 62 (v := ?_) rfl (by kernel_rfl) rfl (by rfl) (fun w' => ?_) ?_
                  rotate_left
                  · go_simp <;> with_reducible rfl
                  simp only [List.setIfInBounds_toArray, List.set_cons_zero, List.set_cons_succ]
                  refine wpAnyG_done (by kernel_rfl) ?_
                  clear e0 e1 d0 d1
                  have hK1 := hK.drew
                  go_wp2_with fail
                  go_roundw
                  case rel => exact ⟨n + 1, false, by omega, by go_num, by go_num, hS1, hK1⟩
                  case measure => simp [intOf]; omega
                · as_aux_lemma =>
                  have hp1 : decide (q' < q') = false := decide_eq_false hq
                  have l3 : (k : Int) ≤ (n : Int) := by omega
                  have l4 : decide ((n : Int) < (k : Int)) = false := decide_eq_false (by omega)
                  have hS1 : Hid (OwnR wr w.heap.size (.slice Ao no co) out ∧ BT l k (p', q') (n + 1) tr) := ⟨hS.out.1, hS.out.2.no (beats_not HY.out (fun ⟨_, h3⟩ => h3.elim hq (fun h => hnk h.2)))⟩
                  clear hS HY
                  go_upto_region 10 with fail
                  refine wp_region_grow [] (fun _ => False) (by kernel_rfl) ?_
                  simp only [List.size_toArray, List.length_cons, List.length_nil, Nat.reduceAdd]
                  refine wpAnyG_pure 0 21 (v := ?_) rfl (by kernel_rfl) rfl (by rfl) (fun w' => ?_) ?_
                  rotate_left
                  · go_simp <;> with_reducible rfl
                  simp only [List.setIfInBounds_toArray, List.set_cons_zero, List.set_cons_succ]
                  refine wpAnyG_pure 1 22 (v := ?_) rfl (by kernel_rfl) rfl (by rfl) (fun w' => ?_) ?_
                  rotate_left
                  · go_simp <;> with_reducible rfl
                  simp only [List.setIfInBounds_toArray, List.set_cons_zero, List.set_cons_succ]
                  refine wpAnyG_pure 2 23 (v := ?_) rfl (by kernel_rfl) rfl (by rfl) (fun w' => ?_) ?_
                  rotate_left
                  · go_simp <;> with_reducible rfl
                  simp only [List.setIfInBounds_toArray, List.set_cons_zero, List.set_cons_succ]
                  refine wpAnyG_pure 3 24 (v := ?_) rfl (by kernel_rfl) rfl (by rfl) (fun w' => ?_) ?_
                  rotate_left
                  · go_simp <;> with_reducible rfl
                  simp only [List.setIfInBounds_toArray, List.set_cons_zero, List.set_cons_succ]
                  refine wpAnyG_take 4 25 (v := ?_) rfl (by kernel_rfl) rfl (by rfl) (fun w' hG' => ?_) ?_
                  rotate_left
                  · have hx0 := Grew.cell hG' (show wr.drew.cell? _ = _ from e0)
                    have hx1 := Grew.cell hG' (show wr.drew.cell? _ = _ from e1)
                    have hx2 := Grew.cell hG' (show wr.drew.cell? _ = _ from d0)
                    have hx3 := Grew.cell hG' (show wr.drew.cell? _ = _ from d1)
                    go_simp <;> with_reducible rfl
                  simp only [List.setIfInBounds_toArray, List.set_cons_zero, List.set_cons_succ]
                  refine wpAnyG_pure 5 26 (v := ?_) rfl (by kernel_rfl) rfl (by rfl) (fun w' => ?_) ?_
                  rotate_left
                  · go_simp <;> with_reducible rfl
                  simp only [List.setIfInBounds_toArray, List.set_cons_zero, List.set_cons_succ]
                  refine wpAnyG_pure 6 27 (v := ?_) rfl (by kernel_rfl) rfl (by rfl) (fun w' => ?_) ?_
                  rotate_left
                  · go_simp <;> with_reducible rfl
                  simp only [List.setIfInBounds_toArray, List.set_cons_zero, List.set_cons_succ]
                  refine wpAnyG_pure 7 28 (v := ?_) rfl (by kernel_rfl) rfl (by rfl) (fun w' => ?_) ?_
                  rotate_left
                  · go_simp <;> with_reducible rfl
                  simp only [List.setIfInBounds_toArray, List.set_cons_zero, List.set_cons_succ]
                  refine wpAnyG_pure 8 29 (v := ?_) rfl (by kernel_rfl) rfl (by rfl) (fun w' => ?_) ?_
                  rotate_left
                  · go_simp <;> with_reducible rfl
                  simp only [List.setIfInBounds_toArray, List.set_cons_zero, List.set_cons_succ]
                  refine wpAnyG_take 9 30 (v := ?_) rfl (by kernel_rfl) rfl (by rfl) (fun w' hG' => ?_) ?_
                  rotate_left
                  · have hx0 := Grew.cell hG' (show wr.drew.cell? _ = _ from e0)
                    have hx1 := Grew.cell hG' (show wr.drew.cell? _ = _ from e1)
                    have hx2 := Grew.cell hG' (show wr.drew.cell? _ = _ from d0)
                    have hx3 := Grew.cell hG' (show wr.drew.cell? _ = _ from d1)
                    go_simp <;> with_reducible rfl
                  simp only [List.setIfInBounds_toArray, List.set_cons_zero, List.set_cons_succ]
                  refine wpAnyG_pure 10 31 (v := ?_) rfl (by kernel_rfl) rfl (by rfl) (fun w' => ?_) ?_
                  rotate_left
                  · go_simp <;> with_reducible rfl
                  simp only [List.setIfInBounds_toArray, List.set_cons_zero, List.set_cons_succ]
                  refine wpAnyG_pure 11 32 (v := ?_) rfl (by kernel_rfl) rfl (by rfl) (fun w' => ?_) ?_
                  rotate_left
                  · go_simp <;> with_reducible rfl
                  simp only [List.setIfInBounds_toArray, List.set_cons_zero, List.set_cons_succ]
                  refine wpAnyG_pure 12 33 (v := ?_) rfl (by kernel_rfl) rfl (by rfl) (fun w' => ?_) ?_
                  rotate_left
                  · go_simp <;> with_reducible rfl
                  simp only [List.setIfInBounds_toArray, List.set_cons_zero, List.set_cons_succ]
                  refine wpAnyG_pure 13 34 (v := ?_) rfl (by kernel_rfl) rfl (by rfl) (fun w' => ?_) ?_
                  rotate_left
                  · go_simp <;> with_reducible rfl
                  simp only [List.setIfInBounds_toArray, List.set_cons_zero, List.set_cons_succ]
                  refine wpAnyG_pure 14 35 (v := ?_) rfl (by kernel_rfl) rfl (by rfl) (fun w' => ?_) ?_
                  rotate_left
                  · go_simp <;> with_reducible rfl
                  simp only [List.setIfInBounds_toArray, List.set_cons_zero, List.set_cons_succ]
                  refine wpAnyG_pure 15 36 (v := ?_) rfl (by kernel_rfl) rfl (by rfl) (fun w' => ?_) ?_
                  rotate_left
                  · go_simp <;> with_reducible rfl
                  simp only [List.setIfInBounds_toArray, List.set_cons_zero, List.set_cons_succ]
                  refine wpAnyG_take 16 37 (v := ?_) rfl (by kernel_rfl) rfl (by rfl) (fun w' hG' => ?_) ?_
                  rotate_left
                  · have hx0 := Grew.cell hG' (show wr.drew.cell? _ = _ from e0)
                    have hx1 := Grew.cell hG' (show wr.drew.cell? _ = _ from e1)
                    have hx2 := Grew.cell hG' (show wr.drew.cell? _ = _ from d0)
                    have hx3 := Grew.cell hG' (show wr.drew.cell? _ = _ from d1)
                    go_simp <;> with_reducible rfl
                  simp only [List.setIfInBounds_toArray, List.set_cons_zero, List.set_cons_succ]
                  refine wpAnyG_pure 17 38 (v := ?_) rfl (by kernel_rfl) rfl (by rfl) (fun w' => ?_) ?_
                  rotate_left
                  · go_simp <;> with_reducible rfl
                  simp only [List.setIfInBounds_toArray, List.set_cons_zero, List.set_cons_succ]
                  refine wpAnyG_pure 18 39 (v := ?_) rfl (by kernel_rfl) rfl (by rfl) (fun w' => ?_) ?_
                  rotate_left
                  · go_simp <;> with_reducible rfl
                  simp only [List.setIfInBounds_toArray, List.set_cons_zero, List.set_cons_succ]
                  refine wpAnyG_pure 19 40 (v := ?_) rfl (by kernel_rfl) rfl (by rfl) (fun w' => ?_) ?_
                  rotate_left
                  · go_simp <;> with_reducible rfl
                  simp only [List.setIfInBounds_toArray, List.set_cons_zero, List.set_cons_succ]
                  refine wpAnyG_pure 20 41 (v := ?_) rfl (by kernel_rfl) rfl (by rfl) (fun w' => ?_) ?_
                  rotate_left
                  · go_simp <;> with_reducible rfl
                  simp only [List.setIfInBounds_toArray, List.set_cons_zero, List.set_cons_succ]
                  refine wpAnyG_take 21 42 (v := ?_) rfl (by kernel_rfl) rfl (by rfl) (fun w' hG' => ?_) ?_
                  rotate_left
                  · have hx0 := Grew.cell hG' (show wr.drew.cell? _ = _ from e0)
                    have hx1 := Grew.cell hG' (show wr.drew.cell? _ = _ from e1)
                    have hx2 := Grew.cell hG' (show wr.drew.cell? _ = _ from d0)
                    have hx3 := Grew.cell hG' (show wr.drew.cell? _ = _ from d1)
                    go_simp <;> with_reducible rfl
                  simp only [List.setIfInBounds_toArray, List.set_cons_zero, List.set_cons_succ]
                  refine wpAnyG_pure 22 43 (v := ?_) rfl (by kernel_rfl) rfl (by rfl) (fun w' => ?_) ?_
                  rotate_left
                  · go_simp <;> with_reducible rfl
                  simp only [List.setIfInBounds_toArray, List.set_cons_zero, List.set_cons_succ]
                  refine wpAnyG_pure 23 44 (v := ?_) rfl (by kernel_rfl) rfl (by rfl) (fun w' => ?_) ?_
                  rotate_left
                  · go_simp <;> with_reducible rfl
                  simp only [List.setIfInBounds_toArray, List.set_cons_zero, List.set_cons_succ]
                  refine wpAnyG_pure 24 45 (v := ?_) rfl (by kernel_rfl) rfl (by rfl) (fun w' => ?_) ?_
                  rotate_left
                  · go_simp <;> with_reducible rfl
                  simp only [List.setIfInBounds_toArray, List.set_cons_zero, List.set_cons_succ]
                  refine wpAnyG_pure 25 46 (v := ?_) rfl (by kernel_rfl) rfl (by rfl) (fun w' => ?_) ?_
                  rotate_left
                  · go_simp <;> with_reducible rfl
                  simp only [List.setIfInBounds_toArray, List.set_cons_zero, List.set_cons_succ]
                  refine wpAnyG_pure 26 47 (v := ?_) rfl (by kernel_rfl) rfl (by rfl) (fun w' => ?_) ?_
                  rotate_left
                  · go_simp <;> with_reducible rfl
                  simp only [List.setIfInBounds_toArray, List.set_cons_zero, List.set_cons_succ]
                  refine wpAnyG_pure 27 48 (v := ?_) rfl (by kernel_rfl) rfl (by rfl) (fun w' => ?_) ?_
                  rotate_left
                  · go_simp <;> with_reducible rfl
                  simp only [List.setIfInBounds_toArray, List.set_cons_zero, List.set_cons_succ]
                  refine wpAnyG_take 28 49 (v := ?_) rfl (by kernel_rfl) rfl (by rfl) (fun w' hG' => ?_) ?_
                  rotate_left
                  · have hx0 := Grew.cell hG' (show wr.drew.cell? _ = _ from e0)
                    have hx1 := Grew.cell hG' (show wr.drew.cell? _ = _ from e1)
                    have hx2 := Grew.cell hG' (show wr.drew.cell? _ = _ from d0)
                    have hx3 := Grew.cell hG' (show wr.drew.cell? _ = _ from d1)
                    go_simp <;> with_reducible rfl
                  simp only [List.setIfInBounds_toArray, List.set_cons_zero, List.set_cons_succ]
                  refine wpAnyG_pure 29 50 (v := ?_) rfl (by kernel_rfl) rfl (by rfl) (fun w' => ?_) ?_
                  rotate_left
                  · go_simp <;> with_reducible rfl
                  simp only [List.setIfInBounds_toArray, List.set_cons_zero, List.set_cons_succ]
                  refine wpAnyG_pure 30 51 (v := ?_) rfl (by kernel_rfl) rfl (by rfl) (fun w' => ?_) ?_
                  rotate_left
                  · go_simp <;> with_reducible rfl
                  simp only [List.setIfInBounds_toArray, List.set_cons_zero, List.set_cons_succ]
                  refine wpAnyG_pure 31 52 (v := ?_) rfl (by kernel_rfl) rfl (by rfl) (fun w' => ?_) ?_
                  rotate_left
                  · go_simp <;> with_reducible rfl
                  simp only [List.setIfInBounds_toArray, List.set_cons_zero, List.set_cons_succ]
                  refine wpAnyG_pure 32 53 (v := ?_) rfl (by kernel_rfl) rfl (by rfl) (fun w' => ?_) ?_
                  rotate_left
                  · go_simp <;> with_reducible rfl
                  simp only [List.setIfInBounds_toArray, List.set_cons_zero, List.set_cons_succ]
                  refine wpAnyG_take 33 54 (v := ?_) rfl (by kernel_rfl) rfl (by rfl) (fun w' hG' => ?_) ?_
                  rotate_left
                  · have hx0 := Grew.cell hG' (show wr.drew.cell? _ = _ from e0)
                    have hx1 := Grew.cell hG' (show wr.drew.cell? _ = _ from e1)
                    have hx2 := Grew.cell hG' (show wr.drew.cell? _ = _ from d0)
                    have hx3 := Grew.cell hG' (show wr.drew.cell? _ = _ from d1)
                    go_simp <;> with_reducible rfl
                  simp only [List.setIfInBounds_toArray, List.set_cons_zero, List.set_cons_succ]
                  refine wpAnyG_pure 34 55 (v := ?_) rfl (by kernel_rfl) rfl (by rfl) (fun w' => ?_) ?_
                  rotate_left
                  · go_simp <;> with_reducible rfl
                  simp only [List.setIfInBounds_toArray, List.set_cons_zero, List.set_cons_succ]
                  refine wpAnyG_pure 35 56 (v := ?_) rfl (by kernel_rfl) rfl (by rfl) (fun w' => ?_) ?_
                  rotate_left
                  · go_simp <;> with_reducible rfl
                  simp only [List.setIfInBounds_toArray, List.set_cons_zero, List.set_cons_succ]
                  refine wpAnyG_pure 36 57 (v := ?_) rfl (by kernel_rfl) rfl (by rfl) (fun w' => ?_) ?_
                  rotate_left
                  · go_simp <;> with_reducible rfl
                  simp only [List.setIfInBounds_toArray, List.set_cons_zero, List.set_cons_succ]
                  refine wpAnyG_pure 37 58 (v := ?_) rfl (by kernel_rfl) rfl (by rfl) (fun w' => ?_) ?_
                  rotate_left
                  · go_simp <;> with_reducible rfl
                  simp only [List.setIfInBounds_toArray, List.set_cons_zero, List.set_cons_succ]
                  refine wpAnyG_pure 38 59 (v := ?_) rfl (by kernel_rfl) rfl (by rfl) (fun w' => ?_) ?_
                  rotate_left
                  · go_simp <;> with_reducible rfl
                  simp only [List.setIfInBounds_toArray, List.set_cons_zero, List.set_cons_succ]
                  refine wpAnyG_pure 39 60 (v := ?_) rfl (by kernel_rfl) rfl (by rfl) (fun w' => ?_) ?_
                  rotate_left
                  · go_simp <;> with_reducible rfl
                  simp only [List.setIfInBounds_toArray, List.set_cons_zero, List.set_cons_succ]
                  refine wpAnyG_pure 40 61 (v := ?_) rfl (by kernel_rfl) rfl (by rfl) (fun w' => ?_) ?_
                  rotate_left
                  · go_simp <;> with_reducible rfl
                  simp only [List.setIfInBounds_toArray, List.set_cons_zero, List.set_cons_succ]
                  refine wpAnyG_pure 41 62 (v := ?_) rfl (by kernel_rfl) rfl (by rfl) (fun w' => ?_) ?_
                  rotate_left
                  · go_simp <;> with_reducible rfl
                  simp only [List.setIfInBounds_toArray, List.set_cons_zero, List.set_cons_succ]
                  refine wpAnyG_done (by kernel_rfl) ?_
                  clear e0 e1 d0 d1
                  have hK1 := hK.drew
                  go_wp2_with fail
                  go_roundw
                  case rel => exact ⟨n + 1, tr, by omega, by go_num, by go_num, hS1, hK1⟩
                  case measure => simp [intOf]; omega
              · as_aux_lemma =>
                have hp1 : decide (q' < q) = false := decide_eq_false hq
                have hq1 : (q' == q) = false := by simp [hq2]
                have hS1 : Hid (OwnR wr w.heap.size (.slice Ao no co) out ∧ BT l k (p', q) (n + 1) tr) := ⟨hS.out.1, hS.out.2.no (beats_not HY.out (fun ⟨_, h3⟩ => h3.elim hq (fun h => hq2 h.1)))⟩
                clear hS HY
                go_upto_region 10 with fail
                refine wp_region_grow [] (fun _ => False) (by kernel_rfl) ?_
                simp only [List.size_toArray, List.length_cons, List.length_nil, Nat.reduceAdd]
                refine wpAnyG_pure 0 21 (v := ?_) rfl (by kernel_rfl) rfl (by rfl) (fun w' => ?_) ?_
                rotate_left
                · go_simp <;> with_reducible rfl
                simp only [List.setIfInBounds_toArray, List.set_cons_zero, List.set_cons_succ]
                refine wpAnyG_pure 1 22 (v := ?_) rfl (by kernel_rfl) rfl (by rfl) (fun w' => ?_) ?_
                rotate_left
                · go_simp <;> with_reducible rfl
                simp only [List.setIfInBounds_toArray, List.set_cons_zero, List.set_cons_succ]
                refine wpAnyG_pure 2 23 (v := ?_) rfl (by kernel_rfl) rfl (by rfl) (fun w' => ?_) ?_
                rotate_left
                · go_simp <;> with_reducible rfl
                simp only [List.setIfInBounds_toArray, List.set_cons_zero, List.set_cons_succ]
                refine wpAnyG_pure 3 24 (v := ?_) rfl (by kernel_rfl) rfl (by rfl) (fun w' => ?_) ?_
                rotate_left
                · go_simp <;> with_reducible rfl
                simp only [List.setIfInBounds_toArray, List.set_cons_zero, List.set_cons_succ]
                refine wpAnyG_take 4 25 (v := ?_) rfl (by kernel_rfl) rfl (by rfl) (fun w' hG' => ?_) ?_
                rotate_left
                · have hx0 := Grew.cell hG' (show wr.drew.cell? _ = _ from e0)
                  have hx1 := Grew.cell hG' (show wr.drew.cell? _ = _ from e1)
                  have hx2 := Grew.cell hG' (show wr.drew.cell? _ = _ from d0)
                  have hx3 := Grew.cell hG' (show wr.drew.cell? _ = _ from d1)
                  go_simp <;> with_reducible rfl
                simp only [List.setIfInBounds_toArray, List.set_cons_zero, List.set_cons_succ]
                refine wpAnyG_pure 5 26 (v := ?_) rfl (by kernel_rfl) rfl (by rfl) (fun w' => ?_) ?_
                rotate_left
                · go_simp <;> with_reducible rfl
                simp only [List.setIfInBounds_toArray, List.set_cons_zero, List.set_cons_succ]
                refine wpAnyG_pure 6 27 (v := ?_) rfl (by kernel_rfl) rfl (by rfl) (fun w' => ?_) ?_
                rotate_left
                · go_simp <;> with_reducible rfl
                simp only [List.setIfInBounds_toArray, List.set_cons_zero, List.set_cons_succ]
                refine wpAnyG_pure 7 28 (v := ?_) rfl (by kernel_rfl) rfl (by rfl) (fun w' => ?_) ?_
                rotate_left
                · go_simp <;> with_reducible rfl
                simp only [List.setIfInBounds_toArray, List.set_cons_zero, List.set_cons_succ]
                refine wpAnyG_pure 8 29 (v := ?_) rfl (by kernel_rfl) rfl (by rfl) (fun w' => ?_) ?_
                rotate_left
                · go_simp <;> with_reducible rfl
                simp only [List.setIfInBounds_toArray, List.set_cons_zero, List.set_cons_succ]
                refine wpAnyG_take 9 30 (v := ?_) rfl (by kernel_rfl) rfl (by rfl) (fun w' hG' => ?_) ?_
                rotate_left
                · have hx0 := Grew.cell hG' (show wr.drew.cell? _ = _ from e0)
                  have hx1 := Grew.cell hG' (show wr.drew.cell? _ = _ from e1)
                  have hx2 := Grew.cell hG' (show wr.drew.cell? _ = _ from d0)
                  have hx3 := Grew.cell hG' (show wr.drew.cell? _ = _ from d1)
                  go_simp <;> with_reducible rfl
                simp only [List.setIfInBounds_toArray, List.set_cons_zero, List.set_cons_succ]
                refine wpAnyG_pure 10 31 (v := ?_) rfl (by kernel_rfl) rfl (by rfl) (fun w' => ?_) ?_
                rotate_left
                · go_simp <;> with_reducible rfl
                simp only [List.setIfInBounds_toArray, List.set_cons_zero, List.set_cons_succ]
                refine wpAnyG_pure 11 32 (v := ?_) rfl (by kernel_rfl) rfl (by rfl) (fun w' => ?_) ?_
                rotate_left
                · go_simp <;> with_reducible rfl
                simp only [List.setIfInBounds_toArray, List.set_cons_zero, List.set_cons_succ]
                refine wpAnyG_pure 12 33 (v := ?_) rfl (by kernel_rfl) rfl (by rfl) (fun w' => ?_) ?_
                rotate_left
                · go_simp <;> with_reducible rfl
                simp only [List.setIfInBounds_toArray, List.set_cons_zero, List.set_cons_succ]
                refine wpAnyG_pure 13 34 (v := ?_) rfl (by kernel_rfl) rfl (by rfl) (fun w' => ?_) ?_
                rotate_left
                · go_simp <;> with_reducible rfl
                simp only [List.setIfInBounds_toArray, List.set_cons_zero, List.set_cons_succ]
                refine wpAnyG_pure 14 35 (v := ?_) rfl (by kernel_rfl) rfl (by rfl) (fun w' => ?_) ?_
                rotate_left
                · go_simp <;> with_reducible rfl
                simp only [List.setIfInBounds_toArray, List.set_cons_zero, List.set_cons_succ]
                refine wpAnyG_pure 15 36 (v := ?_) rfl (by kernel_rfl) rfl (by rfl) (fun w' => ?_) ?_
                rotate_left
                · go_simp <;> with_reducible rfl
                simp only [List.setIfInBounds_toArray, List.set_cons_zero, List.set_cons_succ]
                refine wpAnyG_take 16 37 (v := ?_) rfl (by kernel_rfl) rfl (by rfl) (fun w' hG' => ?_) ?_
                rotate_left
                · have hx0 := Grew.cell hG' (show wr.drew.cell? _ = _ from e0)
                  have hx1 := Grew.cell hG' (show wr.drew.cell? _ = _ from e1)
                  have hx2 := Grew.cell hG' (show wr.drew.cell? _ = _ from d0)
                  have hx3 := Grew.cell hG' (show wr.drew.cell? _ = _ from d1)
                  go_simp <;> with_reducible rfl
                simp only [List.setIfInBounds_toArray, List.set_cons_zero, List.set_cons_succ]
                refine wpAnyG_pure 17 38 (v := ?_) rfl (by kernel_rfl) rfl (by rfl) (fun w' => ?_) ?_
                rotate_left
                · go_simp <;> with_reducible rfl
                simp only [List.setIfInBounds_toArray, List.set_cons_zero, List.set_cons_succ]
                refine wpAnyG_pure 18 39 (v := ?_) rfl (by kernel_rfl) rfl (by rfl) (fun w' => ?_) ?_
                rotate_left
                · go_simp <;> with_reducible rfl
                simp only [List.setIfInBounds_toArray, List.set_cons_zero, List.set_cons_succ]
                refine wpAnyG_pure 19 40 (v := ?_) rfl (by kernel_rfl) rfl (by rfl) (fun w' => ?_) ?_
                rotate_left
                · go_simp <;> with_reducible rfl
                simp only [List.setIfInBounds_toArray, List.set_cons_zero, List.set_cons_succ]
                refine wpAnyG_pure 20 41 (v := ?_) rfl (by kernel_rfl) rfl (by rfl) (fun w' => ?_) ?_
                rotate_left
                · go_simp <;> with_reducible rfl
                simp only [List.setIfInBounds_toArray, List.set_cons_zero, List.set_cons_succ]
                refine wpAnyG_take 21 42 (v := ?_) rfl (by kernel_rfl) rfl (by rfl) (fun w' hG' => ?_) ?_
                rotate_left
                · have hx0 := Grew.cell hG' (show wr.drew.cell? _ = _ from e0)
                  have hx1 := Grew.cell hG' (show wr.drew.cell? _ = _ from e1)
                  have hx2 := Grew.cell hG' (show wr.drew.cell? _ = _ from d0)
                  have hx3 := Grew.cell hG' (show wr.drew.cell? _ = _ from d1)
                  go_simp <;> with_reducible rfl
                simp only [List.setIfInBounds_toArray, List.set_cons_zero, List.set_cons_succ]
                refine wpAnyG_pure 22 43 (v := ?_) rfl (by kernel_rfl) rfl (by rfl) (fun w' => ?_) ?_
                rotate_left
                · go_simp <;> with_reducible rfl
                simp only [List.setIfInBounds_toArray, List.set_cons_zero, List.set_cons_succ]
                refine wpAnyG_pure 23 44 (v := ?_) rfl (by kernel_rfl) rfl (by rfl) (fun w' => ?_) ?_
                rotate_left
                · go_simp <;> with_reducible rfl
                simp only [List.setIfInBounds_toArray, List.set_cons_zero, List.set_cons_succ]
                refine wpAnyG_pure 24 45 (v := ?_) rfl (by kernel_rfl) rfl (by rfl) (fun w' => ?_) ?_
                rotate_left
                · go_simp <;> with_reducible rfl
                simp only [List.setIfInBounds_toArray, List.set_cons_zero, List.set_cons_succ]
                refine wpAnyG_pure 25 46 (v := ?_) rfl (by kernel_rfl) rfl (by rfl) (fun w' => ?_) ?_
                rotate_left
                · go_simp <;> with_reducible rfl
                simp only [List.setIfInBounds_toArray, List.set_cons_zero, List.set_cons_succ]
                refine wpAnyG_pure 26 47 (v := ?_) rfl (by kernel_rfl) rfl (by rfl) (fun w' => ?_) ?_
                rotate_left
                · go_simp <;> with_reducible rfl
                simp only [List.setIfInBounds_toArray, List.set_cons_zero, List.set_cons_succ]
                refine wpAnyG_pure 27 48 (v := ?_) rfl (by kernel_rfl) rfl (by rfl) (fun w' => ?_) ?_
                rotate_left
                · go_simp <;> with_reducible rfl
                simp only [List.setIfInBounds_toArray, List.set_cons_zero, List.set_cons_succ]
                refine wpAnyG_take 28 49 (v := ?_) rfl (by kernel_rfl) rfl (by rfl) (fun w' hG' => ?_) ?_
                rotate_left
                · have hx0 := Grew.cell hG' (show wr.drew.cell? _ = _ from e0)
                  have hx1 := Grew.cell hG' (show wr.drew.cell? _ = _ from e1)
                  have hx2 := Grew.cell hG' (show wr.drew.cell? _ = _ from d0)
                  have hx3 := Grew.cell hG' (show wr.drew.cell? _ = _ from d1)
                  go_simp <;> with_reducible rfl
                simp only [List.setIfInBounds_toArray, List.set_cons_zero, List.set_cons_succ]
                refine wpAnyG_pure 29 50 (v := ?_) rfl (by kernel_rfl) rfl (by rfl) (fun w' => ?_) ?_
                rotate_left
                · go_simp <;> with_reducible rfl
                simp only [List.setIfInBounds_toArray, List.set_cons_zero, List.set_cons_succ]
                refine wpAnyG_pure 30 51 (v := ?_) rfl (by kernel_rfl) rfl (by rfl) (fun w' => ?_) ?_
                rotate_left
                · go_simp <;> with_reducible rfl
                simp only [List.setIfInBounds_toArray, List.set_cons_zero, List.set_cons_succ]
                refine wpAnyG_pure 31 52 (v := ?_) rfl (by kernel_rfl) rfl (by rfl) (fun w' => ?_) ?_
                rotate_left
                · go_simp <;> with_reducible rfl
                simp only [List.setIfInBounds_toArray, List.set_cons_zero, List.set_cons_succ]
                refine wpAnyG_pure 32 53 (v := ?_) rfl (by kernel_rfl) rfl (by rfl) (fun w' => ?_) ?_
                rotate_left
                · go_simp <;> with_reducible rfl
                simp only [List.setIfInBounds_toArray, List.set_cons_zero, List.set_cons_succ]
                refine wpAnyG_take 33 54 (v := ?_) rfl (by kernel_rfl) rfl (by rfl) (fun w' hG' => ?_) ?_
                rotate_left
                · have hx0 := Grew.cell hG' (show wr.drew.cell? _ = _ from e0)
                  have hx1 := Grew.cell hG' (show wr.drew.cell? _ = _ from e1)
                  have hx2 := Grew.cell hG' (show wr.drew.cell? _ = _ from d0)
                  have hx3 := Grew.cell hG' (show wr.drew.cell? _ = _ from d1)
                  go_simp <;> with_reducible rfl
                simp only [List.setIfInBounds_toArray, List.set_cons_zero, List.set_cons_succ]
                refine wpAnyG_pure 34 55 (v := ?_) rfl (by kernel_rfl) rfl (by rfl) (fun w' => ?_) ?_
                rotate_left
                · go_simp <;> with_reducible rfl
                simp only [List.setIfInBounds_toArray, List.set_cons_zero, List.set_cons_succ]
                refine wpAnyG_pure 35 56 (v := ?_) rfl (by kernel_rfl) rfl (by rfl) (fun w' => ?_) ?_
                rotate_left
                · go_simp <;> with_reducible rfl
                simp only [List.setIfInBounds_toArray, List.set_cons_zero, List.set_cons_succ]
                refine wpAnyG_pass 36 57 rfl (by kernel_rfl) rfl (by rfl) ?_
                simp only [List.setIfInBounds_toArray, List.set_cons_zero, List.set_cons_succ]
                refine wpAnyG_pass 37 58 rfl (by kernel_rfl) rfl (by rfl) ?_
                simp only [List.setIfInBounds_toArray, List.set_cons_zero, List.set_cons_succ]
                refine wpAnyG_pass 38 59 rfl (by kernel_rfl) rfl (by rfl) ?_
                simp only [List.setIfInBounds_toArray, List.set_cons_zero, List.set_cons_succ]
                refine wpAnyG_pure 39 60 (v := ?_) rfl (by kernel_rfl) rfl (by rfl) (fun w' => ?_) ?_
                rotate_left
                · go_simp <;> with_reducible rfl
                simp only [List.setIfInBounds_toArray, List.set_cons_zero, List.set_cons_succ]
                refine wpAnyG_pure 40 61 (v := ?_) rfl (by kernel_rfl) rfl (by rfl) (fun w' => ?_) ?_
                rotate_left
                · go_simp <;> with_reducible rfl
                simp only [List.setIfInBounds_toArray, List.set_cons_zero, List.set_cons_succ]
                refine wpAnyG_pure 41 62 (v := ?_) rfl (by kernel_rfl) rfl (by rfl) (fun w' => ?_) ?_
                rotate_left
                · go_simp <;> with_reducible rfl
                simp only [List.setIfInBounds_toArray, List.set_cons_zero, List.set_cons_succ]
                refine wpAnyG_done (by kernel_rfl) ?_
                clear e0 e1 d0 d1
                have hK1 := hK.drew
                go_wp2_with fail
                go_roundw
                case rel => exact ⟨n + 1, tr, by omega, by go_num, by go_num, hS1, hK1⟩
                case measure => simp [intOf]; omega
          · as_aux_lemma =>
            have hp1 : (p' == p) = false := by simp [hp]
            have hS1 : Hid (OwnR wr w.heap.size (.slice Ao no co) out ∧ BT l k (p, q) (n + 1) tr) := ⟨hS.out.1, hS.out.2.no (fun ⟨y, h1, h2, _⟩ => hp (by rw [HY.out] at h1; obtain rfl := Option.some.inj h1; exact h2))⟩
            clear hS HY
            go_upto_region 10 with fail
            refine wp_region_grow [] (fun _ => False) (by kernel_rfl) ?_
            simp only [List.size_toArray, List.length_cons, List.length_nil, Nat.reduceAdd]
            refine wpAnyG_pure 0 21 (v := ?_) rfl (by kernel_rfl) rfl (by rfl) (fun w' => ?_) ?_
            rotate_left
            · go_simp <;> with_reducible rfl
            simp only [List.setIfInBounds_toArray, List.set_cons_zero, List.set_cons_succ]
            refine wpAnyG_pure 1 22 (v := ?_) rfl (by kernel_rfl) rfl (by rfl) (fun w' => ?_) ?_
            rotate_left
            · go_simp <;> with_reducible rfl
            simp only [List.setIfInBounds_toArray, List.set_cons_zero, List.set_cons_succ]
            refine wpAnyG_pure 2 23 (v := ?_) rfl (by kernel_rfl) rfl (by rfl) (fun w' => ?_) ?_
            rotate_left
            · go_simp <;> with_reducible rfl
            simp only [List.setIfInBounds_toArray, List.set_cons_zero, List.set_cons_succ]
            refine wpAnyG_pure 3 24 (v := ?_) rfl (by kernel_rfl) rfl (by rfl) (fun w' => ?_) ?_
            rotate_left
            · go_simp <;> with_reducible rfl
            simp only [List.setIfInBounds_toArray, List.set_cons_zero, List.set_cons_succ]
            refine wpAnyG_take 4 25 (v := ?_) rfl (by kernel_rfl) rfl (by rfl) (fun w' hG' => ?_) ?_
            rotate_left
            · have hx0 := Grew.cell hG' (show wr.drew.cell? _ = _ from e0)
              have hx1 := Grew.cell hG' (show wr.drew.cell? _ = _ from e1)
              have hx2 := Grew.cell hG' (show wr.drew.cell? _ = _ from d0)
              have hx3 := Grew.cell hG' (show wr.drew.cell? _ = _ from d1)
              go_simp <;> with_reducible rfl
            simp only [List.setIfInBounds_toArray, List.set_cons_zero, List.set_cons_succ]
            refine wpAnyG_pure 5 26 (v := ?_) rfl (by kernel_rfl) rfl (by rfl) (fun w' => ?_) ?_
            rotate_left
            · go_simp <;> with_reducible rfl
            simp only [List.setIfInBounds_toArray, List.set_cons_zero, List.set_cons_succ]
            refine wpAnyG_pure 6 27 (v := ?_) rfl (by kernel_rfl) rfl (by rfl) (fun w' => ?_) ?_
            rotate_left
            · go_simp <;> with_reducible rfl
            simp only [List.setIfInBounds_toArray, List.set_cons_zero, List.set_cons_succ]
            refine wpAnyG_pure 7 28 (v := ?_) rfl (by kernel_rfl) rfl (by rfl) (fun w' => ?_) ?_
            rotate_left
            · go_simp <;> with_reducible rfl
            simp only [List.setIfInBounds_toArray, List.set_cons_zero, List.set_cons_succ]
            refine wpAnyG_pure 8 29 (v := ?_) rfl (by kernel_rfl) rfl (by rfl) (fun w' => ?_) ?_
            rotate_left
            · go_simp <;> with_reducible rfl
            simp only [List.setIfInBounds_toArray, List.set_cons_zero, List.set_cons_succ]
            refine wpAnyG_take 9 30 (v := ?_) rfl (by kernel_rfl) rfl (by rfl) (fun w' hG' => ?_) ?_
            rotate_left
            · have hx0 := Grew.cell hG' (show wr.drew.cell? _ = _ from e0)
              have hx1 := Grew.cell hG' (show wr.drew.cell? _ = _ from e1)
              have hx2 := Grew.cell hG' (show wr.drew.cell? _ = _ from d0)
              have hx3 := Grew.cell hG' (show wr.drew.cell? _ = _ from d1)
              go_simp <;> with_reducible rfl
            simp only [List.setIfInBounds_toArray, List.set_cons_zero, List.set_cons_succ]
            refine wpAnyG_pure 10 31 (v := ?_) rfl (by kernel_rfl) rfl (by rfl) (fun w' => ?_) ?_
            rotate_left
            · go_simp <;> with_reducible rfl
            simp only [List.setIfInBounds_toArray, List.set_cons_zero, List.set_cons_succ]
            refine wpAnyG_pure 11 32 (v := ?_) rfl (by kernel_rfl) rfl (by rfl) (fun w' => ?_) ?_
            rotate_left
            · go_simp <;> with_reducible rfl
            simp only [List.setIfInBounds_toArray, List.set_cons_zero, List.set_cons_succ]
            refine wpAnyG_pass 12 33 rfl (by kernel_rfl) rfl (by rfl) ?_
            simp only [List.setIfInBounds_toArray, List.set_cons_zero, List.set_cons_succ]
            refine wpAnyG_pass 13 34 rfl (by kernel_rfl) rfl (by rfl) ?_
            simp only [List.setIfInBounds_toArray, List.set_cons_zero, List.set_cons_succ]
            refine wpAnyG_pass 14 35 rfl (by kernel_rfl) rfl (by rfl) ?_
            simp only [List.setIfInBounds_toArray, List.set_cons_zero, List.set_cons_succ]
            refine wpAnyG_pass 15 36 rfl (by kernel_rfl) rfl (by rfl) ?_
            simp only [List.setIfInBounds_toArray, List.set_cons_zero, List.set_cons_succ]
            refine wpAnyG_pass 16 37 rfl (by kernel_rfl) rfl (by rfl) ?_
            simp only [List.setIfInBounds_toArray, List.set_cons_zero, List.set_cons_succ]
            refine wpAnyG_pass 17 38 rfl (by kernel_rfl) rfl (by rfl) ?_
            simp only [List.setIfInBounds_toArray, List.set_cons_zero, List.set_cons_succ]
            refine wpAnyG_pass 18 39 rfl (by kernel_rfl) rfl (by rfl) ?_
            simp only [List.setIfInBounds_toArray, List.set_cons_zero, List.set_cons_succ]
            refine wpAnyG_pass 19 40 rfl (by kernel_rfl) rfl (by rfl) ?_
            simp only [List.setIfInBounds_toArray, List.set_cons_zero, List.set_cons_succ]
            refine wpAnyG_pass 20 41 rfl (by kernel_rfl) rfl (by rfl) ?_
            simp only [List.setIfInBounds_toArray, List.set_cons_zero, List.set_cons_succ]
            refine wpAnyG_pass 21 42 rfl (by kernel_rfl) rfl (by rfl) ?_
            simp only [List.setIfInBounds_toArray, List.set_cons_zero, List.set_cons_succ]
            refine wpAnyG_pass 22 43 rfl (by kernel_rfl) rfl (by rfl) ?_
            simp only [List.setIfInBounds_toArray, List.set_cons_zero, List.set_cons_succ]
            refine wpAnyG_pass 23 44 rfl (by kernel_rfl) rfl (by rfl) ?_
            simp only [List.setIfInBounds_toArray, List.set_cons_zero, List.set_cons_succ]
            refine wpAnyG_pass 24 45 rfl (by kernel_rfl) rfl (by rfl) ?_
            simp only [List.setIfInBounds_toArray, List.set_cons_zero, List.set_cons_succ]
            refine wpAnyG_pass 25 46 rfl (by kernel_rfl) rfl (by rfl) ?_
            simp only [List.setIfInBounds_toArray, List.set_cons_zero, List.set_cons_succ]
            refine wpAnyG_pass 26 47 rfl (by kernel_rfl) rfl (by rfl) ?_
            simp only [List.setIfInBounds_toArray, List.set_cons_zero, List.set_cons_succ]
            refine wpAnyG_pass 27 48 rfl (by kernel_rfl) rfl (by rfl) ?_
            simp only [List.setIfInBounds_toArray, List.set_cons_zero, List.set_cons_succ]
            refine wpAnyG_pass 28 49 rfl (by kernel_rfl) rfl (by rfl) ?_
            simp only [List.setIfInBounds_toArray, List.set_cons_zero, List.set_cons_succ]
            refine wpAnyG_pass 29 50 rfl (by kernel_rfl) rfl (by rfl) ?_
            simp only [List.setIfInBounds_toArray, List.set_cons_zero, List.set_cons_succ]
            refine wpAnyG_pass 30 51 rfl (by kernel_rfl) rfl (by rfl) ?_
            simp only [List.setIfInBounds_toArray, List.set_cons_zero, List.set_cons_succ]
            refine wpAnyG_pass 31 52 rfl (by kernel_rfl) rfl (by rfl) ?_
            simp only [List.setIfInBounds_toArray, List.set_cons_zero, List.set_cons_succ]
            refine wpAnyG_pass 32 53 rfl (by kernel_rfl) rfl (by rfl) ?_
            simp only [List.setIfInBounds_toArray, List.set_cons_zero, List.set_cons_succ]
            refine wpAnyG_pass 33 54 rfl (by kernel_rfl) rfl (by rfl) ?_
            simp only [List.setIfInBounds_toArray, List.set_cons_zero, List.set_cons_succ]
            refine wpAnyG_pass 34 55 rfl (by kernel_rfl) rfl (by rfl) ?_
            simp only [List.setIfInBounds_toArray, List.set_cons_zero, List.set_cons_succ]
            refine wpAnyG_pass 35 56 rfl (by kernel_rfl) rfl (by rfl) ?_
            simp only [List.setIfInBounds_toArray, List.set_cons_zero, List.set_cons_succ]
            refine wpAnyG_pass 36 57 rfl (by kernel_rfl) rfl (by rfl) ?_
            simp only [List.setIfInBounds_toArray, List.set_cons_zero, List.set_cons_succ]
            refine wpAnyG_pass 37 58 rfl (by kernel_rfl) rfl (by rfl) ?_
            simp only [List.setIfInBounds_toArray, List.set_cons_zero, List.set_cons_succ]
            refine wpAnyG_pass 38 59 rfl (by kernel_rfl) rfl (by rfl) ?_
            simp only [List.setIfInBounds_toArray, List.set_cons_zero, List.set_cons_succ]
            refine wpAnyG_pass 39 60 rfl (by kernel_rfl) rfl (by rfl) ?_
            simp only [List.setIfInBounds_toArray, List.set_cons_zero, List.set_cons_succ]
            refine wpAnyG_pass 40 61 rfl (by kernel_rfl) rfl (by rfl) ?_
            simp only [List.setIfInBounds_toArray, List.set_cons_zero, List.set_cons_succ]
            refine wpAnyG_pure 41 62 (v := ?_) rfl (by kernel_rfl) rfl (by rfl) (fun w' => ?_) ?_
            rotate_left
            · go_simp <;> with_reducible rfl
            simp only [List.setIfInBounds_toArray, List.set_cons_zero, List.set_cons_succ]
            refine wpAnyG_done (by kernel_rfl) ?_
            clear e0 e1 d0 d1
            have hK1 := hK.drew
            go_wp2_with fail
            go_roundw
            case rel => exact ⟨n + 1, tr, by omega, by go_num, by go_num, hS1, hK1⟩
            case measure => simp [intOf]; omega
        · obtain rfl : n = L := by omega
          cases tr with
          | false =>
            have hS1 : Hid (OwnR wr w.heap.size (.slice Ao no co) out ∧ Kept2 l (k + 1) out ∧ out.length ≤ k + 1) := ⟨hS.out.1, hKP.out.1.no HX.out (fun hb => by
              have := hS.out.2.2 ((best_all HL.out).2 hb)
              cases this), by have := hKP.out.2; omega⟩
            clear hS hKP hOS HE
            go_wp2_with fail
            go_roundw
            case rel => exact ⟨k + 1, out, by omega, by go_num, hS1, hK⟩
            case measure => simp [intOf]; omega
          | true => as_aux_lemma =>
            subst hAe
            have hlo := Lib.hid (show Kept2 l k out ∧ out.length ≤ k from hKP.out)
            have hB0 : Hid (OwnR wr w.heap.size (.slice Ao no co) out ∧ ∀ y ∈ out.take 0, y.1 < p) := ⟨hS.out.1, fun y hy => by simp at hy⟩
            have HQ : Hid (bestI l k (p, q) ∧ Kept2 l k out) := ⟨(best_all HL.out).1 (hS.out.2.1 rfl), hKP.out.1⟩
            clear hS hKP
            go_wp2_with fail
            go_loopw [6] (fun kk wr => ∃ (n : Nat), n ≤ no ∧ kk = .int .i64 n ∧ Hid (OwnR wr w.heap.size (.slice Ao no co) out ∧ ∀ y ∈ out.take n, y.1 < p) ∧ Grew w wr) (fun kk _ => no - (intOf kk).toNat)
            case atStart => exact ⟨0, by omega, rfl, hB0, hK⟩
            case round =>
              clear hB0 hK e0 e1
              obtain ⟨n, hn, rfl, hS, hK⟩ := hrel
              have e0 := HC.out.1
              have e1 := HC.out.2
              by_cases hlt3 : n < no
              · obtain ⟨⟨p', q'⟩, hy⟩ : ∃ y, out[n]? = some y := ⟨_, List.getElem?_eq_getElem (by rw [HO.out]; exact hlt3)⟩
                obtain ⟨bo, offo, hAo, hbo, d0, _⟩ : ∃ b off, Ao = some ⟨b, off, none⟩ ∧ b < wr.heap.size ∧ wr.cell? ⟨b, off + n * 2, none⟩ = some (i64 p') ∧ True := by
                  obtain ⟨A2, c2, e2, r2⟩ := hS.out.1.row
                  obtain ⟨a1, _, _⟩ := Value.slice.inj e2
                  obtain ⟨b, off, h1, h2, h3, _⟩ := r2 n _ hy
                  exact ⟨b, off, by rw [a1]; exact h1, h2, h3, trivial⟩
                have HY := Lib.hid hy
                have k2 : (0 : Int) ≤ (n : Int) := by omega
                have k3 : (n : Int) < (no : Int) := by omega
                clear hy
                by_cases hpp : p' < p
                · as_aux_lemma =>
                  subst hAo
                  replace e0 := hK.cell e0
                  have hS1 : Hid (OwnR wr w.heap.size (.slice (some ⟨bo, offo, none⟩) no co) out ∧ ∀ y ∈ out.take (n + 1), y.1 < p) := ⟨hS.out.1, fun y hy => by
                    rw [List.take_add_one, HY.out] at hy
                    rcases List.mem_append.1 hy with h | h
                    · exact hS.out.2 y h
                    · simp at h; rw [h]; exact hpp⟩
                  have hpd : decide (p' < p) = true := decide_eq_true hpp
                  clear hS HY hOS e1
                  go_upto_region 13 with fail
                  refine wp_region_grow [] (fun _ => False) (by kernel_rfl) ?_
                  simp only [List.size_toArray, List.length_cons, List.length_nil, Nat.reduceAdd]
                  refine wpAnyG_pure 0 65 (v := ?_) rfl (by kernel_rfl) rfl (by rfl) (fun w' => ?_) ?_
                  rotate_left
                  · go_simp <;> with_reducible rfl
                  simp only [List.setIfInBounds_toArray, List.set_cons_zero, List.set_cons_succ]
                  refine wpAnyG_pure 1 66 (v := ?_) rfl (by kernel_rfl) rfl (by rfl) (fun w' => ?_) ?_
                  rotate_left
                  · go_simp <;> with_reducible rfl
                  simp only [List.setIfInBounds_toArray, List.set_cons_zero, List.set_cons_succ]
                  refine wpAnyG_pure 2 67 (v := ?_) rfl (by kernel_rfl) rfl (by rfl) (fun w' => ?_) ?_
                  rotate_left
                  · go_simp <;> with_reducible rfl
                  simp only [List.setIfInBounds_toArray, List.set_cons_zero, List.set_cons_succ]
                  refine wpAnyG_pure 3 68 (v := ?_) rfl (by kernel_rfl) rfl (by rfl) (fun w' => ?_) ?_
                  rotate_left
                  · go_simp <;> with_reducible rfl
                  simp only [List.setIfInBounds_toArray, List.set_cons_zero, List.set_cons_succ]
                  refine wpAnyG_pure 4 69 (v := ?_) rfl (by kernel_rfl) rfl (by rfl) (fun w' => ?_) ?_
                  rotate_left
                  · go_simp <;> with_reducible rfl
                  simp only [List.setIfInBounds_toArray, List.set_cons_zero, List.set_cons_succ]
                  refine wpAnyG_pure 5 70 (v := ?_) rfl (by kernel_rfl) rfl (by rfl) (fun w' => ?_) ?_
                  rotate_left
                  · go_simp <;> with_reducible rfl
                  simp only [List.setIfInBounds_toArray, List.set_cons_zero, List.set_cons_succ]
                  refine wpAnyG_pure 6 71 (v := ?_) rfl (by kernel_rfl) rfl (by rfl) (fun w' => ?_) ?_
                  rotate_left
                  · go_simp <;> with_reducible rfl
                  simp only [List.setIfInBounds_toArray, List.set_cons_zero, List.set_cons_succ]
                  refine wpAnyG_pure 7 72 (v := ?_) rfl (by kernel_rfl) rfl (by rfl) (fun w' => ?_) ?_
                  rotate_left
                  · go_simp <;> with_reducible rfl
                  simp only [List.setIfInBounds_toArray, List.set_cons_zero, List.set_cons_succ]
                  refine wpAnyG_pure 8 73 (v := ?_) rfl (by kernel_rfl) rfl (by rfl) (fun w' => ?_) ?_
                  rotate_left
                  · go_simp <;> with_reducible rfl
                  simp only [List.setIfInBounds_toArray, List.set_cons_zero, List.set_cons_succ]
                  refine wpAnyG_take 9 74 (v := ?_) rfl (by kernel_rfl) rfl (by rfl) (fun w' hG' => ?_) ?_
                  rotate_left
                  · have hx0 := Grew.cell hG' (show wr.drew.cell? _ = _ from e0)
                    have hx2 := Grew.cell hG' (show wr.drew.cell? _ = _ from d0)
                    go_simp <;> with_reducible rfl
                  simp only [List.setIfInBounds_toArray, List.set_cons_zero, List.set_cons_succ]
                  refine wpAnyG_pure 10 75 (v := ?_) rfl (by kernel_rfl) rfl (by rfl) (fun w' => ?_) ?_
                  rotate_left
                  · go_simp <;> with_reducible rfl
                  simp only [List.setIfInBounds_toArray, List.set_cons_zero, List.set_cons_succ]
                  refine wpAnyG_pure 11 76 (v := ?_) rfl (by kernel_rfl) rfl (by rfl) (fun w' => ?_) ?_
                  rotate_left
                  · go_simp <;> with_reducible rfl
                  simp only [List.setIfInBounds_toArray, List.set_cons_zero, List.set_cons_succ]
                  refine wpAnyG_pure 12 77 (v := ?_) rfl (by kernel_rfl) rfl (by rfl) (fun w' => ?_) ?_
                  rotate_left
                  · go_simp <;> with_reducible rfl
                  simp only [List.setIfInBounds_toArray, List.set_cons_zero, List.set_cons_succ]
                  refine wpAnyG_pure 13 78 (v := ?_) rfl (by kernel_rfl) rfl (by rfl) (fun w' => ?_) ?_
                  rotate_left
                  · go_simp <;> with_reducible rfl
                  simp only [List.setIfInBounds_toArray, List.set_cons_zero, List.set_cons_succ]
                  refine wpAnyG_take 14 79 (v := ?_) rfl (by kernel_rfl) rfl (by rfl) (fun w' hG' => ?_) ?_
                  rotate_left
                  · have hx0 := Grew.cell hG' (show wr.drew.cell? _ = _ from e0)
                    have hx2 := Grew.cell hG' (show wr.drew.cell? _ = _ from d0)
                    go_simp <;> with_reducible rfl
                  simp only [List.setIfInBounds_toArray, List.set_cons_zero, List.set_cons_succ]
                  refine wpAnyG_pure 15 80 (v := ?_) rfl (by kernel_rfl) rfl (by rfl) (fun w' => ?_) ?_
                  rotate_left
                  · go_simp <;> with_reducible rfl
                  simp only [List.setIfInBounds_toArray, List.set_cons_zero, List.set_cons_succ]
                  refine wpAnyG_pure 16 81 (v := ?_) rfl (by kernel_rfl) rfl (by rfl) (fun w' => ?_) ?_
                  rotate_left
                  · go_simp <;> with_reducible rfl
                  simp only [List.setIfInBounds_toArray, List.set_cons_zero, List.set_cons_succ]
                  refine wpAnyG_done (by kernel_rfl) ?_
                  clear e0 d0
                  have hK1 := hK.drew
                  go_wp2_with fail
                  go_roundw
                  case rel => exact ⟨n + 1, by omega, by go_num, hS1, hK1⟩
                  case measure => simp [intOf]; omega
                · as_aux_lemma =>
                  have hS1 : Hid (OwnR wr.drew w.heap.size (.slice Ao no co) out ∧ (∀ y ∈ out.take n, y.1 < p) ∧ ∀ y, out[n]? = some y → p ≤ y.1) := ⟨hS.out.1.grew (Kept.refl _ _).drew, hS.out.2, fun y hy => by
                    rw [HY.out] at hy
                    obtain rfl := Option.some.inj hy
                    exact Int.not_lt.1 hpp⟩
                  have hpd : decide (p' < p) = false := decide_eq_false hpp
                  clear hS HY
                  have e0' := hK.cell e0
                  have e0s := e0
                  subst hAo
                  replace e0 := e0'
                  go_upto_region 13 with fail
                  refine wp_region_grow [] (fun _ => False) (by kernel_rfl) ?_
                  simp only [List.size_toArray, List.length_cons, List.length_nil, Nat.reduceAdd]
                  refine wpAnyG_pure 0 65 (v := ?_) rfl (by kernel_rfl) rfl (by rfl) (fun w' => ?_) ?_
                  rotate_left
                  · go_simp <;> with_reducible rfl
                  simp only [List.setIfInBounds_toArray, List.set_cons_zero, List.set_cons_succ]
                  refine wpAnyG_pure 1 66 (v := ?_) rfl (by kernel_rfl) rfl (by rfl) (fun w' => ?_) ?_
                  rotate_left
                  · go_simp <;> with_reducible rfl
                  simp only [List.setIfInBounds_toArray, List.set_cons_zero, List.set_cons_succ]
                  refine wpAnyG_pure 2 67 (v := ?_) rfl (by kernel_rfl) rfl (by rfl) (fun w' => ?_) ?_
                  rotate_left
                  · go_simp <;> with_reducible rfl
                  simp only [List.setIfInBounds_toArray, List.set_cons_zero, List.set_cons_succ]
                  refine wpAnyG_pure 3 68 (v := ?_) rfl (by kernel_rfl) rfl (by rfl) (fun w' => ?_) ?_
                  rotate_left
                  · go_simp <;> with_reducible rfl
                  simp only [List.setIfInBounds_toArray, List.set_cons_zero, List.set_cons_succ]
                  refine wpAnyG_pure 4 69 (v := ?_) rfl (by kernel_rfl) rfl (by rfl) (fun w' => ?_) ?_
                  rotate_left
                  · go_simp <;> with_reducible rfl
                  simp only [List.setIfInBounds_toArray, List.set_cons_zero, List.set_cons_succ]
                  refine wpAnyG_pure 5 70 (v := ?_) rfl (by kernel_rfl) rfl (by rfl) (fun w' => ?_) ?_
                  rotate_left
                  · go_simp <;> with_reducible rfl
                  simp only [List.setIfInBounds_toArray, List.set_cons_zero, List.set_cons_succ]
                  refine wpAnyG_pure 6 71 (v := ?_) rfl (by kernel_rfl) rfl (by rfl) (fun w' => ?_) ?_
                  rotate_left
                  · go_simp <;> with_reducible rfl
                  simp only [List.setIfInBounds_toArray, List.set_cons_zero, List.set_cons_succ]
                  refine wpAnyG_pure 7 72 (v := ?_) rfl (by kernel_rfl) rfl (by rfl) (fun w' => ?_) ?_
                  rotate_left
                  · go_simp <;> with_reducible rfl
                  simp only [List.setIfInBounds_toArray, List.set_cons_zero, List.set_cons_succ]
                  refine wpAnyG_pure 8 73 (v := ?_) rfl (by kernel_rfl) rfl (by rfl) (fun w' => ?_) ?_
                  rotate_left
                  · go_simp <;> with_reducible rfl
                  simp only [List.setIfInBounds_toArray, List.set_cons_zero, List.set_cons_succ]
                  refine wpAnyG_take 9 74 (v := ?_) rfl (by kernel_rfl) rfl (by rfl) (fun w' hG' => ?_) ?_
                  rotate_left
                  · have hx0 := Grew.cell hG' (show wr.drew.cell? _ = _ from e0)
                    have hx2 := Grew.cell hG' (show wr.drew.cell? _ = _ from d0)
                    go_simp <;> with_reducible rfl
                  simp only [List.setIfInBounds_toArray, List.set_cons_zero, List.set_cons_succ]
                  refine wpAnyG_pure 10 75 (v := ?_) rfl (by kernel_rfl) rfl (by rfl) (fun w' => ?_) ?_
                  rotate_left
                  · go_simp <;> with_reducible rfl
                  simp only [List.setIfInBounds_toArray, List.set_cons_zero, List.set_cons_succ]
                  refine wpAnyG_pure 11 76 (v := ?_) rfl (by kernel_rfl) rfl (by rfl) (fun w' => ?_) ?_
                  rotate_left
                  · go_simp <;> with_reducible rfl
                  simp only [List.setIfInBounds_toArray, List.set_cons_zero, List.set_cons_succ]
                  refine wpAnyG_pure 12 77 (v := ?_) rfl (by kernel_rfl) rfl (by rfl) (fun w' => ?_) ?_
                  rotate_left
                  · go_simp <;> with_reducible rfl
                  simp only [List.setIfInBounds_toArray, List.set_cons_zero, List.set_cons_succ]
                  refine wpAnyG_pure 13 78 (v := ?_) rfl (by kernel_rfl) rfl (by rfl) (fun w' => ?_) ?_
                  rotate_left
                  · go_simp <;> with_reducible rfl
                  simp only [List.setIfInBounds_toArray, List.set_cons_zero, List.set_cons_succ]
                  refine wpAnyG_take 14 79 (v := ?_) rfl (by kernel_rfl) rfl (by rfl) (fun w' hG' => ?_) ?_
                  rotate_left
                  · have hx0 := Grew.cell hG' (show wr.drew.cell? _ = _ from e0)
                    have hx2 := Grew.cell hG' (show wr.drew.cell? _ = _ from d0)
                    go_simp <;> with_reducible rfl
                  simp only [List.setIfInBounds_toArray, List.set_cons_zero, List.set_cons_succ]
                  refine wpAnyG_pure 15 80 (v := ?_) rfl (by kernel_rfl) rfl (by rfl) (fun w' => ?_) ?_
                  rotate_left
                  · go_simp <;> with_reducible rfl
                  simp only [List.setIfInBounds_toArray, List.set_cons_zero, List.set_cons_succ]
                  refine wpAnyG_pure 16 81 (v := ?_) rfl (by kernel_rfl) rfl (by rfl) (fun w' => ?_) ?_
                  rotate_left
                  · go_simp <;> with_reducible rfl
                  simp only [List.setIfInBounds_toArray, List.set_cons_zero, List.set_cons_succ]
                  refine wpAnyG_done (by kernel_rfl) ?_
                  clear e0 d0 e0'
                  have hK1 := hK.drew
                  clear hK
                  have e0 := e0s
                  obtain ⟨wz, hwz⟩ : ∃ W, wr.drew = W := ⟨_, rfl⟩
                  rw [hwz] at hS1 hK1 ⊢
                  clear hwz
                  have hS := hS1
                  have hK := hK1
                  clear hS1 hK1
                  rcases hOS with ⟨h0, _⟩ | ⟨g, hg, hBg, _, hnc, hcm⟩
                  · cases h0
                  · obtain ⟨hg1, hg2⟩ : g = bo ∧ offo = 0 := by cases hg; exact ⟨rfl, rfl⟩
                    clear hg
                    subst hg1
                    subst hg2
                    rw [HO.out] at hnc
                    unfold maxLen at hcm
                    have hR : RowA wz (some ⟨g, 0, none⟩) out := by
                      obtain ⟨A2, c2, e2, r2⟩ := hS.out.1.row
                      obtain ⟨a1, _, _⟩ := Value.slice.inj e2
                      rw [a1]; exact r2
                    have hR' := Lib.hid hR
                    obtain ⟨H0, hH0⟩ : ∃ H, wz.heap.size = H := ⟨_, rfl⟩
                    have HH0 := Lib.hid hH0
                    have hE : Hid ((wz.alloc (.cells #[] 58)).ownsRow H0 58 2 (.slice (some ⟨wz.heap.size, 0, none⟩) 0 0) 0 []) := rarc_empty wz H0 (by omega)
                    have n1 : Hid (∀ j u, (cellsA (out.take n))[j]? = some u → (wz.alloc (.cells #[] 58)).cell? ((⟨g, 0, none⟩ : Addr).add j) = some u) := by
                      intro j u hj
                      have ha : (⟨g, 0, none⟩ : Addr).add j = ⟨g, 0 + j, none⟩ := by unfold Addr.add; split <;> simp_all
                      rw [ha]
                      exact Grew.cell ((Kept.refl _ _).alloc _) (hR'.out.cells j u (cellsA_take out n j u hj))
                    have n2 := Lib.hid (cellsA_one (out.take n))
                    have n3 : Hid ((cellsA (out.take n)).length = n * 2) := by show _ = _; rw [cellsA_length, List.length_take, HO.out, Nat.min_eq_left hn]
                    have l5 : (n : Int) ≤ (co : Int) := by omega
                    have l6 : (n : Int) ≤ (no : Int) := by omega
                    have l7 : (0 : Int) ≤ (n : Int) := by omega
                    have l8 : (no : Int) ≤ (co : Int) := by omega
                    have hSize := Lib.hid (show w.heap.size ≤ wz.heap.size from hK.size)
                    have HK := Lib.hid hK
                    clear hR hH0 hK
                    go_wp2_with
                      (first
                      | (at_builtin
                         refine wpList_append_own _ rfl (.tmp 84) (.tmp 87) 42 (by rfl) H0 58 i0 (.agg #[i64 0, .int .u64 0]) 2 16 Try.underlying42 hi hz0 hz1 hz2 (by rfl) (by omega) _ 0 [] rfl hE.out ⟨g, 0, none⟩ n _ (cellsA (out.take n)) (by rfl) n3.out n1.out n2.out (by unfold maxLen; omega) (by omega) (by have := HH0.out; simp; omega) ?_
                         intro v1 w1 hown1 hg1 _
                         rw [Nat.zero_add, List.nil_append] at hown1
                         have g1 : Grew wz w1 := ((Kept.refl (fun _ => False) wz).alloc _).grown hg1 (fun k hk => by cases hk; exact .inr (Nat.le_refl _))
                         have f0 := Grew.cell (HK.out.trans g1) e0
                         have f1 := Grew.cell (HK.out.trans g1) e1
                         have s1 := g1.size
                         have G1 := Lib.hid g1
                         have O1 := Lib.hid hown1
                         have hb1 : H0 ≤ w1.heap.size := by have := HH0.out; omega
                         clear hown1 hg1 hE n1 n2 n3 g1 s1)
                      | (at_builtin
                         refine wpList_append_lies _ rfl (.tmp 89) (.tmp 94) 42 (by rfl) H0 58 i0 (.agg #[i64 0, .int .u64 0]) 2 16 Try.underlying42 hi hz0 hz1 hz2 (by rfl) (by omega) v1 n (cellsA (out.take n)) (by rfl) (Grew.own ((Kept.refl (fun _ => False) w1).alloc _) O1.out) ⟨w1.heap.size, 0, none⟩ 1 1 (arCells (p, q)) (by rfl) (by rfl) (World.news_of_block (heap_alloc_new _ _)) (by intro u hu; simp [arCells] at hu; rcases hu with rfl | rfl <;> rfl) (by omega) (by unfold maxLen; omega) (by omega) (by simp; omega) _ rfl ?_
                         intro g2 cap2 w2 hown2 hg2 _ _
                         have g2' : Grew wz w2 := (G1.out.alloc _).grown hg2 (fun k hk => .inr (by have := (O1.out.lt k hk).1; have := HH0.out; omega))
                         have G2 := Lib.hid g2'
                         have O2 := Lib.hid hown2
                         have m1 : Hid (∀ j u, (cellsA (out.drop n))[j]? = some u → w2.cell? ((⟨g, n * 2, none⟩ : Addr).add j) = some u) := by
                           intro j u hj
                           have ha : (⟨g, n * 2, none⟩ : Addr).add j = ⟨g, n * 2 + j, none⟩ := by unfold Addr.add; split <;> simp_all
                           rw [ha]
                           rw [cellsA_drop] at hj
                           have := hR'.out.cells _ u hj
                           rw [Nat.zero_add] at this
                           exact G2.out.cell this
                         have m2 := Lib.hid (cellsA_one (out.drop n))
                         have m3 : Hid ((cellsA (out.drop n)).length = (no - n) * 2) := by show _ = _; have hq := cellsA_length (out.drop n); rw [List.length_drop, HO.out] at hq; omega
                         have hb2 : H0 ≤ w2.heap.size := by have := HH0.out; have := G2.out.size; omega
                         clear hown2 hg2 g2' O1 G1 f0 f1)
                      | (at_builtin
                         refine wpList_append_own _ rfl (.tmp 96) (.tmp 99) 42 (by rfl) H0 58 i0 (.agg #[i64 0, .int .u64 0]) 2 16 Try.underlying42 hi hz0 hz1 hz2 (by rfl) (by omega) (.slice (some ⟨g2, 0, none⟩) (n + 1) cap2) (n + 1) _ (by rfl) O2.out ⟨g, n * 2, none⟩ (no - n) _ (cellsA (out.drop n)) (by rfl) m3.out m1.out m2.out (by unfold maxLen; omega) (by omega) hb2 ?_
                         intro v3 w3 hown3 hg3 _
                         have hK3 : Grew w w3 := (HK.out.trans G2.out).grown hg3 (fun k hk => .inr (by have := (O2.out.lt k hk).1; have := HH0.out; have := hSize.out; omega))
                         have hS3 : Hid (OwnR w3 w.heap.size v3 (out.take n ++ (p, q) :: out.drop n) ∧ Kept2 l (k + 1) (out.take n ++ (p, q) :: out.drop n) ∧ (out.take n ++ (p, q) :: out.drop n).length ≤ k + 1) := by
                           have el : (out.take n ++ (p, q) :: out.drop n).length = n + 1 + (no - n) := by rw [List.length_append, List.length_cons, List.length_take, List.length_drop, HO.out, Nat.min_eq_left hn]; omega
                           refine ⟨OwnR.base (B := H0) ?_ (by have := HH0.out; have := hSize.out; omega), HQ.out.2.yes HX.out HQ.out.1 hS.out.2.1 hS.out.2.2, by rw [el]; omega⟩
                           unfold OwnR
                           rw [el, cellsA_append, show cellsA ((p, q) :: out.drop n) = arCells (p, q) ++ cellsA (out.drop n) from rfl, ← List.append_assoc]
                           exact hown3
                         obtain ⟨out3, ho3⟩ : ∃ o, out.take n ++ (p, q) :: out.drop n = o := ⟨_, rfl⟩
                         rw [ho3] at hS3
                         clear hown3 hg3 O2 G2 m1 m2 m3 hS HQ HX HK ho3))
                    go_roundw
                    case rel =>
                      exact ⟨k + 1, out3, by omega, by go_num, hS3, hK3⟩
                    case measure => simp [intOf]; omega
              · obtain rfl : no = n := by omega
                have hS1 : Hid (OwnR wr.drew w.heap.size (.slice Ao no co) out ∧ (∀ y ∈ out.take no, y.1 < p) ∧ ∀ y, out[no]? = some y → p ≤ y.1) := ⟨hS.out.1.grew (Kept.refl _ _).drew, hS.out.2, fun y hy => by
                  rw [List.getElem?_eq_none (by rw [HO.out]; exact Nat.le_refl _)] at hy
                  cases hy⟩
                have k2 : (0 : Int) ≤ (no : Int) := by omega
                clear hS hlt3
                go_upto_region 13 with fail
                refine wp_region_grow [] (fun _ => False) (by kernel_rfl) ?_
                simp only [List.size_toArray, List.length_cons, List.length_nil, Nat.reduceAdd]
                refine wpAnyG_pure 0 65 (v := ?_) rfl (by kernel_rfl) rfl (by rfl) (fun w' => ?_) ?_
                rotate_left
                · go_simp <;> with_reducible rfl
                simp only [List.setIfInBounds_toArray, List.set_cons_zero, List.set_cons_succ]
                refine wpAnyG_pure 1 66 (v := ?_) rfl (by kernel_rfl) rfl (by rfl) (fun w' => ?_) ?_
                rotate_left
                · go_simp <;> with_reducible rfl
                simp only [List.setIfInBounds_toArray, List.set_cons_zero, List.set_cons_succ]
                refine wpAnyG_pure 2 67 (v := ?_) rfl (by kernel_rfl) rfl (by rfl) (fun w' => ?_) ?_
                rotate_left
                · go_simp <;> with_reducible rfl
                simp only [List.setIfInBounds_toArray, List.set_cons_zero, List.set_cons_succ]
                refine wpAnyG_pure 3 68 (v := ?_) rfl (by kernel_rfl) rfl (by rfl) (fun w' => ?_) ?_
                rotate_left
                · go_simp <;> with_reducible rfl
                simp only [List.setIfInBounds_toArray, List.set_cons_zero, List.set_cons_succ]
                refine wpAnyG_pure 4 69 (v := ?_) rfl (by kernel_rfl) rfl (by rfl) (fun w' => ?_) ?_
                rotate_left
                · go_simp <;> with_reducible rfl
                simp only [List.setIfInBounds_toArray, List.set_cons_zero, List.set_cons_succ]
                refine wpAnyG_pass 5 70 rfl (by kernel_rfl) rfl (by rfl) ?_
                simp only [List.setIfInBounds_toArray, List.set_cons_zero, List.set_cons_succ]
                refine wpAnyG_pass 6 71 rfl (by kernel_rfl) rfl (by rfl) ?_
                simp only [List.setIfInBounds_toArray, List.set_cons_zero, List.set_cons_succ]
                refine wpAnyG_pass 7 72 rfl (by kernel_rfl) rfl (by rfl) ?_
                simp only [List.setIfInBounds_toArray, List.set_cons_zero, List.set_cons_succ]
                refine wpAnyG_pass 8 73 rfl (by kernel_rfl) rfl (by rfl) ?_
                simp only [List.setIfInBounds_toArray, List.set_cons_zero, List.set_cons_succ]
                refine wpAnyG_pass 9 74 rfl (by kernel_rfl) rfl (by rfl) ?_
                simp only [List.setIfInBounds_toArray, List.set_cons_zero, List.set_cons_succ]
                refine wpAnyG_pass 10 75 rfl (by kernel_rfl) rfl (by rfl) ?_
                simp only [List.setIfInBounds_toArray, List.set_cons_zero, List.set_cons_succ]
                refine wpAnyG_pass 11 76 rfl (by kernel_rfl) rfl (by rfl) ?_
                simp only [List.setIfInBounds_toArray, List.set_cons_zero, List.set_cons_succ]
                refine wpAnyG_pass 12 77 rfl (by kernel_rfl) rfl (by rfl) ?_
                simp only [List.setIfInBounds_toArray, List.set_cons_zero, List.set_cons_succ]
                refine wpAnyG_pass 13 78 rfl (by kernel_rfl) rfl (by rfl) ?_
                simp only [List.setIfInBounds_toArray, List.set_cons_zero, List.set_cons_succ]
                refine wpAnyG_pass 14 79 rfl (by kernel_rfl) rfl (by rfl) ?_
                simp only [List.setIfInBounds_toArray, List.set_cons_zero, List.set_cons_succ]
                refine wpAnyG_pass 15 80 rfl (by kernel_rfl) rfl (by rfl) ?_
                simp only [List.setIfInBounds_toArray, List.set_cons_zero, List.set_cons_succ]
                refine wpAnyG_pure 16 81 (v := ?_) rfl (by kernel_rfl) rfl (by rfl) (fun w' => ?_) ?_
                rotate_left
                · go_simp <;> with_reducible rfl
                simp only [List.setIfInBounds_toArray, List.set_cons_zero, List.set_cons_succ]
                refine wpAnyG_done (by kernel_rfl) ?_
                have hK1 := hK.drew
                clear hK
                obtain ⟨wz, hwz⟩ : ∃ W, wr.drew = W := ⟨_, rfl⟩
                rw [hwz] at hS1 hK1 ⊢
                clear hwz
                have hS := hS1
                have hK := hK1
                clear hS1 hK1
                rcases hOS with ⟨rfl, ho, rfl⟩ | ⟨g, rfl, hBg, _, hnc, hcm⟩
                · as_aux_lemma =>
                  subst ho
                  obtain rfl : no = 0 := by have := HO.out; simp at this; omega
                  obtain ⟨H0, hH0⟩ : ∃ H, wz.heap.size = H := ⟨_, rfl⟩
                  have HH0 := Lib.hid hH0
                  have hE : Hid ((wz.alloc (.cells #[] 58)).ownsRow H0 58 2 (.slice (some ⟨wz.heap.size, 0, none⟩) 0 0) 0 []) := rarc_empty wz H0 (by omega)
                  have hN : Hid (∀ j u, (arCells (p, q))[j]? = some u → ((wz.alloc (.cells #[] 58)).alloc (.cells #[i64 p, .int .u64 q] 58)).cell? ((⟨wz.heap.size + 1, 0, none⟩ : Addr).add j) = some u) := by
                    have := World.news_of_block (heap_alloc_new (wz.alloc (.cells #[] 58)) (.cells #[i64 p, .int .u64 q] 58))
                    rw [World.size_alloc] at this
                    exact this
                  have q0 := run_append_none hi (wz.alloc (.cells #[] 58)) wz.heap.size 0 0 (Nat.le_refl _)
                  have HK := Lib.hid hK
                  have f0 := Grew.cell (hK.alloc (.cells #[] 58)) e0
                  have f1 := Grew.cell (hK.alloc (.cells #[] 58)) e1
                  clear hH0 hK e0 e1
                  go_wp2_with
                    (at_builtin
                     refine wpList_append_lies _ rfl (.tmp 89) (.tmp 94) 42 (by rfl) H0 58 i0 (.agg #[i64 0, .int .u64 0]) 2 16 Try.underlying42 hi hz0 hz1 hz2 (by rfl) (by omega) (.slice (some ⟨wz.heap.size, 0, none⟩) 0 0) 0 [] (by rfl) (Grew.own ((Kept.refl (fun _ => False) (wz.alloc (.cells #[] 58))).alloc _) hE.out) ⟨wz.heap.size + 1, 0, none⟩ 1 1 (arCells (p, q)) (by rfl) (by rfl) hN.out (by intro u hu; simp [arCells] at hu; rcases hu with rfl | rfl <;> rfl) (by omega) (by unfold maxLen; omega) (by omega) (by have := HH0.out; simp; omega) _ rfl ?_
                     intro g2 cap2 w2 hown2 hg2 _ _
                     have q1 : 1 ≤ cap2 := own_cap hown2
                     have q2 : (decide (1 ≤ cap2)) = true := decide_eq_true q1
                     have hK3 : Grew w w2 := ((HK.out.alloc _).alloc _).grown hg2 (fun k hk => .inr (by cases hk; exact HK.out.size))
                     have hS3 : Hid (OwnR w2 w.heap.size (.slice (some ⟨g2, 0, none⟩) (0 + 1) cap2) [(p, q)] ∧ Kept2 l (k + 1) [(p, q)] ∧ [(p, q)].length ≤ k + 1) :=
                       ⟨OwnR.base (B := H0) hown2 (by have := HH0.out; have := HK.out.size; omega), HQ.out.2.yes (k := 0) HX.out HQ.out.1 hS.out.2.1 hS.out.2.2, by simp⟩
                     clear hown2 hg2 hS HQ HX HK f0 f1 hN hE)
                  go_roundw
                  case rel => exact ⟨k + 1, [(p, q)], by omega, by go_num, hS3, hK3⟩
                  case measure => simp [intOf]; omega
                · as_aux_lemma =>
                  rw [HO.out] at hnc
                  unfold maxLen at hcm
                  by_cases hcc : co = no
                  · obtain rfl : no = co := hcc.symm
                    have hR : RowA wz (some ⟨g, 0, none⟩) out := by
                      obtain ⟨A2, c2, e2, r2⟩ := hS.out.1.row
                      obtain ⟨a1, _, _⟩ := Value.slice.inj e2
                      rw [a1]; exact r2
                    have hR' := Lib.hid hR
                    obtain ⟨H0, hH0⟩ : ∃ H, wz.heap.size = H := ⟨_, rfl⟩
                    have HH0 := Lib.hid hH0
                    have hE : Hid ((wz.alloc (.cells #[] 58)).ownsRow H0 58 2 (.slice (some ⟨wz.heap.size, 0, none⟩) 0 0) 0 []) := rarc_empty wz H0 (by omega)
                    have n1 : Hid (∀ j u, (cellsA (out.take no))[j]? = some u → (wz.alloc (.cells #[] 58)).cell? ((⟨g, 0, none⟩ : Addr).add j) = some u) := by
                      intro j u hj
                      have ha : (⟨g, 0, none⟩ : Addr).add j = ⟨g, 0 + j, none⟩ := by unfold Addr.add; split <;> simp_all
                      rw [ha]
                      exact Grew.cell ((Kept.refl _ _).alloc _) (hR'.out.cells j u (cellsA_take out no j u hj))
                    have n2 := Lib.hid (cellsA_one (out.take no))
                    have n3 : Hid ((cellsA (out.take no)).length = no * 2) := by show _ = _; rw [cellsA_length, List.length_take, HO.out, Nat.min_eq_left hn]
                    have l5 : (no : Int) ≤ (no : Int) := by omega
                    have l6 : (no : Int) ≤ (no : Int) := by omega
                    have l7 : (0 : Int) ≤ (no : Int) := by omega
                    have l8 : (no : Int) ≤ (no : Int) := by omega
                    have hSize := Lib.hid (show w.heap.size ≤ wz.heap.size from hK.size)
                    have HK := Lib.hid hK
                    clear hR hH0 hK
                    go_wp2_with
                      (first
                      | (at_builtin
                         refine wpList_append_own _ rfl (.tmp 84) (.tmp 87) 42 (by rfl) H0 58 i0 (.agg #[i64 0, .int .u64 0]) 2 16 Try.underlying42 hi hz0 hz1 hz2 (by rfl) (by omega) _ 0 [] rfl hE.out ⟨g, 0, none⟩ no _ (cellsA (out.take no)) (by rfl) n3.out n1.out n2.out (by unfold maxLen; omega) (by omega) (by have := HH0.out; simp; omega) ?_
                         intro v1 w1 hown1 hg1 _
                         rw [Nat.zero_add, List.nil_append] at hown1
                         have g1 : Grew wz w1 := ((Kept.refl (fun _ => False) wz).alloc _).grown hg1 (fun k hk => by cases hk; exact .inr (Nat.le_refl _))
                         have f0 := Grew.cell (HK.out.trans g1) e0
                         have f1 := Grew.cell (HK.out.trans g1) e1
                         have s1 := g1.size
                         have G1 := Lib.hid g1
                         have O1 := Lib.hid hown1
                         have hb1 : H0 ≤ w1.heap.size := by have := HH0.out; omega
                         clear hown1 hg1 hE n1 n2 n3 g1 s1)
                      | (at_builtin
                         refine wpList_append_lies _ rfl (.tmp 89) (.tmp 94) 42 (by rfl) H0 58 i0 (.agg #[i64 0, .int .u64 0]) 2 16 Try.underlying42 hi hz0 hz1 hz2 (by rfl) (by omega) v1 no (cellsA (out.take no)) (by rfl) (Grew.own ((Kept.refl (fun _ => False) w1).alloc _) O1.out) ⟨w1.heap.size, 0, none⟩ 1 1 (arCells (p, q)) (by rfl) (by rfl) (World.news_of_block (heap_alloc_new _ _)) (by intro u hu; simp [arCells] at hu; rcases hu with rfl | rfl <;> rfl) (by omega) (by unfold maxLen; omega) (by omega) (by simp; omega) _ rfl ?_
                         intro g2 cap2 w2 hown2 hg2 _ _
                         have g2' : Grew wz w2 := (G1.out.alloc _).grown hg2 (fun k hk => .inr (by have := (O1.out.lt k hk).1; have := HH0.out; omega))
                         have G2 := Lib.hid g2'
                         have O2 := Lib.hid hown2
                         have hd : Hid (out.drop no = []) := List.drop_eq_nil_of_le (by rw [HO.out]; exact Nat.le_refl _)
                         have hb2 : H0 ≤ w2.heap.size := by have := HH0.out; have := G2.out.size; omega
                         clear hown2 hg2 g2' O1 G1 f0 f1)
                      | (at_builtin
                         refine wpList_append_own _ rfl (.tmp 96) (.tmp 99) 42 (by rfl) H0 58 i0 (.agg #[i64 0, .int .u64 0]) 2 16 Try.underlying42 hi hz0 hz1 hz2 (by rfl) (by omega) (.slice (some ⟨g2, 0, none⟩) (no + 1) cap2) (no + 1) _ (by rfl) O2.out _ 0 _ [] (by rfl) (by rfl) (fun j u h => by simp at h) (fun u h => by simp at h) (by unfold maxLen; omega) (by omega) hb2 ?_
                         intro v3 w3 hown3 hg3 _
                         have hK3 : Grew w w3 := (HK.out.trans G2.out).grown hg3 (fun k hk => .inr (by have := (O2.out.lt k hk).1; have := HH0.out; have := hSize.out; omega))
                         have hS3 : Hid (OwnR w3 w.heap.size v3 (out.take no ++ (p, q) :: out.drop no) ∧ Kept2 l (k + 1) (out.take no ++ (p, q) :: out.drop no) ∧ (out.take no ++ (p, q) :: out.drop no).length ≤ k + 1) := by
                           have el : (out.take no ++ (p, q) :: out.drop no).length = no + 1 + 0 := by rw [List.length_append, List.length_cons, List.length_take, List.length_drop, HO.out, Nat.min_eq_left hn]; omega
                           refine ⟨OwnR.base (B := H0) ?_ (by have := HH0.out; have := hSize.out; omega), HQ.out.2.yes HX.out HQ.out.1 hS.out.2.1 hS.out.2.2, by rw [el]; omega⟩
                           unfold OwnR
                           rw [el, hd.out, show cellsA (out.take no ++ [(p, q)]) = (cellsA (out.take no) ++ arCells (p, q)) ++ [] by rw [cellsA_append, List.append_nil]; rfl]
                           exact hown3
                         obtain ⟨out3, ho3⟩ : ∃ o, out.take no ++ (p, q) :: out.drop no = o := ⟨_, rfl⟩
                         rw [ho3] at hS3
                         clear hown3 hg3 O2 G2 hS HQ HX HK ho3))
                    go_roundw
                    case rel =>
                      exact ⟨k + 1, out3, by omega, by go_num, hS3, hK3⟩
                    case measure => simp [intOf]; omega
                  · have hcc1 : (no : Int) < (co : Int) := by omega
                    have hcc2 : co - no ≠ 0 := by omega
                    have hR : RowA wz (some ⟨g, 0, none⟩) out := by
                      obtain ⟨A2, c2, e2, r2⟩ := hS.out.1.row
                      obtain ⟨a1, _, _⟩ := Value.slice.inj e2
                      rw [a1]; exact r2
                    have hR' := Lib.hid hR
                    obtain ⟨H0, hH0⟩ : ∃ H, wz.heap.size = H := ⟨_, rfl⟩
                    have HH0 := Lib.hid hH0
                    have hE : Hid ((wz.alloc (.cells #[] 58)).ownsRow H0 58 2 (.slice (some ⟨wz.heap.size, 0, none⟩) 0 0) 0 []) := rarc_empty wz H0 (by omega)
                    have n1 : Hid (∀ j u, (cellsA (out.take no))[j]? = some u → (wz.alloc (.cells #[] 58)).cell? ((⟨g, 0, none⟩ : Addr).add j) = some u) := by
                      intro j u hj
                      have ha : (⟨g, 0, none⟩ : Addr).add j = ⟨g, 0 + j, none⟩ := by unfold Addr.add; split <;> simp_all
                      rw [ha]
                      exact Grew.cell ((Kept.refl _ _).alloc _) (hR'.out.cells j u (cellsA_take out no j u hj))
                    have n2 := Lib.hid (cellsA_one (out.take no))
                    have n3 : Hid ((cellsA (out.take no)).length = no * 2) := by show _ = _; rw [cellsA_length, List.length_take, HO.out, Nat.min_eq_left hn]
                    have l5 : (no : Int) ≤ (co : Int) := by omega
                    have l6 : (no : Int) ≤ (no : Int) := by omega
                    have l7 : (0 : Int) ≤ (no : Int) := by omega
                    have l8 : (no : Int) ≤ (co : Int) := by omega
                    have hSize := Lib.hid (show w.heap.size ≤ wz.heap.size from hK.size)
                    have HK := Lib.hid hK
                    clear hR hH0 hK
                    go_wp2_with
                      (first
                      | (at_builtin
                         refine wpList_append_own _ rfl (.tmp 84) (.tmp 87) 42 (by rfl) H0 58 i0 (.agg #[i64 0, .int .u64 0]) 2 16 Try.underlying42 hi hz0 hz1 hz2 (by rfl) (by omega) _ 0 [] rfl hE.out ⟨g, 0, none⟩ no _ (cellsA (out.take no)) (by rfl) n3.out n1.out n2.out (by unfold maxLen; omega) (by omega) (by have := HH0.out; simp; omega) ?_
                         intro v1 w1 hown1 hg1 _
                         rw [Nat.zero_add, List.nil_append] at hown1
                         have g1 : Grew wz w1 := ((Kept.refl (fun _ => False) wz).alloc _).grown hg1 (fun k hk => by cases hk; exact .inr (Nat.le_refl _))
                         have f0 := Grew.cell (HK.out.trans g1) e0
                         have f1 := Grew.cell (HK.out.trans g1) e1
                         have s1 := g1.size
                         have G1 := Lib.hid g1
                         have O1 := Lib.hid hown1
                         have hb1 : H0 ≤ w1.heap.size := by have := HH0.out; omega
                         clear hown1 hg1 hE n1 n2 n3 g1 s1)
                      | (at_builtin
                         refine wpList_append_lies _ rfl (.tmp 89) (.tmp 94) 42 (by rfl) H0 58 i0 (.agg #[i64 0, .int .u64 0]) 2 16 Try.underlying42 hi hz0 hz1 hz2 (by rfl) (by omega) v1 no (cellsA (out.take no)) (by rfl) (Grew.own ((Kept.refl (fun _ => False) w1).alloc _) O1.out) ⟨w1.heap.size, 0, none⟩ 1 1 (arCells (p, q)) (by rfl) (by rfl) (World.news_of_block (heap_alloc_new _ _)) (by intro u hu; simp [arCells] at hu; rcases hu with rfl | rfl <;> rfl) (by omega) (by unfold maxLen; omega) (by omega) (by simp; omega) _ rfl ?_
                         intro g2 cap2 w2 hown2 hg2 _ _
                         have g2' : Grew wz w2 := (G1.out.alloc _).grown hg2 (fun k hk => .inr (by have := (O1.out.lt k hk).1; have := HH0.out; omega))
                         have G2 := Lib.hid g2'
                         have O2 := Lib.hid hown2
                         have hd : Hid (out.drop no = []) := List.drop_eq_nil_of_le (by rw [HO.out]; exact Nat.le_refl _)
                         have hb2 : H0 ≤ w2.heap.size := by have := HH0.out; have := G2.out.size; omega
                         clear hown2 hg2 g2' O1 G1 f0 f1)
                      | (at_builtin
                         refine wpList_append_own _ rfl (.tmp 96) (.tmp 99) 42 (by rfl) H0 58 i0 (.agg #[i64 0, .int .u64 0]) 2 16 Try.underlying42 hi hz0 hz1 hz2 (by rfl) (by omega) (.slice (some ⟨g2, 0, none⟩) (no + 1) cap2) (no + 1) _ (by rfl) O2.out _ 0 _ [] (by rfl) (by rfl) (fun j u h => by simp at h) (fun u h => by simp at h) (by unfold maxLen; omega) (by omega) hb2 ?_
                         intro v3 w3 hown3 hg3 _
                         have hK3 : Grew w w3 := (HK.out.trans G2.out).grown hg3 (fun k hk => .inr (by have := (O2.out.lt k hk).1; have := HH0.out; have := hSize.out; omega))
                         have hS3 : Hid (OwnR w3 w.heap.size v3 (out.take no ++ (p, q) :: out.drop no) ∧ Kept2 l (k + 1) (out.take no ++ (p, q) :: out.drop no) ∧ (out.take no ++ (p, q) :: out.drop no).length ≤ k + 1) := by
                           have el : (out.take no ++ (p, q) :: out.drop no).length = no + 1 + 0 := by rw [List.length_append, List.length_cons, List.length_take, List.length_drop, HO.out, Nat.min_eq_left hn]; omega
                           refine ⟨OwnR.base (B := H0) ?_ (by have := HH0.out; have := hSize.out; omega), HQ.out.2.yes HX.out HQ.out.1 hS.out.2.1 hS.out.2.2, by rw [el]; omega⟩
                           unfold OwnR
                           rw [el, hd.out, show cellsA (out.take no ++ [(p, q)]) = (cellsA (out.take no) ++ arCells (p, q)) ++ [] by rw [cellsA_append, List.append_nil]; rfl]
                           exact hown3
                         obtain ⟨out3, ho3⟩ : ∃ o, out.take no ++ (p, q) :: out.drop no = o := ⟨_, rfl⟩
                         rw [ho3] at hS3
                         clear hown3 hg3 O2 G2 hS HQ HX HK ho3))
                    go_roundw
                    case rel =>
                      exact ⟨k + 1, out3, by omega, by go_num, hS3, hK3⟩
                    case measure => simp [intOf]; omega
    · obtain rfl : k = L := by omega
      obtain ⟨A2, c2, e2, r2⟩ := hS.out.1.row
      have hfin : Hid (RowA wr A2 out ∧ out.length ≤ 60 ∧ Kept2 l k out) := ⟨r2, by have := hS.out.2.2; omega, hS.out.2.1⟩
      rw [e2] at *
      clear hS
      go_wp2_with fail
      go_ret
      exact ⟨_, _, out, rfl, hfin.out.1, hfin.out.2.1, hfin.out.2.2, hK⟩
end Go.Proofs.Ythbcgdogmkgebaa
