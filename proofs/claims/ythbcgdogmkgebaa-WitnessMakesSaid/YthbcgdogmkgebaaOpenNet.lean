/- A net that comes in, opened to its rows of arcs and its row of truths. -/
import Derived.Test.YthbcgdogmkgebaaOpen
import Derived.Test.YthbcgdogmkgebaaNet
import Derived.Lib.SmallJoins
namespace Go.Proofs.Ythbcgdogmkgebaa
open Go.ChangeShapes Go.WideShapes Go.RowKit Go.Deep Go.Joins

theorem slice_form {H : Type} {enc : TypeId × Value → H} {w : World} {fuel : Nat} {v : Value} {t e : TypeId} {x : DataW H × List MemPlace} (ht : Try.prog.underlying t = some (.slice e)) (h : DataW.trod enc Try.prog w 0 (fun _ => true) true fuel t [v] = some x) :
    ∃ A len c, v = .slice A len c := by
  rcases open_slice ht h with ⟨hcs, _⟩ | ⟨a, len, cap, m, n, D, Pl, hcs, _⟩
  · simp only [List.cons.injEq, and_true] at hcs
    exact ⟨_, _, _, hcs⟩
  · simp only [List.cons.injEq, and_true] at hcs
    exact ⟨_, _, _, hcs⟩

theorem open_row {H : Type} {enc : TypeId × Value → H} {w : World} {fuel : Nat} {v : Value} {x : DataW H × List MemPlace} (h : DataW.trod enc Try.prog w 0 (fun _ => true) true fuel 42 [v] = some x) :
    ∃ A c l, v = .slice A (List.length l) c ∧ RowA w A l ∧ (List.length l) ≤ 9223372036854775807 := by
  obtain ⟨A, len, cap, rfl⟩ := slice_form Try.underlying42 h
  obtain ⟨h1, h2, _, h3⟩ := open_structs Try.underlying42 Try.underlying58 (by kernel_rfl) (by kernel_rfl) (by decide) h
  unfold maxLen at h2
  refine ⟨A, cap, (List.range len).map fun i => (rdI w A (i * 2 + 0), rdI w A (i * 2 + 1)), by simp, fun i e he => ?_, by simp; omega⟩
  have hi : i < len := by
    have := (List.getElem?_eq_some_iff.1 he).1
    simpa using this
  simp [List.getElem?_range hi] at he
  subst he
  obtain ⟨b, off, rfl, hb, hc⟩ := h3 i hi
  obtain ⟨v0, y0, n0, c0, t0⟩ := hc 0 _ rfl
  obtain ⟨v1, y1, n1, c1, t1⟩ := hc 1 _ rfl
  have e0 := (int_at Try.underlying3 c0 t0).1
  have e1 := (int_at Try.underlying26 c1 t1).1
  exact ⟨b, off, rfl, hb, e0, e1⟩

theorem open_rows {H : Type} {enc : TypeId × Value → H} {w : World} {fuel : Nat} {v : Value} {x : DataW H × List MemPlace} (h : DataW.trod enc Try.prog w 0 (fun _ => true) true fuel 22 [v] = some x) :
    ∃ A c ls, v = .slice A (List.length ls) c ∧ RowN w A ls ∧ (List.length ls) ≤ 9223372036854775807 ∧ ∀ l ∈ ls, List.length l ≤ 9223372036854775807 := by
  rcases open_slice1 Try.underlying22 (by kernel_rfl) h with ⟨hcs, _⟩ | ⟨a, len, cap, m, n, V, D, Pl, hcs, _, hl, hm, hmm, _, hi⟩
  · simp only [List.cons.injEq, and_true] at hcs
    exact ⟨none, 0, [], hcs, (by intro i l hl; simp at hl), by simp, by simp⟩
  · simp only [List.cons.injEq, and_true] at hcs
    subst hcs
    have hmle : len ≤ m := by rw [hmm]; split <;> omega
    have hex : ∀ i : Nat, ∃ l : List Ar, i < len → ∃ A c, V i = .slice A l.length c ∧ RowA w A l ∧ l.length ≤ 9223372036854775807 := fun i => by
      by_cases hil : i < len
      · obtain ⟨A, c, l, h1, h2, h3⟩ := open_row (hi i (by omega)).2
        exact ⟨l, fun _ => ⟨A, c, h1, h2, h3⟩⟩
      · exact ⟨[], fun h => absurd h hil⟩
    obtain ⟨L, hL⟩ := Classical.skolem.1 hex
    unfold maxLen at hm
    refine ⟨some a, cap, (List.range len).map L, by simp, fun i l hl' => ?_, by simp; omega, fun l hl' => ?_⟩
    · have hil : i < len := by
        have := (List.getElem?_eq_some_iff.1 hl').1
        simpa using this
      simp [List.getElem?_range hil] at hl'
      subst hl'
      obtain ⟨A, c, h1, h2, _⟩ := hL i hil
      have hc0 := (hi 0 (by omega)).1
      obtain ⟨b, off, rfl⟩ := plain_of_cell hc0
      have hlt := World.block_lt_of_cell? _ _ (cell_add hc0)
      refine ⟨b, off, A, c, rfl, by simpa using hlt, ?_, h2⟩
      rw [← h1]
      exact cell_add (hi i (by omega)).1
    · obtain ⟨i, hir, rfl⟩ := List.mem_map.1 hl'
      obtain ⟨_, _, _, _, h3⟩ := hL i (List.mem_range.1 hir)
      exact h3

theorem open_bools {H : Type} {enc : TypeId × Value → H} {w : World} {fuel : Nat} {v : Value} {x : DataW H × List MemPlace} (h : DataW.trod enc Try.prog w 0 (fun _ => true) true fuel 23 [v] = some x) :
    ∃ A c gs, v = .slice A (List.length gs) c ∧ RowB w A gs ∧ (List.length gs) ≤ 9223372036854775807 := by
  rcases open_slice1 Try.underlying23 (by kernel_rfl) h with ⟨hcs, _⟩ | ⟨a, len, cap, m, n, V, D, Pl, hcs, _, hl, hm, hmm, _, hi⟩
  · simp only [List.cons.injEq, and_true] at hcs
    exact ⟨none, 0, [], hcs, (by intro i l hl; simp at hl), by simp⟩
  · simp only [List.cons.injEq, and_true] at hcs
    subst hcs
    have hmle : len ≤ m := by rw [hmm]; split <;> omega
    have hex : ∀ i : Nat, ∃ g : Bool, i < len → V i = .bool g := fun i => by
      by_cases hil : i < len
      · obtain ⟨b, hb, _⟩ := DataW.trod_bool Try.underlying4 (hi i (by omega)).2
        simp only [List.cons.injEq, and_true] at hb
        exact ⟨b, fun _ => hb⟩
      · exact ⟨false, fun h => absurd h hil⟩
    obtain ⟨L, hL⟩ := Classical.skolem.1 hex
    unfold maxLen at hm
    refine ⟨some a, cap, (List.range len).map L, by simp, fun i g hl' => ?_, by simp; omega⟩
    have hil : i < len := by
      have := (List.getElem?_eq_some_iff.1 hl').1
      simpa using this
    simp [List.getElem?_range hil] at hl'
    subst hl'
    have hc0 := (hi 0 (by omega)).1
    obtain ⟨b, off, rfl⟩ := plain_of_cell hc0
    have hlt := World.block_lt_of_cell? _ _ (cell_add hc0)
    refine ⟨b, off, rfl, by simpa using hlt, ?_⟩
    rw [← hL i hil]
    exact cell_add (hi i (by omega)).1

set_option maxRecDepth 100000 in
theorem open_net {H : Type} {enc : TypeId × Value → H} {w : World} {base : Nat} {v : Value} {d : DataW H} {p : List MemPlace} (o : Value.okWide Try.prog w .any base 25 v) (h : DataW.Trod enc Try.prog w 0 (fun _ => true) true 25 v d p) :
    ∃ A c ls V cG gs, v = .agg #[.slice A (List.length ls) c, .slice V (List.length gs) cG] ∧ RowN w A ls ∧ RowB w V gs ∧ (List.length ls) ≤ 9223372036854775807 ∧ (∀ l ∈ ls, List.length l ≤ 9223372036854775807) ∧ (List.length gs) ≤ 9223372036854775807 := by
  obtain ⟨v0, v1, y0, y1, n, rfl, _, _, h0, h1⟩ := open_agg2 Try.underlying25 (by kernel_rfl) (by kernel_rfl) o h
  obtain ⟨A, c, ls, rfl, hr, hl, hl2⟩ := open_rows h0
  obtain ⟨V, cG, gs, rfl, hg, hg2⟩ := open_bools h1
  exact ⟨A, c, ls, V, cG, gs, rfl, hr, hg, hl, hl2, hg2⟩
end Go.Proofs.Ythbcgdogmkgebaa
