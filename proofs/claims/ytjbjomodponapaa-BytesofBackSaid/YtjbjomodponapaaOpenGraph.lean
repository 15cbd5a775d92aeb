/- A graph that comes in, opened to its number of nodes and its row of edges. -/
import Derived.Test.YtjbjomodponapaaEdge
import Derived.Test.YtjbjomodponapaaOpen
import Derived.Lib.SmallJoins
namespace Go.Proofs.Ytjbjomodponapaa
open Go.ChangeShapes Go.WideShapes Go.RowKit Go.Deep Go.Joins

theorem open_edges {H : Type} {enc : TypeId × Value → H} {w : World} {fuel : Nat} {v : Value} {x : DataW H × List MemPlace} (h : DataW.trod enc Try.prog w 0 (fun _ => true) true fuel 22 [v] = some x) :
    ∃ A c es, v = .slice A (List.length es) c ∧ RowE w A es ∧ (List.length es) ≤ 9223372036854775807 := by
  have hform : ∃ A len c, v = .slice A len c := by
    rcases open_slice Try.underlying22 h with ⟨hcs, _⟩ | ⟨a, len, cap, m, n, D, Pl, hcs, _⟩
    · simp only [List.cons.injEq, and_true] at hcs
      exact ⟨_, _, _, hcs⟩
    · simp only [List.cons.injEq, and_true] at hcs
      exact ⟨_, _, _, hcs⟩
  obtain ⟨A, len, cap, rfl⟩ := hform
  obtain ⟨h1, h2, _, h3⟩ := open_structs Try.underlying22 Try.underlying51 (by kernel_rfl) (by kernel_rfl) (by decide) h
  unfold maxLen at h2
  refine ⟨A, cap, (List.range len).map fun i => (rdI w A (i * 3 + 0), rdI w A (i * 3 + 1), rdI w A (i * 3 + 2)), by simp, fun i e he => ?_, by simp; omega⟩
  have hi : i < len := by
    have := (List.getElem?_eq_some_iff.1 he).1
    simpa using this
  simp [List.getElem?_range hi] at he
  subst he
  obtain ⟨b, off, rfl, hb, hc⟩ := h3 i hi
  obtain ⟨v0, y0, n0, c0, t0⟩ := hc 0 _ rfl
  obtain ⟨v1, y1, n1, c1, t1⟩ := hc 1 _ rfl
  obtain ⟨v2, y2, n2, c2, t2⟩ := hc 2 _ rfl
  have e0 := (int_at Try.underlying3 c0 t0).1
  have e1 := (int_at Try.underlying3 c1 t1).1
  have e2 := (int_at Try.underlying44 c2 t2).1
  exact ⟨b, off, rfl, hb, e0, e1, e2⟩

theorem open_graph {H : Type} {enc : TypeId × Value → H} {w : World} {base : Nat} {v : Value} {d : DataW H} {p : List MemPlace} (o : Value.okWide Try.prog w .any base 24 v) (h : DataW.Trod enc Try.prog w 0 (fun _ => true) true 24 v d p) :
    ∃ n A c es, v = .agg #[i64 n, .slice A (List.length es) c] ∧ RowE w A es ∧ (List.length es) ≤ 9223372036854775807 := by
  obtain ⟨v0, v1, y0, y1, n, rfl, _, _, h0, h1⟩ := open_agg2 Try.underlying24 (by kernel_rfl) (by kernel_rfl) o h
  obtain ⟨A, c, es, rfl, hr, hl⟩ := open_edges h1
  obtain ⟨x, hx, _, _⟩ := DataW.trod_int Try.underlying3 h0
  simp only [List.cons.injEq, and_true] at hx
  subst hx
  exact ⟨_, A, c, es, rfl, hr, hl⟩
end Go.Proofs.Ytjbjomodponapaa
