/- Whether a graph is right, by the document: the walk. -/
import Derived.Test.YtjbjomodponapaaEdge
namespace Go.Proofs.Ytjbjomodponapaa
open Go.RowKit

def nodeOk (n : Int) (e : Edg) : Bool := decide (0 ≤ e.1 ∧ e.1 < n) && (decide (0 ≤ e.2.1 ∧ e.2.1 < n) && !decide (e.1 = e.2.1))
def wOk (e : Edg) : Bool := decide (1 ≤ e.2.2 ∧ e.2.2 ≤ 4294967296)
def rightF (n : Int) (es : List Edg) : Int := if n < 1 ∨ 4096 < n then 2 else if 16384 < es.length then 5 else if es.all (nodeOk n) = true then (if es.all wOk = true then 0 else 2) else 7

theorem all_next {es : List Edg} {p : Edg → Bool} {k : Nat} {e : Edg} (h : (es.take k).all p = true) (he : es[k]? = some e) (hp : p e = true) : (es.take (k + 1)).all p = true := by
  rw [List.take_add_one, List.all_append, h, he]
  simp [hp]
theorem all_fail {es : List Edg} {p : Edg → Bool} {k : Nat} {e : Edg} (he : es[k]? = some e) (hp : p e = false) : es.all p = false := by
  rw [List.all_eq_false]
  exact ⟨e, List.mem_of_getElem? he, by simp [hp]⟩
end Go.Proofs.Ytjbjomodponapaa
