/- Rows of edges: as a call's own, and as they are read. -/
import Derived.Test.YtjbjomodponapaaRows
import Derived.Test.YtjbjomodponapaaWorld
import Derived.Deep.AppendLies
import Derived.Deep.QuietTactic
import Derived.BigQuiet
import Derived.Outline
namespace Go.Proofs.Ytjbjomodponapaa
open Go.RowKit

abbrev pt (D : Nat) : Value := .pointer (some ⟨D, 0, none⟩)
abbrev u64 (x : Int) : Value := .int .u64 x
abbrev i64 (x : Int) : Value := .int .i64 x
abbrev Edg := Int × Int × Int
def edgeCells (e : Edg) : List Value := [i64 e.1, i64 e.2.1, u64 e.2.2]
def cellsOf (es : List Edg) : List Value := es.flatMap edgeCells
theorem cellsOf_length (es : List Edg) : (cellsOf es).length = es.length * 3 := by
  induction es with
  | nil => rfl
  | cons e es ih => simp only [cellsOf, List.flatMap_cons, List.length_append, List.length_cons] at ih ⊢; rw [ih]; simp [edgeCells]; omega
theorem cellsOf_append (a b : List Edg) : cellsOf (a ++ b) = cellsOf a ++ cellsOf b := List.flatMap_append
theorem cellsOf_one (e : Edg) : cellsOf [e] = edgeCells e := by simp [cellsOf]

/-- v is a slice of the call's own that holds the edges es. -/
def Edges (w : World) (B : Nat) (v : Value) (es : List Edg) : Prop := w.ownsRow B 51 3 v es.length (cellsOf es)

theorem info_edge : (Try.prog.info? 51).map (fun i => (i.zero, i.size, i.bytes)) = some (some (.agg #[i64 0, i64 0, u64 0]), 3, 24) := by kernel_rfl

theorem own_form {w : World} {base n size : Nat} {e : TypeId} {v : Value} {xs : List Value} (h : w.ownsRow base e size v n xs) (hn : 0 < n) : ∃ g c, v = .slice (some ⟨g, 0, none⟩) n c := by
  rcases h.2 with ⟨_, h0⟩ | ⟨g, cap, _, hv, _⟩
  · omega
  · exact ⟨g, cap, hv⟩

theorem own_base {w : World} {b b' n size : Nat} {e : TypeId} {v : Value} {xs : List Value} (h : w.ownsRow b e size v n xs) (hb : b' ≤ b) : w.ownsRow b' e size v n xs := by
  refine ⟨h.1, ?_⟩
  rcases h.2 with hn | ⟨g, cap, cur, hv, hg, r⟩
  · exact .inl hn
  · exact .inr ⟨g, cap, cur, hv, by omega, r⟩

theorem own_slice {w : World} {base n size : Nat} {e : TypeId} {v : Value} {xs : List Value} (h : w.ownsRow base e size v n xs) : ∃ A c, v = .slice A n c := by
  rcases h.2 with ⟨rfl, rfl⟩ | ⟨g, cap, _, hv, _⟩
  · exact ⟨none, 0, rfl⟩
  · exact ⟨_, cap, hv⟩

/-- The edges es lie from A on. -/
def RowE (w : World) (A : Option Addr) (es : List Edg) : Prop :=
  ∀ (i : Nat) (e : Edg), es[i]? = some e → ∃ b off, A = some ⟨b, off, none⟩ ∧ b < w.heap.size ∧ w.cell? ⟨b, off + i * 3, none⟩ = some (i64 e.1) ∧ w.cell? ⟨b, off + i * 3 + 1, none⟩ = some (i64 e.2.1) ∧ w.cell? ⟨b, off + i * 3 + 2, none⟩ = some (u64 e.2.2)

theorem RowE.kept {F : Nat → Prop} {w w' : World} {A : Option Addr} {es : List Edg} (h : RowE w A es) (hK : Kept F w w') (hF : ∀ a, A = some a → ¬ F a.block) : RowE w' A es := by
  intro i e he
  obtain ⟨b, off, hA, hb, h0, h1, h2⟩ := h i e he
  have hn := hF _ hA
  exact ⟨b, off, hA, Nat.lt_of_lt_of_le hb hK.size, hK.cell h0 hn, hK.cell h1 hn, hK.cell h2 hn⟩
theorem RowE.grew {w w' : World} {A : Option Addr} {es : List Edg} (h : RowE w A es) (hK : Grew w w') : RowE w' A es := h.kept hK fun _ _ h => h
theorem RowE.nil (w : World) (A : Option Addr) : RowE w A [] := by intro i e he; simp at he

theorem cellsOf_get : ∀ (es : List Edg) (i j : Nat) (e : Edg), es[i]? = some e → j < 3 → (cellsOf es)[i * 3 + j]? = (edgeCells e)[j]?
  | [], i, j, e, h, _ => by simp at h
  | x :: es, 0, j, e, h, hj => by
    simp only [List.getElem?_cons_zero, Option.some.injEq] at h
    subst h
    rw [cellsOf, List.flatMap_cons, Nat.zero_mul, Nat.zero_add, List.getElem?_append_left (by simp [edgeCells]; omega)]
  | x :: es, i + 1, j, e, h, hj => by
    rw [List.getElem?_cons_succ] at h
    have ih := cellsOf_get es i j e h hj
    have e3 : (edgeCells x).length = 3 := rfl
    rw [cellsOf, List.flatMap_cons, List.getElem?_append_right (by omega), e3, show (i + 1) * 3 + j - 3 = i * 3 + j by omega]
    exact ih

theorem Edges.row {w : World} {B : Nat} {v : Value} {es : List Edg} (h : Edges w B v es) : ∃ A c, v = .slice A es.length c ∧ RowE w A es := by
  rcases Nat.eq_zero_or_pos es.length with h0 | h0
  · obtain ⟨A, c, hv⟩ := own_slice h
    refine ⟨A, c, hv, ?_⟩
    rw [List.length_eq_zero_iff.1 h0]
    exact RowE.nil _ _
  · obtain ⟨g, c, rfl⟩ := own_form h h0
    refine ⟨_, c, rfl, fun i e he => ?_⟩
    have hi : i < es.length := by
      rcases Nat.lt_or_ge i es.length with hl | hl
      · exact hl
      · rw [List.getElem?_eq_none hl] at he; cases he
    have hc : ∀ j, j < 3 → w.cell? ⟨g, i * 3 + j, none⟩ = (edgeCells e)[j]? := fun j hj => by
      rw [← cellsOf_get es i j e he hj]
      exact World.ownsRow.cellAt h (i * 3 + j) (by omega)
    refine ⟨g, 0, rfl, (h.lt g rfl).2, ?_, ?_, ?_⟩
    · rw [Nat.zero_add]; exact hc 0 (by omega)
    · rw [Nat.zero_add]; exact hc 1 (by omega)
    · rw [Nat.zero_add]; exact hc 2 (by omega)

end Go.Proofs.Ytjbjomodponapaa
