/- The heap: what lies where, and the walks of what is small. -/
import Derived.Test.YthbcgdogmkgebaaRows
import Derived.Test.YthbcgdogmkgebaaWorld
import Derived.Test.YthbcgdogmkgebaaHPlain
import Derived.Deep.AppendLies
import Derived.Deep.QuietTactic
import Derived.BigQuiet
import Derived.Outline
namespace Go.Proofs.Ythbcgdogmkgebaa.Hp
open Go.RowKit

abbrev pt (D : Nat) : Value := .pointer (some ⟨D, 0, none⟩)
abbrev u64 (x : Int) : Value := .int .u64 x
abbrev i64 (x : Int) : Value := .int .i64 x
def itmCells (e : Itm) : List Value := [i64 e.1, u64 e.2]
def cellsI (l : List Itm) : List Value := l.flatMap itmCells
theorem cellsI_length (l : List Itm) : (cellsI l).length = l.length * 2 := by
  induction l with
  | nil => rfl
  | cons e l ih => simp only [cellsI, List.flatMap_cons, List.length_append, List.length_cons] at ih ⊢; rw [ih]; simp [itmCells]; omega
theorem cellsI_append (a b : List Itm) : cellsI (a ++ b) = cellsI a ++ cellsI b := List.flatMap_append
theorem cellsI_get : ∀ (l : List Itm) (i j : Nat) (e : Itm), l[i]? = some e → j < 2 → (cellsI l)[i * 2 + j]? = (itmCells e)[j]?
  | [], i, j, e, h, _ => by simp at h
  | x :: l, 0, j, e, h, hj => by
    simp only [List.getElem?_cons_zero, Option.some.injEq] at h
    subst h
    rw [cellsI, List.flatMap_cons, Nat.zero_mul, Nat.zero_add, List.getElem?_append_left (by simp [itmCells]; omega)]
  | x :: l, i + 1, j, e, h, hj => by
    rw [List.getElem?_cons_succ] at h
    have ih := cellsI_get l i j e h hj
    have e3 : (itmCells x).length = 2 := rfl
    rw [cellsI, List.flatMap_cons, List.getElem?_append_right (by omega), e3, show (i + 1) * 2 + j - 2 = i * 2 + j by omega]
    exact ih
theorem cellsI_set : ∀ (l : List Itm) (i : Nat) (e : Itm), i < l.length → ((cellsI l).set (i * 2) (i64 e.1)).set (i * 2 + 1) (u64 e.2) = cellsI (l.set i e)
  | [], i, e, h => by simp at h
  | x :: l, 0, e, h => rfl
  | x :: l, i + 1, e, h => by
    have ih := cellsI_set l i e (by simpa using h)
    have e3 : (itmCells x).length = 2 := rfl
    have ec : cellsI (x :: l) = itmCells x ++ cellsI l := by simp [cellsI]
    rw [ec, List.set_append_right _ _ (by omega), List.set_append_right _ _ (by omega), e3, show (i + 1) * 2 - 2 = i * 2 by omega, show (i + 1) * 2 + 1 - 2 = i * 2 + 1 by omega, ih, List.set_cons_succ]
    simp [cellsI]

/-- Heap H, with its places in block A, has the items l at the slice v; a says where each number below N is. -/
structure Heap (w : World) (H A N : Nat) (v : Value) (l : List Itm) (a : List Int) : Prop where
  box : Blk w H 93 #[v, .slice (some ⟨A, 0, none⟩) N N]
  arr : Blk w A 3 (a.map i64).toArray
  row : w.ownsRow (H + 1) 99 2 v l.length (cellsI l)
  lt : A < H
  len : a.length = N
  few : l.length ≤ 65536
  small : N ≤ 65536

/-- What a call on a heap may write. -/
abbrev HB (H A : Nat) (v : Value) : Nat → Prop := fun k => k = H ∨ k = A ∨ v.ownBlock = some k

theorem Heap.kept {F : Nat → Prop} {w w' : World} {H A N : Nat} {v : Value} {l : List Itm} {a : List Int} (s : Heap w H A N v l a) (k : Kept F w w') (hF : ∀ j, HB H A v j → ¬ F j) : Heap w' H A N v l a :=
  ⟨s.box.kept k (hF _ (.inl rfl)), s.arr.kept k (hF _ (.inr (.inl rfl))), Kept.own k s.row fun j hj => hF j (.inr (.inr hj)), s.lt, s.len, s.few, s.small⟩
theorem Heap.grew {w w' : World} {H A N : Nat} {v : Value} {l : List Itm} {a : List Int} (s : Heap w H A N v l a) (k : Grew w w') : Heap w' H A N v l a := s.kept k fun _ _ h => h
theorem Heap.slice {w : World} {H A N : Nat} {v : Value} {l : List Itm} {a : List Int} (s : Heap w H A N v l a) : ∃ V c, v = .slice V l.length c := by
  rcases s.row.2 with ⟨h, h0⟩ | ⟨g, cap, _, hv, _⟩
  · exact ⟨none, 0, by rw [h, h0]⟩
  · exact ⟨_, cap, hv⟩
theorem Heap.item {w : World} {H A N : Nat} {v : Value} {l : List Itm} {a : List Int} (s : Heap w H A N v l a) {i : Nat} {e : Itm} (h : l[i]? = some e) :
    ∃ g c, v = .slice (some ⟨g, 0, none⟩) l.length c ∧ H < g ∧ w.cell? ⟨g, i * 2, none⟩ = some (i64 e.1) ∧ w.cell? ⟨g, i * 2 + 1, none⟩ = some (u64 e.2) ∧ l.length ≤ c := by
  have hl := (List.getElem?_eq_some_iff.1 h).1
  rcases s.row.2 with ⟨_, h0⟩ | ⟨g, cap, cur, hv, hg, h1, h2, _⟩
  · omega
  · have hr := s.row
    rw [hv] at hr
    have hc : ∀ j, j < 2 → w.cell? ⟨g, i * 2 + j, none⟩ = (itmCells e)[j]? := fun j hj => by
      rw [← cellsI_get l i j _ h hj]
      exact World.ownsRow.cellAt hr (i * 2 + j) (by omega)
    exact ⟨g, cap, hv, hg, hc 0 (by omega), hc 1 (by omega), h2⟩
theorem Heap.place {w : World} {H A N : Nat} {v : Value} {l : List Itm} {a : List Int} (s : Heap w H A N v l a) {p : Nat} {x : Int} (h : a[p]? = some x) : w.cell? ⟨A, p, none⟩ = some (i64 x) := by
  rw [s.arr.cell p]; simp [h]

theorem less_any (p q : Itm) (w : World) : Calls Try.prog 63 #[.agg #[i64 p.1, u64 p.2], .agg #[i64 q.1, u64 q.2]] w fun e w' => e = .returned (.bool (decide (p.2 < q.2 ∨ p.2 = q.2 ∧ p.1 < q.1))) ∧ Grew w w' := by
  obtain ⟨pv, pk⟩ := p
  obtain ⟨qv, qk⟩ := q
  have hK : Grew w ((w.alloc (.cells #[i64 pv, u64 pk] 99)).alloc (.cells #[i64 qv, u64 qk] 99)) := ((Kept.refl _ _).alloc _).alloc _
  rcases Int.lt_trichotomy pk qk with h | h | h
  · have e1 : decide (pk < qk ∨ pk = qk ∧ pv < qv) = true := decide_eq_true (.inl h)
    rw [e1]
    have h1 : decide (pk < qk) = true := decide_eq_true h
    go_enter Try.func63, Try.ntmps63
    go_wp2_with fail
    go_ret
    exact ⟨rfl, hK⟩
  · subst h
    rcases Int.lt_or_le pv qv with h2 | h2
    · have e1 : decide (pk < pk ∨ pk = pk ∧ pv < qv) = true := decide_eq_true (.inr ⟨rfl, h2⟩)
      rw [e1]
      go_enter Try.func63, Try.ntmps63
      go_wp2_with fail
      go_ret
      exact ⟨by simp [h2], hK⟩
    · have e1 : decide (pk < pk ∨ pk = pk ∧ pv < qv) = false := decide_eq_false (by omega)
      rw [e1]
      go_enter Try.func63, Try.ntmps63
      go_wp2_with fail
      go_ret
      exact ⟨by simp; omega, hK⟩
  · have e1 : decide (pk < qk ∨ pk = qk ∧ pv < qv) = false := decide_eq_false (by omega)
    rw [e1]
    have h1 : ¬ pk < qk := by omega
    have h2 : ¬ pk = qk := by omega
    go_enter Try.func63, Try.ntmps63
    go_wp2_with fail
    go_ret
    exact ⟨by simp, hK⟩

theorem less_i {pv pk qv qk : Int} {b : Bool} (h : lessI (pv, pk) (qv, qk) = b) (W : World) : Calls Try.prog 63 #[.agg #[i64 pv, u64 pk], .agg #[i64 qv, u64 qk]] W fun e w' => e = .returned (.bool b) ∧ Grew W w' := by
  subst h
  exact less_any (pv, pk) (qv, qk) W

theorem len_nil (w : World) : Calls Try.prog 65 #[.pointer none] w fun e w' => e = .returned (i64 0) ∧ w = w' := by
  go_enter Try.func65, Try.ntmps65
  go_wp2_with fail
  go_ret
  exact ⟨rfl, rfl⟩
theorem len_any (w : World) (H A N : Nat) (v : Value) (l : List Itm) (a : List Int) (s : Heap w H A N v l a) : Calls Try.prog 65 #[pt H] w fun e w' => e = .returned (i64 l.length) ∧ w = w' := by
  obtain ⟨V, c, rfl⟩ := s.slice
  have hc : w.cell? ⟨H, 0, none⟩ = some (.slice V l.length c) := s.box.cell 0
  go_enter Try.func65, Try.ntmps65
  go_wp2_with fail
  go_ret
  exact ⟨rfl, rfl⟩
theorem where_nil (x : Int) (w : World) : Calls Try.prog 66 #[.pointer none, i64 x] w fun e w' => e = .returned (i64 (-1)) ∧ w = w' := by
  go_enter Try.func66, Try.ntmps66
  go_wp2_with fail
  go_ret
  exact ⟨rfl, rfl⟩
theorem where_out (w : World) (H A N : Nat) (v : Value) (l : List Itm) (a : List Int) (s : Heap w H A N v l a) (x : Int) (h : x < 0 ∨ (N : Int) ≤ x) : Calls Try.prog 66 #[pt H, i64 x] w fun e w' => e = .returned (i64 (-1)) ∧ w = w' := by
  have hc : w.cell? ⟨H, 1, none⟩ = some (.slice (some ⟨A, 0, none⟩) N N) := s.box.cell 1
  have hs := s.small
  rcases Int.lt_or_le x 0 with h0 | h0
  · clear h
    go_enter Try.func66, Try.ntmps66
    go_wp2_with fail
    go_ret
    exact ⟨rfl, rfl⟩
  · have h1 : (N : Int) ≤ x := by omega
    clear h
    go_enter Try.func66, Try.ntmps66
    go_wp2_with fail
    go_ret
    exact ⟨rfl, rfl⟩
theorem where_in (w : World) (H A N : Nat) (v : Value) (l : List Itm) (a : List Int) (s : Heap w H A N v l a) (p : Nat) (x : Int) (hx : a[p]? = some x) : Calls Try.prog 66 #[pt H, i64 (p : Int)] w fun e w' => e = .returned (i64 x) ∧ w = w' := by
  have hc : w.cell? ⟨H, 1, none⟩ = some (.slice (some ⟨A, 0, none⟩) N N) := s.box.cell 1
  have hp := s.place hx
  have hl := (List.getElem?_eq_some_iff.1 hx).1
  rw [s.len] at hl
  have hs := s.small
  have h0 : (0 : Int) ≤ (p : Int) := by omega
  have h1 : (p : Int) < (N : Int) := by omega
  go_enter Try.func66, Try.ntmps66
  go_wp2_with fail
  go_ret
  exact ⟨rfl, rfl⟩
end Go.Proofs.Ythbcgdogmkgebaa.Hp
