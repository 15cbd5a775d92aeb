/- Loops over a function: what a loop's own word keeps, in the words of World. -/
import Derived.Test.YtmpnaleenehkgaaWorld
import Derived.RangeFuncFrom
import Derived.RangeFuncWrites
import Derived.RangeFuncLeaves
import Derived.Shelf.Abstract
import Derived.OwnWalkIn
import Derived.TacticsInMore
import Derived.LoopNIn
import Derived.LoopIn
import Derived.WalkMore
namespace Go.Proofs.Ytmpnaleenehkgaa
open Go.RowKit Go.Shelf

theorem wpIn_scope_wide {n : Nat} {P : Program} {c : Code} {Q : Exit → Act → World → Prop} {a : Act} {w : World} (h : c.wpIn Fence.wide n P (Exit.noGoto Q) a w) : (Code.scope c).wpIn Fence.wide n P Q a w :=
  wpIn_wide.2 (wp_scope_straight (wpIn_wide.1 h))

theorem own_blk {β : Type} (B g : Nat) (t : TypeId) (f : β → Array Value) : OwnFrom B (fun (s : β) W => Blk W g t (f s)) := fun s A W row hs hg hr =>
  hs.grown hg (fun e => by
    obtain ⟨_, o, ho, hc⟩ := hr g e.symm
    rw [show A.heap[g]? = some (.cells (f s) t (0, 0)) from hs] at ho
    cases ho; cases hc)
theorem own_kept {β : Type} {F : Nat → Prop} {w : World} {B : Nat} (hB : ∀ k, B ≤ k → k < w.heap.size → F k) : OwnFrom B (fun (_ : β) W => Kept F w W) := fun s A W row hs hg hr =>
  hs.grown hg (fun k e => by
    rcases Nat.lt_or_ge k w.heap.size with h | h
    · exact .inl (hB k (hr k e).1 h)
    · exact .inr h)
theorem own_grew {β : Type} {w : World} {B : Nat} (hB : w.heap.size ≤ B) : OwnFrom B (fun (_ : β) W => Grew w W) := own_kept (fun k h1 h2 => absurd h2 (by omega))
theorem own_row {β : Type} (B base e size : Nat) (v : β → Value) (n : β → Nat) (xs : β → List Value) : OwnFrom B (fun (s : β) W => W.ownsRow base e size (v s) (n s) (xs s)) := fun s A W row hs hg hr => by
  refine ⟨hs.1, ?_⟩
  rcases hs.2 with hn | ⟨g, cap, cur, hv, hb, hgg, rest⟩
  · exact .inl hn
  · refine .inr ⟨g, cap, cur, hv, hb, (hg.block g (Array.getElem?_eq_some_iff.1 hgg).1 (fun e => ?_)).trans hgg, rest⟩
    obtain ⟨_, o, ho, hc⟩ := hr g e.symm
    rw [hgg] at ho
    cases ho; cases hc
theorem own_ex {β γ : Type} {B : Nat} {I : γ → β → World → Prop} (h : ∀ x, OwnFrom B (I x)) : OwnFrom B (fun s W => ∃ x, I x s W) := fun s A W row hs hg hr => by
  obtain ⟨x, hx⟩ := hs
  exact ⟨x, h x s A W row hx hg hr⟩
theorem own_pure {β : Type} {B : Nat} (p : β → Prop) : OwnFrom B (fun (s : β) (_ : World) => p s) := fun _ _ _ _ hs _ _ => hs
theorem Kept.putObj {F : Nat → Prop} {w W : World} (h : Kept F w W) (D : Nat) (o' : Obj) (hD : F D ∨ w.heap.size ≤ D) : Kept F w (W.putObj D o') :=
  h.grown (grownBy_putObj' W D o') (fun k e => by cases e; exact hD)
theorem Kept.from {F : Nat → Prop} {W W' : World} (h : Kept F W W') (B : Nat) (hF : ∀ k, F k → k < B ∨ ∀ o : Obj, W.heap[k]? = some o → o.isCells = true) : KeepsFrom B W W' :=
  ⟨h.size, fun k o hB hk ho => (h.block k (Array.getElem?_eq_some_iff.1 hk).1 (fun f => by
    rcases hF k f with h1 | h1
    · omega
    · rw [h1 o hk] at ho; cases ho)).trans hk⟩
theorem Kept.others {F : Nat → Prop} {W W' : World} (h : Kept F W W') (hF : ∀ k, F k → ∀ o : Obj, W.heap[k]? = some o → o.isCells = true) : KeepsOthers W W' :=
  ⟨h.size, fun k o hk ho => (h.block k (Array.getElem?_eq_some_iff.1 hk).1 (fun f => by rw [hF k f o hk] at ho; cases ho)).trans hk⟩
theorem Blk.iscells {w : World} {g : Nat} {t : TypeId} {cs : Array Value} (h : Blk w g t cs) (o : Obj) (ho : w.heap[g]? = some o) : o.isCells = true := by
  rw [show w.heap[g]? = some (.cells cs t (0, 0)) from h] at ho
  cases ho; rfl
end Go.Proofs.Ytmpnaleenehkgaa
