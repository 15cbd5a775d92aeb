/- What a search holds: the row of how far, the heap of those that wait, the row of steps. -/
import Derived.Test.YthbcgdogmkgebaaOfN
import Derived.Test.YthbcgdogmkgebaaRefRight
import Derived.Test.YthbcgdogmkgebaaHUse
import Derived.Test.YthbcgdogmkgebaaSStamp
namespace Go.Proofs.Ythbcgdogmkgebaa
open Go.RowKit

theorem blk_ne {w : World} {a b : Nat} {t u : TypeId} {cs ds : Array Value} (h : Blk w a t cs) (k : Blk w b u ds) (hne : t ≠ u) : a ≠ b := fun e => by
  subst e
  have := (show w.heap[a]? = _ from h).symm.trans (show w.heap[a]? = _ from k)
  cases this
  exact hne rfl
/-- Block g holds n ints: f. -/
def IntsF (w : World) (g n : Nat) (f : Int → Int) : Prop := ∃ cur, Blk w g 3 cur ∧ ∀ i : Nat, i < n → cur[i]? = some (i64 (f (i : Int)))
theorem IntsF.cell {w : World} {g n i : Nat} {f : Int → Int} (h : IntsF w g n f) (hi : i < n) : w.cell? ⟨g, i, none⟩ = some (i64 (f (i : Int))) := by
  obtain ⟨cur, h, hc⟩ := h
  rw [h.cell i, hc i hi]
theorem IntsF.frozen {w : World} {g n : Nat} {f : Int → Int} (h : IntsF w g n f) (i : Nat) : w.frozen? ⟨g, i, none⟩ = false := h.elim fun _ h => h.1.frozen i
theorem IntsF.lt {w : World} {g n : Nat} {f : Int → Int} (h : IntsF w g n f) : g < w.heap.size := h.elim fun _ h => h.1.lt
theorem IntsF.kept {F : Nat → Prop} {w w' : World} {g n : Nat} {f : Int → Int} (h : IntsF w g n f) (k : Kept F w w') (hF : ¬ F g) : IntsF w' g n f := h.imp fun _ h => ⟨h.1.kept k hF, h.2⟩
theorem IntsF.grew {w w' : World} {g n : Nat} {f : Int → Int} (h : IntsF w g n f) (k : Grew w w') : IntsF w' g n f := h.kept k fun h => h
theorem IntsF.set {w : World} {g n i : Nat} {f : Int → Int} (h : IntsF w g n f) (hi : i < n) (b : Int) : IntsF (w.setCell ⟨g, i, none⟩ (i64 b)) g n (upd f (i : Int) b) := by
  obtain ⟨cur, h, hc⟩ := h
  refine ⟨_, h.set i (i64 b), fun j hj => ?_⟩
  by_cases hji : j = i
  · subst hji
    have hs := (Array.getElem?_eq_some_iff.1 (hc j hj)).1
    rw [Array.getElem?_setIfInBounds_self_of_lt hs, upd_same]
  · rw [Array.getElem?_setIfInBounds_ne (fun e => hji e.symm), hc j hj, upd_other _ _ (by omega)]
theorem made_of {W : World} {g m : Nat} (h : Blk W g 3 (madeCells #[i64 0] m)) : IntsF W g m (fun _ => 0) := ⟨_, h, fun i hi => by simp [madeCells, Value.cells, hi, Nat.mod_one]⟩
theorem info_int : (Try.prog.info? 3).map (fun i => (i.zero, i.size, i.bytes)) = some (some (i64 0), 1, 8) := by kernel_rfl

/-- What the search holds. -/
structure SS (w wr : World) (R C N gS H A2 r6 : Nat) (v : Value) (bx : Array Value) (far : Int → Option Int) (st : Int → Int) (l : List (Int × Int)) (many : Int) : Prop where
  stamp : Sm.Stamp wr R C N far 1 many
  steps : IntsF wr gS N st
  heap : Hp.Hp wr H A2 N v l
  box : Blk wr r6 33 bx
  kept : Grew w wr
  new : w.heap.size ≤ R ∧ w.heap.size ≤ C ∧ w.heap.size ≤ gS ∧ w.heap.size ≤ H ∧ w.heap.size ≤ A2 ∧ w.heap.size ≤ r6
  ne : gS ≠ A2
  vb : ∀ j, v.ownBlock = some j → w.heap.size ≤ j
section
variable {w wr w' : World} {R C N gS H A2 r6 : Nat} {v v' : Value} {bx : Array Value} {far far' : Int → Option Int} {st : Int → Int} {l l' : List (Int × Int)} {many many' : Int}
theorem hp_steps (s : Hp.Hp wr H A2 N v l) (h : IntsF wr gS N st) (hne : gS ≠ A2) : ¬ Hp.HB H A2 v gS := by
  obtain ⟨cur, hb, _⟩ := h
  obtain ⟨a, s, _⟩ := s
  rintro (rfl | h | h)
  · exact blk_ne s.box hb (by decide) rfl
  · exact hne h
  · obtain ⟨_, c1, g1⟩ := own_type s.row h
    exact blk_ne (show Blk wr gS _ c1 from g1) hb (by decide) rfl
theorem SS.grew (s : SS w wr R C N gS H A2 r6 v bx far st l many) (k : Grew wr w') : SS w w' R C N gS H A2 r6 v bx far st l many :=
  ⟨s.stamp.kept k (fun h => h) (fun h => h), s.steps.grew k, s.heap.grew k, s.box.grew k, s.kept.trans k, s.new, s.ne, s.vb⟩
theorem SS.turn (s : SS w wr R C N gS H A2 r6 v bx far st l many) (t : Hp.Turn wr w' H A2 N v v' l') : SS w w' R C N gS H A2 r6 v' bx far st l' many := by
  obtain ⟨cs, hc, _⟩ := s.stamp.cells
  refine ⟨s.stamp.kept t.kept (s.heap.apart s.stamp.row (by decide) (by decide) (by decide)) (s.heap.apart hc (by decide) (by decide) (by decide)), s.steps.kept t.kept (hp_steps s.heap s.steps s.ne), t.hp,
    s.box.kept t.kept (s.heap.apart s.box (by decide) (by decide) (by decide)), s.kept.then t.kept (fun i hi h => ?_), s.new, s.ne, fun j hj => ?_⟩
  · rcases h with h | h | h
    · have := s.new.2.2.2.1; omega
    · have := s.new.2.2.2.2.1; omega
    · have := s.vb i h; omega
  · rcases Nat.lt_or_ge j wr.heap.size with h1 | h1
    · exact s.vb j (t.old j h1 hj)
    · have := s.kept.size; omega
theorem SS.two (s : SS w wr R C N gS H A2 r6 v bx far st l many) (k : Kept (Sm.Two R C) wr w') (h : Sm.Stamp w' R C N far' 1 many') : SS w w' R C N gS H A2 r6 v bx far' st l many' := by
  obtain ⟨cs, hc, _⟩ := s.stamp.cells
  obtain ⟨cur, hs, _⟩ := s.steps
  have a1 := s.heap.apart s.stamp.row (by decide) (by decide) (by decide)
  have a2 := s.heap.apart hc (by decide) (by decide) (by decide)
  refine ⟨h, s.steps.kept k (fun e => ?_), s.heap.kept k (fun j hj e => ?_), s.box.kept k (fun e => ?_), s.kept.then k (fun i hi e => ?_), s.new, s.ne, s.vb⟩
  · rcases e with e | e
    · exact blk_ne hs s.stamp.row (by decide) e
    · exact blk_ne hs hc (by decide) e
  · rcases e with rfl | rfl
    · exact a1 hj
    · exact a2 hj
  · rcases e with e | e
    · exact blk_ne s.box s.stamp.row (by decide) e
    · exact blk_ne s.box hc (by decide) e
  · rcases e with e | e
    · have := s.new.1; omega
    · have := s.new.2.1; omega
theorem SS.step (s : SS w wr R C N gS H A2 r6 v bx far st l many) {i : Nat} (hi : i < N) (b : Int) : SS w (wr.setCell ⟨gS, i, none⟩ (i64 b)) R C N gS H A2 r6 v bx far (upd st (i : Int) b) l many := by
  obtain ⟨cs, hc, _⟩ := s.stamp.cells
  obtain ⟨cur, hs, _⟩ := s.steps
  have k : Kept (· = gS) wr (wr.setCell ⟨gS, i, none⟩ (i64 b)) := (Kept.refl (· = gS) wr).setCell (p := ⟨gS, i, none⟩) (.inl rfl) _
  have a1 := hp_steps s.heap s.steps s.ne
  refine ⟨s.stamp.kept k (fun e => ?_) (fun e => ?_), s.steps.set hi b, s.heap.kept k (fun j hj e => ?_), s.box.kept k (fun e => ?_), s.kept.then k (fun i hi e => ?_), s.new, s.ne, s.vb⟩
  · exact blk_ne hs s.stamp.row (by decide) e.symm
  · exact blk_ne hs hc (by decide) e.symm
  · have e' : j = gS := e
    subst e'
    exact a1 hj
  · exact blk_ne hs s.box (by decide) e.symm
  · have e' : i = gS := e
    have := s.new.2.2.1; omega
end
end Go.Proofs.Ythbcgdogmkgebaa
