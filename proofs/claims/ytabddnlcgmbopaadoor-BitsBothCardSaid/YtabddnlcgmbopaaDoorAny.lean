/- A set as a law of its numbers; Add and Drop at any number. -/
import Derived.Test.YtabddnlcgmbopaaDoorWith
import Derived.Test.YtabddnlcgmbopaaDoorSeq
namespace Go.Proofs.YtabddnlcgmbopaaDoor
open Go.RowKit

/-- Set S holds the numbers that f holds. -/
def SetF (w : World) (S n : Nat) (v : Value) (f : Nat → Bool) : Prop := ∃ ws, SetB w S n v ws ∧ ∀ i, inW ws i = f i
/-- Number i is put in (b) or out. -/
def putF (n : Nat) (f : Nat → Bool) (i : Int) (b : Bool) : Nat → Bool := fun j => if 0 ≤ i ∧ i < n ∧ (j : Int) = i then b else f j
def isF (n : Nat) (f : Nat → Bool) (i : Int) : Bool := decide (0 ≤ i) && decide (i < n) && f i.toNat

theorem putF_out {n : Nat} {i : Int} (h : i < 0 ∨ (n : Int) ≤ i) (f : Nat → Bool) (b : Bool) : putF n f i b = f := by
  funext j
  unfold putF
  rw [if_neg (by omega)]
theorem putF_same {n i : Nat} {f : Nat → Bool} {b : Bool} (h : f i = b) : putF n f (i : Int) b = f := by
  funext j
  unfold putF
  split
  · rename_i c
    obtain rfl : i = j := by omega
    exact h.symm
  · rfl
theorem SetF.len {w : World} {S n i : Nat} {v : Value} {ws : List Nat} (s : SetB w S n v ws) (h : i < n) : i / 64 < ws.length := by
  rw [s.len]; omega

theorem add_any (w : World) (S n : Nat) (v : Value) (f : Nat → Bool) (s : SetF w S n v f) (i : Int) : Calls Tryd.prog 11 #[pt S, i64 i] w fun e w' => e = .returned (.bool (decide (0 ≤ i) && decide (i < n) && !(f i.toNat))) ∧ SetF w' S n v (putF n f i true) ∧ Kept (SB S v) w w' := by
  obtain ⟨ws, s, hf⟩ := s
  by_cases hi : 0 ≤ i ∧ i < n
  · obtain ⟨k, rfl⟩ : ∃ k : Nat, i = (k : Int) := ⟨i.toNat, by omega⟩
    have hk : k < n := by omega
    rw [decide_eq_true hi.1, decide_eq_true hi.2, Int.toNat_natCast]
    cases hin : f k with
    | true =>
      refine (add_no w S n v ws s k hk ((hf k).trans hin)).mono ?_
      rintro e w' ⟨rfl, rfl⟩
      exact ⟨rfl, by rw [putF_same hin]; exact ⟨ws, s, hf⟩, Kept.refl _ _⟩
    | false =>
      refine (add_yes w S n v ws s k hk ((hf k).trans hin)).mono ?_
      rintro e w' ⟨rfl, s', kk⟩
      refine ⟨rfl, ⟨_, s', fun j => ?_⟩, kk⟩
      rw [inW_add _ _ _ (SetF.len s hk), hf]
      unfold putF
      by_cases hj : j = k
      · subst hj; rw [if_pos (by omega)]; simp
      · rw [if_neg (by omega)]; simp [hj]
  · have ho : i < 0 ∨ (n : Int) ≤ i := by omega
    refine (add_out w S n v ws s i ho).mono ?_
    rintro e w' ⟨rfl, rfl⟩
    refine ⟨?_, by rw [putF_out ho]; exact ⟨ws, s, hf⟩, Kept.refl _ _⟩
    rcases ho with h | h
    · rw [decide_eq_false (by omega : ¬ 0 ≤ i)]; rfl
    · rw [decide_eq_false (by omega : ¬ i < (n : Int))]; simp
theorem drop_any (w : World) (S n : Nat) (v : Value) (f : Nat → Bool) (s : SetF w S n v f) (i : Int) : Calls Tryd.prog 12 #[pt S, i64 i] w fun e w' => e = .returned (.bool (isF n f i)) ∧ SetF w' S n v (putF n f i false) ∧ Kept (SB S v) w w' := by
  obtain ⟨ws, s, hf⟩ := s
  unfold isF
  by_cases hi : 0 ≤ i ∧ i < n
  · obtain ⟨k, rfl⟩ : ∃ k : Nat, i = (k : Int) := ⟨i.toNat, by omega⟩
    have hk : k < n := by omega
    rw [decide_eq_true hi.1, decide_eq_true hi.2, Int.toNat_natCast]
    cases hin : f k with
    | false =>
      have hh := has_in w S n v ws s k hk
      rw [hf, hin] at hh
      refine (drop_no w _ _ hh).mono ?_
      rintro e w' ⟨rfl, rfl⟩
      exact ⟨rfl, by rw [putF_same hin]; exact ⟨ws, s, hf⟩, Kept.refl _ _⟩
    | true =>
      refine (drop_yes w S n v ws s k hk ((hf k).trans hin)).mono ?_
      rintro e w' ⟨rfl, s', kk⟩
      refine ⟨rfl, ⟨_, s', fun j => ?_⟩, kk⟩
      rw [inW_drop _ _ _ (SetF.len s hk), hf]
      unfold putF
      by_cases hj : j = k
      · subst hj; rw [if_pos (by omega)]; simp
      · rw [if_neg (by omega)]; simp [hj]
  · have ho : i < 0 ∨ (n : Int) ≤ i := by omega
    refine (drop_no w _ _ (has_out w S n v ws s i ho)).mono ?_
    rintro e w' ⟨rfl, rfl⟩
    refine ⟨?_, by rw [putF_out ho]; exact ⟨ws, s, hf⟩, Kept.refl _ _⟩
    rcases ho with h | h
    · rw [decide_eq_false (by omega : ¬ 0 ≤ i)]; rfl
    · rw [decide_eq_false (by omega : ¬ i < (n : Int))]; simp
end Go.Proofs.YtabddnlcgmbopaaDoor
