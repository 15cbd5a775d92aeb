/- What Find answers, in one form. -/
import Derived.Test.YthbcgdogmkgebaaAlive
import Derived.Test.YthbcgdogmkgebaaNet
import Derived.Test.YthbcgdogmkgebaaRefRight
import Derived.Test.YthbcgdogmkgebaaOfN
namespace Go.Proofs.Ythbcgdogmkgebaa
open Go.RowKit

def FindF (N G : Nat) (ls : List (List Ar)) (gs : List Bool) (s t below hops settles x : Int) (is : Bool) : Prop :=
  (okF ls G s t → 0 ≤ x ∧ (is = false → x = 0) ∧ (is = true → goneL gs s = false ∧ goneL gs t = false ∧ x < below ∧ ∃ k : Nat, k ≤ N ∧ Reach (arcsL ls) (goneL gs) s k t x) ∧
    (is = true → decide ((N : Int) ≤ hops ∧ (N : Int) ≤ settles) = true → ∀ (k : Nat) (y : Int), Reach (arcsL ls) (goneL gs) s k t y → x ≤ y) ∧
    (is = false → decide ((N : Int) ≤ hops ∧ (N : Int) ≤ settles) = true → goneL gs s = true ∨ ∀ (k : Nat) (y : Int), Reach (arcsL ls) (goneL gs) s k t y → below ≤ y)) ∧
  (¬ okF ls G s t → x = 0 ∧ is = false)
def FindX (N G : Nat) (ls : List (List Ar)) (gs : List Bool) (s t below hops settles : Int) (w : World) (e : Ending) (w' : World) : Prop :=
  ∃ (x : Int) (is : Bool), e = .returned (.tuple #[u64 x, .bool is]) ∧ Grew w w' ∧ FindF N G ls gs s t below hops settles x is
theorem find_form {N G : Nat} {ls : List (List Ar)} {gs : List Bool} {s t below hops settles : Int} {w w' : World} {e : Ending} (h : FindE N G ls gs s t below hops settles w e w') : FindX N G ls gs s t below hops settles w e w' := by
  by_cases hk : okF ls G s t
  · obtain ⟨x, is, he, hg, r⟩ := h.1 hk
    exact ⟨x, is, he, hg, fun _ => r, fun h => absurd hk h⟩
  · obtain ⟨he, hg⟩ := h.2 hk
    exact ⟨0, false, he, hg, fun h => absurd h hk, fun _ => ⟨rfl, rfl⟩⟩
theorem more_plain {N G : Nat} {ls : List (List Ar)} {gs : List Bool} {s t below more x y : Int} {is there : Bool} (h1 : FindF N G ls gs s t below N N x is) (h2 : FindF N G ls gs s t (below + more) N N y there) (hm : 0 ≤ more) :
    (is = true → there = true ∧ y = x) ∧ (there = true → okF ls G s t ∧ goneL gs s = false ∧ goneL gs t = false) := by
  by_cases hk : okF ls G s t
  · have gr : decide ((N : Int) ≤ (N : Int) ∧ (N : Int) ≤ (N : Int)) = true := decide_eq_true ⟨Int.le_refl _, Int.le_refl _⟩
    obtain ⟨_, _, a, b, _⟩ := h1.1 hk
    obtain ⟨_, _, a', b', c'⟩ := h2.1 hk
    refine ⟨fun hi => ?_, fun ht => ⟨hk, (a' ht).1, (a' ht).2.1⟩⟩
    obtain ⟨g1, _, g3, k, _, hr⟩ := a hi
    cases there with
    | false =>
      rcases c' rfl gr with h | h
      · rw [g1] at h; cases h
      · have := h k x hr
        omega
    | true =>
      obtain ⟨_, _, _, k', _, hr'⟩ := a' rfl
      have e1 := b hi gr k' y hr'
      have e2 := b' rfl gr k x hr
      exact ⟨rfl, by omega⟩
  · obtain ⟨_, rfl⟩ := h1.2 hk
    obtain ⟨_, rfl⟩ := h2.2 hk
    exact ⟨(fun h => nomatch h), (fun h => nomatch h)⟩
end Go.Proofs.Ythbcgdogmkgebaa
