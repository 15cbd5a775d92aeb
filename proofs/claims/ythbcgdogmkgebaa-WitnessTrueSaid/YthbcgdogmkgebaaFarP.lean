/- How far by rounds: plain. -/
import Derived.Test.YthbcgdogmkgebaaWay
namespace Go.Proofs.Ythbcgdogmkgebaa

/-- Behind R rounds, and of the next one the arcs of the nodes below v, and the first i of v's. -/
structure Bf (arcs : Arcs) (gone : Int → Bool) (s : Int) (R : Nat) (v : Int) (i : Nat) (d : Int → Int) : Prop where
  rng : ∀ u, 0 ≤ d u ∧ d u ≤ 4611686018427387904
  sound : ∀ u, d u < 4611686018427387904 → ∃ k, Reach arcs gone s k u (d u)
  old : ∀ (k : Nat) (u x : Int), k ≤ R → Reach arcs gone s k u x → d u ≤ x
  new : ∀ p u c, ((0 ≤ p ∧ p < v ∧ (u, c) ∈ arcs p) ∨ (p = v ∧ (u, c) ∈ (arcs v).take i)) → gone u = false → ∀ (k : Nat) (x : Int), k ≤ R → Reach arcs gone s k p x → d u ≤ x + c

section
variable {N : Nat} {arcs : Arcs} {gone : Int → Bool} {s v : Int} {R i : Nat} {d : Int → Int}
theorem Bf.init (arcs : Arcs) (gone : Int → Bool) (s : Int) : Bf arcs gone s 0 0 0 (upd (fun _ => 4611686018427387904) s 0) where
  rng := fun u => by
    by_cases h : u = s
    · subst h; rw [upd_same]; omega
    · rw [upd_other _ _ h]; omega
  sound := fun u hu => by
    by_cases h : u = s
    · subst h; rw [upd_same]; exact ⟨0, .start⟩
    · rw [upd_other _ _ h] at hu; omega
  old := fun k u x hk hr => by
    obtain rfl : k = 0 := by omega
    cases hr
    rw [upd_same]
    omega
  new := fun p u c h _ k x _ _ => by
    rcases h with h | h
    · omega
    · simp at h
theorem mem_snoc {u c a b : Int} (hi : (arcs v)[i]? = some (a, b)) (h : (u, c) ∈ (arcs v).take (i + 1)) : (u, c) ∈ (arcs v).take i ∨ (u = a ∧ c = b) := by
  rw [List.take_add_one, hi] at h
  rcases List.mem_append.1 h with h | h
  · exact .inl h
  · simp at h; exact .inr h
theorem Bf.skip {u c : Int} (h : Bf arcs gone s R v i d) (hi : (arcs v)[i]? = some (u, c)) (hc : 1 ≤ c) (hx : gone u = true ∨ 4611686018427387904 ≤ d v) : Bf arcs gone s R v (i + 1) d := by
  refine { h with new := fun p u' c' hp hg k x hk hr => ?_ }
  rcases hp with hp | ⟨rfl, hp⟩
  · exact h.new p u' c' (.inl hp) hg k x hk hr
  · rcases mem_snoc hi hp with hp | ⟨rfl, rfl⟩
    · exact h.new p u' c' (.inr ⟨rfl, hp⟩) hg k x hk hr
    · rcases hx with hx | hx
      · rw [hx] at hg; cases hg
      · have h1 := h.old k p x hk hr
        have h2 := (h.rng u').2
        omega
theorem Bf.take {u c m : Int} (h : Bf arcs gone s R v i d) (hi : (arcs v)[i]? = some (u, c)) (hc : 1 ≤ c) (hg : gone u = false) (hv : d v < 4611686018427387904) (hm : m = if d v + c < d u then d v + c else d u) : Bf arcs gone s R v (i + 1) (upd d u m) := by
  have hdv := (h.rng v).1
  have hmem : (u, c) ∈ arcs v := List.mem_of_getElem? hi
  have hmd : m ≤ d u ∧ m ≤ d v + c ∧ 0 ≤ m := by
    have := h.rng u
    split at hm <;> omega
  have le : ∀ u', upd d u m u' ≤ d u' := fun u' => by
    by_cases h' : u' = u
    · subst h'; rw [upd_same]; exact hmd.1
    · rw [upd_other _ _ h']; exact Int.le_refl _
  refine ⟨fun u' => ?_, fun u' hu' => ?_, fun k u' x hk hr => Int.le_trans (le u') (h.old k u' x hk hr), fun p u' c' hp hg' k x hk hr => ?_⟩
  · have := le u'
    have := h.rng u'
    by_cases h' : u' = u
    · subst h'; rw [upd_same] at *; omega
    · rw [upd_other _ _ h'] at *; omega
  · by_cases h' : u' = u
    · subst h'
      rw [upd_same] at hu' ⊢
      split at hm
      · obtain ⟨k, hk⟩ := h.sound v hv
        subst hm
        exact ⟨k + 1, .arc hk hmem hg⟩
      · subst hm
        exact h.sound _ hu'
    · rw [upd_other _ _ h'] at hu' ⊢
      exact h.sound _ hu'
  · rcases hp with hp | ⟨rfl, hp⟩
    · exact Int.le_trans (le u') (h.new p u' c' (.inl hp) hg' k x hk hr)
    · rcases mem_snoc hi hp with hp | ⟨rfl, rfl⟩
      · exact Int.le_trans (le u') (h.new p u' c' (.inr ⟨rfl, hp⟩) hg' k x hk hr)
      · have h1 := h.old k p x hk hr
        rw [upd_same]
        omega
theorem Bf.row (h : Bf arcs gone s R v (arcs v).length d) : Bf arcs gone s R (v + 1) 0 d := by
  refine { h with new := fun p u' c' hp hg k x hk hr => ?_ }
  rcases hp with ⟨h0, h1, h2⟩ | ⟨_, hp⟩
  · by_cases hpv : p = v
    · subst hpv
      exact h.new p u' c' (.inr ⟨rfl, by rw [List.take_of_length_le (Nat.le_refl _)]; exact h2⟩) hg k x hk hr
    · exact h.new p u' c' (.inl ⟨h0, by omega, h2⟩) hg k x hk hr
  · simp at hp
theorem Bf.round (h : Bf arcs gone s R (N : Int) 0 d) (ok : NetOk N arcs) (hs : 0 ≤ s ∧ s < (N : Int)) : Bf arcs gone s (R + 1) 0 0 d := by
  refine ⟨h.rng, h.sound, fun k u x hk hr => ?_, fun p u c hp _ k x _ _ => ?_⟩
  · cases hr with
    | start => exact h.old 0 _ _ (by omega) .start
    | arc h1 h2 h3 =>
      have hn := h1.node ok hs
      exact h.new _ _ _ (.inl ⟨hn.1, hn.2, h2⟩) h3 _ _ (by omega) h1
  · rcases hp with hp | hp
    · omega
    · simp at hp
end
end Go.Proofs.Ythbcgdogmkgebaa
