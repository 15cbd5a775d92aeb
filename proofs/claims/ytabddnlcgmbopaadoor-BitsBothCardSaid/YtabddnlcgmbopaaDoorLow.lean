/- The lowest bit of a word, and the word without it. -/
import Derived.Test.YtabddnlcgmbopaaDoorBitP
import Derived.Lib.TrailingZeros
namespace Go.Proofs.YtabddnlcgmbopaaDoor

/-- The lowest bit of a word that is not zero stands, and none below it. -/
theorem low_stands (w : Nat) (h0 : 0 < w) (h : w < 2 ^ 64) : ∃ k, Lib.ctz 64 w = k ∧ k < 64 ∧ w.testBit k = true ∧ (∀ j, j < k → w.testBit j = false) ∧ (∀ j, (w &&& (w - 1)).testBit j = (w.testBit j && decide (j ≠ k))) := by
  obtain ⟨m, hm, hk⟩ := Lib.ctzFrom_spec 64 w h0 h
  have hc : Lib.ctz 64 w = Lib.ctzFrom 64 w := by unfold Lib.ctz; rw [if_neg (by omega)]
  generalize Lib.ctzFrom 64 w = k at hm hk hc
  refine ⟨k, hc, hk, ?_⟩
  clear hc h
  subst hm
  have hp : 0 < 2 ^ k := Nat.two_pow_pos k
  have hs : 2 ^ k * (2 * m + 1) - 1 = 2 ^ k * (2 * m) + (2 ^ k - 1) := by rw [Nat.mul_add]; omega
  have hA : ∀ j, (2 ^ k * (2 * m + 1)).testBit j = (decide (k ≤ j) && (2 * m + 1).testBit (j - k)) := fun j => Nat.testBit_two_pow_mul ..
  refine ⟨?_, ?_, ?_⟩
  · rw [hA]; simp
  · intro j hj
    rw [hA, decide_eq_false (by omega)]; rfl
  · intro j
    rw [Nat.testBit_and, hs, Nat.testBit_two_pow_mul_add (2 * m) (by omega) j, hA]
    rcases Nat.lt_or_ge j k with hj | hj
    · rw [decide_eq_false (by omega : ¬ k ≤ j)]; simp
    · rw [if_neg (by omega), decide_eq_true hj]
      rcases Nat.lt_or_ge k j with hlt | hge
      · obtain ⟨d, hd⟩ : ∃ d, j - k = d + 1 := ⟨j - k - 1, by omega⟩
        rw [hd, Nat.testBit_succ, Nat.testBit_succ, decide_eq_true (by omega)]
        have e1 : (2 * m + 1) / 2 = m := by omega
        have e2 : (2 * m) / 2 = m := by omega
        rw [e1, e2]; simp
      · obtain rfl : j = k := by omega
        simp
end Go.Proofs.YtabddnlcgmbopaaDoor
