/- The numbers in the order in which All hands them out: word by word, the lowest bit first. -/
import Derived.Test.YtabddnlcgmbopaaDoorCntP
namespace Go.Proofs.YtabddnlcgmbopaaDoor
open Go.RowKit

/-- What is left of word q, when all below 64 q + k are handed out. -/
structure Left (ws : List Nat) (q k x : Nat) : Prop where
  lt : x < 2 ^ 64
  le : k ≤ 64
  bit : ∀ j, j < 64 → x.testBit j = (inW ws (64 * q + j) && decide (k ≤ j))
theorem Left.start {ws : List Nat} {q : Nat} (h : ws.getD q 0 < 2 ^ 64) : Left ws q 0 (ws.getD q 0) := by
  refine ⟨h, by omega, fun j hj => ?_⟩
  have a : (64 * q + j) / 64 = q := by omega
  have b : (64 * q + j) % 64 = j := by omega
  unfold inW
  rw [a, b]; simp
theorem Left.done {ws : List Nat} {q k : Nat} (h : Left ws q k 0) : ins (inW ws) (64 * (q + 1)) = ins (inW ws) (64 * q + k) := by
  obtain ⟨d, hd⟩ : ∃ d, 64 = k + d := ⟨64 - k, by have := h.le; omega⟩
  have e : 64 * (q + 1) = 64 * q + k + d := by omega
  rw [e]
  refine ins_more _ _ _ (fun i a b => ?_)
  obtain ⟨j, hj⟩ : ∃ j, i = 64 * q + j := ⟨i - 64 * q, by omega⟩
  have := h.bit j (by omega)
  rw [Nat.zero_testBit, decide_eq_true (by omega), Bool.and_true, ← hj] at this
  exact this.symm
theorem Left.next {ws : List Nat} {q k x : Nat} (h : Left ws q k x) (h0 : x ≠ 0) : ∃ c, Lib.ctz 64 x = c ∧ k ≤ c ∧ c < 64 ∧ inW ws (64 * q + c) = true ∧ ins (inW ws) (64 * q + (c + 1)) = ins (inW ws) (64 * q + k) ++ [64 * q + c] ∧ Left ws q (c + 1) (x &&& (x - 1)) := by
  obtain ⟨c, hc, hlt, ht, hb, ha⟩ := low_stands x (by omega) h.lt
  have hx := h.bit c hlt
  rw [ht] at hx
  have hx := hx.symm
  rw [Bool.and_eq_true, decide_eq_true_iff] at hx
  refine ⟨c, hc, hx.2, hlt, hx.1, ?_, ?_⟩
  · rw [← Nat.add_assoc, ins_succ, hx.1]
    obtain ⟨d, hd⟩ : ∃ d, c = k + d := ⟨c - k, by omega⟩
    have e : 64 * q + c = 64 * q + k + d := by omega
    have : ins (inW ws) (64 * q + c) = ins (inW ws) (64 * q + k) := by
      rw [e]
      refine ins_more _ _ _ (fun i a b => ?_)
      obtain ⟨j, hj⟩ : ∃ j, i = 64 * q + j := ⟨i - 64 * q, by omega⟩
      have := h.bit j (by omega)
      rw [hb j (by omega), decide_eq_true (by omega), Bool.and_true, ← hj] at this
      exact this.symm
    rw [this]; rfl
  · refine ⟨Nat.lt_of_le_of_lt Nat.and_le_left h.lt, hlt, fun j hj => ?_⟩
    rw [ha, h.bit j hj]
    rcases Nat.lt_trichotomy j c with a | a | a
    · have := h.bit j hj
      rw [hb j a] at this
      rw [← this, decide_eq_false (by omega : ¬ c + 1 ≤ j)]; simp
    · subst a
      rw [decide_eq_false (by omega : ¬ j + 1 ≤ j)]; simp
    · rw [decide_eq_true (by omega : k ≤ j), decide_eq_true (by omega : c + 1 ≤ j), decide_eq_true (by omega)]; simp
end Go.Proofs.YtabddnlcgmbopaaDoor
