/- How many numbers are in: the sum of the words' bits. -/
import Derived.Test.YtabddnlcgmbopaaDoorNew
import Derived.Test.YtabddnlcgmbopaaDoorLow
namespace Go.Proofs.YtabddnlcgmbopaaDoor
open Go.RowKit

/-- The numbers below n that f holds, in order. -/
def ins (f : Nat → Bool) (n : Nat) : List Nat := (List.range n).filter f
theorem ins_len_le (f : Nat → Bool) (n : Nat) : (ins f n).length ≤ n := by
  have := List.length_filter_le f (List.range n)
  rw [List.length_range] at this
  exact this
theorem ins_succ (f : Nat → Bool) (n : Nat) : ins f (n + 1) = ins f n ++ (if f n then [n] else []) := by
  unfold ins
  rw [List.range_succ, List.filter_append]
  cases h : f n <;> simp [h]
theorem ins_congr (f g : Nat → Bool) (n : Nat) (h : ∀ i, i < n → f i = g i) : ins f n = ins g n := by
  unfold ins
  apply List.filter_congr
  intro i hi
  exact h i (List.mem_range.1 hi)
theorem ins_more (f : Nat → Bool) (n : Nat) : ∀ k, (∀ i, n ≤ i → i < n + k → f i = false) → ins f (n + k) = ins f n
  | 0, _ => rfl
  | k + 1, h => by
    rw [← Nat.add_assoc, ins_succ, h (n + k) (by omega) (by omega), ins_more f n k (fun i a b => h i a (by omega))]
    simp
theorem ins_add (f : Nat → Bool) (a : Nat) : ∀ b, (ins f (a + b)).length = (ins f a).length + (ins (fun j => f (a + j)) b).length
  | 0 => by simp [ins]
  | b + 1 => by
    rw [← Nat.add_assoc, ins_succ, ins_succ, List.length_append, List.length_append, ins_add f a b]
    cases f (a + b) <;> simp <;> omega
theorem pop_ins : ∀ (k x : Nat), pop k x = (ins x.testBit k).length
  | 0, _ => rfl
  | k + 1, x => by
    rw [Nat.add_comm k 1, ins_add, Nat.add_comm 1 k]
    unfold pop
    rw [pop_ins k (x / 2)]
    have e : ins (fun j => x.testBit (1 + j)) k = ins (x / 2).testBit k := ins_congr _ _ _ (fun i _ => by rw [Nat.add_comm 1 i, Nat.testBit_succ])
    rw [e]
    congr 1
    rw [ins_succ]
    rcases Nat.mod_two_eq_zero_or_one x with h | h <;> simp [ins, Nat.testBit_zero, h]
theorem cntW_ins : ∀ (ws : List Nat), cntW ws = (ins (inW ws) (64 * ws.length)).length
  | [] => rfl
  | x :: ws => by
    have e0 : 64 * (x :: ws).length = 64 + 64 * ws.length := by simp; omega
    rw [e0, ins_add]
    have e1 : ins (inW (x :: ws)) 64 = ins x.testBit 64 := ins_congr _ _ _ (fun i hi => by
      unfold inW
      rw [Nat.div_eq_of_lt hi, Nat.mod_eq_of_lt hi]; rfl)
    have e2 : ins (fun j => inW (x :: ws) (64 + j)) (64 * ws.length) = ins (inW ws) (64 * ws.length) := ins_congr _ _ _ (fun i _ => by
      have a : (64 + i) / 64 = i / 64 + 1 := by omega
      have b : (64 + i) % 64 = i % 64 := by omega
      show inW (x :: ws) (64 + i) = inW ws i
      unfold inW
      rw [a, b]; rfl)
    rw [e1, e2, ← pop_ins, ← cntW_ins ws]
    simp [cntW]
/-- Words that hold nothing at n and behind it: as many as those below n. -/
theorem cntW_below (ws : List Nat) (n : Nat) (hn : n ≤ 64 * ws.length) (h : ∀ i, n ≤ i → inW ws i = false) : cntW ws = (ins (inW ws) n).length := by
  obtain ⟨k, hk⟩ : ∃ k, 64 * ws.length = n + k := ⟨64 * ws.length - n, by omega⟩
  rw [cntW_ins, hk, ins_more _ _ _ (fun i a _ => h i a)]
end Go.Proofs.YtabddnlcgmbopaaDoor
