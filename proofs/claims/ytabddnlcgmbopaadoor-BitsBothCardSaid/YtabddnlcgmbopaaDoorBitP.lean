/- Words of bits: what Add and Drop do to them, plain. -/
import Derived.Test.YtabddnlcgmbopaaDoorPop
namespace Go.Proofs.YtabddnlcgmbopaaDoor

def W64 : Nat := 18446744073709551616
/-- Is the bit of number i a one? -/
def inW (ws : List Nat) (i : Nat) : Bool := (ws.getD (i / 64) 0).testBit (i % 64)
def addW (ws : List Nat) (i : Nat) : List Nat := ws.set (i / 64) (ws.getD (i / 64) 0 ||| 2 ^ (i % 64))
def dropW (ws : List Nat) (i : Nat) : List Nat := ws.set (i / 64) (ws.getD (i / 64) 0 &&& (18446744073709551615 - 2 ^ (i % 64)))

theorem getD_set (ws : List Nat) (q y j : Nat) (hq : q < ws.length) : (ws.set q y).getD j 0 = if q = j then y else ws.getD j 0 := by
  rw [List.getD_eq_getElem?_getD, List.getElem?_set, List.getD_eq_getElem?_getD]
  split
  · rename_i h; subst h; simp [hq]
  · rfl
theorem same_place {i j : Nat} : (i / 64 = j / 64 ∧ i % 64 = j % 64) ↔ i = j := by
  constructor
  · rintro ⟨h1, h2⟩; omega
  · rintro rfl; exact ⟨rfl, rfl⟩
theorem inW_add (ws : List Nat) (i j : Nat) (h : i / 64 < ws.length) : inW (addW ws i) j = (inW ws j || decide (j = i)) := by
  unfold inW addW
  rw [getD_set ws _ _ _ h]
  by_cases h1 : i / 64 = j / 64
  · rw [if_pos h1, h1, Nat.testBit_or, Nat.testBit_two_pow]
    congr 1
    have := @same_place i j
    by_cases h2 : i % 64 = j % 64
    · have := this.1 ⟨h1, h2⟩; subst this; simp
    · rw [decide_eq_false h2, decide_eq_false (fun e => h2 (by rw [e]))]
  · rw [if_neg h1, decide_eq_false (fun e => h1 (by rw [e])), Bool.or_false]
theorem inW_drop (ws : List Nat) (i j : Nat) (h : i / 64 < ws.length) : inW (dropW ws i) j = (inW ws j && !decide (j = i)) := by
  unfold inW dropW
  rw [getD_set ws _ _ _ h]
  by_cases h1 : i / 64 = j / 64
  · rw [if_pos h1, h1, Nat.testBit_and, show 18446744073709551615 - 2 ^ (i % 64) = 2 ^ 64 - (2 ^ (i % 64) + 1) by
      have : 2 ^ (i % 64) ≤ 2 ^ 63 := Nat.pow_le_pow_right (by omega) (by omega)
      omega, Nat.testBit_two_pow_sub_succ (Nat.pow_lt_pow_right (by omega) (Nat.mod_lt _ (by omega))), Nat.testBit_two_pow]
    by_cases h2 : i % 64 = j % 64
    · have := same_place.1 ⟨h1, h2⟩; subst this; simp
    · rw [decide_eq_false h2, decide_eq_false (fun e => h2 (by rw [e]) : ¬ j = i)]
      simp
      intro _; omega
  · rw [if_neg h1, decide_eq_false (fun e => h1 (by rw [e]) : ¬ j = i)]
    simp
theorem or_lt (x b : Nat) (hx : x < W64) (hb : b < 64) : x ||| 2 ^ b < W64 := by
  have h2 : 2 ^ b < 2 ^ 64 := Nat.pow_lt_pow_right (by omega) hb
  exact Nat.or_lt_two_pow (n := 64) hx h2
theorem and_lt (x y : Nat) (hx : x < W64) : x &&& y < W64 := Nat.lt_of_le_of_lt Nat.and_le_left hx
theorem add_length (ws : List Nat) (i : Nat) : (addW ws i).length = ws.length := by simp [addW]
theorem drop_length (ws : List Nat) (i : Nat) : (dropW ws i).length = ws.length := by simp [dropW]
end Go.Proofs.YtabddnlcgmbopaaDoor
