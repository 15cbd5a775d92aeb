/- Numbers in bytes, one behind the other: plain. -/
import Derived.Test.YtjbjomodponapaaPlain
namespace Go.Proofs.Ytjbjomodponapaa

/-- The bytes behind place p. -/
def sh (z : Nat → Int) (p : Nat) : Nat → Int := fun i => z (p + i)
def At (z : Nat → Int) (p : Nat) (l : List Int) : Prop := ∀ i x, l[i]? = some x → z (p + i) = x
theorem At.nil (z : Nat → Int) (p : Nat) : At z p [] := fun i x h => by simp at h
theorem At.cons {z : Nat → Int} {p : Nat} {x : Int} {l : List Int} (h0 : z p = x) (h : At z (p + 1) l) : At z p (x :: l) := fun i y hy => by
  cases i with
  | zero => simp at hy; rw [Nat.add_zero, h0]; exact hy
  | succ i => rw [List.getElem?_cons_succ] at hy; rw [← h i y hy]; congr 1; omega
theorem At.head {z : Nat → Int} {p : Nat} {x : Int} {l : List Int} (h : At z p (x :: l)) : z p = x := h 0 x rfl
theorem At.tail {z : Nat → Int} {p : Nat} {x : Int} {l : List Int} (h : At z p (x :: l)) : At z (p + 1) l := fun i y hy => by
  rw [← h (i + 1) y (by rw [List.getElem?_cons_succ]; exact hy)]; congr 1; omega
theorem At.left {z : Nat → Int} {p : Nat} {l m : List Int} (h : At z p (l ++ m)) : At z p l := fun i x hx =>
  h i x (by rw [List.getElem?_append_left ((List.getElem?_eq_some_iff.1 hx).1)]; exact hx)
theorem At.right {z : Nat → Int} {p : Nat} {l m : List Int} (h : At z p (l ++ m)) : At z (p + l.length) m := fun i x hx => by
  rw [← h (l.length + i) x (by rw [List.getElem?_append_right (by omega), Nat.add_sub_cancel_left]; exact hx)]; congr 1; omega
theorem At.append {z : Nat → Int} {p : Nat} {l m : List Int} (h : At z p l) (h' : At z (p + l.length) m) : At z p (l ++ m) := fun i x hx => by
  by_cases hi : i < l.length
  · rw [List.getElem?_append_left hi] at hx; exact h i x hx
  · rw [List.getElem?_append_right (by omega)] at hx
    rw [← h' (i - l.length) x hx]; congr 1; omega
theorem At.same {z : Nat → Int} {p : Nat} {l m : List Int} (h : At z p l) (h' : At z p m) (he : l.length = m.length) : l = m := by
  apply List.ext_getElem? 
  intro i
  by_cases hi : i < l.length
  · have a := List.getElem?_eq_getElem hi
    have b := List.getElem?_eq_getElem (l := m) (i := i) (by omega)
    rw [a, b, ← h i _ a, ← h' i _ b]
  · rw [List.getElem?_eq_none (by omega), List.getElem?_eq_none (by omega)]
/-- All bytes behind place p are l. -/
def Rest (z : Nat → Int) (len p : Nat) (l : List Int) : Prop := At z p l ∧ p + l.length = len

theorem pow_next (k : Nat) : (2 : Int) ^ (7 * (k + 1)) = 2 ^ (7 * k) * 128 := by
  rw [show 7 * (k + 1) = 7 * k + 7 by omega, Int.pow_add]
  rfl
theorem val_sh (z : Nat → Int) (p : Nat) : ∀ k, val (sh z p) k = val (sh z p) k := fun _ => rfl
set_option maxRecDepth 100000 in
/-- Bytes that are a number's are taken as this number. -/
theorem take_go (z : Nat → Int) (len : Nat) (f : Nat) : ∀ (k m : Nat), f + k = 10 → m < 128 ^ f → (m : Int) * 2 ^ (7 * k) < 18446744073709551616 → (0 < k → m ≠ 0) → At z k (digs f m) → k + (digs f m).length ≤ len →
    takeGo z len f k = (val z k + (m : Int) * 2 ^ (7 * k), ((k + (digs f m).length : Nat) : Int), true) := by
  induction f with
  | zero =>
    intro k m hf hm _ h0 _ _
    have hm : m < 1 := by simpa using hm
    have := h0 (by omega)
    omega
  | succ f ih =>
    intro k m hf hm hb h0 hz hl
    have hp := two_pow_pos (7 * k)
    by_cases hlt : m < 128
    · rw [digs, if_pos hlt] at hz hl ⊢
      have hz0 := hz.head
      simp at hl
      have h9 : ¬ (k = 9 ∧ 1 < z k) := fun ⟨h1, h2⟩ => by
        rw [h1, show (2 : Int) ^ (7 * 9) = 9223372036854775808 by decide] at hb
        omega
      have hz1 : ¬ (z k = 0 ∧ 0 < k) := fun ⟨h1, h2⟩ => by
        have := h0 h2
        omega
      rw [takeGo, if_pos (by omega), if_neg h9, if_pos (by omega), if_neg hz1]
      rw [val, hz0, show (m : Int) % 128 = m by omega]
      simp
    · rw [digs, if_neg hlt] at hz hl ⊢
      have hz0 := hz.head
      have hz1 := hz.tail
      simp at hl
      have hk9 : k ≠ 9 := fun h => by
        rw [h, show (2 : Int) ^ (7 * 9) = 9223372036854775808 by decide] at hb
        omega
      have e1 : z k % 128 = (m % 128 : Nat) := by rw [hz0]; omega
      have e2 : ((m / 128 : Nat) : Int) * 2 ^ (7 * (k + 1)) + (m % 128 : Nat) * 2 ^ (7 * k) = (m : Int) * 2 ^ (7 * k) := by
        rw [pow_next, Int.mul_comm (2 ^ (7 * k)) 128, ← Int.mul_assoc, ← Int.add_mul]
        congr 1
        omega
      have e3 : (0 : Int) ≤ (m % 128 : Nat) * 2 ^ (7 * k) := Int.mul_nonneg (by omega) (by omega)
      rw [takeGo, if_pos (by omega), if_neg (fun h => hk9 h.1), if_neg (by rw [hz0]; omega)]
      rw [ih (k + 1) (m / 128) (by omega) (by rw [Nat.pow_succ] at hm; exact Nat.div_lt_of_lt_mul (by omega)) (by omega) (fun _ => by omega) hz1 (by omega)]
      rw [val, e1]
      simp only [List.length_cons, Prod.mk.injEq, and_true]
      refine ⟨by omega, by omega⟩
/-- What is taken as a number are this number's bytes. -/
theorem go_take (z : Nat → Int) (len : Nat) (hz : ∀ i, i < len → 0 ≤ z i ∧ z i ≤ 255) : ∀ (f k : Nat) (v s : Int), f + k = 10 → takeGo z len f k = (v, s, true) →
    ∃ m : Nat, v = val z k + (m : Int) * 2 ^ (7 * k) ∧ s = ((k + (digs f m).length : Nat) : Int) ∧ At z k (digs f m) ∧ k + (digs f m).length ≤ len ∧ (m : Int) * 2 ^ (7 * k) < 18446744073709551616 ∧ (0 < k → m ≠ 0)
  | 0, k, v, s, _, h => by simp [takeGo] at h
  | f + 1, k, v, s, hf, h => by
    have hp := two_pow_pos (7 * k)
    rw [takeGo] at h
    by_cases hk : k < len
    · rw [if_pos hk] at h
      have hb := hz k hk
      by_cases h9 : k = 9 ∧ 1 < z k
      · rw [if_pos h9] at h; simp at h
      · rw [if_neg h9] at h
        by_cases hlt : z k < 128
        · rw [if_pos hlt] at h
          by_cases h0 : z k = 0 ∧ 0 < k
          · rw [if_pos h0] at h; simp at h
          · rw [if_neg h0] at h
            simp only [Prod.mk.injEq, and_true] at h
            obtain ⟨m, hm⟩ := Int.eq_ofNat_of_zero_le hb.1
            have hm128 : m < 128 := by omega
            refine ⟨m, ?_, ?_, ?_, ?_, ?_, ?_⟩
            · rw [← h.1, val, hm, show (m : Int) % 128 = m by omega]
            · rw [digs_last _ _ (by omega) hm128, ← h.2]; simp
            · rw [digs_last _ _ (by omega) hm128]; exact At.cons hm (At.nil _ _)
            · rw [digs_last _ _ (by omega) hm128]; simp; omega
            · have h63 : k ≤ 8 → (2 : Int) ^ (7 * k) ≤ 72057594037927936 := fun h8 => by
                rcases (show k = 0 ∨ k = 1 ∨ k = 2 ∨ k = 3 ∨ k = 4 ∨ k = 5 ∨ k = 6 ∨ k = 7 ∨ k = 8 by omega) with rfl | rfl | rfl | rfl | rfl | rfl | rfl | rfl | rfl <;> decide
              by_cases hk9 : k = 9
              · have : m ≤ 1 := by omega
                rw [hk9, show (2 : Int) ^ (7 * 9) = 9223372036854775808 by decide]
                omega
              · have h1 := h63 (by omega)
                have h2 : (m : Int) * 2 ^ (7 * k) ≤ 128 * 2 ^ (7 * k) := Int.mul_le_mul_of_nonneg_right (by omega) (by omega)
                omega
            · intro hk0 hm0
              exact h0 ⟨by omega, hk0⟩
        · rw [if_neg hlt] at h
          obtain ⟨m, a1, a2, a3, a4, a5, a6⟩ := go_take z len hz f (k + 1) v s (by omega) h
          obtain ⟨c, hc⟩ := Int.eq_ofNat_of_zero_le (show 0 ≤ z k - 128 by omega)
          have hc1 : c < 128 := by omega
          have hm0 := a6 (by omega)
          have e2 : ((m * 128 + c : Nat) : Int) * 2 ^ (7 * k) = (m : Int) * 2 ^ (7 * (k + 1)) + (c : Int) * 2 ^ (7 * k) := by
            rw [pow_next, Int.mul_comm (2 ^ (7 * k)) 128, ← Int.mul_assoc, ← Int.add_mul]
            congr 1
          have hd : digs (f + 1) (m * 128 + c) = z k :: digs f m := by
            rw [digs, if_neg (by omega), show (m * 128 + c) / 128 = m by omega]
            congr 1
            omega
          refine ⟨m * 128 + c, ?_, ?_, ?_, ?_, ?_, fun _ => by omega⟩
          · rw [e2, a1, val, show z k % 128 = c by omega]; omega
          · rw [hd, a2]; simp; omega
          · rw [hd]; exact At.cons rfl a3
          · rw [hd]; simp; omega
          · -- the bound: the high part is a multiple of what stands above the low part
            rw [e2]
            have hk8 : k ≤ 8 := by
              rcases Nat.lt_or_ge 8 k with h8 | h8
              · have : f = 0 := by omega
                subst this
                simp [digs] at a2
                have hf' : takeGo z len 0 (k + 1) = (0, 0, false) := rfl
                rw [hf'] at h
                simp at h
              · exact h8
            have hdiv : ∃ q : Int, (18446744073709551616 : Int) = q * 2 ^ (7 * (k + 1)) ∨ (k = 8) := by
              rcases (show k = 0 ∨ k = 1 ∨ k = 2 ∨ k = 3 ∨ k = 4 ∨ k = 5 ∨ k = 6 ∨ k = 7 ∨ k = 8 by omega) with rfl | rfl | rfl | rfl | rfl | rfl | rfl | rfl | rfl
              · exact ⟨144115188075855872, .inl (by decide)⟩
              · exact ⟨1125899906842624, .inl (by decide)⟩
              · exact ⟨8796093022208, .inl (by decide)⟩
              · exact ⟨68719476736, .inl (by decide)⟩
              · exact ⟨536870912, .inl (by decide)⟩
              · exact ⟨4194304, .inl (by decide)⟩
              · exact ⟨32768, .inl (by decide)⟩
              · exact ⟨256, .inl (by decide)⟩
              · exact ⟨0, .inr rfl⟩
            have hp1 := two_pow_pos (7 * (k + 1))
            have hlow : (c : Int) * 2 ^ (7 * k) < 2 ^ (7 * (k + 1)) := by
              rw [pow_next, Int.mul_comm (2 ^ (7 * k)) 128]
              exact Int.mul_lt_mul_of_pos_right (by omega) hp
            obtain ⟨q, hq | hq⟩ := hdiv
            · rw [hq] at a5 ⊢
              have hmq : (m : Int) < q := Int.lt_of_mul_lt_mul_right a5 (by omega)
              have : ((m : Int) + 1) * 2 ^ (7 * (k + 1)) ≤ q * 2 ^ (7 * (k + 1)) := Int.mul_le_mul_of_nonneg_right (by omega) (by omega)
              rw [Int.add_mul] at this
              omega
            · subst hq
              rw [show (2 : Int) ^ (7 * (8 + 1)) = 9223372036854775808 by decide] at a5 hlow ⊢
              omega
    · rw [if_neg hk] at h; simp at h

/-- At place p of len bytes stands the number n, up to place p'. -/
def Tk (z : Nat → Int) (len p n p' : Nat) : Prop := takeF (sh z p) (len - p) = ((n : Int), ((p' - p : Nat) : Int), true) ∧ p < p' ∧ p' ≤ len
abbrev encN (n : Nat) : List Int := digs 10 n
theorem encN_pos (n : Nat) : 0 < (encN n).length := digs_pos 9 n
theorem At.toSh {z : Nat → Int} {p : Nat} {l : List Int} (h : At z p l) : At (sh z p) 0 l := fun i x hx => by
  show z (p + (0 + i)) = x
  rw [Nat.zero_add]; exact h i x hx
theorem At.ofSh {z : Nat → Int} {p : Nat} {l : List Int} (h : At (sh z p) 0 l) : At z p l := fun i x hx => by
  have := h i x hx
  rw [Nat.zero_add] at this
  exact this
theorem tk_of {z : Nat → Int} {len p n : Nat} {l : List Int} (hn : n < 18446744073709551616) (h : Rest z len p (encN n ++ l)) : Tk z len p n (p + (encN n).length) ∧ Rest z len (p + (encN n).length) l := by
  obtain ⟨h1, h2⟩ := h
  rw [List.length_append] at h2
  have hp := encN_pos n
  refine ⟨⟨?_, by omega, by omega⟩, h1.right, by omega⟩
  have h2' : p + ((digs 10 n).length + l.length) = len := h2
  have := take_go (sh z p) (len - p) 10 0 n rfl (by omega) (by simp; omega) (fun h => by omega) h1.left.toSh (by omega)
  unfold takeF
  rw [this]
  simp [val]
theorem tk_back {z : Nat → Int} {len p n p' : Nat} (hz : ∀ i, i < len → 0 ≤ z i ∧ z i ≤ 255) (h : Tk z len p n p') : At z p (encN n) ∧ p' = p + (encN n).length ∧ n < 18446744073709551616 := by
  obtain ⟨h1, h2, h3⟩ := h
  obtain ⟨m, a1, a2, a3, a4, a5, _⟩ := go_take (sh z p) (len - p) (fun i hi => hz (p + i) (by omega)) 10 0 _ _ rfl h1
  have hm : n = m := by
    have : (n : Int) = m := by rw [a1]; simp [val]
    omega
  subst hm
  refine ⟨a3.ofSh, ?_, by simp at a5; omega⟩
  have : ((p' - p : Nat) : Int) = ((0 + (encN n).length : Nat) : Int) := a2
  omega
theorem Tk.same {z : Nat → Int} {len p n p' m q : Nat} (h : Tk z len p n p') (h' : Tk z len p m q) : n = m ∧ p' = q := by
  have := h.1.symm.trans h'.1
  simp only [Prod.mk.injEq, and_true] at this
  have a := h.2
  have b := h'.2
  omega
/-- What Take answers: a number there, or none. -/
theorem tk_or (z : Nat → Int) (len p : Nat) (hp : p ≤ len) (hz : ∀ i, i < len → 0 ≤ z i ∧ z i ≤ 255) :
    (∃ n p', Tk z len p n p' ∧ takeF (sh z p) (len - p) = ((n : Int), ((p' - p : Nat) : Int), true)) ∨ ((∃ v s, takeF (sh z p) (len - p) = (v, s, false)) ∧ ∀ n p', ¬ Tk z len p n p') := by
  obtain ⟨⟨v, s, b⟩, hq⟩ : ∃ r, takeF (sh z p) (len - p) = r := ⟨_, rfl⟩
  cases b with
  | false => exact .inr ⟨⟨v, s, hq⟩, fun n p' h => by have := h.1; rw [hq] at this; simp at this⟩
  | true =>
    obtain ⟨m, a1, a2, a3, a4, a5, _⟩ := go_take (sh z p) (len - p) (fun i hi => hz (p + i) (by omega)) 10 0 _ _ rfl hq
    have hm := encN_pos m
    have e1 : v = (m : Int) := by rw [a1]; simp [val]
    have e2 : s = ((p + (encN m).length - p : Nat) : Int) := by rw [a2]; congr 1; show 0 + (encN m).length = _; omega
    have hl : 0 + (encN m).length ≤ len - p := a4
    subst e1
    subst e2
    exact .inl ⟨m, p + (encN m).length, ⟨hq, by omega, by omega⟩, hq⟩
end Go.Proofs.Ytjbjomodponapaa
