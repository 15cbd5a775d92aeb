/- Rows of arcs sorted: plain. -/
import Derived.Test.YthbcgdogmkgebaaNet
namespace Go.Proofs.Ythbcgdogmkgebaa

def ltA (x y : Ar) : Bool := decide (x.1 < y.1 ∨ (x.1 = y.1 ∧ x.2 < y.2))
def leA (x y : Ar) : Prop := x.1 < y.1 ∨ (x.1 = y.1 ∧ x.2 ≤ y.2)
theorem leA.rfl {x : Ar} : leA x x := .inr ⟨_root_.rfl, Int.le_refl _⟩
theorem leA.trans {x y z : Ar} (h : leA x y) (h' : leA y z) : leA x z := by unfold leA at *; omega
theorem ltA_yes {x y : Ar} (h : ltA x y = true) : leA x y := by unfold leA; have := of_decide_eq_true h; omega
theorem ltA_no {x y : Ar} (h : ltA x y = false) : leA y x := by unfold leA; have := of_decide_eq_false h; omega

abbrev Row := Nat → Ar
def swp (f : Row) (i j : Nat) : Row := fun k => if k = i then f j else if k = j then f i else f k
def Srt (f : Row) (a b : Nat) : Prop := ∀ i j, a ≤ i → i < j → j < b → leA (f i) (f j)
theorem Srt.le {f : Row} {a b i j : Nat} (h : Srt f a b) (h1 : a ≤ i) (h2 : i ≤ j) (h3 : j < b) : leA (f i) (f j) := by
  by_cases e : i = j
  · subst e; exact leA.rfl
  · exact h i j h1 (by omega) h3
/-- The same arcs from a to b, all else as it was. -/
structure Stp (f f' : Row) (a b : Nat) : Prop where
  out : ∀ k, k < a ∨ b ≤ k → f' k = f k
  fwd : ∀ k, a ≤ k → k < b → ∃ i, a ≤ i ∧ i < b ∧ f' k = f i
  bwd : ∀ k, a ≤ k → k < b → ∃ i, a ≤ i ∧ i < b ∧ f k = f' i
theorem Stp.refl (f : Row) (a b : Nat) : Stp f f a b := ⟨fun _ _ => rfl, fun k h1 h2 => ⟨k, h1, h2, rfl⟩, fun k h1 h2 => ⟨k, h1, h2, rfl⟩⟩
theorem Stp.trans {f g h : Row} {a b : Nat} (p : Stp f g a b) (q : Stp g h a b) : Stp f h a b := by
  refine ⟨fun k hk => (q.out k hk).trans (p.out k hk), fun k h1 h2 => ?_, fun k h1 h2 => ?_⟩
  · obtain ⟨i, i1, i2, e⟩ := q.fwd k h1 h2
    obtain ⟨j, j1, j2, e'⟩ := p.fwd i i1 i2
    exact ⟨j, j1, j2, e.trans e'⟩
  · obtain ⟨i, i1, i2, e⟩ := p.bwd k h1 h2
    obtain ⟨j, j1, j2, e'⟩ := q.bwd i i1 i2
    exact ⟨j, j1, j2, e.trans e'⟩
theorem Stp.wide {f g : Row} {a b c d : Nat} (p : Stp f g a b) (h1 : c ≤ a) (h2 : b ≤ d) : Stp f g c d := by
  refine ⟨fun k hk => p.out k (by omega), fun k k1 k2 => ?_, fun k k1 k2 => ?_⟩
  · by_cases h : a ≤ k ∧ k < b
    · obtain ⟨i, i1, i2, e⟩ := p.fwd k h.1 h.2
      exact ⟨i, by omega, by omega, e⟩
    · exact ⟨k, k1, k2, p.out k (by omega)⟩
  · by_cases h : a ≤ k ∧ k < b
    · obtain ⟨i, i1, i2, e⟩ := p.bwd k h.1 h.2
      exact ⟨i, by omega, by omega, e⟩
    · exact ⟨k, k1, k2, (p.out k (by omega)).symm⟩
theorem swp_l (f : Row) (i j : Nat) : swp f i j i = f j := by simp [swp]
theorem swp_r (f : Row) (i j : Nat) : swp f i j j = f i := by
  unfold swp
  by_cases h : j = i
  · rw [if_pos h, h]
  · rw [if_neg h, if_pos rfl]
theorem swp_o (f : Row) {i j k : Nat} (h1 : k ≠ i) (h2 : k ≠ j) : swp f i j k = f k := by simp [swp, h1, h2]
theorem Stp.swp (f : Row) {a b i j : Nat} (i1 : a ≤ i) (i2 : i < b) (j1 : a ≤ j) (j2 : j < b) : Stp f (swp f i j) a b := by
  refine ⟨fun k hk => swp_o f (by omega) (by omega), fun k k1 k2 => ?_, fun k k1 k2 => ?_⟩
  · by_cases hi : k = i
    · subst hi; exact ⟨j, j1, j2, swp_l f _ _⟩
    · by_cases hj : k = j
      · subst hj; exact ⟨i, i1, i2, swp_r f _ _⟩
      · exact ⟨k, k1, k2, swp_o f hi hj⟩
  · by_cases hi : k = i
    · subst hi; exact ⟨j, j1, j2, (swp_r f _ _).symm⟩
    · by_cases hj : k = j
      · subst hj; exact ⟨i, i1, i2, (swp_l f _ _).symm⟩
      · exact ⟨k, k1, k2, (swp_o f hi hj).symm⟩

/-! ### Two ranges swapped, and a rotation -/
def swr (f : Row) (a b n : Nat) : Row := fun k => if a ≤ k ∧ k < a + n then f (k - a + b) else if b ≤ k ∧ k < b + n then f (k - b + a) else f k
theorem swr_zero (f : Row) (a b : Nat) : swr f a b 0 = f := by
  funext k
  unfold swr
  rw [if_neg (by omega), if_neg (by omega)]
theorem swr_succ (f : Row) (a b n : Nat) (h : a + (n + 1) ≤ b) : swp (swr f a b n) (a + n) (b + n) = swr f a b (n + 1) := by
  funext k
  by_cases h1 : k = a + n
  · subst h1
    rw [swp_l]
    unfold swr
    rw [if_neg (by omega), if_neg (by omega), if_pos (by omega)]
    congr 1; omega
  · by_cases h2 : k = b + n
    · subst h2
      rw [swp_r]
      unfold swr
      rw [if_neg (by omega), if_neg (by omega), if_neg (by omega), if_pos (by omega)]
      congr 1; omega
    · rw [swp_o _ h1 h2]
      unfold swr
      by_cases h3 : a ≤ k ∧ k < a + n
      · rw [if_pos h3, if_pos (by omega)]
      · rw [if_neg h3, if_neg (show ¬ (a ≤ k ∧ k < a + (n + 1)) by omega)]
        by_cases h4 : b ≤ k ∧ k < b + n
        · rw [if_pos h4, if_pos (by omega)]
        · rw [if_neg h4, if_neg (by omega)]
def rot (f : Row) (a m b : Nat) : Row := fun k => if a ≤ k ∧ k < a + (b - m) then f (k - a + m) else if a + (b - m) ≤ k ∧ k < b then f (k - (a + (b - m)) + a) else f k
theorem rot_eq (f : Row) (m i : Nat) (h : i ≤ m) : swr f (m - i) m i = rot f (m - i) m (m + i) := by
  funext k
  unfold swr rot
  by_cases h1 : m - i ≤ k ∧ k < m - i + i
  · rw [if_pos h1, if_pos (by omega)]
  · rw [if_neg h1]
    by_cases h2 : m ≤ k ∧ k < m + i
    · rw [if_pos h2, if_neg (by omega), if_pos (by omega)]; congr 1; omega
    · rw [if_neg h2, if_neg (by omega), if_neg (by omega)]
theorem rot_gt (f : Row) (m i j : Nat) (h : i ≤ m) (hj : j < i) : rot (swr f (m - i) m j) (m - (i - j)) m (m + j) = rot f (m - i) m (m + j) := by
  funext k
  unfold rot
  by_cases h1 : m - (i - j) ≤ k ∧ k < m - (i - j) + (m + j - m)
  · rw [if_pos h1]
    unfold swr
    rw [if_neg (by omega), if_pos (by omega), if_neg (by omega), if_pos (by omega)]
    congr 1; omega
  · rw [if_neg h1]
    by_cases h2 : m - (i - j) + (m + j - m) ≤ k ∧ k < m + j
    · rw [if_pos h2]
      unfold swr
      rw [if_neg (by omega), if_neg (by omega), if_neg (by omega), if_pos (by omega)]
      congr 1; omega
    · rw [if_neg h2]
      unfold swr
      by_cases h3 : m - i ≤ k ∧ k < m - i + j
      · rw [if_pos h3, if_pos (by omega)]
      · rw [if_neg h3, if_neg (by omega), if_neg (by omega), if_neg (by omega)]
theorem rot_lt (f : Row) (m i j : Nat) (h : i ≤ m) (hj : i < j) : rot (swr f (m - i) (m + j - i) i) (m - i) m (m + (j - i)) = rot f (m - i) m (m + j) := by
  funext k
  unfold rot
  by_cases h1 : m - i ≤ k ∧ k < m - i + (m + (j - i) - m)
  · rw [if_pos h1, if_pos (by omega)]
    unfold swr
    by_cases h2 : k - (m - i) + m < m + j - i
    · rw [if_neg (by omega), if_neg (by omega)]
    · omega
  · rw [if_neg h1]
    by_cases h2 : m - i + (m + (j - i) - m) ≤ k ∧ k < m + (j - i)
    · rw [if_pos h2]
      unfold swr
      rw [if_pos (by omega), if_pos (by omega)]
      congr 1; omega
    · rw [if_neg h2]
      unfold swr
      by_cases h3 : m + j - i ≤ k ∧ k < m + j - i + i
      · rw [if_neg (by omega), if_pos h3, if_neg (by omega), if_pos (by omega)]
        congr 1; omega
      · rw [if_neg (by omega), if_neg h3, if_neg (by omega), if_neg (by omega)]
theorem Stp.rot (f : Row) {a m b : Nat} (h1 : a ≤ m) (h2 : m ≤ b) : Stp f (rot f a m b) a b := by
  refine ⟨fun k hk => ?_, fun k k1 k2 => ?_, fun k k1 k2 => ?_⟩
  · unfold Go.Proofs.Ythbcgdogmkgebaa.rot
    rw [if_neg (by omega), if_neg (by omega)]
  · unfold Go.Proofs.Ythbcgdogmkgebaa.rot
    by_cases h : k < a + (b - m)
    · exact ⟨k - a + m, by omega, by omega, by rw [if_pos ⟨k1, h⟩]⟩
    · exact ⟨k - (a + (b - m)) + a, by omega, by omega, by rw [if_neg (by omega), if_pos (by omega)]⟩
  · unfold Go.Proofs.Ythbcgdogmkgebaa.rot
    by_cases h : k < m
    · refine ⟨k + (b - m), by omega, by omega, ?_⟩
      rw [if_neg (by omega), if_pos (by omega)]
      congr 1; omega
    · refine ⟨k - m + a, by omega, by omega, ?_⟩
      rw [if_pos (by omega)]
      congr 1; omega

/-! ### The sort by insertion -/
structure Ins (f : Row) (a i j : Nat) : Prop where
  lo : a ≤ j
  hi : j ≤ i
  rest : ∀ p q, a ≤ p → p < q → q ≤ i → p ≠ j → q ≠ j → leA (f p) (f q)
  up : ∀ q, j < q → q ≤ i → leA (f j) (f q)
theorem Ins.start {f : Row} {a i : Nat} (h : Srt f a i) (hi : a ≤ i) : Ins f a i i := ⟨hi, Nat.le_refl _, fun p q h1 h2 h3 _ h5 => h p q h1 h2 (by omega), fun q h1 h2 => by omega⟩
theorem Ins.step {f : Row} {a i j : Nat} (h : Ins f a i j) (hj : a < j) (hl : ltA (f j) (f (j - 1)) = true) : Ins (swp f j (j - 1)) a i (j - 1) := by
  have := h.hi
  refine ⟨by omega, by omega, fun p q h1 h2 h3 h4 h5 => ?_, fun q h1 h2 => ?_⟩
  · by_cases hq : q = j
    · subst hq
      rw [swp_l, swp_o _ (by omega) (by omega)]
      exact h.rest p (q - 1) h1 (by omega) (by omega) (by omega) (by omega)
    · by_cases hp : p = j
      · subst hp
        rw [swp_l, swp_o _ (by omega) (by omega)]
        exact h.rest (p - 1) q (by omega) (by omega) h3 (by omega) (by omega)
      · rw [swp_o _ hp h4, swp_o _ hq h5]
        exact h.rest p q h1 h2 h3 hp hq
  · rw [swp_r]
    by_cases hq : q = j
    · subst hq
      rw [swp_l]
      exact ltA_yes hl
    · rw [swp_o _ hq (by omega)]
      exact h.up q (by omega) h2
theorem Ins.stop {f : Row} {a i j : Nat} (h : Ins f a i j) (hs : j ≤ a ∨ ltA (f j) (f (j - 1)) = false) : Srt f a (i + 1) := by
  intro p q h1 h2 h3
  by_cases hp : p = j
  · subst hp
    exact h.up q h2 (by omega)
  · by_cases hq : q = j
    · subst hq
      rcases hs with hs | hs
      · omega
      · have h4 := ltA_no hs
        by_cases hp1 : p = q - 1
        · subst hp1; exact h4
        · exact (h.rest p (q - 1) h1 (by omega) (by have := h.hi; omega) hp (by omega)).trans h4
    · exact h.rest p q h1 h2 (by omega) hp hq
theorem Srt.one (f : Row) (a : Nat) : Srt f a (a + 1) := by intro i j h1 h2 h3; omega
theorem Srt.less {f : Row} {a b c d : Nat} (h : Srt f a b) (h1 : a ≤ c) (h2 : d ≤ b) : Srt f c d := fun i j i1 i2 i3 => h i j (by omega) i2 (by omega)
theorem Srt.same {f g : Row} {a b : Nat} (h : Srt f a b) (e : ∀ k, a ≤ k → k < b → g k = f k) : Srt g a b := fun i j i1 i2 i3 => by rw [e i i1 (by omega), e j (by omega) i3]; exact h i j i1 i2 i3

/-! ### One into many: from the left, and from the right -/
def mvr (f : Row) (a k : Nat) : Row := fun x => if a ≤ x ∧ x < k then f (x + 1) else if x = k then f a else f x
theorem mvr_start (f : Row) (a : Nat) : mvr f a a = f := by
  funext x
  unfold mvr
  rw [if_neg (by omega)]
  split
  · rename_i h; rw [h]
  · rfl
theorem mvr_next (f : Row) (a k : Nat) (h : a ≤ k) : swp (mvr f a k) k (k + 1) = mvr f a (k + 1) := by
  funext x
  by_cases h1 : x = k
  · subst h1
    rw [swp_l]
    unfold mvr
    rw [if_neg (by omega), if_neg (by omega), if_pos (by omega)]
  · by_cases h2 : x = k + 1
    · subst h2
      rw [swp_r]
      unfold mvr
      rw [if_neg (by omega), if_pos rfl, if_neg (by omega), if_pos rfl]
    · rw [swp_o _ h1 h2]
      unfold mvr
      by_cases h3 : a ≤ x ∧ x < k
      · rw [if_pos h3, if_pos (by omega)]
      · rw [if_neg h3, if_neg h1, if_neg (by omega), if_neg h2]
theorem Stp.mvr (f : Row) {a b : Nat} : ∀ (k : Nat), a ≤ k → k < b → Stp f (mvr f a k) a b
  | k, h1, h2 => by
    refine ⟨fun x hx => ?_, fun x x1 x2 => ?_, fun x x1 x2 => ?_⟩
    · unfold Go.Proofs.Ythbcgdogmkgebaa.mvr
      rw [if_neg (by omega), if_neg (by omega)]
    · unfold Go.Proofs.Ythbcgdogmkgebaa.mvr
      by_cases h : x < k
      · exact ⟨x + 1, by omega, by omega, by rw [if_pos ⟨x1, h⟩]⟩
      · by_cases h' : x = k
        · exact ⟨a, by omega, by omega, by rw [if_neg (by omega), if_pos h']⟩
        · exact ⟨x, x1, x2, by rw [if_neg (by omega), if_neg h']⟩
    · unfold Go.Proofs.Ythbcgdogmkgebaa.mvr
      by_cases h : x = a
      · exact ⟨k, h1, h2, by rw [if_neg (by omega), if_pos rfl, h]⟩
      · by_cases h' : x ≤ k
        · refine ⟨x - 1, by omega, by omega, ?_⟩
          rw [if_pos (by omega)]
          congr 1; omega
        · exact ⟨x, x1, x2, by rw [if_neg (by omega), if_neg (by omega)]⟩
theorem mvr_srt (f : Row) {a b i : Nat} (hs : Srt f (a + 1) b) (h1 : a + 1 ≤ i) (h2 : i ≤ b) (lo : ∀ k, a + 1 ≤ k → k < i → leA (f k) (f a)) (up : ∀ k, i ≤ k → k < b → leA (f a) (f k)) : Srt (mvr f a (i - 1)) a b := by
  intro p q p1 p2 p3
  unfold mvr
  by_cases hq : q < i - 1
  · rw [if_pos (by omega), if_pos (by omega)]
    exact hs _ _ (by omega) (by omega) (by omega)
  · rw [if_neg (show ¬ (a ≤ q ∧ q < i - 1) by omega)]
    by_cases hq2 : q = i - 1
    · rw [if_pos hq2, if_pos (by omega)]
      exact lo _ (by omega) (by omega)
    · rw [if_neg hq2]
      by_cases hp : p < i - 1
      · rw [if_pos (by omega)]
        exact hs _ _ (by omega) (by omega) (by omega)
      · rw [if_neg (by omega)]
        by_cases hp2 : p = i - 1
        · rw [if_pos hp2]
          exact up _ (by omega) p3
        · rw [if_neg hp2]
          exact hs _ _ (by omega) p2 p3
def mvl (f : Row) (m k : Nat) : Row := fun x => if x = k then f m else if k < x ∧ x ≤ m then f (x - 1) else f x
theorem mvl_start (f : Row) (m : Nat) : mvl f m m = f := by
  funext x
  unfold mvl
  split
  · rename_i h; rw [h]
  · rw [if_neg (by omega)]
theorem mvl_next (f : Row) (m k : Nat) (h : k ≤ m) (h0 : 0 < k) : swp (mvl f m k) k (k - 1) = mvl f m (k - 1) := by
  funext x
  by_cases h1 : x = k
  · subst h1
    rw [swp_l]
    unfold mvl
    rw [if_neg (by omega), if_neg (by omega), if_neg (by omega), if_pos (by omega)]
  · by_cases h2 : x = k - 1
    · subst h2
      rw [swp_r]
      unfold mvl
      rw [if_pos rfl, if_pos rfl]
    · rw [swp_o _ h1 h2]
      unfold mvl
      rw [if_neg h1, if_neg h2]
      by_cases h3 : k < x ∧ x ≤ m
      · rw [if_pos h3, if_pos (by omega)]
      · rw [if_neg h3, if_neg (by omega)]
theorem Stp.mvl (f : Row) {a b m k : Nat} (h1 : a ≤ k) (h2 : k ≤ m) (h3 : m < b) : Stp f (mvl f m k) a b := by
  refine ⟨fun x hx => ?_, fun x x1 x2 => ?_, fun x x1 x2 => ?_⟩
  · unfold Go.Proofs.Ythbcgdogmkgebaa.mvl
    rw [if_neg (by omega), if_neg (by omega)]
  · unfold Go.Proofs.Ythbcgdogmkgebaa.mvl
    by_cases h : x = k
    · exact ⟨m, by omega, by omega, by rw [if_pos h]⟩
    · by_cases h' : k < x ∧ x ≤ m
      · exact ⟨x - 1, by omega, by omega, by rw [if_neg h, if_pos h']⟩
      · exact ⟨x, x1, x2, by rw [if_neg h, if_neg h']⟩
  · unfold Go.Proofs.Ythbcgdogmkgebaa.mvl
    by_cases h : x = m
    · exact ⟨k, h1, by omega, by rw [if_pos rfl, h]⟩
    · by_cases h' : k ≤ x ∧ x < m
      · refine ⟨x + 1, by omega, by omega, ?_⟩
        rw [if_neg (by omega), if_pos (by omega)]
        congr 1
      · exact ⟨x, x1, x2, by rw [if_neg (by omega), if_neg (by omega)]⟩
theorem mvl_srt (f : Row) {a m i : Nat} (hs : Srt f a m) (h1 : a ≤ i) (h2 : i ≤ m) (lo : ∀ k, a ≤ k → k < i → leA (f k) (f m)) (up : ∀ k, i ≤ k → k < m → leA (f m) (f k)) : Srt (mvl f m i) a (m + 1) := by
  intro p q p1 p2 p3
  unfold mvl
  by_cases hp : p = i
  · rw [if_pos hp, if_neg (by omega), if_pos (by omega)]
    exact up _ (by omega) (by omega)
  · rw [if_neg hp]
    by_cases hq : q = i
    · rw [if_pos hq, if_neg (by omega)]
      exact lo _ p1 (by omega)
    · rw [if_neg hq]
      by_cases hp2 : i < p ∧ p ≤ m
      · rw [if_pos hp2, if_pos (by omega)]
        exact hs _ _ (by omega) (by omega) (by omega)
      · rw [if_neg hp2]
        by_cases hq2 : i < q ∧ q ≤ m
        · rw [if_pos hq2]
          exact hs.le p1 (by omega) (by omega)
        · rw [if_neg hq2]
          exact hs _ _ p1 p2 (by omega)

/-! ### The merge -/
/-- Where a search by halves ends. -/
structure Cut (f : Row) (p lo hi s r : Nat) : Prop where
  l : lo ≤ s
  m : s ≤ r
  h : r ≤ hi
  low : ∀ c, lo ≤ c → c < s → leA (f c) (f (p - c))
  top : ∀ c, r ≤ c → c < hi → leA (f (p - c)) (f c)
theorem Cut.up {f : Row} {p lo hi s r c : Nat} (k : Cut f p lo hi s r) (h1 : s ≤ c) (h2 : c < r) (hL : Srt f lo hi) (hR : ∀ x y, lo ≤ x → x ≤ y → y < hi → leA (f (p - y)) (f (p - x))) (h : ltA (f (p - c)) (f c) = false) : Cut f p lo hi (c + 1) r := by
  have := k.h
  have := k.l
  refine ⟨by omega, by omega, k.h, fun x x1 x2 => ?_, k.top⟩
  exact ((hL.le x1 (show x ≤ c by omega) (by omega)).trans (ltA_no h)).trans (hR x c x1 (by omega) (by omega))
theorem Cut.dn {f : Row} {p lo hi s r c : Nat} (k : Cut f p lo hi s r) (h1 : s ≤ c) (h2 : c < r) (hL : Srt f lo hi) (hR : ∀ x y, lo ≤ x → x ≤ y → y < hi → leA (f (p - y)) (f (p - x))) (h : ltA (f (p - c)) (f c) = true) : Cut f p lo hi s c := by
  have := k.h
  have := k.l
  refine ⟨k.l, by omega, by omega, k.low, fun x x1 x2 => ?_⟩
  exact ((hR c x (by omega) x1 x2).trans (ltA_yes h)).trans (hL.le (by omega) x1 x2)
/-- The merge of two sorted parts: what the two recursive merges get, and what comes of them. -/
theorem merge_join {f g1 g2 g3 : Row} {a m b mid s e p lo hi : Nat} (ham : a < m) (hmb : m < b) (hs1 : Srt f a m) (hs2 : Srt f m b) (hmid : mid = (a + b) / 2) (hp : p = mid + m - 1) (he : e = mid + m - s)
    (hlh : (mid < m ∧ lo = mid + m - b ∧ hi = mid) ∨ (m ≤ mid ∧ lo = a ∧ hi = m)) (k : Cut f p lo hi s s)
    (e1 : g1 = rot f s m e) (e2 : (a < s ∧ s < mid ∧ Stp g1 g2 a mid ∧ Srt g2 a mid) ∨ (¬ (a < s ∧ s < mid) ∧ g2 = g1)) (e3 : (mid < e ∧ e < b ∧ Stp g2 g3 mid b ∧ Srt g3 mid b) ∨ (¬ (mid < e ∧ e < b) ∧ g3 = g2)) : Stp f g3 a b ∧ Srt g3 a b := by
  have k1 := k.l
  have k2 := k.h
  have hsm : a ≤ s ∧ s ≤ m ∧ s ≤ mid ∧ m ≤ e ∧ mid ≤ e ∧ e ≤ b ∧ a < mid ∧ mid < b := by omega
  have hem : s + (e - m) = mid := by omega
  have S1 : Stp f g1 a b := by rw [e1]; exact (Stp.rot f (by omega) (by omega)).wide (by omega) (by omega)
  have r1 : ∀ x, a ≤ x → x < s → g1 x = f x := fun x _ _ => by rw [e1]; unfold rot; rw [if_neg (by omega), if_neg (by omega)]
  have r2 : ∀ x, s ≤ x → x < mid → g1 x = f (x - s + m) := fun x _ _ => by rw [e1]; unfold rot; rw [if_pos (by omega)]
  have r3 : ∀ x, mid ≤ x → x < e → g1 x = f (x - mid + s) := fun x _ _ => by rw [e1]; unfold rot; rw [if_neg (by omega), if_pos (by omega), hem]
  have r4 : ∀ x, e ≤ x → x < b → g1 x = f x := fun x _ _ => by rw [e1]; unfold rot; rw [if_neg (by omega), if_neg (by omega)]
  -- each of the lower half is at most each of the upper one
  have cut1 : ∀ x y, a ≤ x → x < s → e ≤ y → y < b → leA (f x) (f y) := fun x y x1 x2 y1 y2 => by
    have hlo : lo < s := by omega
    have c1 := k.low (s - 1) (by omega) (by omega)
    have c2 := hs1.le x1 (show x ≤ s - 1 by omega) (by omega)
    have c3 := hs2.le (show m ≤ p - (s - 1) by omega) (show p - (s - 1) ≤ y by omega) y2
    exact (c2.trans c1).trans c3
  have cut2 : ∀ x y, m ≤ x → x < e → s ≤ y → y < m → leA (f x) (f y) := fun x y x1 x2 y1 y2 => by
    have hhi : s < hi := by omega
    have c1 := k.top s (Nat.le_refl _) hhi
    have c2 := hs2.le x1 (show x ≤ p - s by omega) (by omega)
    have c3 := hs1.le (show a ≤ s by omega) y1 y2
    exact (c2.trans c1).trans c3
  have X : ∀ x y, a ≤ x → x < mid → mid ≤ y → y < b → leA (g1 x) (g1 y) := fun x y x1 x2 y1 y2 => by
    by_cases hx : x < s
    · rw [r1 x x1 hx]
      by_cases hy : y < e
      · rw [r3 y y1 hy]
        exact hs1.le x1 (by omega) (by omega)
      · rw [r4 y (by omega) y2]
        exact cut1 x y x1 hx (by omega) y2
    · rw [r2 x (by omega) x2]
      by_cases hy : y < e
      · rw [r3 y y1 hy]
        exact cut2 _ _ (by omega) (by omega) (by omega) (by omega)
      · rw [r4 y (by omega) y2]
        exact hs2.le (by omega) (by omega) y2
  have L2 : Stp g1 g2 a mid ∧ Srt g2 a mid := by
    rcases e2 with ⟨_, _, h1, h2⟩ | ⟨h1, rfl⟩
    · exact ⟨h1, h2⟩
    · refine ⟨Stp.refl _ _ _, ?_⟩
      by_cases hsa : s ≤ a
      · intro x y x1 x2 x3
        rw [r2 x (by omega) (by omega), r2 y (by omega) x3]
        exact hs2.le (by omega) (by omega) (by omega)
      · intro x y x1 x2 x3
        rw [r1 x x1 (by omega), r1 y (by omega) (by omega)]
        exact hs1.le x1 (by omega) (by omega)
  have O2 : ∀ x, mid ≤ x → g2 x = g1 x := fun x hx => L2.1.out x (.inr hx)
  have L3 : Stp g2 g3 mid b ∧ Srt g3 mid b := by
    rcases e3 with ⟨_, _, h1, h2⟩ | ⟨h1, rfl⟩
    · exact ⟨h1, h2⟩
    · refine ⟨Stp.refl _ _ _, ?_⟩
      by_cases hem' : e ≤ mid
      · intro x y x1 x2 x3
        rw [O2 x x1, O2 y (by omega), r4 x (by omega) (by omega), r4 y (by omega) x3]
        exact hs2.le (by omega) (by omega) (by omega)
      · intro x y x1 x2 x3
        rw [O2 x x1, O2 y (by omega), r3 x x1 (by omega), r3 y (by omega) (by omega)]
        exact hs1.le (by omega) (by omega) (by omega)
  refine ⟨(S1.trans (L2.1.wide (Nat.le_refl _) (by omega))).trans (L3.1.wide (by omega) (Nat.le_refl _)), fun x y x1 x2 x3 => ?_⟩
  by_cases hy : y < mid
  · rw [L3.1.out x (.inl (by omega)), L3.1.out y (.inl hy)]
    exact L2.2 x y x1 x2 hy
  · by_cases hx : x < mid
    · rw [L3.1.out x (.inl hx)]
      obtain ⟨x', a1, a2, ex⟩ := L2.1.fwd x x1 hx
      obtain ⟨y', b1, b2, ey⟩ := L3.1.fwd y (by omega) x3
      rw [ex, ey, O2 y' b1]
      exact X x' y' a1 a2 b1 b2
    · exact L3.2 x y (by omega) x2 x3
end Go.Proofs.Ythbcgdogmkgebaa
