/- All that is made may be: plain. -/
import Derived.Test.YtppnndhekikagaaRight
import Derived.Test.YtppnndhekikagaaGridBoth
namespace Go.Proofs.Ytppnndhekikagaa
open Go.RowKit

theorem belowR_lt (x n : Int) (h : 1 ≤ n) : 0 ≤ belowR x n ∧ belowR x n < n := by
  rw [belowR, if_neg (by omega)]
  exact ⟨Int.emod_nonneg _ (by omega), Int.emod_lt_of_pos _ (by omega)⟩

theorem nodeOk_of (n a b r : Int) (h1 : 0 ≤ a) (h2 : a < n) (h3 : 0 ≤ b) (h4 : b < n) (h5 : a ≠ b) : nodeOk n (a, b, r) = true := by
  simp [nodeOk, h1, h2, h3, h4, h5]
theorem wOk_of (a b r : Int) (h1 : 1 ≤ r) (h2 : r ≤ 4294967296) : wOk (a, b, r) = true := decide_eq_true ⟨h1, h2⟩
/-- An edge that may be. -/
def okE (n : Int) (e : Edg) : Bool := nodeOk n e && wOk e
theorem rightF_of (n : Int) (es : List Edg) (h1 : 1 ≤ n) (h2 : n ≤ 4096) (h3 : es.length ≤ 16384) (h : es.all (okE n) = true) : rightF n es = 0 := by
  have ha : es.all (nodeOk n) = true := by
    rw [List.all_eq_true] at h ⊢
    exact fun e he => (Bool.and_eq_true _ _ ▸ h e he).1
  have hb : es.all wOk = true := by
    rw [List.all_eq_true] at h ⊢
    exact fun e he => (Bool.and_eq_true _ _ ▸ h e he).2
  rw [rightF, if_neg (by omega), if_neg (by omega), if_pos ha, if_pos hb]
theorem okE_of (n a b r : Int) (h1 : 0 ≤ a) (h2 : a < n) (h3 : 0 ≤ b) (h4 : b < n) (h5 : a ≠ b) (h6 : 1 ≤ r) (h7 : r ≤ 4294967296) : okE n (a, b, r) = true := by
  rw [okE, nodeOk_of n a b r h1 h2 h3 h4 h5, wOk_of a b r h6 h7]; rfl

theorem ring_right (n : Nat) (wt : Int) (h1 : 2 ≤ n) (h2 : n ≤ 4096) (h3 : 1 ≤ wt) (h4 : wt ≤ 4294967296) : rightF n (ringL n wt n) = 0 := by
  refine rightF_of _ _ (by omega) (by omega) (by rw [ringL_length]; omega) ?_
  rw [List.all_eq_true]
  intro e he
  simp only [ringL, List.mem_map, List.mem_range] at he
  obtain ⟨v, hv, rfl⟩ := he
  have ha := Int.emod_nonneg ((v : Int) + 1) (show (n : Int) ≠ 0 by omega)
  have hb := Int.emod_lt_of_pos ((v : Int) + 1) (show 0 < (n : Int) by omega)
  refine okE_of _ _ _ _ (by omega) (by omega) ha hb ?_ h3 h4
  rcases Nat.lt_or_ge (v + 1) n with hc | hc
  · rw [Int.emod_eq_of_lt (by omega) (by omega)]; omega
  · have hvn : (v : Int) + 1 = n := by omega
    rw [hvn, Int.emod_self]; omega

theorem ladder_right (n : Nat) (h1 : 1 ≤ n) (h2 : n ≤ 4095) : rightF ((n : Int) + 1) (ladL n) = 0 := by
  refine rightF_of _ _ (by omega) (by omega) (by rw [ladL_length]; omega) ?_
  have h : ∀ k, k ≤ n → (ladL k).all (okE ((n : Int) + 1)) = true := by
    intro k
    induction k with
    | zero => intro _; rfl
    | succ k ih =>
      intro hk
      rw [ladL, List.all_append, List.all_append, ih (by omega)]
      simp only [List.all_cons, List.all_nil, Bool.and_true, Bool.true_and, Bool.and_eq_true]
      exact ⟨okE_of _ _ _ _ (by omega) (by omega) (by omega) (by omega) (by omega) (by omega) (by omega), okE_of _ _ _ _ (by omega) (by omega) (by omega) (by omega) (by omega) (by omega) (by omega)⟩
  exact h n (Nat.le_refl _)

theorem random_right (n m : Nat) (seed most : Int) (h1 : 2 ≤ n) (h2 : n ≤ 4096) (h3 : m ≤ 16384) (h4 : 1 ≤ most) (h5 : most ≤ 4294967296) : rightF n (rndS n most seed m).2 = 0 := by
  refine rightF_of _ _ (by omega) (by omega) (by rw [rndS_length]; omega) ?_
  clear h3
  induction m with
  | zero => rfl
  | succ m ih =>
    rcases hx : rndS n most seed m with ⟨x, es⟩
    rw [rndS_succ n most seed m x es hx]
    rw [hx] at ih
    rw [List.all_append, ih]
    simp only [List.all_cons, List.all_nil, Bool.and_true, Bool.true_and]
    have ha := belowR_lt x n (by omega)
    have hb := belowR_lt (belowX x n) ((n : Int) - 1) (by omega)
    have hc := belowR_lt (belowX (belowX x n) ((n : Int) - 1)) most h4
    refine okE_of _ _ _ _ ha.1 ha.2 (Int.emod_nonneg _ (by omega)) (Int.emod_lt_of_pos _ (by omega)) ?_ (by omega) (by omega)
    rcases Int.lt_or_le (belowR x n + 1 + belowR (belowX x n) ((n : Int) - 1)) n with hd | hd
    · rw [Int.emod_eq_of_lt (by omega) hd]; omega
    · have he : (belowR x n + 1 + belowR (belowX x n) ((n : Int) - 1)) % n = belowR x n + 1 + belowR (belowX x n) ((n : Int) - 1) - n := by
        rw [← Int.sub_emod_right, Int.emod_eq_of_lt (by omega) (by omega)]
      rw [he]; omega

theorem pairS_ok (n most : Int) (s : Int × List Edg) (a b : Int) (h4 : 1 ≤ most) (h5 : most ≤ 4294967296) (h1 : 0 ≤ a) (h2 : a < n) (h3 : 0 ≤ b) (h6 : b < n) (h7 : a ≠ b) (h : s.2.all (okE n) = true) : (pairS most s a b).2.all (okE n) = true := by
  have hc := belowR_lt s.1 most h4
  have hd := belowR_lt (belowX s.1 most) most h4
  simp only [pairS, List.all_append, h, List.all_cons, List.all_nil, Bool.and_true, Bool.true_and, Bool.and_eq_true]
  exact ⟨okE_of _ _ _ _ h1 h2 h3 h6 h7 (by omega) (by omega), okE_of _ _ _ _ h3 h6 h1 h2 (fun h => h7 h.symm) (by omega) (by omega)⟩

theorem grid_right (wide high : Nat) (seed most : Int) (h1 : 1 ≤ wide) (h3 : 1 ≤ high) (h4 : 1 ≤ most) (h5 : most ≤ 4294967296) (hP : wide * high ≤ 4096) : rightF ((wide * high : Nat) : Int) (gridS wide high most seed (wide * high)).2 = 0 := by
  have hpos : 1 ≤ wide * high := Nat.mul_pos h1 h3
  refine rightF_of _ _ (by omega) (by omega) (by have := gridS_length wide high most seed (wide * high); omega) ?_
  have h : ∀ k, k ≤ wide * high → (gridS wide high most seed k).2.all (okE ((wide * high : Nat) : Int)) = true := by
    intro k
    induction k with
    | zero => intro _; rfl
    | succ k ih =>
      intro hk
      have ih := ih (by omega)
      have hdm := Nat.div_add_mod k wide
      have hm := Nat.mod_lt k (show 0 < wide by omega)
      have hd : k / wide < high := Nat.div_lt_of_lt_mul (by omega)
      have hA : (k % wide + 1 < wide → k + 1 < wide * high) := by
        intro hx
        have := Nat.mul_le_mul_left wide (show k / wide + 1 ≤ high by omega)
        rw [Nat.mul_succ] at this
        omega
      have hB : (k / wide + 1 < high → k + wide < wide * high) := by
        intro hx
        have := Nat.mul_le_mul_left wide (show k / wide + 2 ≤ high by omega)
        rw [Nat.mul_succ, Nat.mul_succ] at this
        omega
      rw [gridS, spotS]
      have s1 : (if k % wide + 1 < wide then pairS most (gridS wide high most seed k) (k : Int) ((k : Int) + 1) else gridS wide high most seed k).2.all (okE ((wide * high : Nat) : Int)) = true := by
        by_cases ha : k % wide + 1 < wide
        · rw [if_pos ha]
          have := hA ha
          exact pairS_ok _ _ _ _ _ h4 h5 (by omega) (by omega) (by omega) (by omega) (by omega) ih
        · rw [if_neg ha]; exact ih
      by_cases hb : k / wide + 1 < high
      · rw [if_pos hb]
        have := hB hb
        exact pairS_ok _ _ _ _ _ h4 h5 (by omega) (by omega) (by omega) (by omega) (by omega) s1
      · rw [if_neg hb]; exact s1
  exact h _ (Nat.le_refl _)
end Go.Proofs.Ytppnndhekikagaa
