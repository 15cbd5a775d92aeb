/- Indices by their keys, key by key: plain. -/
import Derived.Test.YtmpnaleenehkgaaInts
namespace Go.Proofs.Ytmpnaleenehkgaa

/-- How many of the first k indices have key v. -/
def cnt (key : Nat → Nat) (v : Nat) : Nat → Nat
  | 0 => 0
  | k + 1 => cnt key v k + (if key k = v then 1 else 0)
/-- How many of the first m have a key below v. -/
def pre (key : Nat → Nat) (m : Nat) : Nat → Nat
  | 0 => 0
  | v + 1 => pre key m v + cnt key v m
/-- The first k indices that have key v. -/
def rowN (key : Nat → Nat) (v : Nat) : Nat → List Nat
  | 0 => []
  | k + 1 => rowN key v k ++ (if key k = v then [k] else [])
theorem cnt_yes {key : Nat → Nat} {v k : Nat} (h : key k = v) : cnt key v (k + 1) = cnt key v k + 1 := by simp [cnt, h]
theorem cnt_no {key : Nat → Nat} {v k : Nat} (h : key k ≠ v) : cnt key v (k + 1) = cnt key v k := by simp [cnt, h]
theorem rowN_yes {key : Nat → Nat} {v k : Nat} (h : key k = v) : rowN key v (k + 1) = rowN key v k ++ [k] := by simp [rowN, h]
theorem rowN_no {key : Nat → Nat} {v k : Nat} (h : key k ≠ v) : rowN key v (k + 1) = rowN key v k := by simp [rowN, h]
theorem rowN_length (key : Nat → Nat) (v : Nat) : ∀ k, (rowN key v k).length = cnt key v k
  | 0 => rfl
  | k + 1 => by
    by_cases h : key k = v
    · rw [rowN_yes h, cnt_yes h, List.length_append, rowN_length key v k]; rfl
    · rw [rowN_no h, cnt_no h, rowN_length key v k]
theorem cnt_le (key : Nat → Nat) (v : Nat) : ∀ k, cnt key v k ≤ k
  | 0 => Nat.le_refl _
  | k + 1 => by
    have := cnt_le key v k
    simp only [cnt]
    split <;> omega
theorem cnt_mono (key : Nat → Nat) (v : Nat) {j : Nat} : ∀ {k : Nat}, j ≤ k → cnt key v j ≤ cnt key v k
  | 0, h => by
    obtain rfl : j = 0 := by omega
    exact Nat.le_refl _
  | k + 1, h => by
    rcases Nat.lt_or_ge j (k + 1) with hl | hl
    · have := cnt_mono key v (j := j) (k := k) (by omega)
      simp only [cnt]
      omega
    · obtain rfl : j = k + 1 := by omega
      exact Nat.le_refl _
theorem cnt_lt {key : Nat → Nat} {v j k : Nat} (h : key j = v) (hj : j < k) : cnt key v j < cnt key v k := by
  have h1 := cnt_yes h
  have h2 := cnt_mono key v (j := j + 1) (k := k) (by omega)
  omega
theorem cnt_inj {key : Nat → Nat} {v i j : Nat} (hi : key i = v) (hj : key j = v) (h : cnt key v i = cnt key v j) : i = j := by
  rcases Nat.lt_trichotomy i j with h1 | h1 | h1
  · have := cnt_lt hi h1; omega
  · exact h1
  · have := cnt_lt hj h1; omega
theorem rowN_at (key : Nat → Nat) (v : Nat) : ∀ (k r j : Nat), (rowN key v k)[r]? = some j → key j = v ∧ cnt key v j = r ∧ j < k
  | 0, r, j, h => by simp [rowN] at h
  | k + 1, r, j, h => by
    by_cases hk : key k = v
    · rw [rowN_yes hk] at h
      rcases Nat.lt_or_ge r (rowN key v k).length with hl | hl
      · rw [List.getElem?_append_left hl] at h
        obtain ⟨a, b, c⟩ := rowN_at key v k r j h
        exact ⟨a, b, by omega⟩
      · rw [List.getElem?_append_right hl] at h
        rw [rowN_length] at hl h
        have hr : r - cnt key v k = 0 := by
          rcases Nat.eq_zero_or_pos (r - cnt key v k) with h0 | h0
          · exact h0
          · rw [List.getElem?_eq_none (by simp; omega)] at h; cases h
        rw [hr] at h
        obtain rfl : k = j := by simpa using h
        exact ⟨hk, by omega, by omega⟩
    · rw [rowN_no hk] at h
      obtain ⟨a, b, c⟩ := rowN_at key v k r j h
      exact ⟨a, b, by omega⟩
/-- Some of them have keys below n: as many as there are, if all have. -/
theorem pre_step (key : Nat → Nat) (m : Nat) : ∀ n, pre key (m + 1) n = pre key m n + (if key m < n then 1 else 0)
  | 0 => by simp [pre]
  | n + 1 => by
    simp only [pre, pre_step key m n, cnt]
    by_cases h1 : key m < n
    · rw [if_pos h1, if_neg (by omega), if_pos (by omega)]; omega
    · rw [if_neg h1]
      by_cases h2 : key m = n
      · rw [if_pos h2, if_pos (by omega)]; omega
      · rw [if_neg h2, if_neg (by omega)]; omega
theorem pre_zero (key : Nat → Nat) : ∀ n, pre key 0 n = 0
  | 0 => rfl
  | n + 1 => by simp [pre, cnt, pre_zero key n]
theorem pre_all (key : Nat → Nat) (n : Nat) : ∀ m, (∀ k, k < m → key k < n) → pre key m n = m
  | 0, _ => pre_zero key n
  | m + 1, h => by rw [pre_step, pre_all key n m (fun k hk => h k (by omega)), if_pos (h m (by omega))]
theorem pre_mono (key : Nat → Nat) (m : Nat) {u : Nat} : ∀ {v : Nat}, u ≤ v → pre key m u ≤ pre key m v
  | 0, h => by
    obtain rfl : u = 0 := by omega
    exact Nat.le_refl _
  | v + 1, h => by
    rcases Nat.lt_or_ge u (v + 1) with hl | hl
    · have := pre_mono key m (u := u) (v := v) (by omega)
      simp only [pre]
      omega
    · obtain rfl : u = v + 1 := by omega
      exact Nat.le_refl _
/-- Each index has a place of its own. -/
theorem place_lt {key : Nat → Nat} {m n j : Nat} (hk : ∀ k, k < m → key k < n) (hj : j < m) : pre key m (key j) + cnt key (key j) j < m := by
  have h1 := cnt_lt (key := key) (v := key j) rfl hj
  have h2 : pre key m (key j) + cnt key (key j) m = pre key m (key j + 1) := rfl
  have h3 := pre_mono key m (u := key j + 1) (v := n) (hk j hj)
  rw [pre_all key n m hk] at h3
  omega
theorem place_inj {key : Nat → Nat} {m i j : Nat} (hi : i < m) (hj : j < m) (h : pre key m (key i) + cnt key (key i) i = pre key m (key j) + cnt key (key j) j) : i = j := by
  have a1 := cnt_lt (key := key) (v := key i) rfl hi
  have a2 := cnt_lt (key := key) (v := key j) rfl hj
  have b1 : pre key m (key i) + cnt key (key i) m = pre key m (key i + 1) := rfl
  have b2 : pre key m (key j) + cnt key (key j) m = pre key m (key j + 1) := rfl
  rcases Nat.lt_trichotomy (key i) (key j) with h1 | h1 | h1
  · have := pre_mono key m (u := key i + 1) (v := key j) h1
    omega
  · rw [h1] at h a1
    exact cnt_inj (v := key j) h1 rfl (by omega)
  · have := pre_mono key m (u := key j + 1) (v := key i) h1
    omega
end Go.Proofs.Ytmpnaleenehkgaa
