/- Plain laws on the bytes of numbers: no program in sight. -/
import Derived.Laws.BitsAllLaws
import Derived.Laws.BitsLemmas
namespace Go.Proofs.Ytjbjomodponapaa

/-- The number that the first k of the bytes z make, seven bits each. -/
def val (z : Nat → Int) : Nat → Int
  | 0 => 0
  | k + 1 => val z k + z k % 128 * 2 ^ (7 * k)

/-- What Take answers, from byte k on: f rounds are left. -/
def takeGo (z : Nat → Int) (len : Nat) : Nat → Nat → Int × Int × Bool
  | 0, _ => (0, 0, false)
  | f + 1, k =>
    if k < len then
      if k = 9 ∧ 1 < z k then (0, 0, false)
      else if z k < 128 then (if z k = 0 ∧ 0 < k then (0, 0, false) else (val z (k + 1), (k : Int) + 1, true))
      else takeGo z len f (k + 1)
    else (0, 0, false)

def takeF (z : Nat → Int) (len : Nat) : Int × Int × Bool := takeGo z len 10 0

theorem two_pow_pos (k : Nat) : (0 : Int) < 2 ^ k := by
  have := Nat.two_pow_pos k
  have h : ((2 ^ k : Nat) : Int) = 2 ^ k := by simp
  omega

theorem val_nonneg (z : Nat → Int) (k : Nat) : 0 ≤ val z k := by
  induction k with
  | zero => simp [val]
  | succ k ih =>
    have h1 : 0 ≤ z k % 128 := Int.emod_nonneg _ (by omega)
    have := Int.mul_nonneg h1 (Int.le_of_lt (two_pow_pos (7 * k)))
    simp only [val]; omega

theorem val_lt (z : Nat → Int) (k : Nat) : val z k < 2 ^ (7 * k) := by
  induction k with
  | zero => simp [val]
  | succ k ih =>
    have h1 : z k % 128 ≤ 127 := by have := Int.emod_lt_of_pos (z k) (show (0 : Int) < 128 by omega); omega
    have h2 := Int.mul_le_mul_of_nonneg_right h1 (Int.le_of_lt (two_pow_pos (7 * k)))
    have e : (2 : Int) ^ (7 * (k + 1)) = 128 * 2 ^ (7 * k) := by
      rw [show 7 * (k + 1) = 7 + 7 * k by omega, Int.pow_add]; rfl
    simp only [val]; omega

theorem pow_le_63 (k : Nat) (hk : k ≤ 9) : (2 : Int) ^ (7 * k) ≤ 9223372036854775808 := by
  have h : 7 * k ≤ 63 := by omega
  have h2 : 2 ^ (7 * k) ≤ 2 ^ 63 := Nat.pow_le_pow_right (by omega) h
  have h3 : ((2 ^ (7 * k) : Nat) : Int) = 2 ^ (7 * k) := by simp
  have h4 : (2 : Nat) ^ 63 = 9223372036854775808 := by decide
  omega

theorem andNot_128 (c : Int) (h0 : 0 ≤ c) (h1 : c ≤ 255) : bits .andNot .u8 c 128 = c % 128 := by
  rw [u8_andNot c 128 h0 (by omega) (by omega) (by omega)]
  have : c.toNat &&& (255 - (128 : Int).toNat) = c.toNat % 128 := Nat.and_two_pow_sub_one_eq_mod c.toNat 7
  rw [this]; omega

theorem shl_in (c : Int) (k : Nat) (h0 : 0 ≤ c) (h1 : c ≤ 127) (hk : k ≤ 9) (h9 : k = 9 → c ≤ 1) :
    0 ≤ c * 2 ^ (7 * k) ∧ c * 2 ^ (7 * k) < 18446744073709551616 := by
  refine ⟨Int.mul_nonneg h0 (Int.le_of_lt (two_pow_pos _)), ?_⟩
  have hp := two_pow_pos (7 * k)
  rcases Nat.lt_or_ge k 9 with hlt | hge
  · have h2 := Int.mul_le_mul_of_nonneg_right h1 (Int.le_of_lt hp)
    have h3 : (2 : Int) ^ (7 * k) ≤ 72057594037927936 := by
      have h : 2 ^ (7 * k) ≤ 2 ^ 56 := Nat.pow_le_pow_right (by omega) (by omega)
      have h3 : ((2 ^ (7 * k) : Nat) : Int) = 2 ^ (7 * k) := by simp
      have h4 : (2 : Nat) ^ 56 = 72057594037927936 := by decide
      omega
    omega
  · have h2 := Int.mul_le_mul_of_nonneg_right (h9 (by omega)) (Int.le_of_lt hp)
    have := pow_le_63 k hk
    omega

theorem wrap_mod (c : Int) (_h0 : 0 ≤ c) : IntKind.u64.wrap (c % 128) = c % 128 := by
  rw [IntKind.wrap_u64]; omega
theorem wrap_shl (c : Int) (k : Nat) (_h0 : 0 ≤ c) (_h1 : c ≤ 255) (hk : k ≤ 9) (h9 : k = 9 → c % 128 ≤ 1) :
    IntKind.u64.wrap (IntKind.u64.wrap (c % 128) * 2 ^ (7 * k)) = c % 128 * 2 ^ (7 * k) := by
  have h2 := Int.emod_nonneg c (show (128 : Int) ≠ 0 by omega)
  have h3 := Int.emod_lt_of_pos c (show (0 : Int) < 128 by omega)
  have h := shl_in (c % 128) k h2 (by omega) hk h9
  rw [IntKind.wrap_u64, IntKind.wrap_u64, Int.emod_eq_of_lt h2 (by omega), Int.emod_eq_of_lt h.1 h.2]

theorem or_disjoint (a c k : Nat) (ha : a < 2 ^ k) : a ||| c * 2 ^ k = a + c * 2 ^ k := by
  rw [Nat.or_comm, Nat.mul_comm c, ← Nat.two_pow_add_eq_or_of_lt ha]
  omega

/-- What the program's round makes of the number so far. -/
theorem step_or (z : Nat → Int) (k : Nat) (h0 : 0 ≤ z k) (h1 : z k ≤ 255) (hk : k ≤ 9) (h9 : k = 9 → z k % 128 ≤ 1) :
    bits .or .u64 (val z k) (IntKind.u64.wrap (IntKind.u64.wrap (bits .andNot .u8 (z k) 128) * 2 ^ (7 * k))) = val z (k + 1) := by
  rw [andNot_128 _ h0 h1, wrap_shl _ k h0 h1 hk h9]
  have h2 := Int.emod_nonneg (z k) (show (128 : Int) ≠ 0 by omega)
  have h3 := Int.emod_lt_of_pos (z k) (show (0 : Int) < 128 by omega)
  have h := shl_in (z k % 128) k h2 (by omega) hk h9
  have hv0 := val_nonneg z k
  have hv1 := val_lt z k
  have hp := pow_le_63 k hk
  rw [u64_or _ _ hv0 (by omega) h.1 h.2]
  have hc : ((2 ^ (7 * k) : Nat) : Int) = 2 ^ (7 * k) := by simp
  obtain ⟨a, ha⟩ := Int.eq_ofNat_of_zero_le hv0
  obtain ⟨c, hcc⟩ := Int.eq_ofNat_of_zero_le h2
  rw [ha, hcc, ← hc, ← Int.natCast_mul, Int.toNat_natCast, Int.toNat_natCast, or_disjoint _ _ _ (by omega)]
  simp only [val, ha, hcc, ← hc]
  omega

/-- What the document's round makes of it. -/
theorem step_add (z : Nat → Int) (k : Nat) (h0 : 0 ≤ z k) (h1 : z k ≤ 255) (hk : k ≤ 9) (h9 : k = 9 → z k % 128 ≤ 1) :
    IntKind.u64.wrap (val z k + IntKind.u64.wrap (IntKind.u64.wrap (z k % 128) * 2 ^ (7 * k))) = val z (k + 1) := by
  rw [wrap_shl _ k h0 h1 hk h9]
  have h2 := Int.emod_nonneg (z k) (show (128 : Int) ≠ 0 by omega)
  have h3 := Int.emod_lt_of_pos (z k) (show (0 : Int) < 128 by omega)
  have h := shl_in (z k % 128) k h2 (by omega) hk h9
  have hv0 := val_nonneg z k
  have hv1 := val_lt z k
  have hp := pow_le_63 k hk
  have hle : z k % 128 * 2 ^ (7 * k) ≤ 9223372036854775808 := by
    rcases Nat.lt_or_ge k 9 with hlt | hge
    · have h4 := Int.mul_le_mul_of_nonneg_right (show z k % 128 ≤ 127 by omega) (Int.le_of_lt (two_pow_pos (7 * k)))
      have h3 : (2 : Int) ^ (7 * k) ≤ 72057594037927936 := by
        have h : 2 ^ (7 * k) ≤ 2 ^ 56 := Nat.pow_le_pow_right (by omega) (by omega)
        have h3 : ((2 ^ (7 * k) : Nat) : Int) = 2 ^ (7 * k) := by simp
        have h4 : (2 : Nat) ^ 56 = 72057594037927936 := by decide
        omega
      omega
    · have h4 := Int.mul_le_mul_of_nonneg_right (h9 (by omega)) (Int.le_of_lt (two_pow_pos (7 * k)))
      omega
  rw [IntKind.wrap_u64, Int.emod_eq_of_lt (by omega) (by omega)]
  rfl

theorem step_add' (z : Nat → Int) (k : Nat) (h0 : 0 ≤ z k) (h1 : z k ≤ 255) (hk : k ≤ 9) (h9 : k = 9 → z k % 128 ≤ 1) :
    IntKind.u64.wrap (val z k + IntKind.u64.wrap (z k % 128 * 2 ^ (7 * k))) = val z (k + 1) := by
  have h := step_add z k h0 h1 hk h9
  rwa [wrap_mod _ h0] at h

theorem pow_63 : (2 : Int) ^ (7 * 9) = 9223372036854775808 := by decide
theorem step_or9 (z : Nat → Int) (h0 : 0 ≤ z 9) (h1 : z 9 ≤ 255) (h9 : z 9 % 128 ≤ 1) :
    bits .or .u64 (val z 9) (IntKind.u64.wrap (IntKind.u64.wrap (bits .andNot .u8 (z 9) 128) * 9223372036854775808)) = val z 10 := by
  have h := step_or z 9 h0 h1 (by omega) (fun _ => h9)
  rw [pow_63] at h
  exact h
theorem step_add9 (z : Nat → Int) (h0 : 0 ≤ z 9) (h1 : z 9 ≤ 255) (h9 : z 9 % 128 ≤ 1) :
    IntKind.u64.wrap (val z 9 + z 9 % 128 * 9223372036854775808) = val z 10 := by
  have h := step_add' z 9 h0 h1 (by omega) (fun _ => h9)
  rw [pow_63, show IntKind.u64.wrap (z 9 % 128 * 9223372036854775808) = z 9 % 128 * 9223372036854775808 from by rw [IntKind.wrap_u64]; omega] at h
  exact h

/-- The bytes of a number, the least ones first; f: so many are enough. -/
def digs : Nat → Nat → List Int
  | 0, _ => []
  | f + 1, n => if n < 128 then [(n : Int)] else ((n % 128 + 128 : Nat) : Int) :: digs f (n / 128)

theorem digs_length (f n : Nat) : (digs f n).length ≤ f := by
  induction f generalizing n with
  | zero => simp [digs]
  | succ f ih =>
    unfold digs; split
    · simp
    · have := ih (n / 128); simp; omega

theorem or_128 (n : Nat) : bits .or .u8 (IntKind.u8.wrap (n : Int)) 128 = ((n % 128 + 128 : Nat) : Int) := by
  rw [IntKind.wrap_u8', u8_or _ _ (by omega) (by omega) (by omega) (by omega)]
  have e1 : ((n : Int) % 256).toNat = n % 256 := by omega
  have e2 : (128 : Int).toNat = 1 * 2 ^ 7 := rfl
  rw [e1, e2]
  have h : n % 256 ||| 1 * 2 ^ 7 = n % 128 + 128 := by
    rcases Nat.lt_or_ge (n % 256) 128 with hlt | hge
    · rw [or_disjoint _ _ _ hlt]; omega
    · have h1 : n % 256 = (n % 128) ||| 1 * 2 ^ 7 := by rw [or_disjoint _ _ _ (by omega)]; omega
      rw [h1, Nat.or_assoc, Nat.or_self, or_disjoint _ _ _ (by omega)]
  rw [h]

theorem digs_last (f k : Nat) (hf : 0 < f) (hk : k < 128) : digs f k = [(k : Int)] := by
  obtain ⟨g, rfl⟩ : ∃ g, f = g + 1 := ⟨f - 1, by omega⟩
  rw [digs, if_pos hk]

theorem digs_more (f k : Nat) (hk : 128 ≤ k) (hf : k < 128 ^ f) :
    ∃ g, f = g + 1 ∧ 0 < g ∧ digs f k = ((k % 128 + 128 : Nat) : Int) :: digs g (k / 128) ∧ k / 128 < 128 ^ g := by
  obtain ⟨g, rfl⟩ : ∃ g, f = g + 1 := ⟨f - 1, by
    rcases f with _ | f
    · simp at hf; omega
    · omega⟩
  refine ⟨g, rfl, ?_, ?_, ?_⟩
  · rcases g with _ | g
    · simp at hf; omega
    · omega
  · rw [digs, if_neg (by omega)]
  · rw [Nat.pow_succ] at hf
    exact Nat.div_lt_of_lt_mul (by omega)
theorem digs_pos (f n : Nat) : 0 < (digs (f + 1) n).length := by
  unfold digs; split <;> simp
end Go.Proofs.Ytjbjomodponapaa
