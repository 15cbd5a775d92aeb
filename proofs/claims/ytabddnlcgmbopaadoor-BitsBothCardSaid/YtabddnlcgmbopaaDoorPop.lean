/- How many ones a word has: the sums of fields, plain. -/
namespace Go.Proofs.YtabddnlcgmbopaaDoor

/-- How many of the first k bits are ones. -/
def pop : Nat → Nat → Nat
  | 0, _ => 0
  | k + 1, x => x % 2 + pop k (x / 2)
def num : List Nat → Nat
  | [] => 0
  | b :: l => b + 256 * num l
def mk (d : Nat) : Nat → Nat
  | 0 => 0
  | k + 1 => d + 256 * mk d k

theorem and_num (c a d m : Nat) (hc : c < 256) (hd : d < 256) : (c + 256 * a) &&& (d + 256 * m) = (c &&& d) + 256 * (a &&& m) := by
  have h1 := Nat.mod_add_div ((c + 256 * a) &&& (d + 256 * m)) 256
  have h2 : ((c + 256 * a) &&& (d + 256 * m)) % 256 = c &&& d := by
    have := Nat.and_mod_two_pow (a := c + 256 * a) (b := d + 256 * m) (n := 8)
    rw [show (2 : Nat) ^ 8 = 256 from rfl, show (c + 256 * a) % 256 = c by omega, show (d + 256 * m) % 256 = d by omega] at this
    exact this
  have h3 : ((c + 256 * a) &&& (d + 256 * m)) / 256 = a &&& m := by
    have := Nat.and_div_two_pow (a := c + 256 * a) (b := d + 256 * m) (n := 8)
    rw [show (2 : Nat) ^ 8 = 256 from rfl, show (c + 256 * a) / 256 = a by omega, show (d + 256 * m) / 256 = m by omega] at this
    exact this
  omega

def f1 (b : Nat) : Nat := (b / 2 &&& 85) + (b &&& 85)
def f2 (b : Nat) : Nat := (b / 4 &&& 51) + (b &&& 51)
def f3 (b : Nat) : Nat := (b / 16 + b) &&& 15
set_option maxRecDepth 100000 in
theorem fin1 : ∀ b, b < 256 → ∀ r, r < 2 → (b / 2 + 128 * r) &&& 85 = b / 2 &&& 85 := by decide +kernel
set_option maxRecDepth 100000 in
theorem fin2 : ∀ b, b < 256 → ∀ r, r < 4 → (b / 4 + 64 * r) &&& 51 = b / 4 &&& 51 := by decide +kernel
set_option maxRecDepth 100000 in
theorem fin3 : ∀ b, b < 256 → f1 b < 256 ∧ f2 (f1 b) < 256 ∧ f2 (f1 b) % 16 ≤ 4 ∧ f2 (f1 b) / 16 ≤ 4 ∧ f3 (f2 (f1 b)) = pop 8 b := by decide +kernel
theorem step1 : ∀ l : List Nat, (∀ b ∈ l, b < 256) → (num l / 2 &&& mk 85 l.length) + (num l &&& mk 85 l.length) = num (l.map f1)
  | [], _ => rfl
  | b :: l, h => by
    have hb := h b (by simp)
    have ih := step1 l (fun c hc => h c (by simp [hc]))
    simp only [num, List.length_cons, mk, List.map_cons]
    rw [show (b + 256 * num l) / 2 = (b / 2 + 128 * (num l % 2)) + 256 * (num l / 2) by omega, and_num _ _ _ _ (by omega) (by omega), and_num _ _ _ _ hb (by omega), fin1 b hb _ (by omega), ← ih]
    unfold f1
    omega
theorem step2 : ∀ l : List Nat, (∀ b ∈ l, b < 256) → (num l / 4 &&& mk 51 l.length) + (num l &&& mk 51 l.length) = num (l.map f2)
  | [], _ => rfl
  | b :: l, h => by
    have hb := h b (by simp)
    have ih := step2 l (fun c hc => h c (by simp [hc]))
    simp only [num, List.length_cons, mk, List.map_cons]
    rw [show (b + 256 * num l) / 4 = (b / 4 + 64 * (num l % 4)) + 256 * (num l / 4) by omega, and_num _ _ _ _ (by omega) (by omega), and_num _ _ _ _ hb (by omega), fin2 b hb _ (by omega), ← ih]
    unfold f2
    omega
theorem head_low (l : List Nat) (h : ∀ b ∈ l, b < 256 ∧ b % 16 ≤ 4 ∧ b / 16 ≤ 4) : num l % 16 ≤ 4 := by
  cases l with
  | nil => simp [num]
  | cons b l => have := h b (by simp); simp only [num]; omega
set_option maxRecDepth 100000 in
theorem fin4 : ∀ b, b < 256 → ∀ r, r < 5 → b / 16 ≤ 4 → b % 16 ≤ 4 → (b / 16 + b + 16 * r) &&& 15 = f3 b := by decide +kernel
theorem step3 : ∀ l : List Nat, (∀ b ∈ l, b < 256 ∧ b % 16 ≤ 4 ∧ b / 16 ≤ 4) → (num l / 16 + num l) &&& mk 15 l.length = num (l.map f3)
  | [], _ => rfl
  | b :: l, h => by
    obtain ⟨hb, h1, h2⟩ := h b (by simp)
    have ih := step3 l (fun c hc => h c (by simp [hc]))
    have hl := head_low l (fun c hc => h c (by simp [hc]))
    simp only [num, List.length_cons, mk, List.map_cons]
    rw [show (b + 256 * num l) / 16 + (b + 256 * num l) = (b / 16 + b + 16 * (num l % 16)) + 256 * (num l / 16 + num l) by omega, and_num _ _ _ _ (by omega) (by omega), fin4 b hb _ (by omega) h2 h1, ih]
theorem pop_le : ∀ (k x : Nat), pop k x ≤ k
  | 0, _ => Nat.le_refl _
  | k + 1, x => by have := pop_le k (x / 2); simp only [pop]; omega
theorem pop_split : ∀ (k j b a : Nat), b < 2 ^ k → pop (k + j) (b + 2 ^ k * a) = pop k b + pop j a
  | 0, j, b, a, h => by
    obtain rfl : b = 0 := by simpa using h
    simp [pop]
  | k + 1, j, b, a, h => by
    have e : (b + 2 ^ (k + 1) * a) / 2 = b / 2 + 2 ^ k * a := by
      rw [Nat.pow_succ, show b + 2 ^ k * 2 * a = b + 2 * (2 ^ k * a) by rw [Nat.mul_assoc, Nat.mul_left_comm]]
      omega
    have e2 : (b + 2 ^ (k + 1) * a) % 2 = b % 2 := by
      rw [Nat.pow_succ, show b + 2 ^ k * 2 * a = b + 2 * (2 ^ k * a) by rw [Nat.mul_assoc, Nat.mul_left_comm]]
      omega
    rw [show k + 1 + j = (k + j) + 1 by omega]
    simp only [pop]
    rw [e, e2, pop_split k j (b / 2) a (by rw [Nat.pow_succ] at h; omega)]
    omega
/-- The bytes of a word. -/
def bytes8 (x : Nat) : List Nat := [x % 256, x / 256 % 256, x / 65536 % 256, x / 16777216 % 256, x / 4294967296 % 256, x / 1099511627776 % 256, x / 281474976710656 % 256, x / 72057594037927936 % 256]
theorem num_bytes8 (x : Nat) (h : x < 18446744073709551616) : num (bytes8 x) = x := by
  simp only [bytes8, num]
  omega
theorem bytes8_lt (x : Nat) : ∀ b ∈ bytes8 x, b < 256 := by
  intro b hb
  simp only [bytes8, List.mem_cons, List.not_mem_nil, or_false] at hb
  omega
theorem pop_bytes (c0 c1 c2 c3 c4 c5 c6 c7 : Nat) (h0 : c0 < 256) (h1 : c1 < 256) (h2 : c2 < 256) (h3 : c3 < 256) (h4 : c4 < 256) (h5 : c5 < 256) (h6 : c6 < 256) (h7 : c7 < 256) :
    pop 64 (num [c0, c1, c2, c3, c4, c5, c6, c7]) = pop 8 c0 + (pop 8 c1 + (pop 8 c2 + (pop 8 c3 + (pop 8 c4 + (pop 8 c5 + (pop 8 c6 + pop 8 c7)))))) := by
  simp only [num]
  have e := fun (j b a : Nat) (hb : b < 256) => pop_split 8 j b a hb
  simp only [show (2 : Nat) ^ 8 = 256 from rfl] at e
  rw [show 64 = 8 + 56 from rfl, e 56 _ _ h0, show 56 = 8 + 48 from rfl, e 48 _ _ h1, show 48 = 8 + 40 from rfl, e 40 _ _ h2, show 40 = 8 + 32 from rfl, e 32 _ _ h3, show 32 = 8 + 24 from rfl, e 24 _ _ h4, show 24 = 8 + 16 from rfl, e 16 _ _ h5, show 16 = 8 + 8 from rfl, e 8 _ _ h6, Nat.mul_zero, Nat.add_zero]
/-- The last sums. -/
theorem step4 (c0 c1 c2 c3 c4 c5 c6 c7 : Nat) (h0 : c0 ≤ 8) (h1 : c1 ≤ 8) (h2 : c2 ≤ 8) (h3 : c3 ≤ 8) (h4 : c4 ≤ 8) (h5 : c5 ≤ 8) (h6 : c6 ≤ 8) (h7 : c7 ≤ 8) (z a b c : Nat) (hz : z = num [c0, c1, c2, c3, c4, c5, c6, c7])
    (ha : a = z + z / 256) (hb : b = a + a / 65536) (hc : c = b + b / 4294967296) : c % 128 = c0 + (c1 + (c2 + (c3 + (c4 + (c5 + (c6 + c7)))))) ∧ a < 18446744073709551616 ∧ b < 18446744073709551616 ∧ c < 18446744073709551616 ∧ z < 18446744073709551616 := by
  simp only [num, Nat.mul_zero, Nat.add_zero] at hz
  have z1 : z < 18446744073709551616 := by clear ha hb hc; omega
  have e1 : z / 256 = c1 + 256 * (c2 + 256 * (c3 + 256 * (c4 + 256 * (c5 + 256 * (c6 + 256 * c7))))) := by
    clear ha hb hc z1
    obtain ⟨y, hy⟩ : ∃ y, c1 + 256 * (c2 + 256 * (c3 + 256 * (c4 + 256 * (c5 + 256 * (c6 + 256 * c7))))) = y := ⟨_, rfl⟩
    rw [hy] at hz
    rw [show z / 256 = y by omega, ← hy]
  have e2 : a = (c0 + c1) + 256 * ((c1 + c2) + 256 * ((c2 + c3) + 256 * ((c3 + c4) + 256 * ((c4 + c5) + 256 * ((c5 + c6) + 256 * ((c6 + c7) + 256 * c7)))))) := by
    rw [ha, e1, hz]; clear ha hb hc hz e1 z1 h0 h1 h2 h3 h4 h5 h6 h7; omega
  have a1 : a < 18446744073709551616 := by clear ha hb hc hz e1 z1; omega
  have e3 : a / 65536 = (c2 + c3) + 256 * ((c3 + c4) + 256 * ((c4 + c5) + 256 * ((c5 + c6) + 256 * ((c6 + c7) + 256 * c7)))) := by
    clear ha hb hc hz e1 z1 a1
    obtain ⟨y, hy⟩ : ∃ y, (c2 + c3) + 256 * ((c3 + c4) + 256 * ((c4 + c5) + 256 * ((c5 + c6) + 256 * ((c6 + c7) + 256 * c7)))) = y := ⟨_, rfl⟩
    rw [hy] at e2 ⊢
    clear hy
    omega
  have e4 : b = (c0 + c1 + c2 + c3) + 256 * ((c1 + c2 + c3 + c4) + 256 * ((c2 + c3 + c4 + c5) + 256 * ((c3 + c4 + c5 + c6) + 256 * ((c4 + c5 + c6 + c7) + 256 * ((c5 + c6 + c7) + 256 * ((c6 + c7) + 256 * c7)))))) := by
    rw [hb, e3, e2]; clear ha hb hc hz e1 z1 a1 e2 e3 h0 h1 h2 h3 h4 h5 h6 h7; omega
  have b1 : b < 18446744073709551616 := by clear ha hb hc hz e1 z1 a1 e2 e3; omega
  have e5 : b / 4294967296 = (c4 + c5 + c6 + c7) + 256 * ((c5 + c6 + c7) + 256 * ((c6 + c7) + 256 * c7)) := by
    clear ha hb hc hz e1 z1 a1 e2 e3 b1
    obtain ⟨y, hy⟩ : ∃ y, (c4 + c5 + c6 + c7) + 256 * ((c5 + c6 + c7) + 256 * ((c6 + c7) + 256 * c7)) = y := ⟨_, rfl⟩
    rw [hy] at e4 ⊢
    clear hy
    omega
  have c1' : c < 18446744073709551616 := by rw [hc, e5, e4]; clear ha hb hc hz e1 z1 a1 e2 e3 b1 e4 e5; omega
  refine ⟨?_, a1, b1, c1', z1⟩
  have e6 : ∃ y, c = (c0 + (c1 + (c2 + (c3 + (c4 + (c5 + (c6 + c7))))))) + 256 * y := by
    refine ⟨(c1 + c2 + c3 + c4 + c5 + c6 + c7) + 256 * ((c2 + c3 + c4 + c5 + c6 + c7) + 256 * ((c3 + c4 + c5 + c6 + c7) + 256 * ((c4 + c5 + c6 + c7) + 256 * ((c5 + c6 + c7) + 256 * ((c6 + c7) + 256 * c7))))), ?_⟩
    rw [hc, e5, e4]; clear ha hb hc hz e1 z1 a1 e2 e3 b1 e4 e5 h0 h1 h2 h3 h4 h5 h6 h7; omega
  obtain ⟨y, hy⟩ := e6
  clear ha hb hc hz e1 z1 a1 e2 e3 b1 e4 e5 c1'
  omega
end Go.Proofs.YtabddnlcgmbopaaDoor
