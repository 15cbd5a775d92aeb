/- Arcs merged: plain. -/
import Derived.Test.YthbcgdogmkgebaaSortP
namespace Go.Proofs.Ythbcgdogmkgebaa

/-- The first of each run of arcs to one node. -/
def Kp (f : Row) : Nat → List Ar
  | 0 => []
  | n + 1 => if n = 0 ∨ (f n).1 ≠ (f (n - 1)).1 then Kp f n ++ [f n] else Kp f n
theorem Kp_mem (f : Row) (x : Ar) : ∀ n, x ∈ Kp f n ↔ ∃ i, i < n ∧ (i = 0 ∨ (f i).1 ≠ (f (i - 1)).1) ∧ f i = x
  | 0 => ⟨(fun h => by simp [Kp] at h), fun ⟨i, h, _⟩ => by omega⟩
  | n + 1 => by
    have ih := Kp_mem f x n
    unfold Kp
    by_cases h : n = 0 ∨ (f n).1 ≠ (f (n - 1)).1
    · rw [if_pos h, List.mem_append, ih]
      constructor
      · rintro (⟨i, h1, h2⟩ | h1)
        · exact ⟨i, by omega, h2⟩
        · exact ⟨n, by omega, h, (List.mem_singleton.1 h1).symm⟩
      · rintro ⟨i, h1, h2, h3⟩
        by_cases hi : i = n
        · subst hi; exact .inr (List.mem_singleton.2 h3.symm)
        · exact .inl ⟨i, by omega, h2, h3⟩
    · rw [if_neg h, ih]
      constructor
      · rintro ⟨i, h1, h2⟩
        exact ⟨i, by omega, h2⟩
      · rintro ⟨i, h1, h2, h3⟩
        by_cases hi : i = n
        · subst hi; exact absurd h2 h
        · exact ⟨i, by omega, h2, h3⟩
def SI (l : List Ar) : Prop := l.Pairwise fun x y => x.1 < y.1
theorem Kp_si (f : Row) : ∀ n, Srt f 0 n → SI (Kp f n)
  | 0, _ => List.Pairwise.nil
  | n + 1, h => by
    have ih := Kp_si f n (h.less (Nat.le_refl _) (by omega))
    unfold Kp
    by_cases h' : n = 0 ∨ (f n).1 ≠ (f (n - 1)).1
    · rw [if_pos h']
      refine List.pairwise_append.2 ⟨ih, List.pairwise_singleton _ _, fun x hx y hy => ?_⟩
      obtain rfl := List.mem_singleton.1 hy
      obtain ⟨i, h1, _, h3⟩ := (Kp_mem f x n).1 hx
      subst h3
      have e1 := h.le (Nat.zero_le i) (show i ≤ n - 1 by omega) (by omega)
      have e2 := h.le (Nat.zero_le (n - 1)) (show n - 1 ≤ n by omega) (by omega)
      have h4 : (f n).1 ≠ (f (n - 1)).1 := by
        rcases h' with h' | h'
        · omega
        · exact h'
      unfold leA at e1 e2
      omega
    · rw [if_neg h']; exact ih
theorem first_of (f : Row) : ∀ i, ∃ j, j ≤ i ∧ (f j).1 = (f i).1 ∧ (j = 0 ∨ (f j).1 ≠ (f (j - 1)).1)
  | 0 => ⟨0, Nat.le_refl _, rfl, .inl rfl⟩
  | i + 1 => by
    by_cases h : (f (i + 1)).1 = (f i).1
    · obtain ⟨j, h1, h2, h3⟩ := first_of f i
      exact ⟨j, by omega, h2.trans h.symm, h3⟩
    · exact ⟨i + 1, Nat.le_refl _, rfl, .inr h⟩
theorem Kp_best (f : Row) (n : Nat) (h : Srt f 0 n) (x : Ar) : x ∈ Kp f n ↔ (∃ i, i < n ∧ f i = x) ∧ ∀ j, j < n → (f j).1 = x.1 → x.2 ≤ (f j).2 := by
  rw [Kp_mem]
  constructor
  · rintro ⟨i, h1, h2, rfl⟩
    refine ⟨⟨i, h1, rfl⟩, fun j hj he => ?_⟩
    by_cases hji : j < i
    · have e1 := h.le (Nat.zero_le j) (show j ≤ i - 1 by omega) (by omega)
      have e2 := h.le (Nat.zero_le (i - 1)) (show i - 1 ≤ i by omega) h1
      unfold leA at e1 e2
      rcases h2 with h2 | h2
      · omega
      · omega
    · have e1 := h.le (Nat.zero_le i) (show i ≤ j by omega) hj
      unfold leA at e1
      omega
  · rintro ⟨⟨i, h1, rfl⟩, h2⟩
    obtain ⟨j, j1, j2, j3⟩ := first_of f i
    have e1 := h.le (Nat.zero_le j) j1 h1
    have e2 := h2 j (by omega) j2
    unfold leA at e1
    exact ⟨j, by omega, j3, Prod.ext j2 (by omega)⟩
theorem si_ext : ∀ (a b : List Ar), SI a → SI b → (∀ x, x ∈ a ↔ x ∈ b) → a = b
  | [], [], _, _, _ => rfl
  | [], y :: b, _, _, h => absurd ((h y).2 (by simp)) (by simp)
  | x :: a, [], _, _, h => absurd ((h x).1 (by simp)) (by simp)
  | x :: a, y :: b, ha, hb, h => by
    obtain ⟨h1, h2⟩ := List.pairwise_cons.1 ha
    obtain ⟨h3, h4⟩ := List.pairwise_cons.1 hb
    have e : x = y := by
      rcases List.mem_cons.1 ((h x).1 (by simp)) with e | e
      · exact e
      · rcases List.mem_cons.1 ((h y).2 (by simp)) with e' | e'
        · exact e'.symm
        · have := h3 x e
          have := h1 y e'
          omega
    subst e
    rw [si_ext a b h2 h4 fun z => ?_]
    constructor
    · intro hz
      rcases List.mem_cons.1 ((h z).1 (List.mem_cons_of_mem _ hz)) with e | e
      · subst e; have := h1 z hz; omega
      · exact e
    · intro hz
      rcases List.mem_cons.1 ((h z).2 (List.mem_cons_of_mem _ hz)) with e | e
      · subst e; have := h3 z hz; omega
      · exact e

/-! ### By definition -/
/-- Is the arc at place i the one that stays? -/
def bestI (l : List Ar) (i : Nat) (x : Ar) : Prop := ∀ j y, l[j]? = some y → y.1 = x.1 → ¬ (y.2 < x.2 ∨ (y.2 = x.2 ∧ j < i))
/-- What is kept of the first n. -/
structure Kept2 (l : List Ar) (n : Nat) (out : List Ar) : Prop where
  si : SI out
  mem : ∀ x, x ∈ out ↔ ∃ i, i < n ∧ l[i]? = some x ∧ bestI l i x
theorem Kept2.start (l : List Ar) : Kept2 l 0 [] := ⟨List.Pairwise.nil, fun x => ⟨(fun h => by simp at h), fun ⟨i, h, _⟩ => by omega⟩⟩
theorem Kept2.no {l : List Ar} {n : Nat} {out : List Ar} {e : Ar} (h : Kept2 l n out) (he : l[n]? = some e) (hn : ¬ bestI l n e) : Kept2 l (n + 1) out := by
  refine ⟨h.si, fun x => (h.mem x).trans ⟨fun ⟨i, h1, h2⟩ => ⟨i, by omega, h2⟩, fun ⟨i, h1, h2, h3⟩ => ?_⟩⟩
  by_cases hi : i = n
  · subst hi
    obtain rfl := Option.some.inj (he.symm.trans h2)
    exact absurd h3 hn
  · exact ⟨i, by omega, h2, h3⟩
theorem Kept2.yes {l : List Ar} {n k : Nat} {out : List Ar} {e : Ar} (h : Kept2 l n out) (he : l[n]? = some e) (hb : bestI l n e) (lo : ∀ x ∈ out.take k, x.1 < e.1) (up : ∀ x, out[k]? = some x → e.1 ≤ x.1) : Kept2 l (n + 1) (out.take k ++ e :: out.drop k) := by
  have ne : ∀ x ∈ out, x.1 ≠ e.1 := fun x hx hxe => by
    obtain ⟨i, h1, h2, h3⟩ := (h.mem x).1 hx
    have a := hb i x h2 hxe
    have b := h3 n e he hxe.symm
    omega
  have si2 : SI (out.take k ++ out.drop k) := by rw [List.take_append_drop]; exact h.si
  obtain ⟨s1, s2, s3⟩ := List.pairwise_append.1 si2
  have up2 : ∀ x ∈ out.drop k, e.1 < x.1 := fun x hx => by
    have hne := ne x (List.mem_of_mem_drop hx)
    cases hd : out.drop k with
    | nil => rw [hd] at hx; simp at hx
    | cons y t =>
      have hy : out[k]? = some y := by
        have := congrArg (·[0]?) hd
        simpa using this
      have hy1 := up y hy
      rw [hd] at hx s2
      rcases List.mem_cons.1 hx with rfl | hx
      · omega
      · have := (List.pairwise_cons.1 s2).1 x hx
        omega
  refine ⟨List.pairwise_append.2 ⟨s1, List.pairwise_cons.2 ⟨up2, s2⟩, fun x hx y hy => ?_⟩, fun x => ?_⟩
  · rcases List.mem_cons.1 hy with rfl | hy
    · exact lo x hx
    · exact s3 x hx y hy
  · have m0 : x ∈ out ↔ x ∈ out.take k ∨ x ∈ out.drop k := by
      conv => lhs; rw [← List.take_append_drop k out]
      exact List.mem_append
    have m1 : x ∈ out.take k ++ e :: out.drop k ↔ x ∈ out ∨ x = e := by
      rw [m0, List.mem_append, List.mem_cons]
      constructor
      · rintro (q | q | q)
        · exact .inl (.inl q)
        · exact .inr q
        · exact .inl (.inr q)
      · rintro ((q | q) | q)
        · exact .inl q
        · exact .inr (.inr q)
        · exact .inr (.inl q)
    rw [m1, h.mem]
    constructor
    · rintro (⟨i, h1, h2⟩ | rfl)
      · exact ⟨i, by omega, h2⟩
      · exact ⟨n, by omega, he, hb⟩
    · rintro ⟨i, h1, h2, h3⟩
      by_cases hi : i = n
      · subst hi
        exact .inr (Option.some.inj (h2.symm.trans he))
      · exact .inl ⟨i, by omega, h2, h3⟩
theorem least_place (l : List Ar) (x : Ar) (i : Nat) (hi : l[i]? = some x) : ∃ j, j ≤ i ∧ l[j]? = some x ∧ ∀ k, k < j → l[k]? ≠ some x := by
  induction i using Nat.strongRecOn with
  | ind i ih =>
    by_cases h : ∃ k, k < i ∧ l[k]? = some x
    · obtain ⟨k, h1, h2⟩ := h
      obtain ⟨j, j1, j2, j3⟩ := ih k h1 h2
      exact ⟨j, by omega, j2, j3⟩
    · exact ⟨i, Nat.le_refl _, hi, fun k hk he => h ⟨k, hk, he⟩⟩
/-- What is merged is what is merged by definition. -/
theorem merged_same {l out : List Ar} {f g : Row} {n : Nat} (hn : l.length = n) (hl : ∀ i, i < n → l[i]? = some (f i)) (hs : Stp f g 0 n) (ho : Srt g 0 n) (hk : Kept2 l n out) : Kp g n = out := by
  refine si_ext _ _ (Kp_si g n ho) hk.si fun x => ?_
  rw [Kp_best g n ho, hk.mem]
  constructor
  · rintro ⟨⟨i, h1, rfl⟩, h2⟩
    obtain ⟨j, _, j2, e⟩ := hs.fwd i (Nat.zero_le _) h1
    have hj := hl j j2
    rw [← e] at hj
    obtain ⟨k, k1, k2, k3⟩ := least_place l _ j hj
    refine ⟨k, by omega, k2, fun p y hp hy hlt => ?_⟩
    have hpn : p < n := by rw [← hn]; exact (List.getElem?_eq_some_iff.1 hp).1
    have hyp := hl p hpn
    rw [hp] at hyp
    obtain ⟨q, _, q2, e'⟩ := hs.bwd p (Nat.zero_le _) hpn
    have h3 := h2 q q2 (by rw [← e', ← Option.some.inj hyp]; exact hy)
    rw [← e', ← Option.some.inj hyp] at h3
    rcases hlt with hlt | ⟨hw, hpk⟩
    · omega
    · exact k3 p hpk (by rw [hp]; exact congrArg some (Prod.ext hy hw))
  · rintro ⟨i, h1, h2, h3⟩
    have hi := hl i h1
    rw [h2] at hi
    obtain ⟨j, _, j2, e⟩ := hs.bwd i (Nat.zero_le _) h1
    refine ⟨⟨j, j2, by rw [← e]; exact (Option.some.inj hi).symm⟩, fun k hk he => ?_⟩
    obtain ⟨q, _, q2, e'⟩ := hs.fwd k (Nat.zero_le _) hk
    have := h3 q (f q) (hl q q2) (by rw [← e']; exact he)
    rw [e']
    omega
end Go.Proofs.Ythbcgdogmkgebaa
