/- The heap as lists: what rising and sinking come to. Plain, with no program in sight. -/
namespace Go.Proofs.Ythbcgdogmkgebaa.Hp

/-- A number and its key. -/
abbrev Itm := Int × Int
def lessI (p q : Itm) : Bool := decide (p.2 < q.2 ∨ p.2 = q.2 ∧ p.1 < q.1)
/-- An item laid at a place. -/
def layF (l : List Itm) (a : List Int) (i : Nat) (x : Itm) : List Itm × List Int := (l.set i x, a.set x.1.toNat (i : Int))
def riseF (l : List Itm) (a : List Int) (i : Nat) (x : Itm) : List Itm × List Int :=
  if h : 0 < i then
    if lessI x (l.getD ((i - 1) / 2) (0, 0)) = true then riseF (layF l a i (l.getD ((i - 1) / 2) (0, 0))).1 (layF l a i (l.getD ((i - 1) / 2) (0, 0))).2 ((i - 1) / 2) x
    else layF l a i x
  else layF l a i x
termination_by i
decreasing_by omega
/-- All numbers are below N. -/
def Rng (N : Nat) (l : List Itm) : Prop := ∀ e ∈ l, 0 ≤ e.1 ∧ e.1 < (N : Int)
theorem Rng.set {N : Nat} {l : List Itm} (h : Rng N l) (i : Nat) {e : Itm} (he : 0 ≤ e.1 ∧ e.1 < (N : Int)) : Rng N (l.set i e) := by
  intro x hx
  rcases List.mem_or_eq_of_mem_set hx with hx | rfl
  · exact h x hx
  · exact he
/-- The place of the lesser of both below i. -/
def lowF (l : List Itm) (i : Nat) : Nat := if 2 * i + 2 < l.length ∧ lessI (l.getD (2 * i + 2) (0, 0)) (l.getD (2 * i + 1) (0, 0)) = true then 2 * i + 2 else 2 * i + 1
theorem lowF_lt (l : List Itm) (i : Nat) : i < lowF l i := by unfold lowF; split <;> omega
def sinkF (l : List Itm) (a : List Int) (i : Nat) (x : Itm) : List Itm × List Int :=
  if h : lowF l i < l.length ∧ lessI (l.getD (lowF l i) (0, 0)) x = true then sinkF (layF l a i (l.getD (lowF l i) (0, 0))).1 (layF l a i (l.getD (lowF l i) (0, 0))).2 (lowF l i) x
  else layF l a i x
termination_by l.length - i
decreasing_by
  have := lowF_lt l i
  simp only [layF, List.length_set]
  omega

/-! ### What is less -/
theorem lessI_iff (p q : Itm) : lessI p q = true ↔ p.2 < q.2 ∨ p.2 = q.2 ∧ p.1 < q.1 := by simp [lessI]
theorem less_asymm {p q : Itm} (h : lessI p q = true) : ¬ lessI q p = true := by rw [lessI_iff] at *; omega
theorem less_irrefl (p : Itm) : ¬ lessI p p = true := by rw [lessI_iff]; omega
theorem less_trans {p q r : Itm} (h : lessI p q = true) (k : lessI q r = true) : lessI p r = true := by rw [lessI_iff] at *; omega
theorem nless_trans {p q r : Itm} (h : ¬ lessI p q = true) (k : ¬ lessI q r = true) : ¬ lessI p r = true := by rw [lessI_iff] at *; omega
theorem less_of {p q r : Itm} (h : ¬ lessI p q = true) (k : lessI r q = true) : ¬ lessI p r = true := by rw [lessI_iff] at *; omega
theorem less_total {p q : Itm} (h : ¬ lessI p q = true) (k : ¬ lessI q p = true) : p = q := by
  rw [lessI_iff] at *
  obtain ⟨a, b⟩ := p
  obtain ⟨c, d⟩ := q
  simp only [Prod.mk.injEq] at *
  omega

/-! ### Places -/
/-- The numbers are below N, and a says where each is. -/
structure Ok (N : Nat) (l : List Itm) (a : List Int) : Prop where
  rng : Rng N l
  len : a.length = N
  here : ∀ (i : Nat) (e : Itm), l[i]? = some e → a[e.1.toNat]? = some (i : Int)
  gone : ∀ p : Nat, p < N → (∀ e ∈ l, e.1 ≠ (p : Int)) → a[p]? = some (-1)

theorem Ok.at_inj {N : Nat} {l : List Itm} {a : List Int} (h : Ok N l a) {i j : Nat} {e f : Itm} (hi : l[i]? = some e) (hj : l[j]? = some f) (hv : e.1 = f.1) : i = j := by
  have h1 := h.here i e hi
  have h2 := h.here j f hj
  rw [hv, h2] at h1
  simp only [Option.some.injEq] at h1
  omega

theorem mem_set_iff {l : List Itm} {i : Nat} {y : Itm} (hi : i < l.length) (z : Itm) : z ∈ l.set i y ↔ z = y ∨ ∃ k, k ≠ i ∧ l[k]? = some z := by
  constructor
  · intro h
    obtain ⟨k, hk⟩ := List.getElem?_of_mem h
    rw [List.getElem?_set] at hk
    split at hk
    · rename_i hik; subst hik; simp [hi] at hk; exact .inl hk.symm
    · rename_i hne; exact .inr ⟨k, fun e => hne e.symm, hk⟩
  · rintro (rfl | ⟨k, hne, hk⟩)
    · exact List.mem_of_getElem? (i := i) (by simp [hi])
    · exact List.mem_of_getElem? (i := k) (by rw [List.getElem?_set_ne (by omega)]; exact hk)

/-- Two items change places. -/
theorem Ok.swap {N : Nat} {l : List Itm} {a : List Int} (h : Ok N l a) {i j : Nat} {x y : Itm} (hij : i ≠ j) (hi : l[i]? = some x) (hj : l[j]? = some y) :
    Ok N ((l.set i y).set j x) ((a.set y.1.toNat (i : Int)).set x.1.toNat (j : Int)) := by
  have hxv := h.rng x (List.mem_of_getElem? hi)
  have hyv := h.rng y (List.mem_of_getElem? hj)
  have hil : i < l.length := (List.getElem?_eq_some_iff.1 hi).1
  have hjl : j < l.length := (List.getElem?_eq_some_iff.1 hj).1
  have hne : x.1 ≠ y.1 := fun e => hij (h.at_inj hi hj e)
  refine ⟨(h.rng.set i hyv).set j hxv, by simp [h.len], ?_, ?_⟩
  · intro k e hk
    rw [List.getElem?_set] at hk
    split at hk
    · rename_i hjk
      subst hjk
      rw [if_pos (by simpa using hjl)] at hk
      obtain rfl : x = e := by simpa using hk
      rw [List.getElem?_set, if_pos rfl, if_pos (by rw [List.length_set, h.len]; omega)]
    · rename_i hjk
      rw [List.getElem?_set] at hk
      split at hk
      · rename_i hik
        subst hik
        obtain rfl : y = e := by simpa [hil] using hk
        rw [List.getElem?_set_ne (by omega), List.getElem?_set, if_pos rfl, if_pos (by rw [h.len]; omega)]
      · rename_i hik
        have hev := h.rng e (List.mem_of_getElem? hk)
        have h1 : e.1 ≠ x.1 := fun q => hik (h.at_inj hk hi q).symm
        have h2 : e.1 ≠ y.1 := fun q => hjk (h.at_inj hk hj q).symm
        rw [List.getElem?_set_ne (by omega), List.getElem?_set_ne (by omega)]
        exact h.here k e hk
  · intro p hp hno
    have h1 : x.1 ≠ (p : Int) := hno x (List.mem_of_getElem? (i := j) (by simp [hjl]))
    have h2 : y.1 ≠ (p : Int) := hno y (List.mem_of_getElem? (i := i) (by rw [List.getElem?_set_ne (by omega)]; simp [hil]))
    rw [List.getElem?_set_ne (by omega), List.getElem?_set_ne (by omega)]
    refine h.gone p hp fun e he => ?_
    obtain ⟨k, hk⟩ := List.getElem?_of_mem he
    by_cases hki : k = i
    · subst hki; rw [hi] at hk; obtain rfl := Option.some.inj hk; exact h1
    · by_cases hkj : k = j
      · subst hkj; rw [hj] at hk; obtain rfl := Option.some.inj hk; exact h2
      · exact hno e (List.mem_of_getElem? (i := k) (by rw [List.getElem?_set_ne (by omega), List.getElem?_set_ne (by omega)]; exact hk))

theorem swap_perm : ∀ {l : List Itm} {i j : Nat} {x y : Itm}, i ≠ j → l[i]? = some x → l[j]? = some y → ((l.set i y).set j x).Perm l
  | [], i, j, x, y, _, h, _ => by simp at h
  | z :: l, 0, 0, x, y, h, _, _ => absurd rfl h
  | z :: l, 0, j + 1, x, y, _, hi, hj => by
    simp only [List.getElem?_cons_zero, Option.some.injEq] at hi
    subst hi
    rw [List.getElem?_cons_succ] at hj
    simp only [List.set_cons_zero, List.set_cons_succ]
    exact swap_head l j z y hj
  | z :: l, i + 1, 0, x, y, _, hi, hj => by
    simp only [List.getElem?_cons_zero, Option.some.injEq] at hj
    subst hj
    rw [List.getElem?_cons_succ] at hi
    simp only [List.set_cons_zero, List.set_cons_succ]
    exact swap_head l i z x hi
  | z :: l, i + 1, j + 1, x, y, h, hi, hj => by
    rw [List.getElem?_cons_succ] at hi hj
    simp only [List.set_cons_succ]
    exact (swap_perm (by omega) hi hj).cons z
where
  swap_head : ∀ (l : List Itm) (j : Nat) (z y : Itm), l[j]? = some y → (y :: l.set j z).Perm (z :: l)
  | [], j, z, y, h => by simp at h
  | u :: l, 0, z, y, h => by
    simp only [List.getElem?_cons_zero, Option.some.injEq] at h
    subst h
    simp only [List.set_cons_zero]
    exact List.Perm.swap z u l
  | u :: l, j + 1, z, y, h => by
    rw [List.getElem?_cons_succ] at h
    simp only [List.set_cons_succ]
    exact (List.Perm.swap u y _).trans (((swap_head l j z y h).cons u).trans (List.Perm.swap z u l))

/-- All that is below something is not less; but for the pairs that R excepts. -/
def HO (R : Nat → Prop) (l : List Itm) : Prop := ∀ (k : Nat) (e f : Itm), 0 < k → ¬ R k → l[k]? = some e → l[(k - 1) / 2]? = some f → ¬ lessI e f = true
/-- The children of i are not less than what is over i. -/
def HU (l : List Itm) (i : Nat) : Prop := ∀ (k : Nat) (e f : Itm), 0 < i → 0 < k → (k - 1) / 2 = i → l[k]? = some e → l[(i - 1) / 2]? = some f → ¬ lessI e f = true

theorem HO.mono {R S : Nat → Prop} {l : List Itm} (h : HO R l) (hRS : ∀ k, R k → S k) : HO S l := fun k e f h0 hn => h k e f h0 fun hR => hn (hRS k hR)

theorem get_swap {l : List Itm} {i j : Nat} {x y : Itm} (hij : i ≠ j) (hi : l[i]? = some x) (hj : l[j]? = some y) (k : Nat) :
    ((l.set i y).set j x)[k]? = if k = j then some x else if k = i then some y else l[k]? := by
  have hil : i < l.length := (List.getElem?_eq_some_iff.1 hi).1
  have hjl : j < l.length := (List.getElem?_eq_some_iff.1 hj).1
  by_cases h1 : k = j
  · subst h1; simp [hjl]
  · rw [if_neg h1, List.getElem?_set_ne (by omega)]
    by_cases h2 : k = i
    · subst h2; simp [hil]
    · rw [if_neg h2, List.getElem?_set_ne (by omega)]

/-- What comes of rising. -/
structure Rose (N : Nat) (l : List Itm) (r : List Itm × List Int) : Prop where
  ok : Ok N r.1 r.2
  perm : r.1.Perm l
  ord : HO (fun _ => False) r.1

theorem getD_of {l : List Itm} {i : Nat} {e : Itm} (h : l[i]? = some e) : l.getD i (0, 0) = e := by rw [List.getD_eq_getElem?_getD, h]; rfl

theorem rise_law : ∀ (i : Nat) (N : Nat) (l : List Itm) (a : List Int) (x : Itm), i < l.length → Ok N (l.set i x) (a.set x.1.toNat (i : Int)) → HO (· = i) (l.set i x) → HU (l.set i x) i → Rose N (l.set i x) (riseF l a i x) := by
  intro i
  induction i using Nat.strongRecOn with
  | _ i ih =>
    intro N l a x hil hok ho hu
    rw [riseF]
    have stay : ¬ (0 < i ∧ lessI x (l.getD ((i - 1) / 2) (0, 0)) = true) → Rose N (l.set i x) (layF l a i x) := by
      intro hno
      refine ⟨hok, List.Perm.refl _, ?_⟩
      intro k e f h0 _ hk hf
      replace hk : (l.set i x)[k]? = some e := hk
      replace hf : (l.set i x)[(k - 1) / 2]? = some f := hf
      by_cases hki : k = i
      · subst hki
        rw [List.getElem?_set, if_pos rfl, if_pos hil] at hk
        obtain rfl := Option.some.inj hk
        rw [List.getElem?_set_ne (by omega)] at hf
        intro hl
        exact hno ⟨h0, by rw [getD_of hf]; exact hl⟩
      · exact ho k e f h0 hki hk hf
    by_cases hi0 : 0 < i
    · rw [dif_pos hi0]
      obtain ⟨p, hp⟩ : ∃ p, (i - 1) / 2 = p := ⟨_, rfl⟩
      have hpi : p < i := by omega
      obtain ⟨y, hy⟩ : ∃ y, l[p]? = some y := ⟨_, List.getElem?_eq_getElem (by omega)⟩
      rw [hp, getD_of hy]
      by_cases hl : lessI x y = true
      · rw [if_pos hl]
        -- the two change places
        have hLi : (l.set i x)[i]? = some x := by simp [hil]
        have hLp : (l.set i x)[p]? = some y := by rw [List.getElem?_set_ne (by omega)]; exact hy
        have hsw := hok.swap (i := i) (j := p) (by omega) hLi hLp
        have hpm := swap_perm (by omega : i ≠ p) hLi hLp
        have hg := get_swap (by omega : i ≠ p) hLi hLp
        have hyv : x.1 ≠ y.1 := fun e => by have := hok.at_inj hLi hLp e; omega
        have hxr := hok.rng x (List.mem_of_getElem? hLi)
        have hyr := hok.rng y (List.mem_of_getElem? hLp)
        have e1 : ((l.set i x).set i y).set p x = (l.set i y).set p x := by rw [List.set_set]
        have e2 : ((a.set x.1.toNat (i : Int)).set y.1.toNat (i : Int)).set x.1.toNat (p : Int) = (a.set y.1.toNat (i : Int)).set x.1.toNat (p : Int) := by
          rw [List.set_comm _ _ (by omega), List.set_set, List.set_comm _ _ (by omega)]
        rw [e1, e2] at hsw
        rw [e1] at hpm hg
        have key := ih p hpi N (l.set i y) (a.set y.1.toNat (i : Int)) x (by rw [List.length_set]; omega) hsw ?_ ?_
        · exact ⟨key.ok, key.perm.trans hpm, key.ord⟩
        · intro k e f h0 hkp hk hf
          rw [hg] at hk hf
          by_cases hki : k = i
          · subst hki
            rw [if_neg hkp, if_pos rfl] at hk
            rw [hp, if_pos rfl] at hf
            obtain rfl := Option.some.inj hk
            obtain rfl := Option.some.inj hf
            exact less_asymm hl
          · rw [if_neg hkp, if_neg hki] at hk
            by_cases hkq : (k - 1) / 2 = p
            · rw [if_pos hkq] at hf
              obtain rfl := Option.some.inj hf
              exact less_of (ho k e y h0 hki hk (by rw [hkq]; exact hLp)) hl
            · rw [if_neg hkq] at hf
              by_cases hkr : (k - 1) / 2 = i
              · rw [if_pos hkr] at hf
                obtain rfl := Option.some.inj hf
                exact hu k e y hi0 h0 hkr hk (by rw [hp]; exact hLp)
              · rw [if_neg hkr] at hf
                exact ho k e f h0 hki hk hf
        · intro k e f h0 hk0 hkp hk hf
          rw [hg] at hk hf
          rw [if_neg (by omega), if_neg (by omega)] at hf
          have hyf := ho p y f h0 (by omega) hLp hf
          by_cases hki : k = i
          · subst hki
            rw [if_neg (by omega), if_pos rfl] at hk
            obtain rfl := Option.some.inj hk
            exact hyf
          · rw [if_neg (by omega), if_neg hki] at hk
            exact nless_trans (ho k e y hk0 hki hk (by rw [hkp]; exact hLp)) hyf
      · rw [if_neg hl]
        exact stay fun h => hl (by have := h.2; rw [hp, getD_of hy] at this; exact this)
    · rw [dif_neg hi0]
      exact stay fun h => hi0 h.1

/-- The lesser of both below i. -/
theorem lowF_spec {l : List Itm} {i : Nat} {y : Itm} (h : l[lowF l i]? = some y) : (lowF l i - 1) / 2 = i ∧ ∀ k e, 0 < k → (k - 1) / 2 = i → l[k]? = some e → ¬ lessI e y = true := by
  have hlen := (List.getElem?_eq_some_iff.1 h).1
  unfold lowF at h hlen ⊢
  by_cases hc : 2 * i + 2 < l.length ∧ lessI (l.getD (2 * i + 2) (0, 0)) (l.getD (2 * i + 1) (0, 0)) = true
  · rw [if_pos hc] at h hlen ⊢
    refine ⟨by omega, fun k e hk0 hk he => ?_⟩
    rw [getD_of h] at hc
    rcases (show k = 2 * i + 1 ∨ k = 2 * i + 2 by omega) with rfl | rfl
    · rw [getD_of he] at hc
      exact less_asymm hc.2
    · rw [h] at he
      obtain rfl := Option.some.inj he
      exact less_irrefl _
  · rw [if_neg hc] at h hlen ⊢
    refine ⟨by omega, fun k e hk0 hk he => ?_⟩
    rcases (show k = 2 * i + 1 ∨ k = 2 * i + 2 by omega) with rfl | rfl
    · rw [h] at he
      obtain rfl := Option.some.inj he
      exact less_irrefl _
    · intro hl
      exact hc ⟨(List.getElem?_eq_some_iff.1 he).1, by rw [getD_of he, getD_of h]; exact hl⟩
theorem lowF_none {l : List Itm} {i : Nat} (h : ¬ lowF l i < l.length) (k : Nat) (hk : 0 < k) (hi : (k - 1) / 2 = i) : ¬ k < l.length := by
  unfold lowF at h
  split at h <;> omega
theorem lowF_set (l : List Itm) (i : Nat) (x : Itm) : lowF (l.set i x) i = lowF l i := by
  unfold lowF
  rw [List.length_set, List.getD_eq_getElem?_getD, List.getD_eq_getElem?_getD, List.getElem?_set_ne (by omega), List.getElem?_set_ne (by omega), ← List.getD_eq_getElem?_getD, ← List.getD_eq_getElem?_getD]

/-- One step down. -/
theorem sink_step {N : Nat} {l : List Itm} {a : List Int} {i : Nat} {x : Itm} (hil : i < l.length) (hok : Ok N (l.set i x) (a.set x.1.toNat (i : Int)))
    (ho : HO (fun k => k = i ∨ 0 < k ∧ (k - 1) / 2 = i) (l.set i x)) (hu : HU (l.set i x) i) {y : Itm} (hy : l[lowF l i]? = some y) (hl : lessI y x = true) :
    Ok N ((l.set i y).set (lowF l i) x) ((a.set y.1.toNat (i : Int)).set x.1.toNat (lowF l i : Int)) ∧ ((l.set i y).set (lowF l i) x).Perm (l.set i x)
      ∧ HO (fun k => 0 < k ∧ (k - 1) / 2 = lowF l i) ((l.set i y).set (lowF l i) x) ∧ HU ((l.set i y).set (lowF l i) x) (lowF l i) := by
  have hlt := lowF_lt l i
  have hys : (l.set i x)[lowF (l.set i x) i]? = some y := by rw [lowF_set, List.getElem?_set_ne (by omega)]; exact hy
  obtain ⟨hpar, hmin⟩ := lowF_spec hys
  rw [lowF_set] at hpar
  obtain ⟨p, hp⟩ : ∃ p, lowF l i = p := ⟨_, rfl⟩
  rw [hp] at hpar hy hlt ⊢
  have hLi : (l.set i x)[i]? = some x := by simp [hil]
  have hLp : (l.set i x)[p]? = some y := by rw [List.getElem?_set_ne (by omega)]; exact hy
  have hsw := hok.swap (i := i) (j := p) (by omega) hLi hLp
  have hpm := swap_perm (by omega : i ≠ p) hLi hLp
  have hg := get_swap (by omega : i ≠ p) hLi hLp
  have hyv : x.1 ≠ y.1 := fun e => by have := hok.at_inj hLi hLp e; omega
  have hxr := hok.rng x (List.mem_of_getElem? hLi)
  have hyr := hok.rng y (List.mem_of_getElem? hLp)
  have e1 : ((l.set i x).set i y).set p x = (l.set i y).set p x := by rw [List.set_set]
  have e2 : ((a.set x.1.toNat (i : Int)).set y.1.toNat (i : Int)).set x.1.toNat (p : Int) = (a.set y.1.toNat (i : Int)).set x.1.toNat (p : Int) := by
    rw [List.set_comm _ _ (by omega), List.set_set, List.set_comm _ _ (by omega)]
  rw [e1, e2] at hsw
  rw [e1] at hpm hg
  refine ⟨hsw, hpm, ?_, ?_⟩
  · intro k e f h0 hkp hk hf
    rw [hg] at hk hf
    rw [if_neg (fun e => hkp ⟨h0, e⟩)] at hf
    by_cases hkq : k = p
    · subst hkq
      rw [if_pos rfl] at hk
      rw [hpar, if_pos rfl] at hf
      obtain rfl := Option.some.inj hk
      obtain rfl := Option.some.inj hf
      exact less_asymm hl
    · rw [if_neg hkq] at hk
      by_cases hki : k = i
      · subst hki
        rw [if_pos rfl] at hk
        rw [if_neg (by omega)] at hf
        obtain rfl := Option.some.inj hk
        exact hu p y f h0 (by omega) hpar hLp hf
      · rw [if_neg hki] at hk
        by_cases hkr : (k - 1) / 2 = i
        · rw [if_pos hkr] at hf
          obtain rfl := Option.some.inj hf
          exact hmin k e h0 hkr hk
        · rw [if_neg hkr] at hf
          exact ho k e f h0 (fun h => h.elim hki fun h => hkr h.2) hk hf
  · intro k e f h0 hk0 hkp hk hf
    rw [hg] at hk hf
    rw [hpar, if_neg (by omega), if_pos rfl] at hf
    obtain rfl := Option.some.inj hf
    rw [if_neg (by omega), if_neg (by omega)] at hk
    exact ho k e y hk0 (fun h => by rcases h with h | ⟨_, h⟩ <;> omega) hk (by rw [hkp]; exact hLp)

theorem sinkF_step {l : List Itm} {a : List Int} {i : Nat} {x y : Itm} (hy : l[lowF l i]? = some y) (hl : lessI y x = true) : sinkF l a i x = sinkF (l.set i y) (a.set y.1.toNat (i : Int)) (lowF l i) x := by
  rw [sinkF, dif_pos ⟨(List.getElem?_eq_some_iff.1 hy).1, by rw [getD_of hy]; exact hl⟩, getD_of hy]
  rfl
theorem sinkF_stay {l : List Itm} {a : List Int} {i : Nat} {x : Itm} (h : ∀ y, l[lowF l i]? = some y → ¬ lessI y x = true) : sinkF l a i x = layF l a i x := by
  rw [sinkF, dif_neg]
  rintro ⟨h1, h2⟩
  exact h _ (List.getElem?_eq_getElem h1) (by rw [List.getD_eq_getElem?_getD, List.getElem?_eq_getElem h1] at h2; exact h2)

/-- Below i nothing is less, where x stays. -/
theorem sink_stays {l : List Itm} {i : Nat} {x : Itm} {R : Nat → Prop} (hil : i < l.length) (h : ∀ y, l[lowF l i]? = some y → ¬ lessI y x = true) (ho : HO (fun k => R k ∨ 0 < k ∧ (k - 1) / 2 = i) (l.set i x)) : HO R (l.set i x) := by
  intro k e f h0 hR hk hf
  by_cases hki : (k - 1) / 2 = i
  · rw [hki] at hf
    rw [List.getElem?_set, if_pos rfl, if_pos hil] at hf
    obtain rfl := Option.some.inj hf
    rw [List.getElem?_set_ne (by omega)] at hk
    rcases Nat.lt_or_ge (lowF l i) l.length with hlt | hge
    · obtain ⟨y, hy⟩ : ∃ y, l[lowF l i]? = some y := ⟨_, List.getElem?_eq_getElem hlt⟩
      exact nless_trans ((lowF_spec hy).2 k e h0 hki hk) (h y hy)
    · exact absurd (List.getElem?_eq_some_iff.1 hk).1 (lowF_none (Nat.not_lt.2 hge) k h0 hki)
  · exact ho k e f h0 (fun h => h.elim hR fun h => hki h.2) hk hf

theorem sink_all : ∀ (d i : Nat) (N : Nat) (l : List Itm) (a : List Int) (x : Itm), l.length - i = d → i < l.length → Ok N (l.set i x) (a.set x.1.toNat (i : Int)) → HO (fun k => 0 < k ∧ (k - 1) / 2 = i) (l.set i x) → HU (l.set i x) i →
    Rose N (l.set i x) (sinkF l a i x) ∧ ∃ k, i ≤ k ∧ (sinkF l a i x).2[x.1.toNat]? = some (k : Int) := by
  intro d
  induction d using Nat.strongRecOn with
  | _ d ih =>
    intro i N l a x hd hil hok ho hu
    have hxr := hok.rng x (List.mem_of_getElem? (i := i) (by simp [hil]))
    have hal : x.1.toNat < a.length := by have := hok.len; rw [List.length_set] at this; omega
    by_cases hs : ∃ y, l[lowF l i]? = some y ∧ lessI y x = true
    · obtain ⟨y, hy, hl⟩ := hs
      obtain ⟨s1, s2, s3, s4⟩ := sink_step hil hok (ho.mono fun k h => .inr h) hu hy hl
      rw [sinkF_step hy hl]
      have hlt := lowF_lt l i
      have hlen := (List.getElem?_eq_some_iff.1 hy).1
      obtain ⟨r, k, hk, hk2⟩ := ih ((l.set i y).length - lowF l i) (by rw [List.length_set]; omega) (lowF l i) N (l.set i y) (a.set y.1.toNat (i : Int)) x rfl (by rw [List.length_set]; exact hlen) s1 s3 s4
      exact ⟨⟨r.ok, r.perm.trans s2, r.ord⟩, k, by omega, hk2⟩
    · have hno : ∀ y, l[lowF l i]? = some y → ¬ lessI y x = true := fun y hy hl => hs ⟨y, hy, hl⟩
      rw [sinkF_stay hno]
      exact ⟨⟨hok, List.Perm.refl _, sink_stays hil hno (ho.mono fun k h => .inr h)⟩, i, Nat.le_refl _, by simp [layF, hal]⟩

/-- What comes of sinking: it stays, and then may rise; or all is in order. -/
theorem sink_law {N : Nat} {l : List Itm} {a : List Int} {i : Nat} {x : Itm} (hil : i < l.length) (hok : Ok N (l.set i x) (a.set x.1.toNat (i : Int)))
    (ho : HO (fun k => k = i ∨ 0 < k ∧ (k - 1) / 2 = i) (l.set i x)) (hu : HU (l.set i x) i) :
    (sinkF l a i x = layF l a i x ∧ HO (· = i) (l.set i x)) ∨ (Rose N (l.set i x) (sinkF l a i x) ∧ ∃ k, i < k ∧ (sinkF l a i x).2[x.1.toNat]? = some (k : Int)) := by
  by_cases hs : ∃ y, l[lowF l i]? = some y ∧ lessI y x = true
  · obtain ⟨y, hy, hl⟩ := hs
    obtain ⟨s1, s2, s3, s4⟩ := sink_step hil hok ho hu hy hl
    right
    rw [sinkF_step hy hl]
    have hlt := lowF_lt l i
    have hlen := (List.getElem?_eq_some_iff.1 hy).1
    obtain ⟨r, k, hk, hk2⟩ := sink_all _ (lowF l i) N (l.set i y) (a.set y.1.toNat (i : Int)) x rfl (by rw [List.length_set]; exact hlen) s1 s3 s4
    exact ⟨⟨r.ok, r.perm.trans s2, r.ord⟩, k, by omega, hk2⟩
  · have hno : ∀ y, l[lowF l i]? = some y → ¬ lessI y x = true := fun y hy hl => hs ⟨y, hy, hl⟩
    exact .inl ⟨sinkF_stay hno, sink_stays hil hno ho⟩

theorem low_two {l : List Itm} {k u u1 : Nat} {e1 e2 : Itm} {b : Bool} (hu : 2 * k + 1 = u) (hu1 : u + 1 = u1) (h1 : l[u]? = some e1) (h2 : l[u1]? = some e2) (hb : lessI e2 e1 = b) : lowF l k = if b = true then u1 else u := by
  subst hu hu1
  have h3 := (List.getElem?_eq_some_iff.1 h2).1
  unfold lowF
  rw [getD_of h1, getD_of h2, hb]
  cases b
  · simp
  · rw [if_pos ⟨h3, rfl⟩, if_pos rfl]
theorem low_one {l : List Itm} {k u : Nat} (hu : 2 * k + 1 = u) (h : ¬ u + 1 < l.length) : lowF l k = u := by
  subst hu
  unfold lowF
  rw [if_neg (fun h1 => h h1.1)]
theorem sink_end {l : List Itm} {a : List Int} {k j : Nat} {x : Itm} (hl : lowF l k = j) (h : l.length ≤ j) : sinkF l a k x = layF l a k x :=
  sinkF_stay fun y hy => by
    rw [hl] at hy
    exact absurd (List.getElem?_eq_some_iff.1 hy).1 (by omega)
theorem sink_no {l : List Itm} {a : List Int} {k j : Nat} {x y : Itm} (hl : lowF l k = j) (hy : l[j]? = some y) (hb : lessI y x = false) : sinkF l a k x = layF l a k x :=
  sinkF_stay fun z hz => by
    rw [hl, hy] at hz
    obtain rfl := Option.some.inj hz
    simp [hb]
theorem sink_yes {l : List Itm} {a : List Int} {k j : Nat} {x y : Itm} (hl : lowF l k = j) (hy : l[j]? = some y) (hb : lessI y x = true) : sinkF l a k x = sinkF (l.set k y) (a.set y.1.toNat (k : Int)) j x := by
  subst hl
  exact sinkF_step hy hb

theorem sinkF_keeps (N : Nat) : ∀ (d i : Nat) (l : List Itm) (a : List Int) (x : Itm), l.length - i = d → Rng N l → (0 ≤ x.1 ∧ x.1 < (N : Int)) → (sinkF l a i x).1.length = l.length ∧ (sinkF l a i x).2.length = a.length ∧ Rng N (sinkF l a i x).1 := by
  intro d
  induction d using Nat.strongRecOn with
  | _ d ih =>
    intro i l a x hd hR hx
    by_cases hs : ∃ y, l[lowF l i]? = some y ∧ lessI y x = true
    · obtain ⟨y, hy, hl⟩ := hs
      have hlt := lowF_lt l i
      have hlen := (List.getElem?_eq_some_iff.1 hy).1
      rw [sinkF_step hy hl]
      obtain ⟨h1, h2, h3⟩ := ih ((l.set i y).length - lowF l i) (by rw [List.length_set]; omega) (lowF l i) (l.set i y) (a.set y.1.toNat (i : Int)) x rfl (hR.set i (hR y (List.mem_of_getElem? hy))) hx
      exact ⟨by rw [h1, List.length_set], by rw [h2, List.length_set], h3⟩
    · rw [sinkF_stay fun y hy hl => hs ⟨y, hy, hl⟩]
      exact ⟨by simp [layF], by simp [layF], hR.set i hx⟩
/-- What comes of dropping number p, which lies at i ahead of the last item x. -/
def dropF (l : List Itm) (a : List Int) (p i : Nat) (x : Itm) : List Itm × List Int :=
  if (sinkF l.dropLast (a.set p (-1)) i x).2[x.1.toNat]? = some (i : Int) then riseF (sinkF l.dropLast (a.set p (-1)) i x).1 (sinkF l.dropLast (a.set p (-1)) i x).2 i x else sinkF l.dropLast (a.set p (-1)) i x
end Go.Proofs.Ythbcgdogmkgebaa.Hp
