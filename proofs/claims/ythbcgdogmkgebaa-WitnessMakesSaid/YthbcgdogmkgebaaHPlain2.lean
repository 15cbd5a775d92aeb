/- The heap as lists: what putting and dropping come to. Plain, with no program in sight. -/
import Derived.Test.YthbcgdogmkgebaaHPlain
namespace Go.Proofs.Ythbcgdogmkgebaa.Hp

/-- Places right, and in order. -/
def Good (N : Nat) (l : List Itm) (a : List Int) : Prop := Ok N l a ∧ HO (fun _ => False) l

theorem Rose.good {N : Nat} {l : List Itm} {r : List Itm × List Int} (h : Rose N l r) : Good N r.1 r.2 := ⟨h.ok, h.ord⟩

theorem get_lt {l : List Itm} {i : Nat} {e : Itm} (h : l[i]? = some e) : i < l.length := (List.getElem?_eq_some_iff.1 h).1

theorem Ok.num {N : Nat} {l : List Itm} {a : List Int} (h : Ok N l a) {i : Nat} {e : Itm} (he : l[i]? = some e) : ∃ p : Nat, e.1 = (p : Int) ∧ p < N ∧ a[p]? = some (i : Int) := by
  have hr := h.rng e (List.mem_of_getElem? he)
  refine ⟨e.1.toNat, by omega, by omega, h.here i e he⟩

theorem put_new_law {N : Nat} {l : List Itm} {a : List Int} (h : Good N l a) (p : Nat) (key : Int) (hp : p < N) (hno : ∀ e ∈ l, e.1 ≠ (p : Int)) :
    Rose N (l ++ [((p : Int), key)]) (riseF (l ++ [((p : Int), key)]) a l.length ((p : Int), key)) := by
  have hlen : l.length < (l ++ [((p : Int), key)]).length := by simp
  have hset : (l ++ [((p : Int), key)]).set l.length ((p : Int), key) = l ++ [((p : Int), key)] := by
    rw [List.set_append_right _ _ (Nat.le_refl _), Nat.sub_self]; rfl
  have hg : ∀ k e, (l ++ [((p : Int), key)])[k]? = some e → l[k]? = some e ∨ k = l.length ∧ e = ((p : Int), key) := by
    intro k e hk
    rcases Nat.lt_or_ge k l.length with hl | hl
    · rw [List.getElem?_append_left hl] at hk; exact .inl hk
    · rw [List.getElem?_append_right hl] at hk
      have h1 := get_lt hk
      simp only [List.length_cons, List.length_nil] at h1
      obtain rfl : k = l.length := by omega
      rw [Nat.sub_self] at hk
      exact .inr ⟨rfl, (Option.some.inj hk).symm⟩
  have key0 := rise_law l.length N (l ++ [((p : Int), key)]) a ((p : Int), key) hlen
  rw [hset] at key0
  refine key0 ?_ ?_ ?_
  · refine ⟨?_, by rw [List.length_set]; exact h.1.len, ?_, ?_⟩
    · intro e he
      rcases List.mem_append.1 he with he | he
      · exact h.1.rng e he
      · obtain rfl := List.mem_singleton.1 he; exact ⟨by simp, by simp; omega⟩
    · intro i e he
      rcases hg i e he with he | ⟨rfl, rfl⟩
      · have hr := h.1.rng e (List.mem_of_getElem? he)
        have hne := hno e (List.mem_of_getElem? he)
        rw [List.getElem?_set_ne (by simp; omega)]
        exact h.1.here i e he
      · simp [h.1.len, hp]
    · intro q hq hn
      have h1 : (p : Int) ≠ (q : Int) := hn ((p : Int), key) (by simp)
      rw [List.getElem?_set_ne (by simp; omega)]
      exact h.1.gone q hq fun e he => hn e (List.mem_append_left _ he)
  · intro k e f h0 hk he hf
    rcases hg k e he with he | ⟨rfl, _⟩
    · rcases hg _ f hf with hf | ⟨h1, _⟩
      · exact h.2 k e f h0 (fun h => h) he hf
      · have := get_lt he; omega
    · exact absurd rfl hk
  · intro k e f h0 hk0 hk he hf
    rcases hg k e he with he | ⟨h1, _⟩
    · have := get_lt he; omega
    · omega

theorem put_less_law {N : Nat} {l : List Itm} {a : List Int} (h : Good N l a) {p i : Nat} {key : Int} {e : Itm} (he : l[i]? = some e) (hp : e.1 = (p : Int)) (hk : key < e.2) :
    Rose N (l.set i ((p : Int), key)) (riseF l a i ((p : Int), key)) := by
  have hil := get_lt he
  have hr := h.1.rng e (List.mem_of_getElem? he)
  have hat := h.1.here i e he
  rw [hp] at hat hr
  simp only [Int.toNat_natCast] at hat
  have hpa : p < a.length := (List.getElem?_eq_some_iff.1 hat).1
  have hsame : a.set p (i : Int) = a := by
    apply List.ext_getElem?
    intro j
    rw [List.getElem?_set]
    split
    · rename_i hj
      subst hj
      rw [hat]
    · rfl
  have hless : lessI ((p : Int), key) e = true := (lessI_iff _ _).2 (.inl hk)
  refine rise_law i N l a ((p : Int), key) hil ?_ ?_ ?_
  · simp only [Int.toNat_natCast]
    rw [hsame]
    refine ⟨h.1.rng.set i hr, h.1.len, ?_, ?_⟩
    · intro k f hf
      rw [List.getElem?_set] at hf
      split at hf
      · rename_i hki
        subst hki
        obtain rfl : ((p : Int), key) = f := by simpa [hil] using hf
        simpa using hat
      · exact h.1.here k f hf
    · intro q hq hn
      refine h.1.gone q hq fun f hf => ?_
      obtain ⟨k, hk2⟩ := List.getElem?_of_mem hf
      by_cases hki : k = i
      · subst hki
        rw [he] at hk2
        obtain rfl := Option.some.inj hk2
        rw [hp]
        exact hn ((p : Int), key) (List.mem_of_getElem? (i := k) (by simp [hil]))
      · exact hn f (List.mem_of_getElem? (i := k) (by rw [List.getElem?_set_ne (by omega)]; exact hk2))
  · intro k f g h0 hki hf hg
    rw [List.getElem?_set_ne (by omega)] at hf
    by_cases hpi : (k - 1) / 2 = i
    · rw [hpi] at hg
      obtain rfl : ((p : Int), key) = g := by simpa [hil] using hg
      exact less_of (h.2 k f e h0 (fun h => h) hf (by rw [hpi]; exact he)) hless
    · rw [List.getElem?_set_ne (by omega)] at hg
      exact h.2 k f g h0 (fun h => h) hf hg
  · intro k f g h0 hk0 hki hf hg
    rw [List.getElem?_set_ne (by omega)] at hf hg
    exact nless_trans (h.2 k f e hk0 (fun h => h) hf (by rw [hki]; exact he)) (h.2 i e g h0 (fun h => h) he hg)

theorem dropLast_get {l : List Itm} {k : Nat} (h : k + 1 < l.length) : l.dropLast[k]? = l[k]? := by
  rw [List.dropLast_eq_take, List.getElem?_take, if_pos (by omega)]
theorem dropLast_some {l : List Itm} {k : Nat} {e : Itm} (h : l.dropLast[k]? = some e) : l[k]? = some e ∧ k + 1 < l.length := by
  have h1 := get_lt h
  rw [List.length_dropLast] at h1
  exact ⟨by rw [← dropLast_get (by omega)]; exact h, by omega⟩

theorem drop_last_law {N : Nat} {l : List Itm} {a : List Int} (h : Good N l a) {p i : Nat} {e : Itm} (he : l[i]? = some e) (hp : e.1 = (p : Int)) (hi : i + 1 = l.length) :
    Good N l.dropLast (a.set p (-1)) ∧ l.dropLast.Perm (l.eraseIdx i) := by
  have hr := h.1.rng e (List.mem_of_getElem? he)
  rw [hp] at hr
  refine ⟨⟨⟨fun f hf => h.1.rng f ((List.dropLast_sublist l).subset hf), by rw [List.length_set]; exact h.1.len, ?_, ?_⟩, ?_⟩, ?_⟩
  · intro k f hf
    obtain ⟨h1, h2⟩ := dropLast_some hf
    have hne : f.1 ≠ (p : Int) := fun hq => by
      have := h.1.at_inj h1 he (by rw [hq, hp]); omega
    have hr2 := h.1.rng f (List.mem_of_getElem? h1)
    rw [List.getElem?_set_ne (by omega)]
    exact h.1.here k f h1
  · intro q hq hn
    by_cases hqp : q = p
    · subst hqp; simp [h.1.len, hq]
    · rw [List.getElem?_set_ne (by omega)]
      refine h.1.gone q hq fun f hf => ?_
      obtain ⟨k, hk⟩ := List.getElem?_of_mem hf
      by_cases hki : k = i
      · subst hki
        rw [he] at hk
        obtain rfl := Option.some.inj hk
        rw [hp]; omega
      · have := get_lt hk
        exact hn f (List.mem_of_getElem? (i := k) (by rw [dropLast_get (by omega)]; exact hk))
  · intro k f g h0 _ hf hg
    exact h.2 k f g h0 (fun h => h) (dropLast_some hf).1 (dropLast_some hg).1
  · have : l.eraseIdx i = l.dropLast := by
      rw [List.eraseIdx_eq_take_drop_succ, List.dropLast_eq_take, show i = l.length - 1 by omega, List.drop_eq_nil_of_le (by omega), List.append_nil]
    rw [this]

theorem drop_perm : ∀ (l : List Itm) (i : Nat) (x : Itm), i + 1 < l.length → l[l.length - 1]? = some x → (l.dropLast.set i x).Perm (l.eraseIdx i)
  | [], i, x, h, _ => by simp at h
  | [y], i, x, h, _ => by simp at h
  | y :: z :: l, 0, x, _, hx => by
    rw [List.dropLast_cons_cons, List.set_cons_zero, List.eraseIdx_cons_zero]
    have hne : z :: l ≠ [] := by simp
    have hx2 : (z :: l).getLast hne = x := by
      rw [List.getLast_eq_getElem]
      have h2 : (y :: z :: l).length - 1 = ((z :: l).length - 1) + 1 := by simp
      rw [h2, List.getElem?_cons_succ] at hx
      exact (List.getElem?_eq_some_iff.1 hx).2
    conv => rhs; rw [← List.dropLast_concat_getLast hne, hx2]
    exact (List.perm_append_singleton x _).symm
  | y :: z :: l, i + 1, x, h, hx => by
    rw [List.dropLast_cons_cons, List.set_cons_succ, List.eraseIdx_cons_succ]
    refine (drop_perm (z :: l) i x (by simp at h ⊢; omega) ?_).cons y
    have h2 : (y :: z :: l).length - 1 = ((z :: l).length - 1) + 1 := by simp
    rw [h2, List.getElem?_cons_succ] at hx
    exact hx

theorem drop_in_law {N : Nat} {l : List Itm} {a : List Int} (h : Good N l a) {p i : Nat} {e x : Itm} (he : l[i]? = some e) (hp : e.1 = (p : Int)) (hi : i + 1 < l.length) (hx : l[l.length - 1]? = some x) :
    Good N (dropF l a p i x).1 (dropF l a p i x).2 ∧ (dropF l a p i x).1.Perm (l.eraseIdx i) := by
  have hr := h.1.rng e (List.mem_of_getElem? he)
  have hxr := h.1.rng x (List.mem_of_getElem? hx)
  rw [hp] at hr
  have hxe : x.1 ≠ (p : Int) := fun hq => by
    have := h.1.at_inj hx he (by rw [hq, hp]); omega
  have hxa : x.1.toNat < a.length := by rw [h.1.len]; omega
  have hil : i < l.dropLast.length := by rw [List.length_dropLast]; omega
  -- what lies where
  have hg : ∀ k f, (l.dropLast.set i x)[k]? = some f → k = i ∧ f = x ∨ k ≠ i ∧ k + 1 < l.length ∧ l[k]? = some f := by
    intro k f hf
    by_cases hki : k = i
    · subst hki
      left
      rw [List.getElem?_set, if_pos rfl, if_pos hil] at hf
      exact ⟨rfl, (Option.some.inj hf).symm⟩
    · rw [List.getElem?_set_ne (by omega)] at hf
      obtain ⟨h1, h2⟩ := dropLast_some hf
      exact .inr ⟨hki, h2, h1⟩
  have hok : Ok N (l.dropLast.set i x) ((a.set p (-1)).set x.1.toNat (i : Int)) := by
    refine ⟨Rng.set (fun f hf => h.1.rng f ((List.dropLast_sublist l).subset hf)) i hxr, by simp [h.1.len], ?_, ?_⟩
    · intro k f hf
      rcases hg k f hf with ⟨rfl, rfl⟩ | ⟨h1, h2, h3⟩
      · rw [List.getElem?_set, if_pos rfl, if_pos (by rw [List.length_set]; exact hxa)]
      · have hfr := h.1.rng f (List.mem_of_getElem? h3)
        have n1 : f.1 ≠ x.1 := fun hq => by have := h.1.at_inj h3 hx hq; omega
        have n2 : f.1 ≠ (p : Int) := fun hq => h1 (h.1.at_inj h3 he (by rw [hq, hp]))
        rw [List.getElem?_set_ne (by omega), List.getElem?_set_ne (by omega)]
        exact h.1.here k f h3
    · intro q hq hn
      have n1 : x.1 ≠ (q : Int) := hn x (List.mem_of_getElem? (i := i) (by rw [List.getElem?_set, if_pos rfl, if_pos hil]))
      rw [List.getElem?_set_ne (by omega)]
      by_cases hqp : q = p
      · subst hqp; simp [h.1.len, hq]
      · rw [List.getElem?_set_ne (by omega)]
        refine h.1.gone q hq fun f hf => ?_
        obtain ⟨k, hk⟩ := List.getElem?_of_mem hf
        by_cases hki : k = i
        · subst hki
          rw [he] at hk
          obtain rfl := Option.some.inj hk
          rw [hp]; omega
        · have hkl := get_lt hk
          by_cases hkL : k = l.length - 1
          · subst hkL
            rw [hx] at hk
            obtain rfl := Option.some.inj hk
            exact n1
          · exact hn f (List.mem_of_getElem? (i := k) (by rw [List.getElem?_set_ne (by omega), dropLast_get (by omega)]; exact hk))
  have ho : HO (fun k => k = i ∨ 0 < k ∧ (k - 1) / 2 = i) (l.dropLast.set i x) := by
    intro k f g h0 hk hf hg2
    rcases hg k f hf with ⟨h1, _⟩ | ⟨h1, h2, h3⟩
    · exact absurd (.inl h1) hk
    · rcases hg _ g hg2 with ⟨h4, _⟩ | ⟨h4, h5, h6⟩
      · exact absurd (.inr ⟨h0, h4⟩) hk
      · exact h.2 k f g h0 (fun h => h) h3 h6
  have hu : HU (l.dropLast.set i x) i := by
    intro k f g h0 hk0 hki hf hg2
    rcases hg k f hf with ⟨h1, _⟩ | ⟨h1, h2, h3⟩
    · omega
    · rcases hg _ g hg2 with ⟨h4, _⟩ | ⟨h4, h5, h6⟩
      · omega
      · exact nless_trans (h.2 k f e hk0 (fun h => h) h3 (by rw [hki]; exact he)) (h.2 i e g h0 (fun h => h) he h6)
  have hpm := drop_perm l i x hi hx
  unfold dropF
  rcases sink_law hil hok ho hu with ⟨h1, h2⟩ | ⟨h1, k, hk, h2⟩
  · rw [h1, if_pos (by show ((a.set p (-1)).set x.1.toNat (i : Int))[x.1.toNat]? = _; rw [List.getElem?_set, if_pos rfl, if_pos (by rw [List.length_set]; exact hxa)])]
    have hss : (l.dropLast.set i x).set i x = l.dropLast.set i x := by rw [List.set_set]
    have haa : ((a.set p (-1)).set x.1.toNat (i : Int)).set x.1.toNat (i : Int) = (a.set p (-1)).set x.1.toNat (i : Int) := by rw [List.set_set]
    have r := rise_law i N (l.dropLast.set i x) ((a.set p (-1)).set x.1.toNat (i : Int)) x (by rw [List.length_set]; exact hil) (by rw [hss, haa]; exact hok) (by rw [hss]; exact h2) (by rw [hss]; exact hu)
    rw [hss] at r
    exact ⟨r.good, r.perm.trans hpm⟩
  · rw [if_neg (fun h => by rw [h2] at h; simp only [Option.some.injEq] at h; omega)]
    exact ⟨h1.good, h1.perm.trans hpm⟩

/-- The first one is the least. -/
theorem top_law {l : List Itm} (h : HO (fun _ => False) l) {e : Itm} (he : l[0]? = some e) : ∀ (k : Nat) (f : Itm), l[k]? = some f → ¬ lessI f e = true := by
  intro k
  induction k using Nat.strongRecOn with
  | _ k ih =>
    intro f hf
    by_cases hk : k = 0
    · subst hk
      rw [he] at hf
      obtain rfl := Option.some.inj hf
      exact less_irrefl _
    · have hkl := get_lt hf
      obtain ⟨g, hg⟩ : ∃ g, l[(k - 1) / 2]? = some g := ⟨_, List.getElem?_eq_getElem (by omega)⟩
      exact nless_trans (h k f g (by omega) (fun h => h) hf hg) (ih ((k - 1) / 2) (by omega) g hg)

/-- What the places become when all are dropped. -/
def clrF (a : List Int) (l : List Itm) : List Int := l.foldl (fun a e => a.set e.1.toNat (-1)) a
theorem clrF_length (l : List Itm) : ∀ a, (clrF a l).length = a.length := by
  induction l with
  | nil => intro a; rfl
  | cons e l ih => intro a; show (clrF (a.set e.1.toNat (-1)) l).length = _; rw [ih, List.length_set]
theorem clrF_snoc (a : List Int) (l : List Itm) (e : Itm) : clrF a (l ++ [e]) = (clrF a l).set e.1.toNat (-1) := by simp [clrF]
theorem clrF_get (l : List Itm) : ∀ (a : List Int) (p : Nat), (clrF a l)[p]? = if p < a.length ∧ ∃ e ∈ l, e.1.toNat = p then some (-1) else a[p]? := by
  induction l with
  | nil => intro a p; simp [clrF]
  | cons e l ih =>
    intro a p
    show (clrF (a.set e.1.toNat (-1)) l)[p]? = _
    rw [ih, List.length_set]
    by_cases hp : p < a.length
    · by_cases h1 : ∃ f ∈ l, f.1.toNat = p
      · rw [if_pos ⟨hp, h1⟩, if_pos ⟨hp, by obtain ⟨f, hf, h⟩ := h1; exact ⟨f, List.mem_cons_of_mem _ hf, h⟩⟩]
      · rw [if_neg (fun h => h1 h.2)]
        by_cases h2 : e.1.toNat = p
        · rw [if_pos ⟨hp, e, by simp, h2⟩]; subst h2; simp [hp]
        · rw [if_neg, List.getElem?_set_ne h2]
          rintro ⟨_, f, hf, h⟩
          rcases List.mem_cons.1 hf with rfl | hf
          · exact h2 h
          · exact h1 ⟨f, hf, h⟩
    · rw [if_neg (fun h => hp h.1), if_neg (fun h => hp h.1), List.getElem?_eq_none (by rw [List.length_set]; omega), List.getElem?_eq_none (by omega)]
theorem clr_law {N : Nat} {l : List Itm} {a : List Int} (h : Good N l a) : Good N [] (clrF a l) := by
  refine ⟨⟨fun e he => by simp at he, by rw [clrF_length]; exact h.1.len, fun i e he => by simp at he, fun p hp _ => ?_⟩, fun k e f _ _ hk => by simp at hk⟩
  rw [clrF_get]
  by_cases h1 : ∃ e ∈ l, e.1.toNat = p
  · rw [if_pos ⟨by rw [h.1.len]; exact hp, h1⟩]
  · rw [if_neg (fun h => h1 h.2)]
    refine h.1.gone p hp fun e he hq => h1 ⟨e, he, by omega⟩
theorem Good.nil {N : Nat} {a : List Int} (hl : a.length = N) (h : ∀ p : Nat, p < N → a[p]? = some (-1)) : Good N [] a :=
  ⟨⟨fun e he => by simp at he, hl, fun i e he => by simp at he, fun p hp _ => h p hp⟩, fun k e f _ _ hk => by simp at hk⟩

/-! ### How many there may be -/
theorem nodup_below : ∀ (n : Nat) (l : List Nat), l.Nodup → (∀ x ∈ l, x < n) → l.length ≤ n
  | 0, l, _, h => by
    cases l with
    | nil => simp
    | cons x l => exact absurd (h x (by simp)) (by omega)
  | n + 1, l, hd, h => by
    by_cases hn : n ∈ l
    · have h1 := nodup_below n (l.erase n) (hd.erase n) (fun x hx => by
        have hx2 := (hd.mem_erase_iff).1 hx
        have := h x hx2.2
        omega)
      rw [List.length_erase_of_mem hn] at h1
      omega
    · have := nodup_below n l hd (fun x hx => by
        have h1 := h x hx
        have h2 : x ≠ n := fun e => hn (e ▸ hx)
        omega)
      omega
theorem Ok.nums {N : Nat} {l : List Itm} {a : List Int} (h : Ok N l a) : (l.map (fun e => e.1.toNat)).Nodup := by
  rw [List.nodup_iff_pairwise_ne, List.pairwise_iff_getElem]
  intro i j hi hj hij he
  rw [List.length_map] at hi hj
  rw [List.getElem_map, List.getElem_map] at he
  have r1 := h.rng _ (List.getElem_mem hi)
  have r2 := h.rng _ (List.getElem_mem hj)
  have := h.at_inj (List.getElem?_eq_getElem hi) (List.getElem?_eq_getElem hj) (by omega)
  omega
theorem Ok.few {N : Nat} {l : List Itm} {a : List Int} (h : Ok N l a) : l.length ≤ N := by
  have := nodup_below N _ h.nums (fun x hx => by
    obtain ⟨e, he, rfl⟩ := List.mem_map.1 hx
    have := h.rng e he
    omega)
  rwa [List.length_map] at this
theorem Ok.fewer {N : Nat} {l : List Itm} {a : List Int} (h : Ok N l a) {p : Nat} (hp : p < N) (hno : ∀ e ∈ l, e.1 ≠ (p : Int)) : l.length < N := by
  have := nodup_below N (p :: l.map (fun e => e.1.toNat)) (List.nodup_cons.2 ⟨fun hx => by
    obtain ⟨e, he, h1⟩ := List.mem_map.1 hx
    have h2 := h.rng e he
    exact hno e he (by omega), h.nums⟩) (fun x hx => by
    rcases List.mem_cons.1 hx with rfl | hx
    · exact hp
    · obtain ⟨e, he, rfl⟩ := List.mem_map.1 hx
      have := h.rng e he
      omega)
  rw [List.length_cons, List.length_map] at this
  omega
end Go.Proofs.Ythbcgdogmkgebaa.Hp
