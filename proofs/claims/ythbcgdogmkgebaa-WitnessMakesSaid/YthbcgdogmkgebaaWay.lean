/- Ways of a net, and what a search that settles the nearest nodes first knows of them: plain. -/
namespace Go.Proofs.Ythbcgdogmkgebaa

abbrev Arcs := Int → List (Int × Int)
/-- A way of k arcs from s to u, x long, over nodes that are not gone. -/
inductive Reach (arcs : Arcs) (gone : Int → Bool) (s : Int) : Nat → Int → Int → Prop
  | start : Reach arcs gone s 0 s 0
  | arc {k : Nat} {v x u c : Int} : Reach arcs gone s k v x → (u, c) ∈ arcs v → gone u = false → Reach arcs gone s (k + 1) u (x + c)

/-- A net that may be. -/
structure NetOk (N : Nat) (arcs : Arcs) : Prop where
  arc : ∀ v u c, (u, c) ∈ arcs v → 0 ≤ u ∧ u < (N : Int) ∧ 1 ≤ c ∧ c ≤ 1125899906842624

theorem Reach.bd {N : Nat} {arcs : Arcs} {gone : Int → Bool} {s : Int} (ok : NetOk N arcs) {k : Nat} {u x : Int} (h : Reach arcs gone s k u x) : 0 ≤ x ∧ x ≤ (k : Int) * 1125899906842624 := by
  induction h with
  | start => omega
  | arc h1 h2 h3 ih =>
    have := (ok.arc _ _ _ h2).2.2
    omega
theorem Reach.node {N : Nat} {arcs : Arcs} {gone : Int → Bool} {s : Int} (ok : NetOk N arcs) (hs : 0 ≤ s ∧ s < (N : Int)) {k : Nat} {u x : Int} (h : Reach arcs gone s k u x) : 0 ≤ u ∧ u < (N : Int) := by
  cases h with
  | start => exact hs
  | arc h1 h2 h3 => have := ok.arc _ _ _ h2; omega

/-- What is known when those of P are settled, and the arcs of the last one, v, have been looked at as far as 'seen' says. -/
structure Know (N : Nat) (arcs : Arcs) (gone : Int → Bool) (s t : Int) (great : Bool) (P : List Int) (seen : Int → List (Int × Int)) (far : Int → Option Int) (steps : Int → Int) (l : List (Int × Int)) : Prop where
  nodup : P.Nodup
  inN : ∀ p ∈ P, 0 ≤ p ∧ p < (N : Int)
  start : far s = some 0
  label : ∀ u x, far u = some x → ∃ k : Nat, steps u = (k : Int) ∧ k ≤ P.length ∧ Reach arcs gone s k u x
  keys : ∀ u x, (u, x) ∈ l ↔ far u = some x ∧ u ∉ P
  done : ∀ p ∈ P, ∃ x, far p = some x ∧ ∀ e ∈ l, x ≤ e.2
  relaxed : great = true → ∀ p ∈ P, ∀ x, far p = some x → ∀ u c, (u, c) ∈ seen p → gone u = false → ∃ y, far u = some y ∧ y ≤ x + c
  target : t ∉ P

section
variable {N : Nat} {arcs : Arcs} {gone : Int → Bool} {s t : Int} {great : Bool} {P : List Int} {far : Int → Option Int} {steps : Int → Int} {l : List (Int × Int)}

/-- Those settled are fewer than the nodes. -/
theorem few_int : ∀ (n : Nat) (P : List Int), P.Nodup → (∀ p ∈ P, 0 ≤ p ∧ p < (n : Int)) → P.length ≤ n
  | 0, P, _, h => by
    cases P with
    | nil => simp
    | cons p P => have := h p (by simp); omega
  | n + 1, P, hn, h => by
    have h1 := few_int n (P.erase (n : Int)) (hn.erase _) (fun p hp => by
      have h2 := h p (List.mem_of_mem_erase hp)
      have h3 : p ≠ (n : Int) := fun e => by
        rw [e] at hp
        exact (List.Nodup.not_mem_erase hn) hp
      omega)
    have h2 : P.length ≤ (P.erase (n : Int)).length + 1 := by
      by_cases hm : (n : Int) ∈ P
      · rw [List.length_erase_of_mem hm]; omega
      · rw [List.erase_of_not_mem hm]; omega
    omega
theorem Know.few (h : Know N arcs gone s t great P arcs far steps l) (ht : 0 ≤ t ∧ t < (N : Int)) : P.length < N := by
  have := few_int N (t :: P) (List.nodup_cons.2 ⟨h.target, h.nodup⟩) (fun p hp => by
    rcases List.mem_cons.1 hp with rfl | hp
    · exact ht
    · exact h.inN p hp)
  simp at this
  omega
/-- Where nothing waits below d, no way to a node that is not settled is shorter than d. -/
theorem Know.cut (h : Know N arcs gone s t true P arcs far steps l) (d : Int) (hd : ∀ e ∈ l, d ≤ e.2) (hpos : ∀ v u c, (u, c) ∈ arcs v → 1 ≤ c) {k : Nat} {u x : Int} (hr : Reach arcs gone s k u x) : (u ∈ P ∧ ∃ y, far u = some y ∧ y ≤ x) ∨ d ≤ x := by
  induction hr with
  | start =>
    by_cases hs : s ∈ P
    · exact .inl ⟨hs, 0, h.start, by omega⟩
    · exact .inr (hd (s, 0) ((h.keys s 0).2 ⟨h.start, hs⟩))
  | @arc k v x u c h1 h2 h3 ih =>
    have hc := hpos _ _ _ h2
    rcases ih with ⟨hv, y, hy, hyx⟩ | ih
    · obtain ⟨z, hz, hzy⟩ := h.relaxed rfl v hv y hy u c h2 h3
      by_cases hu : u ∈ P
      · exact .inl ⟨hu, z, hz, by omega⟩
      · have := hd (u, z) ((h.keys u z).2 ⟨hz, hu⟩)
        simp only at this
        exact .inr (by omega)
    · exact .inr (by omega)
theorem Know.lower (h : Know N arcs gone s t true P arcs far steps l) (d : Int) (hd : ∀ e ∈ l, d ≤ e.2) (hpos : ∀ v u c, (u, c) ∈ arcs v → 1 ≤ c) {k : Nat} {x : Int} (hr : Reach arcs gone s k t x) : d ≤ x := by
  rcases h.cut d hd hpos hr with ⟨h1, _⟩ | h1
  · exact absurd h1 h.target
  · exact h1
/-- With nothing that waits, there is no way to the target. -/
theorem Know.empty (h : Know N arcs gone s t true P arcs far steps []) (hpos : ∀ v u c, (u, c) ∈ arcs v → 1 ≤ c) {k : Nat} {x : Int} (hr : Reach arcs gone s k t x) : False := by
  have := h.lower (x + 1) (fun e he => by simp at he) hpos hr
  omega

def upd {β : Type} (f : Int → β) (i : Int) (v : β) : Int → β := fun j => if j = i then v else f j
theorem upd_same {β : Type} (f : Int → β) (i : Int) (v : β) : upd f i v i = v := if_pos rfl
theorem upd_other {β : Type} (f : Int → β) {i j : Int} (v : β) (h : j ≠ i) : upd f i v j = f j := if_neg h

/-- At first. -/
theorem Know.init (N : Nat) (arcs : Arcs) (gone : Int → Bool) (s t : Int) (great : Bool) : Know N arcs gone s t great [] arcs (upd (fun _ => none) s (some 0)) (fun _ => 0) [(s, 0)] where
  nodup := List.nodup_nil
  inN := fun p hp => by simp at hp
  start := upd_same _ _ _
  label := fun u x hx => by
    by_cases h : u = s
    · subst h
      rw [upd_same] at hx
      cases hx
      exact ⟨0, rfl, Nat.le_refl _, .start⟩
    · rw [upd_other _ _ h] at hx; cases hx
  keys := fun u x => by
    by_cases h : u = s
    · subst h
      rw [upd_same]
      simp [eq_comm]
    · rw [upd_other _ _ h]
      simp [h]
  done := fun p hp => by simp at hp
  relaxed := fun _ p hp => by simp at hp
  target := by simp

/-- Number v comes, the nearest one: what is known before its arcs are looked at. -/
theorem Know.pop {v d : Int} {l' : List (Int × Int)} (h : Know N arcs gone s t great P arcs far steps l) (hm : (v, d) ∈ l) (hmin : ∀ e ∈ l, d ≤ e.2) (hl' : ∀ e, e ∈ l' ↔ e ∈ l ∧ e ≠ (v, d)) (hone : ∀ e ∈ l, e.1 = v → e = (v, d)) (hv : 0 ≤ v ∧ v < (N : Int)) (ht : v ≠ t) :
    Know N arcs gone s t great (P ++ [v]) (upd arcs v []) far steps l' := by
  have hvk := (h.keys v d).1 hm
  refine ⟨?_, ?_, h.start, ?_, ?_, ?_, ?_, ?_⟩
  · rw [List.nodup_append]
    refine ⟨h.nodup, by simp, fun a ha b hb => ?_⟩
    rw [List.mem_singleton] at hb
    subst hb
    exact fun e => hvk.2 (e ▸ ha)
  · intro p hp
    rcases List.mem_append.1 hp with hp | hp
    · exact h.inN p hp
    · rw [List.mem_singleton] at hp; subst hp; exact hv
  · intro u x hx
    obtain ⟨k, h1, h2, h3⟩ := h.label u x hx
    exact ⟨k, h1, by simp; omega, h3⟩
  · intro u x
    rw [hl', h.keys]
    simp only [List.mem_append, List.mem_singleton, not_or, ne_eq, Prod.mk.injEq]
    constructor
    · rintro ⟨⟨h1, h2⟩, h3⟩
      refine ⟨h1, h2, fun e => ?_⟩
      subst e
      have := hone (u, x) ((h.keys u x).2 ⟨h1, h2⟩) rfl
      exact h3 ⟨rfl, (Prod.mk.inj this).2⟩
    · rintro ⟨h1, h2, h3⟩
      exact ⟨⟨h1, h2⟩, fun e => h3 e.1⟩
  · intro p hp
    rcases List.mem_append.1 hp with hp | hp
    · obtain ⟨x, hx, hk⟩ := h.done p hp
      exact ⟨x, hx, fun e he => hk e ((hl' e).1 he).1⟩
    · rw [List.mem_singleton] at hp
      subst hp
      exact ⟨d, hvk.1, fun e he => hmin e ((hl' e).1 he).1⟩
  · intro hg p hp x hx u c huc
    by_cases hpv : p = v
    · subst hpv
      rw [upd_same] at huc
      simp at huc
    · rw [upd_other _ _ hpv] at huc
      rcases List.mem_append.1 hp with hp | hp
      · exact h.relaxed hg p hp x hx u c huc
      · rw [List.mem_singleton] at hp; exact absurd hp hpv
  · intro hp
    rcases List.mem_append.1 hp with hp | hp
    · exact h.target hp
    · rw [List.mem_singleton] at hp; exact ht hp.symm
/-- An arc that helps nothing. -/
theorem Know.skip {v d u c : Int} {done : List (Int × Int)} (h : Know N arcs gone s t great (P ++ [v]) (upd arcs v done) far steps l) (hv : far v = some d) (hx : gone u = true ∨ ∃ y, far u = some y ∧ y ≤ d + c) :
    Know N arcs gone s t great (P ++ [v]) (upd arcs v (done ++ [(u, c)])) far steps l := by
  refine { h with relaxed := fun hg p hp x hpx u' c' huc hgu => ?_ }
  by_cases hpv : p = v
  · subst hpv
    rw [upd_same] at huc
    rcases List.mem_append.1 huc with h1 | h1
    · exact h.relaxed hg p hp x hpx u' c' (by rw [upd_same]; exact h1) hgu
    · rw [List.mem_singleton] at h1
      cases h1
      rw [hv] at hpx
      cases hpx
      rcases hx with hx | hx
      · rw [hx] at hgu; cases hgu
      · exact hx
  · rw [upd_other _ _ hpv] at huc
    exact h.relaxed hg p hp x hpx u' c' (by rw [upd_other _ _ hpv]; exact huc) hgu
/-- An arc that helps: the node that it goes to is not settled yet. -/
theorem Know.fresh {v d u c : Int} {done : List (Int × Int)} (h : Know N arcs gone s t great (P ++ [v]) (upd arcs v done) far steps l) (hP : ∀ p ∈ P ++ [v], ∃ x, far p = some x ∧ x ≤ d) (hc : 1 ≤ c) (hx : ∀ y, far u = some y → d + c < y) : u ∉ P ++ [v] := fun hu => by
  obtain ⟨x, hx1, hx2⟩ := hP u hu
  have := hx x hx1
  omega
theorem Know.take {v d u c : Int} {k : Int} {done l' : List (Int × Int)} (h : Know N arcs gone s t great (P ++ [v]) (upd arcs v done) far steps l) (hP : ∀ p ∈ P ++ [v], ∃ x, far p = some x ∧ x ≤ d) (hd : 0 ≤ d) (hv : far v = some d) (hk : steps v = k)
    (hkl : k ≤ P.length) (ha : (u, c) ∈ arcs v) (hc : 1 ≤ c) (hg : gone u = false) (hx : ∀ y, far u = some y → d + c < y) (hl' : ∀ e, e ∈ l' ↔ (e ∈ l ∧ e.1 ≠ u) ∨ e = (u, d + c)) :
    Know N arcs gone s t great (P ++ [v]) (upd arcs v (done ++ [(u, c)])) (upd far u (some (d + c))) (upd steps u (k + 1)) l' := by
  have hu := h.fresh hP hc hx
  have hne : ∀ p ∈ P ++ [v], p ≠ u := fun p hp e => hu (e ▸ hp)
  have hus : s ≠ u := fun e => by
    subst e
    have h0 := hx 0 h.start
    omega
  refine ⟨h.nodup, h.inN, ?_, ?_, ?_, ?_, ?_, h.target⟩
  · rw [upd_other _ _ hus]; exact h.start
  · intro u' x hx'
    by_cases hu' : u' = u
    · subst hu'
      rw [upd_same] at hx' ⊢
      cases hx'
      obtain ⟨k', h1, h2, h3⟩ := h.label v d hv
      refine ⟨k' + 1, by omega, ?_, .arc h3 ha hg⟩
      simp
      omega
    · rw [upd_other _ _ hu'] at hx' ⊢
      exact h.label u' x hx'
  · intro u' x
    rw [hl']
    by_cases hu' : u' = u
    · subst hu'
      rw [upd_same]
      simp only [ne_eq, not_true_eq_false, and_false, false_or, Prod.mk.injEq, true_and, Option.some.injEq]
      exact ⟨fun e => ⟨e.symm, hu⟩, fun e => e.1.symm⟩
    · rw [upd_other _ _ hu', h.keys]
      simp only [ne_eq, hu', not_false_eq_true, and_true, Prod.mk.injEq, false_and, or_false]
  · intro p hp
    rw [upd_other _ _ (hne p hp)]
    obtain ⟨x, hx1, hx2⟩ := h.done p hp
    obtain ⟨x', hx1', hx2'⟩ := hP p hp
    rw [hx1] at hx1'
    cases hx1'
    refine ⟨x, hx1, fun e he => ?_⟩
    rcases (hl' e).1 he with ⟨h1, _⟩ | rfl
    · exact hx2 e h1
    · show x ≤ d + c
      omega
  · intro hg' p hp x hpx u' c' huc hgu
    rw [upd_other _ _ (hne p hp)] at hpx
    have key : ∀ y, far u' = some y → y ≤ x + c' → ∃ y', upd far u (some (d + c)) u' = some y' ∧ y' ≤ x + c' := fun y h1 h2 => by
      by_cases hu' : u' = u
      · subst hu'
        rw [upd_same]
        have := hx y h1
        exact ⟨_, rfl, by omega⟩
      · rw [upd_other _ _ hu']
        exact ⟨y, h1, h2⟩
    by_cases hpv : p = v
    · subst hpv
      rw [upd_same] at huc
      rcases List.mem_append.1 huc with h1 | h1
      · obtain ⟨y, h2, h3⟩ := h.relaxed hg' p hp x hpx u' c' (by rw [upd_same]; exact h1) hgu
        exact key y h2 h3
      · rw [List.mem_singleton] at h1
        cases h1
        rw [hv] at hpx
        cases hpx
        rw [upd_same]
        exact ⟨_, rfl, Int.le_refl _⟩
    · rw [upd_other _ _ hpv] at huc
      obtain ⟨y, h2, h3⟩ := h.relaxed hg' p hp x hpx u' c' (by rw [upd_other _ _ hpv]; exact huc) hgu
      exact key y h2 h3
/-- All arcs of v have been looked at. -/
theorem Know.all {v : Int} (h : Know N arcs gone s t great (P ++ [v]) (upd arcs v (arcs v)) far steps l) : Know N arcs gone s t great (P ++ [v]) arcs far steps l := by
  have e : upd arcs v (arcs v) = arcs := by
    funext j
    unfold upd
    split
    · rename_i hj; rw [hj]
    · rfl
  rwa [e] at h
/-- A search that may not go on from v: with great limits that cannot be. -/
theorem Know.stop {v : Int} (h : Know N arcs gone s t great (P ++ [v]) (upd arcs v []) far steps l) (hg : great = false) : Know N arcs gone s t great (P ++ [v]) arcs far steps l :=
  { h with relaxed := fun hg' => by rw [hg] at hg'; cases hg' }
end
end Go.Proofs.Ythbcgdogmkgebaa
