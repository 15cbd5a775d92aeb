/- Reversed twice, changed back, kept whole: plain. -/
import Derived.Test.YtiialiifjhgcmaaTurnsLaw
import Derived.Test.YtiialiifjhgcmaaChanges
namespace Go.Proofs.Ytiialiifjhgcmaa
open Go.RowKit

theorem right_mem {n : Int} {es : List Edg} (h : rightF n es = 0) : ∀ e ∈ es, nodeOk n e = true ∧ wOk e = true := by
  unfold rightF at h
  by_cases h1 : n < 1 ∨ 4096 < n
  · rw [if_pos h1] at h; cases h
  rw [if_neg h1] at h
  by_cases h2 : 16384 < es.length
  · rw [if_pos h2] at h; cases h
  rw [if_neg h2] at h
  by_cases h3 : es.all (nodeOk n) = true
  · rw [if_pos h3] at h
    by_cases h4 : es.all wOk = true
    · exact fun e he => ⟨List.all_eq_true.1 h3 e he, List.all_eq_true.1 h4 e he⟩
    · rw [if_neg h4] at h; cases h
  · rw [if_neg h3] at h; cases h
theorem right_intro {n : Int} {es : List Edg} (h1 : 1 ≤ n) (h2 : n ≤ 4096) (h3 : es.length ≤ 16384) (h : ∀ e ∈ es, nodeOk n e = true ∧ wOk e = true) : rightF n es = 0 := by
  rw [rightF, if_neg (by omega), if_neg (by omega), if_pos (List.all_eq_true.2 fun e he => (h e he).1), if_pos (List.all_eq_true.2 fun e he => (h e he).2)]
theorem right_swp {n : Int} {es : List Edg} (h : rightF n es = 0) : rightF n (es.map swp) = 0 := by
  obtain ⟨h1, h2, h3, _⟩ := right_zero h
  refine right_intro h1 h2 (by simpa using h3) fun e he => ?_
  obtain ⟨e', he', rfl⟩ := List.mem_map.1 he
  have ha := right_mem h e' he'
  obtain ⟨p, q, r⟩ := e'
  show nodeOk n (q, p, r) = true ∧ wOk (q, p, r) = true
  simp only [nodeOk, wOk, Bool.and_eq_true, Bool.not_eq_true', decide_eq_true_eq, decide_eq_false_iff_not] at ha ⊢
  exact ⟨⟨ha.1.2.1, ha.1.1, fun h => ha.1.2.2 h.symm⟩, ha.2⟩
theorem right_setW {n : Int} {es : List Edg} (k : Nat) (x : Int) (h : rightF n es = 0) (hk : k < es.length) (hx : 1 ≤ x ∧ x ≤ 4294967296) : rightF n (setW es k x) = 0 := by
  obtain ⟨h1, h2, h3, _⟩ := right_zero h
  refine right_intro h1 h2 (by rw [setW_length]; exact h3) fun e he => ?_
  unfold setW at he
  rcases List.mem_or_eq_of_mem_set he with he | rfl
  · exact right_mem h e he
  · have ha := right_mem h es[k] (List.getElem_mem hk)
    rw [List.getD_eq_getElem?_getD, List.getElem?_eq_getElem hk]
    simp [nodeOk, wOk] at ha ⊢
    omega
theorem swp_swp (es : List Edg) : (es.map swp).map swp = es := by
  rw [List.map_map]
  conv => rhs; rw [← List.map_id es]
  rfl
theorem total_swp {n : Int} {es : List Edg} (h : rightF n es = 0) : totalF n (es.map swp) = totalF n es := by
  rw [totalF, totalF, if_pos h, if_pos (right_swp h)]
  unfold sumW
  rw [List.map_map]
  rfl
theorem setW_getD (es : List Edg) (k : Nat) (x : Int) (hk : k < es.length) : (setW es k x)[k]? = some ((es.getD k (0, 0, 0)).1, (es.getD k (0, 0, 0)).2.1, x) := by
  unfold setW
  rw [List.getElem?_set_self hk]
theorem setW_back (es : List Edg) (k : Nat) (x : Int) (hk : k < es.length) : setW (setW es k x) k (es.getD k (0, 0, 0)).2.2 = es := by
  have h1 := setW_getD es k x hk
  have h2 : (setW es k x).getD k (0, 0, 0) = ((es.getD k (0, 0, 0)).1, (es.getD k (0, 0, 0)).2.1, x) := by
    rw [List.getD_eq_getElem?_getD, h1]; rfl
  have h3 : es.getD k (0, 0, 0) = es[k] := by rw [List.getD_eq_getElem?_getD, List.getElem?_eq_getElem hk]; rfl
  rw [setW, h2, setW, List.set_set]
  show es.set k (es.getD k (0, 0, 0)) = es
  rw [h3]
  exact List.set_getElem_self hk

/-- The sum of the first k counts. -/
def sumC (f : Edg → Int) (es : List Edg) : Nat → Int
  | 0 => 0
  | k + 1 => sumC f es k + (es.countP (fun e => f e == (k : Int)) : Int)
theorem sumC_eq (f : Edg → Int) (es : List Edg) : ∀ k : Nat, sumC f es k = (es.countP (fun e => decide (0 ≤ f e ∧ f e < (k : Int))) : Int)
  | 0 => by
    have : es.countP (fun e => decide (0 ≤ f e ∧ f e < ((0 : Nat) : Int))) = 0 := by
      rw [List.countP_eq_zero]
      intro e _
      simp
    rw [this]; rfl
  | k + 1 => by
    rw [sumC, sumC_eq f es k]
    clear sumC_eq
    induction es with
    | nil => rfl
    | cons e es ih =>
      simp only [List.countP_cons]
      rcases Int.lt_trichotomy (f e) k with h | h | h
      · have a1 : (f e == (k : Int)) = false := by simp; omega
        have a2 : decide (0 ≤ f e ∧ f e < ((k + 1 : Nat) : Int)) = decide (0 ≤ f e ∧ f e < (k : Int)) := by rw [decide_eq_decide]; omega
        rw [a1, a2]
        simp only [Bool.false_eq_true, if_false]
        split <;> omega
      · have a1 : (f e == (k : Int)) = true := by simpa using h
        have a2 : decide (0 ≤ f e ∧ f e < ((k + 1 : Nat) : Int)) = true := decide_eq_true (by omega)
        have a3 : decide (0 ≤ f e ∧ f e < (k : Int)) = false := decide_eq_false (by omega)
        rw [a1, a2, a3]
        simp only [Bool.false_eq_true, if_false, if_true]
        omega
      · have a1 : (f e == (k : Int)) = false := by simp; omega
        have a2 : decide (0 ≤ f e ∧ f e < ((k + 1 : Nat) : Int)) = false := decide_eq_false (by omega)
        have a3 : decide (0 ≤ f e ∧ f e < (k : Int)) = false := decide_eq_false (by omega)
        rw [a1, a2, a3]
        simp only [Bool.false_eq_true, if_false]
        omega
theorem sumC_all (f : Edg → Int) (es : List Edg) (n : Nat) (h : ∀ e ∈ es, 0 ≤ f e ∧ f e < (n : Int)) : sumC f es n = (es.length : Int) := by
  rw [sumC_eq, List.countP_eq_length.2 (fun e he => decide_eq_true (h e he))]
theorem sumC_bd (f : Edg → Int) (es : List Edg) : ∀ k : Nat, 0 ≤ sumC f es k ∧ sumC f es k ≤ (k : Int) * (es.length : Int)
  | 0 => by simp [sumC]
  | k + 1 => by
    have ih := sumC_bd f es k
    have hc : es.countP (fun e => f e == (k : Int)) ≤ es.length := List.countP_le_length
    rw [sumC]
    have : ((k + 1 : Nat) : Int) * (es.length : Int) = (k : Int) * (es.length : Int) + (es.length : Int) := by rw [Int.natCast_add, Int.add_mul]; simp
    omega
theorem degL_get (f : Edg → Int) (es : List Edg) (n v : Nat) (hv : v < n) : (degL f es n)[v]? = some (es.countP (fun e => f e == (v : Int)) : Int) := by
  simp [degL, hv]
theorem degL_length (f : Edg → Int) (es : List Edg) (n : Nat) : (degL f es n).length = n := by simp [degL]

theorem idxK_all : ∀ k, idxK (fun _ => true) k = k
  | 0 => rfl
  | k + 1 => by rw [idxK, if_pos rfl, idxK_all k]
theorem subE_all {n : Int} {es : List Edg} (h : rightF n es = 0) : subE (fun _ => true) es = es := by
  have hm := right_mem h
  clear h
  induction es with
  | nil => rfl
  | cons e es ih =>
    have he := (hm e (List.mem_cons_self)).1
    have ih := ih fun x hx => hm x (List.mem_cons_of_mem _ hx)
    obtain ⟨p, q, r⟩ := e
    simp [nodeOk] at he
    have e1 : subOne (fun _ => true) (p, q, r) = [(p, q, r)] := by
      simp only [subOne, Bool.and_self, if_true, idxK_all]
      rw [Int.toNat_of_nonneg he.1.1, Int.toNat_of_nonneg he.2.1.1]
    simp only [subE, List.flatMap_cons] at ih ⊢
    rw [e1, ih]
    rfl

theorem gsame_yes (n : Int) (es : List Edg) (hl : es.length ≤ 100000) (W : World) (A : Option Addr) (c : Nat) (A' : Option Addr) (c' : Nat) (h : RowE W A es) (h' : RowE W A' es) :
    Calls Try.prog 13 #[.agg #[i64 n, .slice A es.length c], .agg #[i64 n, .slice A' es.length c']] W fun e w' => e = .returned (.bool true) ∧ Grew W w' := by
  have hh := same_any n n A A' c c' es es W h h' hl hl
  simpa using hh
theorem edges_new {w : World} {B : Nat} {v : Value} {es : List Edg} (h : Edges w B v es) : ∃ A c, v = .slice A es.length c ∧ RowE w A es ∧ ∀ a, A = some a → B ≤ a.block := by
  obtain ⟨A, c, hv, hr⟩ := h.row
  refine ⟨A, c, hv, hr, fun a ha => ?_⟩
  subst ha
  rcases h.2 with ⟨h1, _⟩ | ⟨g, cap, cur, h1, hb, _⟩
  · rw [hv] at h1; cases h1
  · rw [hv] at h1; cases h1; exact hb
theorem with_or (n : Int) (A : Option Addr) (c : Nat) (es : List Edg) (e x : Int) (hl : es.length ≤ 100000) (hr : rightF n es = 0) (w : World) (h : RowE w A es) :
    Calls Try.prog 23 #[.agg #[i64 n, .slice A es.length c], i64 e, u64 x] w fun r w' =>
      (∃ (k : Nat) (X : Option Addr) (y : Nat), e = k ∧ k < es.length ∧ (1 ≤ x ∧ x ≤ 4294967296) ∧ r = .returned (.tuple #[.agg #[i64 n, .slice X es.length y], i64 0]) ∧ RowE w' X (setW es k x) ∧ Grew w w') ∨
      (∃ (X : Option Addr) (y : Nat) (f : Int), ¬ f = 0 ∧ r = .returned (.tuple #[.agg #[i64 0, .slice X 0 y], i64 f]) ∧ Grew w w') := by
  refine (with_any n A c es e x w h hl).mono fun r w' hh => ?_
  obtain ⟨v, hv, ho, hg⟩ := hh
  by_cases hc : wCode n es e x = 0
  · rw [hc] at hv
    rw [if_pos hc] at ho
    rw [if_pos rfl] at hv
    unfold wCode at hc
    rw [if_pos hr] at hc
    by_cases he : 0 ≤ e ∧ e < es.length
    · rw [if_pos he] at hc
      by_cases hx : 1 ≤ x ∧ x ≤ 4294967296
      · obtain ⟨X, y, rfl, hR⟩ := ho.row
        rw [setW_length] at hv
        obtain ⟨k, rfl⟩ := Int.eq_ofNat_of_zero_le he.1
        exact .inl ⟨k, X, y, rfl, by omega, hx, hv, hR, hg⟩
      · rw [if_neg hx] at hc; cases hc
    · rw [if_neg he] at hc; cases hc
  · rw [if_neg hc] at hv
    rw [if_neg hc] at ho
    obtain ⟨X, y, rfl, _⟩ := ho.row
    exact .inr ⟨X, y, _, hc, hv, hg⟩
theorem with_back (n : Int) (es : List Edg) (k : Nat) (x : Int) (hl : es.length ≤ 100000) (hr : rightF n es = 0) (hk : k < es.length) (hx : 1 ≤ x ∧ x ≤ 4294967296) (X : Option Addr) (y : Nat) (w : World) (h : RowE w X (setW es k x)) :
    Calls Try.prog 23 #[.agg #[i64 n, .slice X es.length y], i64 (k : Int), u64 (es.getD k (0, 0, 0)).2.2] w fun r w' =>
      ∃ (X : Option Addr) (y : Nat), r = .returned (.tuple #[.agg #[i64 n, .slice X es.length y], i64 0]) ∧ RowE w' X es ∧ (∀ a, X = some a → w.heap.size ≤ a.block) ∧ Grew w w' := by
  have hr' := right_setW k x hr hk hx
  have hw0 : 1 ≤ (es.getD k (0, 0, 0)).2.2 ∧ (es.getD k (0, 0, 0)).2.2 ≤ 4294967296 := by
    have ha := (right_mem hr es[k] (List.getElem_mem hk)).2
    rw [List.getD_eq_getElem?_getD, List.getElem?_eq_getElem hk]
    simp only [wOk, decide_eq_true_eq] at ha
    exact ha
  have hh := with_yes n X y (setW es k x) k (es.getD k (0, 0, 0)).2.2 w h (by rw [setW_length]; exact hl) hr' (by rw [setW_length]; exact hk) hw0
  rw [setW_length, setW_back es k x hk] at hh
  refine hh.mono fun r w' hh => ?_
  obtain ⟨v, hv, ho, hg⟩ := hh
  obtain ⟨X, y, rfl, hR, hN⟩ := edges_new ho
  exact ⟨X, y, hv, hR, hN, hg⟩
theorem sub_back (n : Nat) (A K : Option Addr) (c d : Nat) (es : List Edg) (hl : es.length ≤ 100000) (hn : n ≤ 100000) (hr : rightF n es = 0) (w : World) (h : RowE w A es) (hk : RowB w K n (fun _ => true)) :
    Calls Try.prog 25 #[.agg #[i64 n, .slice A es.length c], .slice K n d] w fun r w' =>
      ∃ (X : Option Addr) (y : Nat) (U : Option Addr) (z : Nat), r = .returned (.tuple #[.agg #[i64 n, .slice X es.length y], .slice U n z]) ∧ RowE w' X es ∧ Grew w w' := by
  refine (sub_any n A K c d n es (fun _ => true) w h hk hl hn).mono fun r w' hh => ?_
  unfold SubE at hh
  simp only [hr, and_self, if_true, idxK_all, subE_all hr] at hh
  obtain ⟨v, u, hv, ho, hi, hg⟩ := hh
  obtain ⟨X, y, rfl, hR⟩ := ho.row
  obtain ⟨U, z, rfl, _⟩ := hi.row
  rw [wasL_length, idxK_all] at hv
  exact ⟨X, y, U, z, hv, hR, hg⟩
theorem rev_back (n : Int) (es : List Edg) (hl : es.length ≤ 100000) (hr : rightF n es = 0) (A : Option Addr) (c : Nat) (w : World) (h : RowE w A es) :
    Calls Try.prog 18 #[.agg #[i64 n, .slice A es.length c]] w fun r w' =>
      ∃ (X : Option Addr) (y : Nat), r = .returned (.agg #[i64 n, .slice X es.length y]) ∧ RowE w' X (es.map swp) ∧ Grew w w' := by
  refine (reverse_any n A c es w h hl).mono fun r w' hh => ?_
  rw [if_pos hr, if_pos hr] at hh
  obtain ⟨v, hv, ho, hg⟩ := hh
  obtain ⟨X, y, rfl, hR⟩ := ho.row
  rw [List.length_map] at hv
  exact ⟨X, y, hv, hR, hg⟩
theorem rev_again (n : Int) (es : List Edg) (hl : es.length ≤ 100000) (hr : rightF n es = 0) (A : Option Addr) (c : Nat) (w : World) (h : RowE w A (es.map swp)) :
    Calls Try.prog 18 #[.agg #[i64 n, .slice A es.length c]] w fun r w' =>
      ∃ (X : Option Addr) (y : Nat), r = .returned (.agg #[i64 n, .slice X es.length y]) ∧ RowE w' X es ∧ Grew w w' := by
  have hh := rev_back n (es.map swp) (by simpa using hl) (right_swp hr) A c w h
  rwa [swp_swp, List.length_map] at hh
theorem total_again (n : Int) (es : List Edg) (hl : es.length ≤ 100000) (hr : rightF n es = 0) (A : Option Addr) (c : Nat) (w : World) (h : RowE w A (es.map swp)) :
    Calls Try.prog 20 #[.agg #[i64 n, .slice A es.length c]] w fun e w' => e = .returned (u64 (totalF n es)) ∧ Grew w w' := by
  have hh := total_any n A c (es.map swp) w h (by simpa using hl)
  rwa [total_swp hr, List.length_map] at hh
end Go.Proofs.Ytiialiifjhgcmaa
