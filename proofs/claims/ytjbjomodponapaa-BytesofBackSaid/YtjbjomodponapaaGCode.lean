/- Graphs in bytes: plain. -/
import Derived.Test.YtjbjomodponapaaCodec
import Derived.Test.YtjbjomodponapaaRefRight
namespace Go.Proofs.Ytjbjomodponapaa

def encE (e : Edg) : List Int := encN e.1.toNat ++ (encN e.2.1.toNat ++ encN e.2.2.toNat)
def encEs (es : List Edg) : List Int := es.flatMap encE
def encG (n : Int) (es : List Edg) : List Int := encN n.toNat ++ (encN es.length ++ encEs es)
theorem encEs_snoc (es : List Edg) (e : Edg) : encEs (es ++ [e]) = encEs es ++ encE e := by
  simp [encEs, List.flatMap_append]
theorem encEs_cons (e : Edg) (es : List Edg) : encEs (e :: es) = encN e.1.toNat ++ (encN e.2.1.toNat ++ (encN e.2.2.toNat ++ encEs es)) := by
  simp [encEs, encE, List.append_assoc]

theorem right_zero {n : Int} {es : List Edg} (h : rightF n es = 0) : 1 ≤ n ∧ n ≤ 4096 ∧ es.length ≤ 16384 ∧ ∀ (k : Nat) (p q r : Int), es[k]? = some (p, q, r) → 0 ≤ p ∧ p < n ∧ 0 ≤ q ∧ q < n ∧ p ≠ q ∧ 1 ≤ r ∧ r ≤ 4294967296 := by
  unfold rightF at h
  by_cases h1 : n < 1 ∨ 4096 < n
  · rw [if_pos h1] at h; cases h
  rw [if_neg h1] at h
  by_cases h2 : 16384 < es.length
  · rw [if_pos h2] at h; cases h
  rw [if_neg h2] at h
  by_cases h3 : es.all (nodeOk n) = true
  · rw [if_pos h3] at h
    by_cases h4 : es.all wOk = true
    · refine ⟨by omega, by omega, by omega, fun k p q r hk => ?_⟩
      have hm := List.mem_of_getElem? hk
      have a := List.all_eq_true.1 h3 _ hm
      have b := List.all_eq_true.1 h4 _ hm
      simp [nodeOk, wOk] at a b
      omega
    · rw [if_neg h4] at h; cases h
  · rw [if_neg h3] at h; cases h
/-- An edge that may be. -/
def EOk (n : Int) (e : Edg) : Prop := 0 ≤ e.1 ∧ e.1 < n ∧ 0 ≤ e.2.1 ∧ e.2.1 < n ∧ e.1 ≠ e.2.1 ∧ 1 ≤ e.2.2 ∧ e.2.2 ≤ 4294967296
theorem right_mk {n : Int} {es : List Edg} (h1 : 1 ≤ n) (h2 : n ≤ 4096) (h3 : es.length ≤ 16384) (h4 : ∀ e ∈ es, EOk n e) : rightF n es = 0 := by
  unfold rightF
  rw [if_neg (by omega), if_neg (by omega), if_pos ?_, if_pos ?_]
  · refine List.all_eq_true.2 fun e he => ?_
    have := h4 e he
    unfold EOk at this
    simp [wOk]
    omega
  · refine List.all_eq_true.2 fun e he => ?_
    have := h4 e he
    unfold EOk at this
    simp [nodeOk]
    omega
theorem right_ok {n : Int} {es : List Edg} (h : rightF n es = 0) {e : Edg} (he : e ∈ es) : EOk n e := by
  obtain ⟨k, hk, hke⟩ := List.getElem_of_mem he
  exact (right_zero h).2.2.2 k e.1 e.2.1 e.2.2 (by rw [List.getElem?_eq_getElem hk, hke])

/-- No graph has these bytes. -/
def NoG (z : Nat → Int) (len : Nat) : Prop := ∀ n es, rightF n es = 0 → ¬ Rest z len 0 (encG n es)
/-- A graph with these bytes has so many nodes, and this behind. -/
def Cand1 (z : Nat → Int) (len n p : Nat) : Prop := ∀ n0 es0, rightF n0 es0 = 0 → Rest z len 0 (encG n0 es0) → n0 = (n : Int) ∧ Rest z len p (encN es0.length ++ encEs es0)
def Cand (z : Nat → Int) (len n m : Nat) (es : List Edg) (p : Nat) : Prop :=
  ∀ n0 es0, rightF n0 es0 = 0 → Rest z len 0 (encG n0 es0) → n0 = (n : Int) ∧ es0.length = m ∧ ∃ t, es0 = es ++ t ∧ Rest z len p (encEs t)
theorem small {x : Int} (h0 : 0 ≤ x) (h : x ≤ 4294967296) : x.toNat < 18446744073709551616 := by omega
theorem no1 {z : Nat → Int} {len : Nat} (h : ∀ n p', Tk z len 0 n p' → ¬ (1 ≤ n ∧ n ≤ 4096)) : NoG z len := fun n0 es0 hr hR => by
  obtain ⟨a, b, _⟩ := right_zero hr
  have := (tk_of (by omega) hR).1
  exact h _ _ this ⟨by omega, by omega⟩
theorem cand1 {z : Nat → Int} {len n p : Nat} (h : Tk z len 0 n p) : Cand1 z len n p := fun n0 es0 hr hR => by
  obtain ⟨a, b, _⟩ := right_zero hr
  obtain ⟨t, r⟩ := tk_of (by omega) hR
  obtain ⟨e1, e2⟩ := h.same t
  rw [← e2] at r
  exact ⟨by omega, r⟩
theorem no2 {z : Nat → Int} {len n p : Nat} (hc : Cand1 z len n p) (h : ∀ n p', Tk z len p n p' → ¬ (0 ≤ n ∧ n ≤ 16384)) : NoG z len := fun n0 es0 hr hR => by
  obtain ⟨_, _, c, _⟩ := right_zero hr
  have := (tk_of (by omega) (hc n0 es0 hr hR).2).1
  exact h _ _ this ⟨by omega, c⟩
theorem cand2 {z : Nat → Int} {len n p m p' : Nat} (hc : Cand1 z len n p) (h : Tk z len p m p') : Cand z len n m [] p' := fun n0 es0 hr hR => by
  obtain ⟨_, _, c, _⟩ := right_zero hr
  obtain ⟨a, b⟩ := hc n0 es0 hr hR
  obtain ⟨t, r⟩ := tk_of (by omega) b
  obtain ⟨e1, e2⟩ := h.same t
  subst e2
  exact ⟨a, e1.symm, es0, rfl, r⟩
/-- Of a round that there is, the edge that must come. -/
theorem cand_edge {z : Nat → Int} {len n m p : Nat} {es : List Edg} (hc : Cand z len n m es p) (hm : es.length < m) {n0 : Int} {es0 : List Edg} (hr : rightF n0 es0 = 0) (hR : Rest z len 0 (encG n0 es0)) :
    ∃ e t, EOk n e ∧ n0 = (n : Int) ∧ es0 = es ++ e :: t ∧ Rest z len p (encN e.1.toNat ++ (encN e.2.1.toNat ++ (encN e.2.2.toNat ++ encEs t))) := by
  obtain ⟨a, b, t, e, r⟩ := hc n0 es0 hr hR
  cases t with
  | nil => rw [e] at b; simp at b; omega
  | cons x t =>
    refine ⟨x, t, ?_, a, e, by rw [← encEs_cons]; exact r⟩
    rw [← a]
    exact right_ok hr (by rw [e]; simp)
theorem no3 {z : Nat → Int} {len n m p : Nat} {es : List Edg} (hc : Cand z len n m es p) (hm : es.length < m) (h : ∀ a p', Tk z len p a p' → ¬ ((a : Int) < (n : Int))) : NoG z len := fun n0 es0 hr hR => by
  obtain ⟨e, t, ok, _, _, r⟩ := cand_edge hc hm hr hR
  unfold EOk at ok
  by_cases hn : n < 18446744073709551616
  · exact h _ _ (tk_of (by omega) r).1 (by omega)
  · have := (right_zero hr).2.1
    omega
theorem cand_n {z : Nat → Int} {len n m p : Nat} {es : List Edg} (hc : Cand z len n m es p) {n0 : Int} {es0 : List Edg} (hr : rightF n0 es0 = 0) (hR : Rest z len 0 (encG n0 es0)) : n ≤ 4096 := by
  have a := (hc n0 es0 hr hR).1
  have := (right_zero hr).2.1
  omega
theorem no4 {z : Nat → Int} {len n m p a p1 : Nat} {es : List Edg} (hc : Cand z len n m es p) (hm : es.length < m) (h1 : Tk z len p a p1) (h : ∀ b p', Tk z len p1 b p' → ¬ ((b : Int) < (n : Int))) : NoG z len := fun n0 es0 hr hR => by
  obtain ⟨e, t, ok, _, _, r⟩ := cand_edge hc hm hr hR
  have hn := cand_n hc hr hR
  unfold EOk at ok
  obtain ⟨t1, r1⟩ := tk_of (by omega) r
  obtain ⟨_, e2⟩ := h1.same t1
  subst e2
  exact h _ _ (tk_of (by omega) r1).1 (by omega)
theorem no5 {z : Nat → Int} {len n m p a p1 p2 : Nat} {es : List Edg} (hc : Cand z len n m es p) (hm : es.length < m) (h1 : Tk z len p a p1) (h2 : Tk z len p1 a p2) : NoG z len := fun n0 es0 hr hR => by
  obtain ⟨e, t, ok, _, _, r⟩ := cand_edge hc hm hr hR
  have hn := cand_n hc hr hR
  unfold EOk at ok
  obtain ⟨t1, r1⟩ := tk_of (by omega) r
  obtain ⟨e1, e2⟩ := h1.same t1
  subst e2
  obtain ⟨t2, r2⟩ := tk_of (by omega) r1
  obtain ⟨e3, e4⟩ := h2.same t2
  omega
theorem no6 {z : Nat → Int} {len n m p a p1 b p2 : Nat} {es : List Edg} (hc : Cand z len n m es p) (hm : es.length < m) (h1 : Tk z len p a p1) (h2 : Tk z len p1 b p2) (h : ∀ c p', Tk z len p2 c p' → ¬ (1 ≤ c ∧ c ≤ 4294967296)) : NoG z len := fun n0 es0 hr hR => by
  obtain ⟨e, t, ok, _, _, r⟩ := cand_edge hc hm hr hR
  have hn := cand_n hc hr hR
  unfold EOk at ok
  obtain ⟨t1, r1⟩ := tk_of (by omega) r
  obtain ⟨e1, e2⟩ := h1.same t1
  subst e2
  obtain ⟨t2, r2⟩ := tk_of (by omega) r1
  obtain ⟨e3, e4⟩ := h2.same t2
  subst e4
  exact h _ _ (tk_of (by omega) r2).1 ⟨by omega, by omega⟩
theorem cand_step {z : Nat → Int} {len n m p a p1 b p2 c p3 : Nat} {es : List Edg} (hc : Cand z len n m es p) (hm : es.length < m) (h1 : Tk z len p a p1) (h2 : Tk z len p1 b p2) (h3 : Tk z len p2 c p3) : Cand z len n m (es ++ [((a : Int), (b : Int), (c : Int))]) p3 := fun n0 es0 hr hR => by
  obtain ⟨e, t, ok, en, ee, r⟩ := cand_edge hc hm hr hR
  have hn := cand_n hc hr hR
  have hl := (hc n0 es0 hr hR).2.1
  unfold EOk at ok
  obtain ⟨t1, r1⟩ := tk_of (by omega) r
  obtain ⟨e1, e2⟩ := h1.same t1
  subst e2
  obtain ⟨t2, r2⟩ := tk_of (by omega) r1
  obtain ⟨e3, e4⟩ := h2.same t2
  subst e4
  obtain ⟨t3, r3⟩ := tk_of (by omega) r2
  obtain ⟨e5, e6⟩ := h3.same t3
  subst e6
  obtain ⟨x, y, v⟩ := e
  simp only at e1 e3 e5 ok
  refine ⟨en, hl, t, ?_, r3⟩
  rw [ee, show x = (a : Int) by omega, show y = (b : Int) by omega, show v = (c : Int) by omega, List.append_assoc]
  rfl
/-- What was read so far. -/
def Had (z : Nat → Int) (n m : Nat) (es : List Edg) (p : Nat) : Prop := At z 0 (encN n ++ (encN m ++ encEs es)) ∧ p = (encN n ++ (encN m ++ encEs es)).length
theorem had_start {z : Nat → Int} {len n m p p' : Nat} (hz : ∀ i, i < len → 0 ≤ z i ∧ z i ≤ 255) (h1 : Tk z len 0 n p) (h2 : Tk z len p m p') : Had z n m [] p' := by
  obtain ⟨a1, a2, _⟩ := tk_back hz h1
  obtain ⟨b1, b2, _⟩ := tk_back hz h2
  have e : encEs [] = [] := rfl
  refine ⟨?_, ?_⟩
  · rw [e, List.append_nil]
    exact a1.append (by rw [← a2]; exact b1)
  · rw [e, List.append_nil, List.length_append]; omega
theorem had_step {z : Nat → Int} {len n m p a p1 b p2 c p3 : Nat} {es : List Edg} (hz : ∀ i, i < len → 0 ≤ z i ∧ z i ≤ 255) (h : Had z n m es p) (h1 : Tk z len p a p1) (h2 : Tk z len p1 b p2) (h3 : Tk z len p2 c p3) : Had z n m (es ++ [((a : Int), (b : Int), (c : Int))]) p3 := by
  obtain ⟨a1, a2, _⟩ := tk_back hz h1
  obtain ⟨b1, b2, _⟩ := tk_back hz h2
  obtain ⟨c1, c2, _⟩ := tk_back hz h3
  obtain ⟨g1, g2⟩ := h
  have e : encN n ++ (encN m ++ encEs (es ++ [((a : Int), (b : Int), (c : Int))])) = (encN n ++ (encN m ++ encEs es)) ++ (encN a ++ (encN b ++ encN c)) := by
    rw [encEs_snoc]
    simp [encE, List.append_assoc]
  refine ⟨?_, ?_⟩
  · rw [e]
    refine g1.append ?_
    rw [Nat.zero_add, ← g2]
    refine a1.append ?_
    rw [← a2]
    refine b1.append ?_
    rw [← b2]
    exact c1
  · rw [e, List.length_append, ← g2, List.length_append, List.length_append]; omega
/-- What is read is what is there. -/
theorem had_all {z : Nat → Int} {len n m p : Nat} {es : List Edg} (h : Had z n m es p) (hm : es.length = m) (hp : p = len) : Rest z len 0 (encG n es) := by
  obtain ⟨g1, g2⟩ := h
  have e : encG (n : Int) es = encN n ++ (encN m ++ encEs es) := by unfold encG; rw [hm]; rfl
  exact ⟨by rw [e]; exact g1, by rw [e]; omega⟩
theorem cand_all {z : Nat → Int} {len n m p : Nat} {es : List Edg} (hc : Cand z len n m es p) (hm : es.length = m) : ∀ n0 es0, rightF n0 es0 = 0 → Rest z len 0 (encG n0 es0) → n0 = (n : Int) ∧ es0 = es ∧ p = len := fun n0 es0 hr hR => by
  obtain ⟨a, b, t, e, r⟩ := hc n0 es0 hr hR
  cases t with
  | nil => exact ⟨a, by rw [e, List.append_nil], by have := r.2; simpa [encEs] using this⟩
  | cons x t => rw [e] at b; simp at b; omega
end Go.Proofs.Ytjbjomodponapaa
