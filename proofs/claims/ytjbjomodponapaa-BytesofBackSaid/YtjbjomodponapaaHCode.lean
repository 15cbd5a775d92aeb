/- Hierarchies in bytes: plain. -/
import Derived.Test.YtjbjomodponapaaGCode
import Derived.Test.YtjbjomodponapaaPut
namespace Go.Proofs.Ytjbjomodponapaa

/-- A shortcut. -/
structure Sc where
  from' : Int
  to' : Int
  w : Int
  edge : Int
  a : Int
  b : Int
deriving DecidableEq
/-- Ranks that may be: each number below their many once. -/
def rankOk (l : List Int) : Prop := (∀ x ∈ l, 0 ≤ x ∧ x < (l.length : Int)) ∧ l.Nodup
def edgeOk (es : List Edg) (s : Sc) : Prop := 0 ≤ s.edge ∧ s.a = -1 ∧ s.b = -1 ∧ es[s.edge.toNat]? = some (s.from', s.to', s.w)
def wrapW (x : Int) : Int := IntKind.u64.wrap x
def twoOk (rk : List Int) (ah : List Sc) (s : Sc) : Prop :=
  s.edge = -1 ∧ 0 ≤ s.a ∧ 0 ≤ s.b ∧ s.from' ≠ s.to' ∧ ∃ x y, ah[s.a.toNat]? = some x ∧ ah[s.b.toNat]? = some y ∧ x.from' = s.from' ∧ x.to' = y.from' ∧ y.to' = s.to' ∧ wrapW (x.w + y.w) = s.w ∧
    rk.getD x.to'.toNat 0 < min (rk.getD s.from'.toNat 0) (rk.getD s.to'.toNat 0)
/-- What is made of a graph. -/
def made (n : Int) (es : List Edg) (rk : List Int) (ss : List Sc) : Prop :=
  (rk.length : Int) = n ∧ rankOk rk ∧ ∀ i s, ss[i]? = some s → edgeOk es s ∨ twoOk rk (ss.take i) s
/-- Each shortcut is between nodes. -/
def inN (n : Int) (s : Sc) : Prop := 0 ≤ s.from' ∧ s.from' < n ∧ 0 ≤ s.to' ∧ s.to' < n
theorem edge_in {n : Int} {es : List Edg} {s : Sc} (hr : rightF n es = 0) (h : edgeOk es s) : inN n s := by
  have := right_ok hr (List.mem_of_getElem? h.2.2.2)
  unfold EOk at this
  exact ⟨this.1, this.2.1, this.2.2.1, this.2.2.2.1⟩
theorem two_in {n : Int} {rk : List Int} {ah : List Sc} {s : Sc} (ha : ∀ x ∈ ah, inN n x) (h : twoOk rk ah s) : inN n s := by
  obtain ⟨_, _, _, _, x, y, hx, hy, e1, _, e3, _⟩ := h
  have a := ha x (List.mem_of_getElem? hx)
  have b := ha y (List.mem_of_getElem? hy)
  unfold inN at a b ⊢
  omega
theorem made_in {n : Int} {es : List Edg} {rk : List Int} {ss : List Sc} (hr : rightF n es = 0) (h : made n es rk ss) : ∀ k, ∀ x ∈ ss.take k, inN n x := by
  intro k
  induction k with
  | zero => intro x hx; simp at hx
  | succ k ih =>
    intro x hx
    rw [List.take_add_one] at hx
    rcases List.mem_append.1 hx with hx | hx
    · exact ih x hx
    · have hk : ss[k]? = some x := by simpa using hx
      rcases h.2.2 k x hk with h' | h'
      · exact edge_in hr h'
      · exact two_in ih h'
theorem made_all {n : Int} {es : List Edg} {rk : List Int} {ss : List Sc} (hr : rightF n es = 0) (h : made n es rk ss) : ∀ x ∈ ss, inN n x := by
  have := made_in hr h ss.length
  rwa [List.take_length] at this

/-! ### In bytes -/
def encS (s : Sc) : List Int := if 0 ≤ s.edge then encN 0 ++ encN s.edge.toNat else encN 1 ++ (encN s.a.toNat ++ encN s.b.toNat)
def encSs (ss : List Sc) : List Int := ss.flatMap encS
def encR (rk : List Int) : List Int := rk.flatMap fun x => encN x.toNat
def encH (rk : List Int) (ss : List Sc) : List Int := encR rk ++ (encN ss.length ++ encSs ss)
theorem encSs_cons (s : Sc) (ss : List Sc) : encSs (s :: ss) = encS s ++ encSs ss := rfl
theorem encSs_snoc (ss : List Sc) (s : Sc) : encSs (ss ++ [s]) = encSs ss ++ encS s := by simp [encSs, List.flatMap_append]
theorem encR_cons (x : Int) (rk : List Int) : encR (x :: rk) = encN x.toNat ++ encR rk := rfl
theorem encR_snoc (rk : List Int) (x : Int) : encR (rk ++ [x]) = encR rk ++ encN x.toNat := by simp [encR, List.flatMap_append]
theorem encR_nat (l : List Nat) : encR (l.map fun (x : Nat) => (x : Int)) = encNs l := by
  induction l with
  | nil => rfl
  | cons x l ih => rw [List.map_cons, encR_cons, ih]; rfl

/-- What may be, with so many shortcuts. -/
def okH (n : Int) (es : List Edg) (rk : List Int) (ss : List Sc) : Prop := made n es rk ss ∧ ss.length ≤ 65536
/-- No hierarchy of the graph has these bytes. -/
def NoH (n : Int) (es : List Edg) (z : Nat → Int) (len : Nat) : Prop := ∀ rk ss, okH n es rk ss → ¬ Rest z len 0 (encH rk ss)
/-- A hierarchy with these bytes begins with these ranks. -/
def CandR (n : Int) (es : List Edg) (z : Nat → Int) (len : Nat) (rk : List Int) (p : Nat) : Prop :=
  ∀ rk0 ss0, okH n es rk0 ss0 → Rest z len 0 (encH rk0 ss0) → ∃ t, rk0 = rk ++ t ∧ Rest z len p (encR t ++ (encN ss0.length ++ encSs ss0))
def CandS (n : Int) (es : List Edg) (z : Nat → Int) (len : Nat) (rk : List Int) (m : Nat) (ss : List Sc) (p : Nat) : Prop :=
  ∀ rk0 ss0, okH n es rk0 ss0 → Rest z len 0 (encH rk0 ss0) → rk0 = rk ∧ ss0.length = m ∧ ∃ t, ss0 = ss ++ t ∧ Rest z len p (encSs t)
theorem candR_start (n : Int) (es : List Edg) (z : Nat → Int) (len : Nat) : CandR n es z len [] 0 := fun rk0 ss0 _ hR => ⟨rk0, rfl, hR⟩
theorem rank_nat {rk : List Int} (h : rankOk rk) (hl : rk.length ≤ 4096) {x : Int} (hx : x ∈ rk) : x.toNat < 18446744073709551616 ∧ 0 ≤ x ∧ x < (rk.length : Int) := by
  have := h.1 x hx
  omega
theorem candR_next {n : Int} {es : List Edg} {z : Nat → Int} {len : Nat} {rk : List Int} {p : Nat} (hn : n ≤ 4096) (hc : CandR n es z len rk p) (hk : (rk.length : Int) < n) {rk0 : List Int} {ss0 : List Sc} (ho : okH n es rk0 ss0) (hR : Rest z len 0 (encH rk0 ss0)) :
    ∃ x t, rk0 = rk ++ x :: t ∧ 0 ≤ x ∧ x < n ∧ x ∉ rk ∧ Tk z len p x.toNat (p + (encN x.toNat).length) ∧ Rest z len (p + (encN x.toNat).length) (encR t ++ (encN ss0.length ++ encSs ss0)) := by
  obtain ⟨t, e, r⟩ := hc rk0 ss0 ho hR
  have hl := ho.1.1
  cases t with
  | nil => rw [e, List.append_nil] at hl; omega
  | cons x t =>
    have hx : x ∈ rk0 := by rw [e]; simp
    have b := ho.1.2.1.1 x hx
    rw [encR_cons, List.append_assoc] at r
    obtain ⟨t1, r1⟩ := tk_of (by omega) r
    refine ⟨x, t, e, b.1, by omega, fun hm => ?_, t1, r1⟩
    have hnd := ho.1.2.1.2
    rw [e] at hnd
    exact (List.nodup_append.1 hnd).2.2 x hm x (by simp) rfl
theorem noR1 {n : Int} {es : List Edg} {z : Nat → Int} {len : Nat} {rk : List Int} {p : Nat} (hn : n ≤ 4096) (hc : CandR n es z len rk p) (hk : (rk.length : Int) < n) (h : ∀ x p', Tk z len p x p' → ¬ ((x : Int) < n)) : NoH n es z len := fun rk0 ss0 ho hR => by
  obtain ⟨x, t, _, b1, b2, _, t1, _⟩ := candR_next hn hc hk ho hR
  exact h _ _ t1 (by omega)
theorem noR2 {n : Int} {es : List Edg} {z : Nat → Int} {len : Nat} {rk : List Int} {p x p1 : Nat} (hn : n ≤ 4096) (hc : CandR n es z len rk p) (hk : (rk.length : Int) < n) (h : Tk z len p x p1) (hm : (x : Int) ∈ rk) : NoH n es z len := fun rk0 ss0 ho hR => by
  obtain ⟨y, t, _, b1, b2, b3, t1, _⟩ := candR_next hn hc hk ho hR
  have := (h.same t1).1
  exact b3 (by rw [show y = (x : Int) by omega]; exact hm)
theorem candR_step {n : Int} {es : List Edg} {z : Nat → Int} {len : Nat} {rk : List Int} {p x p1 : Nat} (hn : n ≤ 4096) (hc : CandR n es z len rk p) (hk : (rk.length : Int) < n) (h : Tk z len p x p1) : CandR n es z len (rk ++ [(x : Int)]) p1 := fun rk0 ss0 ho hR => by
  obtain ⟨y, t, e, b1, b2, b3, t1, r⟩ := candR_next hn hc hk ho hR
  obtain ⟨e1, e2⟩ := h.same t1
  subst e2
  refine ⟨t, ?_, r⟩
  rw [e, List.append_assoc, show y = (x : Int) by omega]
  rfl
theorem candR_end {n : Int} {es : List Edg} {z : Nat → Int} {len : Nat} {rk : List Int} {p : Nat} (hc : CandR n es z len rk p) (hk : (rk.length : Int) = n) {rk0 : List Int} {ss0 : List Sc} (ho : okH n es rk0 ss0) (hR : Rest z len 0 (encH rk0 ss0)) :
    rk0 = rk ∧ Rest z len p (encN ss0.length ++ encSs ss0) := by
  obtain ⟨t, e, r⟩ := hc rk0 ss0 ho hR
  have hl := ho.1.1
  cases t with
  | nil => exact ⟨by rw [e, List.append_nil], r⟩
  | cons x t => rw [e, List.length_append, List.length_cons] at hl; omega
theorem noM {n : Int} {es : List Edg} {z : Nat → Int} {len : Nat} {rk : List Int} {p : Nat} (hc : CandR n es z len rk p) (hk : (rk.length : Int) = n) (h : ∀ x p', Tk z len p x p' → ¬ (0 ≤ x ∧ x ≤ 65536)) : NoH n es z len := fun rk0 ss0 ho hR => by
  obtain ⟨_, r⟩ := candR_end hc hk ho hR
  have := ho.2
  exact h _ _ (tk_of (by omega) r).1 ⟨by omega, by omega⟩
theorem candM {n : Int} {es : List Edg} {z : Nat → Int} {len : Nat} {rk : List Int} {p m p1 : Nat} (hc : CandR n es z len rk p) (hk : (rk.length : Int) = n) (h : Tk z len p m p1) : CandS n es z len rk m [] p1 := fun rk0 ss0 ho hR => by
  obtain ⟨e, r⟩ := candR_end hc hk ho hR
  have := ho.2
  obtain ⟨t, r1⟩ := tk_of (by omega) r
  obtain ⟨e1, e2⟩ := h.same t
  subst e2
  exact ⟨e, e1.symm, ss0, rfl, r1⟩
theorem candS_next {n : Int} {es : List Edg} {z : Nat → Int} {len : Nat} {rk : List Int} {m : Nat} {ss : List Sc} {p : Nat} (hc : CandS n es z len rk m ss p) (hk : ss.length < m) {rk0 : List Int} {ss0 : List Sc} (ho : okH n es rk0 ss0) (hR : Rest z len 0 (encH rk0 ss0)) :
    ∃ s t, rk0 = rk ∧ ss0 = ss ++ s :: t ∧ (edgeOk es s ∨ twoOk rk ss s) ∧ Rest z len p (encS s ++ encSs t) := by
  obtain ⟨e1, e2, t, e, r⟩ := hc rk0 ss0 ho hR
  cases t with
  | nil => rw [e, List.append_nil] at e2; omega
  | cons s t =>
    refine ⟨s, t, e1, e, ?_, r⟩
    have := ho.1.2.2 ss.length s (by rw [e, List.getElem?_append_right (Nat.le_refl _), Nat.sub_self]; rfl)
    rw [e1, e, List.take_left' rfl] at this
    exact this
theorem encS_edge {es : List Edg} {s : Sc} (h : edgeOk es s) : encS s = encN 0 ++ encN s.edge.toNat := if_pos h.1
theorem encS_two {rk : List Int} {ah : List Sc} {s : Sc} (h : twoOk rk ah s) : encS s = encN 1 ++ (encN s.a.toNat ++ encN s.b.toNat) := if_neg (by rw [h.1]; decide)
theorem get_lt {α : Type} {l : List α} {i : Nat} {x : α} (h : l[i]? = some x) : i < l.length := (List.getElem?_eq_some_iff.1 h).1
/-- The next shortcut's kind is a number below 2. -/
theorem noS1 {n : Int} {es : List Edg} {z : Nat → Int} {len : Nat} {rk : List Int} {m : Nat} {ss : List Sc} {p : Nat} (hc : CandS n es z len rk m ss p) (hk : ss.length < m) (h : ∀ x p', Tk z len p x p' → ¬ ((x : Int) < 2)) : NoH n es z len := fun rk0 ss0 ho hR => by
  obtain ⟨s, t, _, _, hs, r⟩ := candS_next hc hk ho hR
  rcases hs with hs | hs
  · rw [encS_edge hs, List.append_assoc] at r
    exact h _ _ (tk_of (by decide) r).1 (by decide)
  · rw [encS_two hs, List.append_assoc] at r
    exact h _ _ (tk_of (by decide) r).1 (by decide)
/-- Behind a kind, what must come. -/
theorem candS_kind {n : Int} {es : List Edg} {z : Nat → Int} {len : Nat} {rk : List Int} {m : Nat} {ss : List Sc} {p kd p1 : Nat} (hc : CandS n es z len rk m ss p) (hk : ss.length < m) (h : Tk z len p kd p1) {rk0 : List Int} {ss0 : List Sc} (ho : okH n es rk0 ss0) (hR : Rest z len 0 (encH rk0 ss0)) :
    (kd = 0 ∧ ∃ s t, rk0 = rk ∧ ss0 = ss ++ s :: t ∧ edgeOk es s ∧ Rest z len p1 (encN s.edge.toNat ++ encSs t)) ∨
    (kd = 1 ∧ ∃ s t, rk0 = rk ∧ ss0 = ss ++ s :: t ∧ twoOk rk ss s ∧ Rest z len p1 (encN s.a.toNat ++ (encN s.b.toNat ++ encSs t))) := by
  obtain ⟨s, t, e1, e2, hs, r⟩ := candS_next hc hk ho hR
  rcases hs with hs | hs
  · rw [encS_edge hs, List.append_assoc] at r
    obtain ⟨t1, r1⟩ := tk_of (by decide) r
    obtain ⟨a1, a2⟩ := h.same t1
    subst a2
    exact .inl ⟨a1, s, t, e1, e2, hs, r1⟩
  · rw [encS_two hs, List.append_assoc] at r
    obtain ⟨t1, r1⟩ := tk_of (by decide) r
    obtain ⟨a1, a2⟩ := h.same t1
    subst a2
    rw [List.append_assoc] at r1
    exact .inr ⟨a1, s, t, e1, e2, hs, r1⟩
/-- The shortcut that is an edge. -/
def scE (e : Edg) (i : Nat) : Sc := ⟨e.1, e.2.1, e.2.2, i, -1, -1⟩
theorem edge_is {es : List Edg} {s : Sc} {e : Edg} (h : edgeOk es s) {i : Nat} (hi : s.edge.toNat = i) (he : es[i]? = some e) : s = scE e i := by
  obtain ⟨h1, h2, h3, h4⟩ := h
  rw [hi, he] at h4
  cases s
  cases h4
  simp only [scE, Sc.mk.injEq, true_and] at *
  exact ⟨by omega, h2, h3⟩
theorem edge_ok {es : List Edg} {e : Edg} {i : Nat} (he : es[i]? = some e) : edgeOk es (scE e i) := ⟨by simp [scE], rfl, rfl, by simp [scE]; exact he⟩
theorem noE {n : Int} {es : List Edg} {z : Nat → Int} {len : Nat} {rk : List Int} {m : Nat} {ss : List Sc} {p p1 : Nat} (hl : es.length ≤ 16384) (hc : CandS n es z len rk m ss p) (hk : ss.length < m) (h0 : Tk z len p 0 p1) (h : ∀ x p', Tk z len p1 x p' → ¬ ((x : Int) < (es.length : Int))) : NoH n es z len := fun rk0 ss0 ho hR => by
  rcases candS_kind hc hk h0 ho hR with ⟨_, s, t, _, _, hs, r⟩ | ⟨h1, _⟩
  · have := get_lt hs.2.2.2
    exact h _ _ (tk_of (by omega) r).1 (by omega)
  · omega
theorem candE {n : Int} {es : List Edg} {z : Nat → Int} {len : Nat} {rk : List Int} {m : Nat} {ss : List Sc} {p p1 i p2 : Nat} {e : Edg} (hl : es.length ≤ 16384) (hc : CandS n es z len rk m ss p) (hk : ss.length < m) (h0 : Tk z len p 0 p1) (h1 : Tk z len p1 i p2) (he : es[i]? = some e) : CandS n es z len rk m (ss ++ [scE e i]) p2 := fun rk0 ss0 ho hR => by
  have hm := (hc rk0 ss0 ho hR).2.1
  rcases candS_kind hc hk h0 ho hR with ⟨_, s, t, e1, e2, hs, r⟩ | ⟨h1, _⟩
  · have := get_lt hs.2.2.2
    obtain ⟨t1, r1⟩ := tk_of (by omega) r
    obtain ⟨a1, a2⟩ := h1.same t1
    subst a2
    have := edge_is hs a1.symm he
    subst this
    exact ⟨e1, hm, t, by rw [e2, List.append_assoc]; rfl, r1⟩
  · omega
/-- The shortcut that is two others. -/
def scT (x y : Sc) (i j : Nat) : Sc := ⟨x.from', y.to', wrapW (x.w + y.w), -1, i, j⟩
theorem two_is {rk : List Int} {ah : List Sc} {s x y : Sc} (h : twoOk rk ah s) {i j : Nat} (hi : s.a.toNat = i) (hj : s.b.toNat = j) (hx : ah[i]? = some x) (hy : ah[j]? = some y) : s = scT x y i j := by
  obtain ⟨h1, h2, h3, h4, x', y', hx', hy', e1, e2, e3, e4, _⟩ := h
  rw [hi, hx] at hx'
  rw [hj, hy] at hy'
  cases hx'
  cases hy'
  cases s
  simp only [scT, Sc.mk.injEq] at *
  exact ⟨e1.symm, e3.symm, e4.symm, h1, by omega, by omega⟩
/-- Do two meet at a lesser node? -/
def meetsB (rk : List Int) (x y : Sc) : Bool := decide (x.to' = y.from' ∧ x.from' ≠ y.to' ∧ rk.getD x.to'.toNat 0 < min (rk.getD x.from'.toNat 0) (rk.getD y.to'.toNat 0))
theorem two_ok {rk : List Int} {ah : List Sc} {x y : Sc} {i j : Nat} (hx : ah[i]? = some x) (hy : ah[j]? = some y) (hm : meetsB rk x y = true) : twoOk rk ah (scT x y i j) := by
  obtain ⟨m1, m2, m3⟩ := of_decide_eq_true hm
  exact ⟨rfl, by simp [scT], by simp [scT], m2, x, y, by simp [scT]; exact hx, by simp [scT]; exact hy, rfl, m1, rfl, rfl, m3⟩
theorem two_meets {rk : List Int} {ah : List Sc} {x y : Sc} {i j : Nat} (hx : ah[i]? = some x) (hy : ah[j]? = some y) (h : twoOk rk ah (scT x y i j)) : meetsB rk x y = true := by
  obtain ⟨h1, h2, h3, h4, x', y', hx', hy', e1, e2, e3, e4, e5⟩ := h
  simp only [scT, Int.toNat_natCast] at hx' hy'
  rw [hx] at hx'
  rw [hy] at hy'
  cases hx'
  cases hy'
  exact decide_eq_true ⟨e2, h4, e5⟩
theorem noT1 {n : Int} {es : List Edg} {z : Nat → Int} {len : Nat} {rk : List Int} {m : Nat} {ss : List Sc} {p p1 : Nat} (hc : CandS n es z len rk m ss p) (hk : ss.length < m) (h0 : Tk z len p 1 p1) (h : ∀ x p', Tk z len p1 x p' → ¬ ((x : Int) < (ss.length : Int))) : NoH n es z len := fun rk0 ss0 ho hR => by
  have hm := (hc rk0 ss0 ho hR).2.1
  have hb := ho.2
  rcases candS_kind hc hk h0 ho hR with ⟨h1, _⟩ | ⟨_, s, t, _, _, hs, r⟩
  · omega
  · obtain ⟨_, _, _, _, x, y, hx, hy, _⟩ := hs
    have := get_lt hx
    exact h _ _ (tk_of (by omega) r).1 (by omega)
theorem noT2 {n : Int} {es : List Edg} {z : Nat → Int} {len : Nat} {rk : List Int} {m : Nat} {ss : List Sc} {p p1 i p2 : Nat} (hc : CandS n es z len rk m ss p) (hk : ss.length < m) (h0 : Tk z len p 1 p1) (h1 : Tk z len p1 i p2) (h : ∀ x p', Tk z len p2 x p' → ¬ ((x : Int) < (ss.length : Int))) : NoH n es z len := fun rk0 ss0 ho hR => by
  have hm := (hc rk0 ss0 ho hR).2.1
  have hb := ho.2
  rcases candS_kind hc hk h0 ho hR with ⟨h1, _⟩ | ⟨_, s, t, _, _, hs, r⟩
  · omega
  · obtain ⟨_, _, _, _, x, y, hx, hy, _⟩ := hs
    have a := get_lt hx
    have b := get_lt hy
    obtain ⟨t1, r1⟩ := tk_of (by omega) r
    obtain ⟨_, a2⟩ := h1.same t1
    subst a2
    exact h _ _ (tk_of (by omega) r1).1 (by omega)
theorem candT' {n : Int} {es : List Edg} {z : Nat → Int} {len : Nat} {rk : List Int} {m : Nat} {ss : List Sc} {p p1 i p2 j p3 : Nat} {x y : Sc} (hc : CandS n es z len rk m ss p) (hk : ss.length < m) (h0 : Tk z len p 1 p1) (h1 : Tk z len p1 i p2) (h2 : Tk z len p2 j p3) (hx : ss[i]? = some x) (hy : ss[j]? = some y) {rk0 : List Int} {ss0 : List Sc} (ho : okH n es rk0 ss0) (hR : Rest z len 0 (encH rk0 ss0)) :
    meetsB rk x y = true ∧ rk0 = rk ∧ ss0.length = m ∧ ∃ t, ss0 = ss ++ scT x y i j :: t ∧ Rest z len p3 (encSs t) := by
  have hm := (hc rk0 ss0 ho hR).2.1
  have hb := ho.2
  rcases candS_kind hc hk h0 ho hR with ⟨h1, _⟩ | ⟨_, s, t, e1, e2, hs, r⟩
  · omega
  · obtain ⟨_, _, _, _, x', y', hx', hy', _⟩ := id hs
    have a := get_lt hx'
    have b := get_lt hy'
    obtain ⟨t1, r1⟩ := tk_of (by omega) r
    obtain ⟨a1, a2⟩ := h1.same t1
    subst a2
    obtain ⟨t2, r2⟩ := tk_of (by omega) r1
    obtain ⟨a3, a4⟩ := h2.same t2
    subst a4
    have := two_is hs a1.symm a3.symm hx hy
    subst this
    exact ⟨two_meets hx hy hs, e1, hm, t, e2, r2⟩
theorem noT3 {n : Int} {es : List Edg} {z : Nat → Int} {len : Nat} {rk : List Int} {m : Nat} {ss : List Sc} {p p1 i p2 j p3 : Nat} {x y : Sc} (hc : CandS n es z len rk m ss p) (hk : ss.length < m) (h0 : Tk z len p 1 p1) (h1 : Tk z len p1 i p2) (h2 : Tk z len p2 j p3) (hx : ss[i]? = some x) (hy : ss[j]? = some y) (hm : meetsB rk x y = false) : NoH n es z len := fun rk0 ss0 ho hR => by
  have := (candT' hc hk h0 h1 h2 hx hy ho hR).1
  rw [hm] at this
  cases this
theorem candT {n : Int} {es : List Edg} {z : Nat → Int} {len : Nat} {rk : List Int} {m : Nat} {ss : List Sc} {p p1 i p2 j p3 : Nat} {x y : Sc} (hc : CandS n es z len rk m ss p) (hk : ss.length < m) (h0 : Tk z len p 1 p1) (h1 : Tk z len p1 i p2) (h2 : Tk z len p2 j p3) (hx : ss[i]? = some x) (hy : ss[j]? = some y) : CandS n es z len rk m (ss ++ [scT x y i j]) p3 := fun rk0 ss0 ho hR => by
  obtain ⟨_, e1, hm, t, e2, r⟩ := candT' hc hk h0 h1 h2 hx hy ho hR
  exact ⟨e1, hm, t, by rw [e2, List.append_assoc]; rfl, r⟩
theorem candS_all {n : Int} {es : List Edg} {z : Nat → Int} {len : Nat} {rk : List Int} {m : Nat} {ss : List Sc} {p : Nat} (hc : CandS n es z len rk m ss p) (hm : ss.length = m) : ∀ rk0 ss0, okH n es rk0 ss0 → Rest z len 0 (encH rk0 ss0) → rk0 = rk ∧ ss0 = ss ∧ p = len := fun rk0 ss0 ho hR => by
  obtain ⟨e1, e2, t, e, r⟩ := hc rk0 ss0 ho hR
  cases t with
  | nil => exact ⟨e1, by rw [e, List.append_nil], by have := r.2; simpa [encSs] using this⟩
  | cons x t => rw [e] at e2; simp at e2; omega

/-! ### What was read -/
def HadR (z : Nat → Int) (rk : List Int) (p : Nat) : Prop := At z 0 (encR rk) ∧ p = (encR rk).length
def HadS (z : Nat → Int) (rk : List Int) (m : Nat) (ss : List Sc) (p : Nat) : Prop := At z 0 (encR rk ++ (encN m ++ encSs ss)) ∧ p = (encR rk ++ (encN m ++ encSs ss)).length
theorem hadR_start (z : Nat → Int) : HadR z [] 0 := ⟨At.nil _ _, rfl⟩
theorem at_more {z : Nat → Int} {p : Nat} {l m : List Int} (h : At z 0 l) (hp : p = l.length) (h' : At z p m) : At z 0 (l ++ m) ∧ p + m.length = (l ++ m).length := by
  subst hp
  exact ⟨h.append (by rw [Nat.zero_add]; exact h'), by rw [List.length_append]⟩
theorem hadR_step {z : Nat → Int} {len : Nat} {rk : List Int} {p x p1 : Nat} (hz : ∀ i, i < len → 0 ≤ z i ∧ z i ≤ 255) (h : HadR z rk p) (h1 : Tk z len p x p1) : HadR z (rk ++ [(x : Int)]) p1 := by
  obtain ⟨a1, a2, _⟩ := tk_back hz h1
  obtain ⟨g1, g2⟩ := at_more h.1 h.2 a1
  unfold HadR
  rw [encR_snoc]
  exact ⟨g1, by rw [a2]; exact g2⟩
theorem hadM {z : Nat → Int} {len : Nat} {rk : List Int} {p m p1 : Nat} (hz : ∀ i, i < len → 0 ≤ z i ∧ z i ≤ 255) (h : HadR z rk p) (h1 : Tk z len p m p1) : HadS z rk m [] p1 := by
  obtain ⟨a1, a2, _⟩ := tk_back hz h1
  obtain ⟨g1, g2⟩ := at_more h.1 h.2 a1
  have e : encN m ++ encSs [] = encN m := List.append_nil _
  unfold HadS
  rw [e]
  exact ⟨g1, by rw [a2]; exact g2⟩
theorem hadE {z : Nat → Int} {len : Nat} {rk : List Int} {m : Nat} {ss : List Sc} {p p1 i p2 : Nat} {e : Edg} (hz : ∀ i, i < len → 0 ≤ z i ∧ z i ≤ 255) (h : HadS z rk m ss p) (h0 : Tk z len p 0 p1) (h1 : Tk z len p1 i p2) : HadS z rk m (ss ++ [scE e i]) p2 := by
  obtain ⟨a1, a2, _⟩ := tk_back hz h0
  obtain ⟨b1, b2, _⟩ := tk_back hz h1
  obtain ⟨g1, g2⟩ := at_more h.1 h.2 a1
  obtain ⟨g3, g4⟩ := at_more g1 (by rw [a2]; exact g2) b1
  have e : encR rk ++ (encN m ++ encSs (ss ++ [scE e i])) = encR rk ++ (encN m ++ encSs ss) ++ encN 0 ++ encN i := by
    rw [encSs_snoc]
    simp [encS, scE, List.append_assoc]
  unfold HadS
  rw [e]
  exact ⟨g3, by rw [b2]; exact g4⟩
theorem hadT {z : Nat → Int} {len : Nat} {rk : List Int} {m : Nat} {ss : List Sc} {p p1 i p2 j p3 : Nat} {x y : Sc} (hz : ∀ i, i < len → 0 ≤ z i ∧ z i ≤ 255) (h : HadS z rk m ss p) (h0 : Tk z len p 1 p1) (h1 : Tk z len p1 i p2) (h2 : Tk z len p2 j p3) : HadS z rk m (ss ++ [scT x y i j]) p3 := by
  obtain ⟨a1, a2, _⟩ := tk_back hz h0
  obtain ⟨b1, b2, _⟩ := tk_back hz h1
  obtain ⟨c1, c2, _⟩ := tk_back hz h2
  obtain ⟨g1, g2⟩ := at_more h.1 h.2 a1
  obtain ⟨g3, g4⟩ := at_more g1 (by rw [a2]; exact g2) b1
  obtain ⟨g5, g6⟩ := at_more g3 (by rw [b2]; exact g4) c1
  have e : encR rk ++ (encN m ++ encSs (ss ++ [scT x y i j])) = encR rk ++ (encN m ++ encSs ss) ++ encN 1 ++ encN i ++ encN j := by
    rw [encSs_snoc]
    simp [encS, scT, List.append_assoc]
  unfold HadS
  rw [e]
  exact ⟨g5, by rw [c2]; exact g6⟩
theorem hadS_all {z : Nat → Int} {len : Nat} {rk : List Int} {m p : Nat} {ss : List Sc} (h : HadS z rk m ss p) (hm : ss.length = m) (hp : p = len) : Rest z len 0 (encH rk ss) := by
  obtain ⟨g1, g2⟩ := h
  have e : encH rk ss = encR rk ++ (encN m ++ encSs ss) := by unfold encH; rw [hm]
  exact ⟨by rw [e]; exact g1, by rw [e]; omega⟩
end Go.Proofs.Ytjbjomodponapaa
