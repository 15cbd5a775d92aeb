/- The graph of some nodes: plain, and the document's walk. -/
import Derived.Test.YtiialiifjhgcmaaDeg
namespace Go.Proofs.Ytiialiifjhgcmaa
open Go.RowKit

def idxK (kp : Nat → Bool) : Nat → Nat
  | 0 => 0
  | v + 1 => if kp v = true then idxK kp v + 1 else idxK kp v
def wasL (kp : Nat → Bool) : Nat → List Int
  | 0 => []
  | v + 1 => if kp v = true then wasL kp v ++ [(v : Int)] else wasL kp v
theorem wasL_length (kp : Nat → Bool) : ∀ k, (wasL kp k).length = idxK kp k
  | 0 => rfl
  | k + 1 => by
    rw [wasL, idxK]
    by_cases h : kp k = true
    · rw [if_pos h, if_pos h, List.length_append, wasL_length kp k]; rfl
    · rw [if_neg h, if_neg h, wasL_length kp k]
theorem idxK_le (kp : Nat → Bool) : ∀ k, idxK kp k ≤ k
  | 0 => Nat.le_refl _
  | k + 1 => by
    have := idxK_le kp k
    rw [idxK]; split <;> omega
def subOne (kp : Nat → Bool) (e : Edg) : List Edg := if (kp e.1.toNat && kp e.2.1.toNat) = true then [((idxK kp e.1.toNat : Int), (idxK kp e.2.1.toNat : Int), e.2.2)] else []
def subE (kp : Nat → Bool) (es : List Edg) : List Edg := es.flatMap (subOne kp)
theorem subE_step (kp : Nat → Bool) (es : List Edg) (k : Nat) (e : Edg) (h : es[k]? = some e) : subE kp (es.take (k + 1)) = subE kp (es.take k) ++ subOne kp e := by
  rw [List.take_add_one, h]; simp [subE]
theorem subE_len (kp : Nat → Bool) (es : List Edg) : (subE kp es).length ≤ es.length := by
  induction es with
  | nil => simp [subE]
  | cons e es ih =>
    have h1 : (subOne kp e).length ≤ 1 := by unfold subOne; split <;> simp
    simp only [subE, List.flatMap_cons, List.length_append, List.length_cons] at ih ⊢
    omega

/-- The truths kp lie from K on. -/
def RowB (w : World) (K : Option Addr) (m : Nat) (kp : Nat → Bool) : Prop := ∀ i, i < m → ∃ b off, K = some ⟨b, off, none⟩ ∧ b < w.heap.size ∧ w.cell? ⟨b, off + i, none⟩ = some (.bool (kp i))
theorem RowB.kept {F : Nat → Prop} {w w' : World} {A : Option Addr} {m : Nat} {kp : Nat → Bool} (h : RowB w A m kp) (hK : Kept F w w') (hF : ∀ a, A = some a → ¬ F a.block) : RowB w' A m kp := by
  intro i hi
  obtain ⟨b, off, hA, hb, h0⟩ := h i hi
  exact ⟨b, off, hA, Nat.lt_of_lt_of_le hb hK.size, hK.cell h0 (hF ⟨b, off, none⟩ hA)⟩
theorem RowB.grew {w w' : World} {A : Option Addr} {m : Nat} {kp : Nat → Bool} (h : RowB w A m kp) (hK : Grew w w') : RowB w' A m kp := h.kept hK fun _ _ h => h

/-- v is a slice of the call's own that holds the numbers zs. -/
def IntsO (w : World) (B : Nat) (v : Value) (zs : List Int) : Prop := w.ownsRow B 3 1 v zs.length (zs.map i64)
theorem IntsO.row {w : World} {B : Nat} {v : Value} {zs : List Int} (h : IntsO w B v zs) : ∃ A c, v = .slice A zs.length c ∧ RowI w A zs := by
  rcases Nat.eq_zero_or_pos zs.length with h0 | h0
  · obtain ⟨A, c, hv⟩ := own_slice h
    refine ⟨A, c, hv, ?_⟩
    rw [List.length_eq_zero_iff.1 h0]
    exact RowI.nil _ _
  · obtain ⟨g, c, rfl⟩ := own_form h h0
    refine ⟨_, c, rfl, fun i e he => ?_⟩
    have hi := (List.getElem?_eq_some_iff.1 he).1
    refine ⟨g, 0, rfl, (h.lt g rfl).2, ?_⟩
    rw [Nat.zero_add]
    exact (World.ownsRow.cellAt h i (by omega)).trans (by rw [List.getElem?_map, he]; rfl)

def subNo (n m : Int) (es : List Edg) : Bool := decide (¬ (rightF n es = 0 ∧ m = n))
/-- What Sub answers. -/
def SubE (n : Int) (es : List Edg) (kp : Nat → Bool) (m : Nat) (e : Ending) (w w' : World) : Prop :=
  ∃ v u, e = .returned (.tuple #[.agg #[i64 (if rightF n es = 0 ∧ (m : Int) = n then (idxK kp m : Int) else 0), v], u]) ∧
    Edges w' w.heap.size v (if rightF n es = 0 ∧ (m : Int) = n then subE kp es else []) ∧ IntsO w' w.heap.size u (if rightF n es = 0 ∧ (m : Int) = n then wasL kp m else []) ∧ Grew w w'


set_option maxHeartbeats 1000000 in
theorem refSub_no1 (n : Int) (A K : Option Addr) (c d m : Nat) (es : List Edg) (kp : Nat → Bool) (w : World) (h : RowE w A es) (hl : es.length ≤ 100000) (hm : m ≤ 100000) (hr : ¬ rightF n es = 0) :
    Calls Try.prog 26 #[.agg #[i64 n, .slice A es.length c], .slice K m d] w fun e w' => SubE n es kp m e w w' := by
  have b0 : Blk ((w.alloc (.cells #[i64 n, .slice A es.length c] 24)).alloc (.cells #[i64 0, .slice none 0 0] 24)) w.heap.size 24 #[i64 n, .slice A es.length c] := (Blk.new w _ _).alloc _
  have b1 : Blk ((w.alloc (.cells #[i64 n, .slice A es.length c] 24)).alloc (.cells #[i64 0, .slice none 0 0] 24)) (w.heap.size + 1) 24 #[i64 0, .slice none 0 0] := by
    have h := Blk.new (w.alloc (.cells #[i64 n, .slice A es.length c] 24)) 24 #[i64 0, .slice none 0 0]
    rw [World.size_alloc] at h; exact h
  have hK0 : Grew w ((w.alloc (.cells #[i64 n, .slice A es.length c] 24)).alloc (.cells #[i64 0, .slice none 0 0] 24)) := ((Kept.refl _ _).alloc _).alloc _
  have hE := Lib.hid (h.grew hK0)
  have hC := Lib.hid (refRight_any n A c es _ (h.grew hK0) hl)
  have hS : Hid (∀ W, Grew w W → SubE n es kp m (.returned (.tuple #[.agg #[i64 0, .slice none 0 0], .slice none 0 0])) w W) := by
    intro W k
    unfold SubE
    have hx : ¬ (rightF n es = 0 ∧ (m : Int) = n) := fun hh => hr hh.1
    simp only [hx, if_false]
    exact ⟨_, _, rfl, World.ownsRow_nil _ _ _ _, World.ownsRow_nil _ _ _ _, k⟩
  obtain ⟨f, hf⟩ : ∃ f, rightF n es = f := ⟨_, rfl⟩
  rw [hf] at hC hr
  have hb : (f == 0) = false := by simpa using hr
  have hb' : (f != 0) = true := by simpa using hr
  clear hf
  obtain ⟨L, hL⟩ : ∃ L, es.length = L := ⟨_, rfl⟩
  rw [hL] at b0 b1 hK0 hC
  rw [hL]
  clear h hr hL hl hE
  have c0 := b0.cell 0
  have c1 := b0.cell 1
  simp at c0 c1
  go_enter Try.func26, Try.ntmps26
  go_wp2_with fail
  refine hC.out.mono ?_
  rintro e w1 ⟨rfl, k1⟩
  replace b0 := b0.grew k1
  replace c0 := b0.cell 0
  replace c1 := b0.cell 1
  simp at c0 c1
  replace b1 := b1.grew k1
  have d0 := b1.cell 0
  have d1 := b1.cell 1
  have f0 := b1.frozen 0
  have f1 := b1.frozen 1
  simp at d0 d1
  have q0 := ((b1.set 0 (i64 0)).set 1 (.slice none 0 0)).cell 0
  have q1 := ((b1.set 0 (i64 0)).set 1 (.slice none 0 0)).cell 1
  simp at q0 q1
  go_wp2_with fail
  refine bodyPost_ret (v := .tuple #[.agg #[i64 0, .slice none 0 0], .slice none 0 0]) (by simp [results, Try.results26, go_sem, q0, q1]) rfl (hS.out _ ?_)
  have hF : Kept (· = w.heap.size + 1) w1 ((w1.setCell ⟨w.heap.size + 1, 0, none⟩ (i64 0)).setCell ⟨w.heap.size + 1, 1, none⟩ (.slice none 0 0)) := ((Kept.refl (· = w.heap.size + 1) w1).setCell (p := ⟨w.heap.size + 1, 0, none⟩) (.inl rfl) _).setCell (p := ⟨w.heap.size + 1, 1, none⟩) (.inl rfl) _
  exact (hK0.trans k1).then hF (fun i hi h => by have : i = w.heap.size + 1 := h; omega)

set_option maxHeartbeats 1000000 in
theorem refSub_no2 (n : Int) (A K : Option Addr) (c d m : Nat) (es : List Edg) (kp : Nat → Bool) (w : World) (h : RowE w A es) (hl : es.length ≤ 100000) (hm : m ≤ 100000) (hr : rightF n es = 0 ∧ ¬ (m : Int) = n) :
    Calls Try.prog 26 #[.agg #[i64 n, .slice A es.length c], .slice K m d] w fun e w' => SubE n es kp m e w w' := by
  have b0 : Blk ((w.alloc (.cells #[i64 n, .slice A es.length c] 24)).alloc (.cells #[i64 0, .slice none 0 0] 24)) w.heap.size 24 #[i64 n, .slice A es.length c] := (Blk.new w _ _).alloc _
  have b1 : Blk ((w.alloc (.cells #[i64 n, .slice A es.length c] 24)).alloc (.cells #[i64 0, .slice none 0 0] 24)) (w.heap.size + 1) 24 #[i64 0, .slice none 0 0] := by
    have h := Blk.new (w.alloc (.cells #[i64 n, .slice A es.length c] 24)) 24 #[i64 0, .slice none 0 0]
    rw [World.size_alloc] at h; exact h
  have hK0 : Grew w ((w.alloc (.cells #[i64 n, .slice A es.length c] 24)).alloc (.cells #[i64 0, .slice none 0 0] 24)) := ((Kept.refl _ _).alloc _).alloc _
  have hE := Lib.hid (h.grew hK0)
  have hC := Lib.hid (refRight_any n A c es _ (h.grew hK0) hl)
  have hS : Hid (∀ W, Grew w W → SubE n es kp m (.returned (.tuple #[.agg #[i64 0, .slice none 0 0], .slice none 0 0])) w W) := by
    intro W k
    unfold SubE
    have hx : ¬ (rightF n es = 0 ∧ (m : Int) = n) := fun hh => hr.2 hh.2
    simp only [hx, if_false]
    exact ⟨_, _, rfl, World.ownsRow_nil _ _ _ _, World.ownsRow_nil _ _ _ _, k⟩
  rw [hr.1] at hC
  have hb : ((m : Int) == n) = false := by simpa using hr.2
  have hb' : ((m : Int) != n) = true := by simpa using hr.2
  obtain ⟨L, hL⟩ : ∃ L, es.length = L := ⟨_, rfl⟩
  rw [hL] at b0 b1 hK0 hC
  rw [hL]
  clear h hr hL hl hE
  have c0 := b0.cell 0
  have c1 := b0.cell 1
  simp at c0 c1
  go_enter Try.func26, Try.ntmps26
  go_wp2_with fail
  refine hC.out.mono ?_
  rintro e w1 ⟨rfl, k1⟩
  replace b0 := b0.grew k1
  replace c0 := b0.cell 0
  replace c1 := b0.cell 1
  simp at c0 c1
  replace b1 := b1.grew k1
  have d0 := b1.cell 0
  have d1 := b1.cell 1
  have f0 := b1.frozen 0
  have f1 := b1.frozen 1
  simp at d0 d1
  have q0 := ((b1.set 0 (i64 0)).set 1 (.slice none 0 0)).cell 0
  have q1 := ((b1.set 0 (i64 0)).set 1 (.slice none 0 0)).cell 1
  simp at q0 q1
  go_wp2_with fail
  refine bodyPost_ret (v := .tuple #[.agg #[i64 0, .slice none 0 0], .slice none 0 0]) (by simp [results, Try.results26, go_sem, q0, q1]) rfl (hS.out _ ?_)
  have hF : Kept (· = w.heap.size + 1) w1 ((w1.setCell ⟨w.heap.size + 1, 0, none⟩ (i64 0)).setCell ⟨w.heap.size + 1, 1, none⟩ (.slice none 0 0)) := ((Kept.refl (· = w.heap.size + 1) w1).setCell (p := ⟨w.heap.size + 1, 0, none⟩) (.inl rfl) _).setCell (p := ⟨w.heap.size + 1, 1, none⟩) (.inl rfl) _
  exact (hK0.trans k1).then hF (fun i hi h => by have : i = w.heap.size + 1 := h; omega)


set_option maxHeartbeats 4000000 in
set_option maxRecDepth 100000 in
theorem refSub_yes (m : Nat) (A K : Option Addr) (c d : Nat) (es : List Edg) (kp : Nat → Bool) (w : World) (h : RowE w A es) (hk : RowB w K m kp) (hl : es.length ≤ 100000) (hr : rightF m es = 0) :
    Calls Try.prog 26 #[.agg #[i64 (m : Int), .slice A es.length c], .slice K m d] w fun e w' => SubE m es kp m e w w' := by
  obtain ⟨n, hnm⟩ : ∃ n : Int, (m : Int) = n := ⟨_, rfl⟩
  have b0 : Blk ((w.alloc (.cells #[i64 (m : Int), .slice A es.length c] 24)).alloc (.cells #[i64 0, .slice none 0 0] 24)) w.heap.size 24 #[i64 (m : Int), .slice A es.length c] := (Blk.new w _ _).alloc _
  have b1 : Blk ((w.alloc (.cells #[i64 (m : Int), .slice A es.length c] 24)).alloc (.cells #[i64 0, .slice none 0 0] 24)) (w.heap.size + 1) 24 #[i64 0, .slice none 0 0] := by
    have h := Blk.new (w.alloc (.cells #[i64 (m : Int), .slice A es.length c] 24)) 24 #[i64 0, .slice none 0 0]
    rw [World.size_alloc] at h; exact h
  have hK0 : Grew w ((w.alloc (.cells #[i64 (m : Int), .slice A es.length c] 24)).alloc (.cells #[i64 0, .slice none 0 0] 24)) := ((Kept.refl _ _).alloc _).alloc _
  have hE := Lib.hid (h.grew hK0)
  have hC := Lib.hid (refRight_any (m : Int) A c es _ (h.grew hK0) hl)
  have hS : Hid (∀ W v u, Edges W w.heap.size v (subE kp es) → IntsO W w.heap.size u (wasL kp m) → Grew w W → SubE m es kp m (.returned (.tuple #[.agg #[i64 (idxK kp m : Int), v], u])) w W) := by
    intro W v u h1 h2 k
    unfold SubE
    have hx : (rightF m es = 0 ∧ (m : Int) = (m : Int)) := ⟨hr, rfl⟩
    simp only [hx, and_self, if_true]
    exact ⟨v, u, rfl, h1, h2, k⟩
  have hl2 := (right_zero hr).2.2.1
  have hn1 := (right_zero hr).1
  have hn2 := (right_zero hr).2.1
  have hz := Lib.hid (right_zero hr).2.2.2
  rw [hr] at hC
  have hEw := Lib.hid h
  have hBw := Lib.hid hk
  obtain ⟨L, hL⟩ : ∃ L, es.length = L := ⟨_, rfl⟩
  have HL := Lib.hid hL
  rw [hL] at b0 b1 hK0 hC hE hl2
  rw [hL]
  clear hr hL hl h hk hnm n
  obtain ⟨i0, hi, hz0, hz1, hz2⟩ := info_parts info_int
  obtain ⟨i1, hi1, hy0, hy1, hy2⟩ := info_parts info_edge
  have hmk := fun W => run_make (P := Try.prog) W 33 3 i0 _ Try.underlying33 hi hz0 .i64 .i64 (m : Int) (m : Int) (by omega) (Int.le_refl _) (by rw [hz2]; omega) (by omega)
  simp only [Int.toNat_natCast, hz1, Nat.mul_one] at hmk
  have c0 := b0.cell 0
  have c1 := b0.cell 1
  simp at c0 c1
  go_enter Try.func26, Try.ntmps26
  go_wp2_with fail
  refine hC.out.mono ?_
  rintro e w1 ⟨rfl, k1⟩
  replace b0 := b0.grew k1
  replace b1 := b1.grew k1
  replace c0 := b0.cell 0
  replace c1 := b0.cell 1
  simp at c0 c1
  have hK1 := hK0.trans k1
  have hs1 := k1.size
  simp at hs1
  have bA := Blk.new w1 3 (madeCells #[i64 0] m)
  have hKA := hK1.alloc (.cells (madeCells #[i64 0] m) 3)
  replace b0 := b0.alloc (.cells (madeCells #[i64 0] m) 3)
  replace b1 := b1.alloc (.cells (madeCells #[i64 0] m) 3)
  have hat : Hid (∃ cs, Blk (w1.alloc (.cells (madeCells #[i64 0] m) 3)) w1.heap.size 3 cs ∧ cs.size = m ∧ ∀ i, i < 0 → cs[i]? = some (i64 (idxK kp i : Int))) := ⟨_, bA, by rw [size_madeCells], fun i hi => by omega⟩
  clear hE hK0 hC bA hK1 k1
  go_wp2_with fail
  go_loopw [6, 8] (fun x i wr => ∃ (k : Nat), k ≤ m ∧ i = .int .i64 k ∧ (∃ A c, x = .slice A (idxK kp k) c) ∧ Hid (IntsO wr (w1.heap.size + 1) x (wasL kp k)) ∧ Hid (∃ cs, Blk wr w1.heap.size 3 cs ∧ cs.size = m ∧ ∀ i, i < k → cs[i]? = some (i64 (idxK kp i : Int))) ∧ Blk wr w.heap.size 24 #[i64 (m : Int), .slice A L c] ∧ Blk wr (w.heap.size + 1) 24 #[i64 0, .slice none 0 0] ∧ Grew w wr) (fun x i _ => m - (intOf i).toNat)
  case atStart => exact ⟨0, by omega, rfl, ⟨none, 0, rfl⟩, World.ownsRow_nil _ _ _ _, hat, b0, b1, hKA⟩
  case round =>
    clear hat b0 b1 hKA c0 c1
    obtain ⟨k, hk, rfl, ⟨X, cx, rfl⟩, hwas, hat, b0, b1, hK⟩ := hrel
    have c0 := b0.cell 0
    have c1 := b0.cell 1
    simp at c0 c1
    by_cases hlt : k < m
    · obtain ⟨bk, ok, hKe, hbk, e0⟩ := (hBw.out.grew hK) k hlt
      have hbw : bk < w.heap.size := by
        obtain ⟨b', off', hA', hb', _⟩ := hBw.out k hlt
        rw [hKe] at hA'
        cases hA'
        exact hb'
      obtain ⟨cs, bA, hcs, hcv⟩ := hat.out
      obtain ⟨y, hy⟩ : ∃ y, cs[k]? = some y := ⟨_, Array.getElem?_eq_getElem (by omega)⟩
      have a0 := (bA.cell k).trans hy
      have af := bA.frozen k
      have hcs' := Lib.hid hcs
      have hcv' := Lib.hid hcv
      have hk0 : (0 : Int) ≤ (k : Int) := by omega
      have hk1 : (k : Int) < (m : Int) := by omega
      subst hKe
      have hn1 : ¬ bk = w1.heap.size := by omega
      have hn2 : ¬ w1.heap.size = bk := by omega
      have hn3 : ¬ w.heap.size = w1.heap.size := by omega
      have hn4 : ¬ w1.heap.size = w.heap.size := by omega
      have hqk := idxK_le kp k
      have hw1 : w1.heap.size < wr.heap.size := bA.lt
      have HO : Hid (World.ownsRow wr (w1.heap.size + 1) 3 1 (.slice X (idxK kp k) cx) (idxK kp k) ((wasL kp k).map i64)) := by
        have h := hwas.out
        unfold IntsO at h
        rw [wasL_length] at h
        exact h
      have hXl := Lib.hid HO.out.lt
      have HO2 : Hid (World.ownsRow (wr.setCell ⟨w1.heap.size, k, none⟩ (i64 (idxK kp k : Int))) (w1.heap.size + 1) 3 1 (.slice X (idxK kp k) cx) (idxK kp k) ((wasL kp k).map i64)) :=
        Kept.own ((Kept.refl (· = w1.heap.size) wr).setCell (p := ⟨w1.heap.size, k, none⟩) (.inl rfl) _) HO.out (fun j hj h => by have := (hXl.out j hj).1; have h' : j = w1.heap.size := h; omega)
      have bA2 : Hid (∃ cs, Blk (wr.setCell ⟨w1.heap.size, k, none⟩ (i64 (idxK kp k : Int))) w1.heap.size 3 cs ∧ cs.size = m ∧ ∀ i, i < k + 1 → cs[i]? = some (i64 (idxK kp i : Int))) := by
        refine ⟨_, bA.set k (i64 (idxK kp k : Int)), by simpa using hcs'.out, fun i hi => ?_⟩
        rcases Nat.lt_or_ge i k with hik | hik
        · rw [Array.getElem?_setIfInBounds_ne (by omega)]; exact hcv'.out i hik
        · obtain rfl : i = k := by omega
          exact Array.getElem?_setIfInBounds_self_of_lt (by rw [hcs'.out]; omega)
      have b02 := b0.far (p := ⟨w1.heap.size, k, none⟩) hn3 (i64 (idxK kp k : Int))
      have b12 := b1.far (p := ⟨w1.heap.size, k, none⟩) (show w.heap.size + 1 ≠ w1.heap.size by omega) (i64 (idxK kp k : Int))
      have hK2 := hK.setCell (p := ⟨w1.heap.size, k, none⟩) (.inr (show w.heap.size ≤ w1.heap.size by omega)) (i64 (idxK kp k : Int))
      clear bA hcs hcv hy hwas hat HO
      by_cases hkp : kp k = true
      · have hI : Hid (idxK kp (k + 1) = idxK kp k + 1) := by show _ = _; rw [idxK, if_pos hkp]
        have hW : Hid (wasL kp (k + 1) = wasL kp k ++ [(k : Int)]) := by show _ = _; rw [wasL, if_pos hkp]
        rw [hkp] at e0
        clear hkp
        have hown2 := Lib.hid (Grew.own ((Kept.refl (fun _ => False) _).alloc (.cells #[i64 (k : Int)] 3)) HO2.out)
        have hnews : Hid (∀ j u, [i64 (k : Int)][j]? = some u → ((wr.setCell ⟨w1.heap.size, k, none⟩ (i64 (idxK kp k : Int))).alloc (.cells #[i64 (k : Int)] 3)).cell? ((⟨wr.heap.size, 0, none⟩ : Addr).add j) = some u) := by
          have h := heap_alloc_new (wr.setCell ⟨w1.heap.size, k, none⟩ (i64 (idxK kp k : Int))) (.cells #[i64 (k : Int)] 3)
          simp only [World.size_setCell] at h
          exact World.news_of_block h
        go_wp2_with (at_builtin; go_loud (refine wpList_append_own _ rfl (.tmp 41) (.tmp 43) 33 (by rfl) (w1.heap.size + 1) 3 i0 (i64 0) 1 8 Try.underlying33 hi hz0 hz1 hz2 (by rfl) (by omega) _ _ _ rfl hown2.out ⟨wr.heap.size, 0, none⟩ 1 1 [i64 (k : Int)] (by rfl) (by rfl) hnews.out (by intro u hu; simp at hu; subst hu; rfl) (by unfold maxLen; omega) (by omega) (by simp; omega) ?_; intro v' w2 hown3 hgr _; obtain ⟨g3, c3, rfl⟩ := own_form hown3 (by omega)))
        go_roundw
        case rel =>
          refine ⟨k + 1, by omega, by go_num, ⟨_, c3, by rw [hI.out]⟩, ?_, ?_, ?_, ?_, ?_⟩
          · show IntsO _ _ _ _
            unfold IntsO
            rw [hW.out, List.length_append, wasL_length, List.map_append]
            exact hown3
          · obtain ⟨cs, hb, hx⟩ := bA2.out
            exact ⟨cs, (hb.alloc _).grown hgr (fun h => by have := (hXl.out _ h.symm).1; omega), hx⟩
          · exact (b02.alloc _).grown hgr (fun h => by have := (hXl.out _ h.symm).1; omega)
          · exact (b12.alloc _).grown hgr (fun h => by have := (hXl.out _ h.symm).1; omega)
          · exact (hK2.alloc _).grown hgr (fun j hj => .inr (by have := (hXl.out _ hj).1; omega))
        case measure => simp [intOf]; omega
      · have hkf : kp k = false := by simpa using hkp
        have hI : Hid (idxK kp (k + 1) = idxK kp k) := by show _ = _; rw [idxK, if_neg hkp]
        have hW : Hid (wasL kp (k + 1) = wasL kp k) := by show _ = _; rw [wasL, if_neg hkp]
        rw [hkf] at e0
        clear hkp hkf
        go_wp2_with fail
        go_roundw
        case rel =>
          refine ⟨k + 1, by omega, by go_num, ⟨X, cx, by rw [hI.out]⟩, ?_, bA2, b02, b12, hK2⟩
          show IntsO _ _ _ _
          unfold IntsO
          rw [hW.out, wasL_length]
          exact HO2.out
        case measure => simp [intOf]; omega
    · obtain rfl : k = m := by omega
      obtain ⟨q, hq⟩ : ∃ q, idxK kp k = q := ⟨_, rfl⟩
      rw [hq] at hwas ⊢
      have hqk : q ≤ k := by rw [← hq]; exact idxK_le kp k
      have hq' := Lib.hid hq
      obtain ⟨gO, hgO⟩ : ∃ gO, wr.heap.size = gO := ⟨_, rfl⟩
      have hat2 : Hid (∃ cs, Blk (wr.alloc (.cells #[i64 (q : Int), .slice none 0 0] 24)) w1.heap.size 3 cs ∧ ∀ i, i < k → cs[i]? = some (i64 (idxK kp i : Int))) := by
        obtain ⟨cs, hb, _, hx⟩ := hat.out
        exact ⟨cs, hb.alloc _, hx⟩
      have hlw : w1.heap.size < wr.heap.size := by obtain ⟨cs, hb, _⟩ := hat.out; exact hb.lt
      have bO := Blk.new wr 24 #[i64 (q : Int), .slice none 0 0]
      have hw2 : Hid (IntsO (wr.alloc (.cells #[i64 (q : Int), .slice none 0 0] 24)) (w1.heap.size + 1) (.slice X q cx) (wasL kp k)) := Grew.own ((Kept.refl (fun _ => False) wr).alloc (.cells #[i64 (q : Int), .slice none 0 0] 24)) hwas.out
      have hXl : Hid (∀ j, (Value.slice X q cx).ownBlock = some j → w1.heap.size + 1 ≤ j ∧ j < gO) := by rw [← hgO]; exact World.ownsRow.lt hwas.out
      replace b0 := b0.alloc (.cells #[i64 (q : Int), .slice none 0 0] 24)
      replace b1 := b1.alloc (.cells #[i64 (q : Int), .slice none 0 0] 24)
      have hKO := hK.alloc (.cells #[i64 (q : Int), .slice none 0 0] 24)
      rw [hgO] at bO hlw
      have hgO' := Lib.hid hgO
      clear hwas hat hq hK
      go_wp2_with fail
      go_loopw [10, 11] (fun i u11 wz => ∃ (j : Nat) (v : Value), j ≤ L ∧ i = .int .i64 j ∧ Blk wz gO 24 #[i64 (q : Int), v] ∧ Hid (Edges wz (gO + 1) v (subE kp (es.take j))) ∧ Hid (∃ cs, Blk wz w1.heap.size 3 cs ∧ ∀ i, i < k → cs[i]? = some (i64 (idxK kp i : Int))) ∧ Hid (IntsO wz (w1.heap.size + 1) (.slice X q cx) (wasL kp k)) ∧ Blk wz w.heap.size 24 #[i64 (k : Int), .slice A L c] ∧ Blk wz (w.heap.size + 1) 24 #[i64 0, .slice none 0 0] ∧ Grew w wz) (fun i u11 _ => L - (intOf i).toNat)
      case atStart => exact ⟨0, _, by omega, rfl, bO, World.ownsRow_nil _ _ _ _, hat2, hw2, b0, b1, hKO⟩
      case round =>
        clear bO hat2 hw2 b0 b1 hKO c0 c1
        obtain ⟨j, v, hj, rfl, bO, hown, hat, hwas, b0, b1, hK⟩ := hrel
        have c0 := b0.cell 0
        have c1 := b0.cell 1
        simp at c0 c1
        by_cases hlt : j < L
        · obtain ⟨x, hx⟩ : ∃ x, es[j]? = some x := ⟨_, List.getElem?_eq_getElem (by rw [HL.out]; exact hlt)⟩
          obtain ⟨b, off, hA, hb, e0, e1, e2⟩ := (hEw.out.grew hK) j x hx
          have hbw : b < w.heap.size := by
            obtain ⟨b', off', hA', hb', _⟩ := hEw.out j x hx
            rw [hA] at hA'
            cases hA'
            exact hb'
          obtain ⟨p, r, y⟩ := x
          subst hA
          have hzz := hz.out j p r y hx
          obtain ⟨p, rfl⟩ := Int.eq_ofNat_of_zero_le hzz.1
          obtain ⟨r, rfl⟩ := Int.eq_ofNat_of_zero_le hzz.2.2.1
          have hp : p < k := by have := hzz.2.1; omega
          have hr : r < k := by have := hzz.2.2.2.1; omega
          obtain ⟨bk, ok, hKe, hbk, kp0⟩ := (hBw.out.grew hK) p hp
          obtain ⟨bk', ok', hKe', hbk', kr0⟩ := (hBw.out.grew hK) r hr
          rw [hKe] at hKe'
          cases hKe'
          subst hKe
          have hST := subE_step kp es j _ hx
          simp only [subOne, Int.toNat_natCast] at hST
          have hpi : (p : Int) < (k : Int) := by omega
          have hri : (r : Int) < (k : Int) := by omega
          clear hx hzz
          cases hkp : kp p with
          | false =>
            rw [hkp] at kp0 hST
            simp at hST
            have hST := Lib.hid hST
            clear hkp
            go_wp2_with fail
            go_roundw
            case rel => exact ⟨j + 1, v, by omega, by go_num, bO.alloc _, by rw [hST.out]; exact Lib.hid (Grew.own ((Kept.refl (fun _ => False) _).alloc _) hown.out), by (obtain ⟨cs, hb, hx⟩ := hat.out; exact ⟨cs, hb.alloc _, hx⟩), Lib.hid (Grew.own ((Kept.refl (fun _ => False) _).alloc _) hwas.out), b0.alloc _, b1.alloc _, hK.alloc _⟩
            case measure => simp [intOf]; omega
          | true =>
            cases hkr : kp r with
            | false =>
              rw [hkp] at kp0 hST
              rw [hkr] at kr0 hST
              simp at hST
              have hST := Lib.hid hST
              clear hkp hkr
              go_wp2_with fail
              go_roundw
              case rel => exact ⟨j + 1, v, by omega, by go_num, bO.alloc _, by rw [hST.out]; exact Lib.hid (Grew.own ((Kept.refl (fun _ => False) _).alloc _) hown.out), by (obtain ⟨cs, hb, hx⟩ := hat.out; exact ⟨cs, hb.alloc _, hx⟩), Lib.hid (Grew.own ((Kept.refl (fun _ => False) _).alloc _) hwas.out), b0.alloc _, b1.alloc _, hK.alloc _⟩
              case measure => simp [intOf]; omega
            | true =>
              rw [hkp] at kp0 hST
              rw [hkr] at kr0 hST
              simp at hST
              have hST := Lib.hid hST
              clear hkp hkr
              obtain ⟨cs, bA, hcv⟩ := hat.out
              have ap := (bA.cell p).trans (hcv p hp)
              have ar := (bA.cell r).trans (hcv r hr)
              obtain ⟨m1, hm1⟩ : ∃ m1, idxK kp p = m1 := ⟨_, rfl⟩
              obtain ⟨m2, hm2⟩ : ∃ m2, idxK kp r = m2 := ⟨_, rfl⟩
              rw [hm1] at ap hST
              rw [hm2] at ar hST
              replace ap := Grew.cell ((Kept.refl _ wr).alloc (.cells #[i64 (p : Int), i64 (r : Int), .int .u64 y] 46)).drew ap
              replace ar := Grew.cell ((Kept.refl _ wr).alloc (.cells #[i64 (p : Int), i64 (r : Int), .int .u64 y] 46)).drew ar
              have hA1 := bA.lt
              have hO1 := bO.lt
              have hb0l := b0.lt
              obtain ⟨zs, hzs⟩ : ∃ zs, subE kp (es.take j) = zs := ⟨_, rfl⟩
              have hLen : Hid (zs.length ≤ 100000) := by
                show _ ≤ _
                rw [← hzs]
                have := subE_len kp (es.take j)
                rw [List.length_take, HL.out] at this
                omega
              rw [hzs] at hown hST
              have hlo := Lib.hid (World.ownsRow.lt hown.out)
              have hne1 : ¬ v.ownBlock = some gO := fun h => by have := (hlo.out _ h).1; omega
              have hneA : ¬ v.ownBlock = some w1.heap.size := fun h => by have := (hlo.out _ h).1; omega
              have hneX : ¬ v.ownBlock = some wr.heap.size := fun h => by have := (hlo.out _ h).2; omega
              have hown' := Lib.hid (Grew.own (((Kept.refl (fun _ => False) wr).alloc (.cells #[i64 (p : Int), i64 (r : Int), .int .u64 y] 46)).drew.alloc (.cells (edgeCells ((m1 : Int), (m2 : Int), y)).toArray 46)) hown.out)
              have bX := Blk.new wr 46 #[i64 (p : Int), i64 (r : Int), .int .u64 y]
              have bO2 := bO.alloc (.cells #[i64 (p : Int), i64 (r : Int), .int .u64 y] 46)
              have hcvH := Lib.hid hcv
              clear hzs hm1 hm2 hcv
              go_wp2_with fail
              refine wp_region_grow [18] (fun j => v.ownBlock = some j) (by kernel_rfl) ?_
              simp only [List.size_toArray, List.length_cons, List.length_nil, Nat.reduceAdd]
              refine wpAnyG_pure 0 72 (v := ?_) rfl (by kernel_rfl) rfl (by rfl) (fun w' => ?_) ?_
              rotate_left
              · go_simp <;> with_reducible rfl
              simp only [List.setIfInBounds_toArray, List.set_cons_zero, List.set_cons_succ]
              refine wpAnyG_take 1 73 (v := ?_) rfl (by kernel_rfl) rfl (by rfl) (fun w' hG' => ?_) ?_
              rotate_left
              · have hx0 := (bO2.drew.kept hG' hne1).cell 1
                have hx1 := (bX.drew.kept hG' hneX).cell 0
                have hx2 := (bX.drew.kept hG' hneX).cell 1
                have hx3 := (bX.drew.kept hG' hneX).cell 2
                have hx4 := Kept.cell hG' ap hneA
                have hx5 := Kept.cell hG' ar hneA
                simp at hx0 hx1 hx2 hx3 hx4 hx5
                go_simp <;> with_reducible rfl
              simp only [List.setIfInBounds_toArray, List.set_cons_zero, List.set_cons_succ]
              refine wpAnyG_pure 2 74 (v := ?_) rfl (by kernel_rfl) rfl (by rfl) (fun w' => ?_) ?_
              rotate_left
              · go_simp <;> with_reducible rfl
              simp only [List.setIfInBounds_toArray, List.set_cons_zero, List.set_cons_succ]
              refine wpAnyG_pure 3 75 (v := ?_) rfl (by kernel_rfl) rfl (by rfl) (fun w' => ?_) ?_
              rotate_left
              · go_simp <;> with_reducible rfl
              simp only [List.setIfInBounds_toArray, List.set_cons_zero, List.set_cons_succ]
              refine wpAnyG_take 4 76 (v := ?_) rfl (by kernel_rfl) rfl (by rfl) (fun w' hG' => ?_) ?_
              rotate_left
              · have hx0 := (bO2.drew.kept hG' hne1).cell 1
                have hx1 := (bX.drew.kept hG' hneX).cell 0
                have hx2 := (bX.drew.kept hG' hneX).cell 1
                have hx3 := (bX.drew.kept hG' hneX).cell 2
                have hx4 := Kept.cell hG' ap hneA
                have hx5 := Kept.cell hG' ar hneA
                simp at hx0 hx1 hx2 hx3 hx4 hx5
                go_simp <;> with_reducible rfl
              simp only [List.setIfInBounds_toArray, List.set_cons_zero, List.set_cons_succ]
              refine wpAnyG_pure 5 77 (v := ?_) rfl (by kernel_rfl) rfl (by rfl) (fun w' => ?_) ?_
              rotate_left
              · go_simp <;> with_reducible rfl
              simp only [List.setIfInBounds_toArray, List.set_cons_zero, List.set_cons_succ]
              refine wpAnyG_take 6 78 (v := ?_) rfl (by kernel_rfl) rfl (by rfl) (fun w' hG' => ?_) ?_
              rotate_left
              · have hx0 := (bO2.drew.kept hG' hne1).cell 1
                have hx1 := (bX.drew.kept hG' hneX).cell 0
                have hx2 := (bX.drew.kept hG' hneX).cell 1
                have hx3 := (bX.drew.kept hG' hneX).cell 2
                have hx4 := Kept.cell hG' ap hneA
                have hx5 := Kept.cell hG' ar hneA
                simp at hx0 hx1 hx2 hx3 hx4 hx5
                go_simp <;> with_reducible rfl
              simp only [List.setIfInBounds_toArray, List.set_cons_zero, List.set_cons_succ]
              refine wpAnyG_pure 7 79 (v := ?_) rfl (by kernel_rfl) rfl (by rfl) (fun w' => ?_) ?_
              rotate_left
              · go_simp <;> with_reducible rfl
              simp only [List.setIfInBounds_toArray, List.set_cons_zero, List.set_cons_succ]
              refine wpAnyG_pure 8 80 (v := ?_) rfl (by kernel_rfl) rfl (by rfl) (fun w' => ?_) ?_
              rotate_left
              · go_simp <;> with_reducible rfl
              simp only [List.setIfInBounds_toArray, List.set_cons_zero, List.set_cons_succ]
              refine wpAnyG_take 9 81 (v := ?_) rfl (by kernel_rfl) rfl (by rfl) (fun w' hG' => ?_) ?_
              rotate_left
              · have hx0 := (bO2.drew.kept hG' hne1).cell 1
                have hx1 := (bX.drew.kept hG' hneX).cell 0
                have hx2 := (bX.drew.kept hG' hneX).cell 1
                have hx3 := (bX.drew.kept hG' hneX).cell 2
                have hx4 := Kept.cell hG' ap hneA
                have hx5 := Kept.cell hG' ar hneA
                simp at hx0 hx1 hx2 hx3 hx4 hx5
                go_simp <;> with_reducible rfl
              simp only [List.setIfInBounds_toArray, List.set_cons_zero, List.set_cons_succ]
              refine wpAnyG_pure 10 82 (v := ?_) rfl (by kernel_rfl) rfl (by rfl) (fun w' => ?_) ?_
              rotate_left
              · go_simp <;> with_reducible rfl
              simp only [List.setIfInBounds_toArray, List.set_cons_zero, List.set_cons_succ]
              refine wpAnyG_take 11 83 (v := ?_) rfl (by kernel_rfl) rfl (by rfl) (fun w' hG' => ?_) ?_
              rotate_left
              · have hx0 := (bO2.drew.kept hG' hne1).cell 1
                have hx1 := (bX.drew.kept hG' hneX).cell 0
                have hx2 := (bX.drew.kept hG' hneX).cell 1
                have hx3 := (bX.drew.kept hG' hneX).cell 2
                have hx4 := Kept.cell hG' ap hneA
                have hx5 := Kept.cell hG' ar hneA
                simp at hx0 hx1 hx2 hx3 hx4 hx5
                go_simp <;> with_reducible rfl
              simp only [List.setIfInBounds_toArray, List.set_cons_zero, List.set_cons_succ]
              refine wpAnyG_pure 12 84 (v := ?_) rfl (by kernel_rfl) rfl (by rfl) (fun w' => ?_) ?_
              rotate_left
              · go_simp <;> with_reducible rfl
              simp only [List.setIfInBounds_toArray, List.set_cons_zero, List.set_cons_succ]
              refine wpAnyG_take 13 85 (v := ?_) rfl (by kernel_rfl) rfl (by rfl) (fun w' hG' => ?_) ?_
              rotate_left
              · have hx0 := (bO2.drew.kept hG' hne1).cell 1
                have hx1 := (bX.drew.kept hG' hneX).cell 0
                have hx2 := (bX.drew.kept hG' hneX).cell 1
                have hx3 := (bX.drew.kept hG' hneX).cell 2
                have hx4 := Kept.cell hG' ap hneA
                have hx5 := Kept.cell hG' ar hneA
                simp at hx0 hx1 hx2 hx3 hx4 hx5
                go_simp <;> with_reducible rfl
              simp only [List.setIfInBounds_toArray, List.set_cons_zero, List.set_cons_succ]
              refine wpAnyG_pure 14 86 (v := ?_) rfl (by kernel_rfl) rfl (by rfl) (fun w' => ?_) ?_
              rotate_left
              · go_simp <;> with_reducible rfl
              simp only [List.setIfInBounds_toArray, List.set_cons_zero, List.set_cons_succ]
              refine wpAnyG_step 15 87 rfl (by kernel_rfl) rfl (by rfl) (fun K hK' => ?_)
              go_simp
              refine hK' _ _ (fun _ => (Kept.refl _ _).alloc _) ?_
              clear hK'
              simp only [List.setIfInBounds_toArray, List.set_cons_zero, List.set_cons_succ]
              refine wpAnyG_step 16 88 rfl (by kernel_rfl) rfl (by rfl) (fun K hK' => ?_)
              refine wp_append_lies _ (.tmp 73) (.tmp 87) 22 (by rfl) (gO + 1) 46 i1 (.agg #[i64 0, i64 0, .int .u64 0]) 3 24 Try.underlying22 hi1 hy0 hy1 hy2 (by rfl) (by omega) v _ _ (by rfl) hown'.out ⟨wr.heap.size + 1, 0, none⟩ 1 1 (edgeCells ((m1 : Int), (m2 : Int), y)) (by rfl) (by rfl) ?_ ?_ (by omega) ?_ ?_ ?_ _ rfl ?_
              · have h := heap_alloc_new (wr.alloc (.cells #[i64 (p : Int), i64 (r : Int), .int .u64 y] 46)).drew (.cells (edgeCells ((m1 : Int), (m2 : Int), y)).toArray 46)
                simp only [World.size_drew, World.size_alloc] at h
                exact World.news_of_block h
              · intro u hu; simp [edgeCells] at hu; rcases hu with rfl | rfl | rfl <;> rfl
              · have := hLen.out; unfold maxLen; omega
              · have := hLen.out; omega
              · simp; omega
              intro g cap wa hown1 hgrow1 hat1 hlt1
              have bO3 := ((bO2.drew).alloc (.cells #[i64 (m1 : Int), i64 (m2 : Int), .int .u64 y] 46)).grown hgrow1 (fun h => hne1 h.symm)
              have hc1' := bO3.cell 1
              have hf1' := bO3.frozen 1
              simp at hc1'
              refine hK' _ _ (fun _ => (Kept.refl _ _).grown hgrow1 (fun k hk => .inl hk)) ?_
              clear hK'
              simp only [List.setIfInBounds_toArray, List.set_cons_zero, List.set_cons_succ]
              refine wpAnyG_pure 17 89 (v := ?_) rfl (by kernel_rfl) rfl (by rfl) (fun w' => ?_) ?_
              rotate_left
              · go_simp <;> with_reducible rfl
              simp only [List.setIfInBounds_toArray, List.set_cons_zero, List.set_cons_succ]
              refine wpAnyG_store 18 rfl (by kernel_rfl) rfl (by rfl) (fun K hK' => ?_)
              go_simp
              refine hK' _ (fun h => absurd (by simp) h) ?_
              clear hK'
              refine wpAnyG_done (by kernel_rfl) ?_
              go_wp2_with fail
              go_roundw
              case rel =>
                have hFin : Kept (fun i => v.ownBlock = some i ∨ i = gO) wr (wa.setCell ⟨gO, 1, none⟩ (.slice (some ⟨g, 0, none⟩) (zs.length + 1) cap)) :=
                  (((((Kept.refl (fun i => v.ownBlock = some i ∨ i = gO) wr).alloc _).drew).alloc _).grown hgrow1 (fun i hi => .inl (.inl hi))).setCell (p := ⟨gO, 1, none⟩) (.inl (.inr rfl)) _
                refine ⟨j + 1, _, by omega, by go_num, bO3.set 1 _, ?_, ⟨cs, bA.kept hFin (fun h => by rcases h with h | h; exact hneA h; omega), hcvH.out⟩, ?_, b0.kept hFin (fun h => by rcases h with h | h; (have := (hlo.out _ h).1; omega); omega), b1.kept hFin (fun h => by rcases h with h | h; (have := (hlo.out _ h).1; omega); omega), hK.then hFin (fun i hi h => by rcases h with h | h; (have := (hlo.out _ h).1; omega); omega)⟩
                · show Edges _ _ _ _
                  rw [hST.out]
                  have e : Edges wa (gO + 1) (.slice (some ⟨g, 0, none⟩) (zs.length + 1) cap) (zs ++ [((m1 : Int), (m2 : Int), y)]) := by
                    unfold Edges
                    rw [cellsOf_append, cellsOf_one, List.length_append]
                    exact hown1
                  exact Kept.own ((Kept.refl (· = gO) wa).setCell (p := ⟨gO, 1, none⟩) (.inl rfl) _) e (fun i hi h => by have := hown1.lt i hi; have h' : i = gO := h; omega)
                · exact Lib.hid (Kept.own hFin hwas.out (fun i hi h => by have := hXl.out i hi; rcases h with h | h; (have := (hlo.out _ h).1; omega); omega))
              case measure => simp [intOf]; omega
        · obtain rfl : j = L := by omega
          have h := hown.out
          rw [List.take_of_length_le (by rw [HL.out]; omega)] at h
          obtain ⟨A1, cc, rfl⟩ := h.len
          have h := Lib.hid h
          have hlo := Lib.hid (World.ownsRow.lt h.out)
          have hO1 := bO.lt
          clear hown
          have g0 := bO.cell 0
          have g1 := bO.cell 1
          have d0 := b1.cell 0
          have d1 := b1.cell 1
          have f0 := b1.frozen 0
          have f1 := b1.frozen 1
          simp at g0 g1 d0 d1
          have q0 := ((b1.set 0 (i64 (q : Int))).set 1 (.slice A1 (subE kp es).length cc)).cell 0
          have q1 := ((b1.set 0 (i64 (q : Int))).set 1 (.slice A1 (subE kp es).length cc)).cell 1
          simp at q0 q1
          go_wp2_with fail
          have hF : Kept (· = w.heap.size + 1) wr ((wr.setCell ⟨w.heap.size + 1, 0, none⟩ (i64 (q : Int))).setCell ⟨w.heap.size + 1, 1, none⟩ (.slice A1 (subE kp es).length cc)) := ((Kept.refl (· = w.heap.size + 1) wr).setCell (p := ⟨w.heap.size + 1, 0, none⟩) (.inl rfl) _).setCell (p := ⟨w.heap.size + 1, 1, none⟩) (.inl rfl) _
          refine bodyPost_ret (v := .tuple #[.agg #[i64 (q : Int), .slice A1 (subE kp es).length cc], .slice X q cx]) (by simp [results, Try.results26, go_sem, q0, q1]) rfl ?_
          have hfin := hS.out _ (.slice A1 (subE kp es).length cc) (.slice X q cx) (own_base (Kept.own hF h.out (fun i hi h' => by have := (hlo.out i hi).1; have h2 : i = w.heap.size + 1 := h'; omega)) (by omega)) (own_base (Kept.own hF hwas.out (fun i hi h' => by have := (hXl.out i hi).1; have h2 : i = w.heap.size + 1 := h'; omega)) (by omega)) (hK.then hF (fun i hi h => by have : i = w.heap.size + 1 := h; omega))
          rw [hq'.out] at hfin
          exact hfin
end Go.Proofs.Ytiialiifjhgcmaa
