/- adj.laid: indices laid by their keys. -/
import Derived.Test.YtmpnaleenehkgaaRowI
import Derived.RegionTactic
import Derived.Deep.DeepCutAuto
import Derived.Lib.Hide
namespace Go.Proofs.Ytmpnaleenehkgaa
open Go.RowKit

/-- Rows laid by their keys: where each begins, and the edges of each, in order. -/
structure Laid (w : World) (gE gB n m : Nat) (key : Nat → Nat) (f : Nat → Int) : Prop where
  begin : IntsF w gB (n + 1) (fun v => (pre key m v : Int))
  edges : IntsF w gE m f
  place : ∀ j, j < m → f (pre key m (key j) + cnt key (key j) j) = (j : Int)
  keys : ∀ j, j < m → key j < n
theorem Laid.grew {w w' : World} {gE gB n m : Nat} {key : Nat → Nat} {f : Nat → Int} (h : Laid w gE gB n m key f) (k : Grew w w') : Laid w' gE gB n m key f := ⟨h.begin.grew k, h.edges.grew k, h.place, h.keys⟩
theorem Laid.kept {F : Nat → Prop} {w w' : World} {gE gB n m : Nat} {key : Nat → Nat} {f : Nat → Int} (h : Laid w gE gB n m key f) (k : Kept F w w') (h1 : ¬ F gE) (h2 : ¬ F gB) : Laid w' gE gB n m key f := ⟨h.begin.kept k h2, h.edges.kept k h1, h.place, h.keys⟩
def rowsV (gE gB n m : Nat) : Value := .agg #[rowV gE m, rowV gB (n + 1)]

/-- begin behind k edges. -/
def bg1 (key : Nat → Nat) (k : Nat) : Nat → Int := fun j => if j = 0 then 0 else (cnt key (j - 1) k : Int)
/-- begin behind v sums. -/
def bg2 (key : Nat → Nat) (m v : Nat) : Nat → Int := fun j => if j ≤ v then (pre key m j : Int) else (cnt key (j - 1) m : Int)
theorem bg1_step (key : Nat → Nat) (k : Nat) : (∀ j, j ≠ key k + 1 → bg1 key (k + 1) j = bg1 key k j) ∧ bg1 key (k + 1) (key k + 1) = bg1 key k (key k + 1) + 1 := by
  refine ⟨fun j hj => ?_, ?_⟩
  · unfold bg1
    split
    · rfl
    · rw [cnt_no (by omega)]
  · unfold bg1
    rw [if_neg (by omega), if_neg (by omega), Nat.add_sub_cancel, cnt_yes rfl]
    omega
theorem bg2_start (key : Nat → Nat) (m : Nat) : bg1 key m = bg2 key m 0 := by
  funext j
  unfold bg1 bg2
  by_cases h : j = 0
  · subst h; rfl
  · rw [if_neg h, if_neg (by omega)]
theorem bg2_step (key : Nat → Nat) (m v : Nat) : (∀ j, j ≠ v + 1 → bg2 key m (v + 1) j = bg2 key m v j) ∧ bg2 key m (v + 1) (v + 1) = bg2 key m v (v + 1) + bg2 key m v v := by
  refine ⟨fun j hj => ?_, ?_⟩
  · unfold bg2
    by_cases h : j ≤ v
    · rw [if_pos h, if_pos (by omega)]
    · rw [if_neg h, if_neg (by omega)]
  · unfold bg2
    rw [if_pos (Nat.le_refl _), if_neg (by omega), if_pos (Nat.le_refl _), Nat.add_sub_cancel]
    simp only [pre]
    omega
theorem cnt_le' (key : Nat → Nat) (v k m : Nat) (h : k ≤ m) : cnt key v k ≤ m := Nat.le_trans (cnt_le key v k) h
theorem bg1_bd (key : Nat → Nat) (k j : Nat) : 0 ≤ bg1 key k j ∧ bg1 key k j ≤ k := by
  unfold bg1
  split
  · omega
  · have := cnt_le key (j - 1) k; omega
theorem pre_le (key : Nat → Nat) (m n v : Nat) (hk : ∀ j, j < m → key j < n) (hv : v ≤ n) : pre key m v ≤ m := by
  have := pre_mono key m hv
  rw [pre_all key n m hk] at this
  exact this
theorem bg2_bd (key : Nat → Nat) (m n v j : Nat) (hk : ∀ j, j < m → key j < n) (hv : v ≤ n) : 0 ≤ bg2 key m v j ∧ bg2 key m v j ≤ m := by
  unfold bg2
  split
  · rename_i h
    have := pre_le key m n j hk (by omega); omega
  · have := cnt_le key (j - 1) m; omega

/-- What lies where in the course of laid. -/
structure P1 (w wr : World) (gR gE gB r6 n m : Nat) (fE fB : Nat → Int) : Prop where
  bR : Blk wr gR 51 #[rowV gE m, rowV gB (n + 1)]
  iE : IntsF wr gE m fE
  iB : IntsF wr gB (n + 1) fB
  b6 : Blk wr r6 51 #[.slice none 0 0, .slice none 0 0]
  kept : Grew w wr
theorem three (w : World) (o1 o2 o3 : Obj) : (((w.alloc o1).alloc o2).alloc o3).drew.heap[w.heap.size]? = some o1 ∧ (((w.alloc o1).alloc o2).alloc o3).drew.heap[w.heap.size + 1]? = some o2 ∧ (((w.alloc o1).alloc o2).alloc o3).drew.heap[w.heap.size + 1 + 1]? = some o3 ∧ Grew w (((w.alloc o1).alloc o2).alloc o3).drew := by
  refine ⟨?_, ?_, ?_, ((((Kept.refl _ _).alloc _).alloc _).alloc _).drew⟩
  · exact ((Below.heap_alloc _ o3 _ (by simp; omega)).trans (Below.heap_alloc _ o2 _ (by simp))).trans (heap_alloc_new w o1)
  · have h := heap_alloc_new (w.alloc o1) o2
    rw [World.size_alloc] at h
    exact (Below.heap_alloc _ o3 _ (by simp)).trans h
  · have h := heap_alloc_new ((w.alloc o1).alloc o2) o3
    rw [World.size_alloc, World.size_alloc] at h
    exact h
section
variable {w wr w' : World} {gR gE gB r6 n m : Nat} {fE fB : Nat → Int}
theorem P1.grew (h : P1 w wr gR gE gB r6 n m fE fB) (k : Grew wr w') : P1 w w' gR gE gB r6 n m fE fB := ⟨h.bR.grew k, h.iE.grew k, h.iB.grew k, h.b6.grew k, h.kept.trans k⟩
theorem P1.setB (h : P1 w wr gR gE gB r6 n m fE fB) (h1 : gB ≠ gR) (h2 : gB ≠ gE) (h3 : r6 ≠ gB) (hw : w.heap.size ≤ gB) {i : Nat} (hi : i < n + 1) {fB' : Nat → Int} (b : Int) (e1 : fB' i = b) (e2 : ∀ j, j ≠ i → fB' j = fB j) :
    P1 w (wr.setCell ⟨gB, i, none⟩ (i64 b)) gR gE gB r6 n m fE fB' :=
  ⟨h.bR.far (p := ⟨gB, i, none⟩) (fun e => h1 e.symm) _, h.iE.far (p := ⟨gB, i, none⟩) (fun e => h2 e.symm) _, h.iB.set hi b e1 (fun j _ => e2 j), h.b6.far (p := ⟨gB, i, none⟩) h3 _, h.kept.setCell (p := ⟨gB, i, none⟩) (.inr hw) _⟩
theorem P1.setE (h : P1 w wr gR gE gB r6 n m fE fB) (h1 : gE ≠ gR) (h2 : gE ≠ gB) (h3 : r6 ≠ gE) (hw : w.heap.size ≤ gE) {i : Nat} (hi : i < m) {fE' : Nat → Int} (b : Int) (e1 : fE' i = b) (e2 : ∀ j, j ≠ i → fE' j = fE j) :
    P1 w (wr.setCell ⟨gE, i, none⟩ (i64 b)) gR gE gB r6 n m fE' fB :=
  ⟨h.bR.far (p := ⟨gE, i, none⟩) (fun e => h1 e.symm) _, h.iE.set hi b e1 (fun j _ => e2 j), h.iB.far (p := ⟨gE, i, none⟩) (fun e => h2 e.symm) _, h.b6.far (p := ⟨gE, i, none⟩) h3 _, h.kept.setCell (p := ⟨gE, i, none⟩) (.inr hw) _⟩
theorem P1.setA (h : P1 w wr gR gE gB r6 n m fE fB) {gA : Nat} (h1 : gA ≠ gR) (h2 : gA ≠ gE) (h3 : gA ≠ gB) (h4 : gA ≠ r6) (hw : w.heap.size ≤ gA) (i : Nat) (u : Value) : P1 w (wr.setCell ⟨gA, i, none⟩ u) gR gE gB r6 n m fE fB :=
  ⟨h.bR.far (p := ⟨gA, i, none⟩) (fun e => h1 e.symm) _, h.iE.far (p := ⟨gA, i, none⟩) (fun e => h2 e.symm) _, h.iB.far (p := ⟨gA, i, none⟩) (fun e => h3 e.symm) _, h.b6.far (p := ⟨gA, i, none⟩) (fun e => h4 e.symm) _, h.kept.setCell (p := ⟨gA, i, none⟩) (.inr hw) _⟩
theorem P1.lt (h : P1 w wr gR gE gB r6 n m fE fB) : gR < wr.heap.size ∧ gE < wr.heap.size ∧ gB < wr.heap.size ∧ r6 < wr.heap.size := ⟨h.bR.lt, h.iE.lt, h.iB.lt, h.b6.lt⟩
end
/-- Where the next one of each key goes. -/
def atF (key : Nat → Nat) (m k : Nat) : Nat → Int := fun v => ((pre key m v + cnt key v k : Nat) : Int)
theorem atF_step (key : Nat → Nat) (m k : Nat) : (∀ j, j ≠ key k → atF key m (k + 1) j = atF key m k j) ∧ atF key m (k + 1) (key k) = atF key m k (key k) + 1 := by
  refine ⟨fun j hj => ?_, ?_⟩
  · unfold atF
    rw [cnt_no (fun e => hj e.symm)]
  · unfold atF
    rw [cnt_yes rfl]
    omega
theorem put_place {key : Nat → Nat} {m k : Nat} {f : Nat → Int} (hk : k < m) (hf : ∀ j, j < k → f (pre key m (key j) + cnt key (key j) j) = (j : Int)) :
    ∀ j, j < k + 1 → (fun i => if i = pre key m (key k) + cnt key (key k) k then (k : Int) else f i) (pre key m (key j) + cnt key (key j) j) = (j : Int) := by
  intro j hj
  show (if _ then _ else _) = _
  split
  · rename_i h
    rw [place_inj (by omega) hk h]
  · rename_i h
    refine hf j ?_
    rcases Nat.lt_or_ge j k with h1 | h1
    · exact h1
    · obtain rfl : j = k := by omega
      exact absurd rfl h
end Go.Proofs.Ytmpnaleenehkgaa
