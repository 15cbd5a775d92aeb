/- Arguments opened to cells: slices of structs of one-cell fields, read by their place. -/
import Derived.Test.YtjbjomodponapaaWorld
import Derived.Deep.Slices
import Derived.Deep.Fields
import Derived.ChangeSame
import Derived.ProofKit
import Derived.OpenShut
namespace Go.Proofs.Ytjbjomodponapaa
open Go.ChangeShapes Go.WideShapes Go.RowKit Go.Deep

/-- The number that lies n cells behind A. -/
def rdI (w : World) (A : Option Addr) (n : Nat) : Int :=
  match A with
  | some a => intOf ((w.cell? (a.add n)).getD (.bool false))
  | none => 0
/-- The truth that lies n cells behind A. -/
def rdB (w : World) (A : Option Addr) (n : Nat) : Bool :=
  match A with
  | some a => match w.cell? (a.add n) with | some (.bool b) => b | _ => false
  | none => false

section
variable {H : Type} {enc : TypeId × Value → H} {P : Program} {w : World} {base : Nat} {spare : Nat → Bool} {held : Bool}

/-- A slice of structs: each element's fields' cells, and their readings. -/
theorem open_structs {t e : TypeId} {fs : Array Field} {fuel : Nat} {A : Option Addr} {len cap : Nat} {x : DataW H × List MemPlace} (ht : P.underlying t = some (.slice e)) (he : P.underlying e = some (.struct fs))
    (hone : oneCellFields P fs = true) (hC : P.cellsOf e = fs.size) (hpos : 0 < fs.size) (h : DataW.trod enc P w base spare held fuel t [.slice A len cap] = some x) :
    len ≤ cap ∧ cap ≤ maxLen ∧ (A = none → len = 0) ∧ ∀ i, i < len → ∃ b off, A = some ⟨b, off, none⟩ ∧ b < w.heap.size ∧
      ∀ (j : Nat) (f : Field), fs[j]? = some f → ∃ (v : Value) (y : DataW H × List MemPlace) (n : Nat), w.cell? ⟨b, off + (i * fs.size + j), none⟩ = some v ∧ DataW.trod enc P w base spare held n f.type [v] = some y := by
  rcases open_slice ht h with ⟨hcs, _⟩ | ⟨a, len', cap', m, n, D, Pl, hcs, hb, hl, hm, hmm, hx, hi⟩
  · simp only [List.cons.injEq, Value.slice.injEq, and_true] at hcs
    obtain ⟨rfl, rfl, rfl⟩ := hcs
    exact ⟨Nat.le_refl _, by unfold maxLen; omega, fun _ => rfl, fun i hi => absurd hi (by omega)⟩
  · simp only [List.cons.injEq, Value.slice.injEq, and_true] at hcs
    obtain ⟨rfl, rfl, rfl⟩ := hcs
    have hmle : len ≤ m := by rw [hmm]; split <;> omega
    have key : ∀ i, i < len → ∀ (j : Nat) (f : Field), fs[j]? = some f → ∃ (v : Value) (y : DataW H × List MemPlace) (n : Nat), w.cell? (a.add (i * fs.size + j)) = some v ∧ DataW.trod enc P w base spare held n f.type [v] = some y := by
      intro i hil j f hj
      obtain ⟨cs', hc, ht'⟩ := hi i (by omega)
      rw [hC] at hc
      obtain ⟨ys, n', hn', hy, hlen, hyl, hf⟩ := DataW.trod_struct he ht'
      obtain ⟨_, hcl, hat⟩ := World.cells?_some hc
      obtain ⟨ho, hk⟩ := hone_of hone j f hj
      have hjl : j < fs.size := (Array.getElem?_eq_some_iff.1 hj).1
      have hcell := hat j hjl
      have hv : cs'[j]? = some (cs'[j]'(by omega)) := List.getElem?_eq_getElem (by omega)
      have h1 := hf j f hj
      rw [ho, hk] at h1
      have hone' : (cs'.drop j).take 1 = [cs'[j]'(by omega)] := by
        rw [List.drop_eq_getElem_cons (by omega)]
        rfl
      rw [hone'] at h1
      have hys : ys[j]? = some (ys[j]'(by omega)) := List.getElem?_eq_getElem (by omega)
      refine ⟨_, _, _, ?_, h1.trans hys⟩
      rw [← Go.Deep.add_add, hcell, hv]
    refine ⟨hl, hm, (fun h => by cases h), fun i hil => ?_⟩
    obtain ⟨f0, hf0⟩ : ∃ f, fs[0]? = some f := ⟨_, Array.getElem?_eq_getElem hpos⟩
    obtain ⟨v0, _, _, hc0, _⟩ := key 0 (by omega) 0 f0 hf0
    rw [Nat.zero_mul, Nat.add_zero] at hc0
    obtain ⟨b, off, rfl⟩ := plain_of_cell hc0
    refine ⟨b, off, rfl, ?_, fun j f hj => ?_⟩
    · have := World.block_lt_of_cell? _ _ (cell_add hc0); simpa using this
    · obtain ⟨v, y, n2, hc, hy⟩ := key i hil j f hj
      exact ⟨v, y, n2, cell_add hc, hy⟩

theorem rdI_of {b off n : Nat} {k : IntKind} {x : Int} (h : w.cell? ⟨b, off + n, none⟩ = some (.int k x)) : rdI w (some ⟨b, off, none⟩) n = x := by
  have e : (⟨b, off, none⟩ : Addr).add n = ⟨b, off + n, none⟩ := by unfold Addr.add; split <;> simp_all
  simp only [rdI, e, h, Option.getD_some, intOf]
theorem rdB_of {b off n : Nat} {x : Bool} (h : w.cell? ⟨b, off + n, none⟩ = some (.bool x)) : rdB w (some ⟨b, off, none⟩) n = x := by
  have e : (⟨b, off, none⟩ : Addr).add n = ⟨b, off + n, none⟩ := by unfold Addr.add; split <;> simp_all
  simp only [rdB, e, h]

/-- A cell that reads as an integer. -/
theorem int_at {t : TypeId} {k : IntKind} {b off n m : Nat} {v : Value} {y : DataW H × List MemPlace} (ht : P.underlying t = some (.int k)) (hc : w.cell? ⟨b, off + n, none⟩ = some v) (h : DataW.trod enc P w base spare held m t [v] = some y) :
    w.cell? ⟨b, off + n, none⟩ = some (.int k (rdI w (some ⟨b, off, none⟩) n)) ∧ (Lit.int k (rdI w (some ⟨b, off, none⟩) n)).wf = true := by
  obtain ⟨x, hx, _, hw⟩ := DataW.trod_int ht h
  simp only [List.cons.injEq, and_true] at hx
  subst hx
  rw [rdI_of hc]
  exact ⟨hc, hw⟩
end
end Go.Proofs.Ytjbjomodponapaa
