/- The arguments of BitsPlays opened. -/
import Derived.Test.YtabddnlcgmbopaaDoorPlays
import Derived.Test.YtabddnlcgmbopaaDoorOpen
import Derived.Test.YtabddnlcgmbopaaDoorDoor
namespace Go.Proofs.YtabddnlcgmbopaaDoor
open Go.ChangeShapes Go.WideShapes Go.RowKit Go.Deep

def rdA (w : World) (A : Option Addr) (i : Nat) : Int × Int := (rdI w A (i * 2 + 0), rdI w A (i * 2 + 1))
theorem open_acts {H : Type} {enc : TypeId × Value → H} {w : World} {A : Option Addr} {len cap : Nat} {d : DataW H} {p : List MemPlace} (h : DataW.Trod enc Tryd.prog w 0 (fun _ => true) true 23 (.slice A len cap) d p) :
    RowA w A len (rdA w A) ∧ len ≤ 9223372036854775807 := by
  obtain ⟨fuel, hf⟩ := h
  obtain ⟨h1, h2, _, h3⟩ := open_structs Tryd.underlying23 Tryd.underlying35 (by kernel_rfl) (by kernel_rfl) (by decide) hf
  unfold maxLen at h2
  refine ⟨fun i hi => ?_, by omega⟩
  obtain ⟨b, off, rfl, hb, hc⟩ := h3 i hi
  obtain ⟨v0, y0, n0, c0, t0⟩ := hc 0 _ rfl
  obtain ⟨v1, y1, n1, c1, t1⟩ := hc 1 _ rfl
  exact ⟨b, off, rfl, hb, (int_at Tryd.underlying3 c0 t0).1, (int_at Tryd.underlying3 c1 t1).1⟩
theorem open_u64s {H : Type} {enc : TypeId × Value → H} {P : Program} {w : World} {base : Nat} {spare : Nat → Bool} {held : Bool} {t e : TypeId} {k : IntKind} {fuel : Nat} {A : Option Addr} {len cap : Nat} {x : DataW H × List MemPlace}
    (ht : P.underlying t = some (.slice e)) (he : P.underlying e = some (.int k)) (hC : P.cellsOf e = 1) (h : DataW.trod enc P w base spare held fuel t [.slice A len cap] = some x) :
    len ≤ cap ∧ cap ≤ maxLen ∧ ∀ i, i < len → ∃ b off, A = some ⟨b, off, none⟩ ∧ b < w.heap.size ∧ ∃ y, w.cell? ⟨b, off + i, none⟩ = some (.int k y) ∧ (Lit.int k y).wf = true := by
  rcases open_slice ht h with ⟨hcs, _⟩ | ⟨a, len', cap', m, n, D, Pl, hcs, hb, hl, hm, hmm, hx, hi⟩
  · simp only [List.cons.injEq, Value.slice.injEq, and_true] at hcs
    obtain ⟨rfl, rfl, rfl⟩ := hcs
    exact ⟨Nat.le_refl _, by unfold maxLen; omega, fun i hi => absurd hi (by omega)⟩
  · simp only [List.cons.injEq, Value.slice.injEq, and_true] at hcs
    obtain ⟨rfl, rfl, rfl⟩ := hcs
    have hmle : len ≤ m := by rw [hmm]; split <;> omega
    have key : ∀ i, i < len → ∃ y, w.cell? (a.add i) = some (.int k y) ∧ (Lit.int k y).wf = true := by
      intro i hil
      obtain ⟨cs', hc, ht'⟩ := hi i (by omega)
      rw [hC, Nat.mul_one] at hc
      obtain ⟨y, hy, _, hw⟩ := DataW.trod_int he ht'
      obtain ⟨_, hcl, hat⟩ := World.cells?_some hc
      have h0 := hat 0 (by omega)
      rw [hy] at h0
      rw [Go.Deep.add_add, Nat.add_zero] at h0
      exact ⟨y, h0, hw⟩
    refine ⟨hl, hm, fun i hil => ?_⟩
    obtain ⟨v0, hc0, _⟩ := key 0 (by omega)
    obtain ⟨b, off, rfl⟩ := plain_of_cell hc0
    obtain ⟨y, hc, hw⟩ := key i hil
    exact ⟨b, off, rfl, by have := World.block_lt_of_cell? _ _ (cell_add hc0); simpa using this, y, cell_add hc, hw⟩
theorem open_ints' {H : Type} {enc : TypeId × Value → H} {w : World} {A : Option Addr} {len cap : Nat} {d : DataW H} {p : List MemPlace} (h : DataW.Trod enc Tryd.prog w 0 (fun _ => true) true 22 (.slice A len cap) d p) :
    ∃ l : List Int, l.length = len ∧ RowI w A l ∧ l.length ≤ 9223372036854775807 := by
  obtain ⟨fuel, hf⟩ := h
  obtain ⟨h1, h2, h3⟩ := open_u64s Tryd.underlying22 Tryd.underlying3 (by kernel_rfl) hf
  unfold maxLen at h2
  refine ⟨(List.range len).map (rdI w A), by simp, fun i x h => ?_, by simp; omega⟩
  obtain ⟨hil, rfl⟩ := List.getElem?_eq_some_iff.1 h
  rw [List.length_map, List.length_range] at hil
  rw [List.getElem_map, List.getElem_range]
  obtain ⟨b, off, rfl, hb, y, hc, hw⟩ := h3 i hil
  rw [rdI_of hc]
  exact ⟨b, off, rfl, hb, hc⟩
theorem bridge_bitsPlays {H : Type} {enc : TypeId × Value → H} (W : World) (hT : TabB W) {base : Nat} {v0 v1 v2 v3 : Value} {d0 d1 d2 d3 : DataW H} {p0 p1 p2 p3 : List MemPlace}
    (o0 : Value.okWide Tryd.prog W .any base 3 v0) (h0 : DataW.Trod enc Tryd.prog W 0 (fun _ => true) true 3 v0 d0 p0)
    (o1 : Value.okWide Tryd.prog W .any base 22 v1) (h1 : DataW.Trod enc Tryd.prog W 0 (fun _ => true) true 22 v1 d1 p1)
    (o2 : Value.okWide Tryd.prog W .any base 23 v2) (h2 : DataW.Trod enc Tryd.prog W 0 (fun _ => true) true 23 v2 d2 p2)
    (o3 : Value.okWide Tryd.prog W .any base 3 v3) (h3 : DataW.Trod enc Tryd.prog W 0 (fun _ => true) true 3 v3 d3 p3) :
    Calls Tryd.prog 3 #[v0, v1, v2, v3] W fun e w' => e = .returned (.bool true) ∧ Below W.heap.size W w' := by
  obtain ⟨a0, rfl, _, _, _⟩ := open_int Tryd.underlying3 o0 h0
  obtain ⟨A, len, cap, rfl⟩ := okWide_slice Tryd.underlying22 o1
  obtain ⟨A', len', cap', rfl⟩ := okWide_slice Tryd.underlying23 o2
  obtain ⟨a3, rfl, _, _, _⟩ := open_int Tryd.underlying3 o3 h3
  obtain ⟨l, rfl, r1, z1⟩ := open_ints' h1
  have r2 := open_acts h2
  exact (plays_law a0 A cap l A' len' cap' _ a3 W r1 r2.1 z1 r2.2 hT).mono fun e w' ⟨he, hK⟩ => ⟨he, Grew.below hK⟩
end Go.Proofs.YtabddnlcgmbopaaDoor
