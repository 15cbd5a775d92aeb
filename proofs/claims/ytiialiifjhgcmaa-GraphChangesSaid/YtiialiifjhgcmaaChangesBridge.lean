/- The arguments of GraphChanges opened. -/
import Derived.Test.YtiialiifjhgcmaaChanges
import Derived.Test.YtiialiifjhgcmaaOpenGraph
import Derived.Deep.Grids
import Derived.WalkKit
import Derived.ProofKit
import Derived.OpenShut
import Derived.ShutString
import Derived.ChangeOld
import Derived.Below
namespace Go.Proofs.Ytiialiifjhgcmaa
open Go.ChangeShapes Go.WideShapes Go.ChangeAt Go.RowKit Go.Deep

theorem open_keep {H : Type} {enc : TypeId × Value → H} {w : World} {base : Nat} {v : Value} {d : DataW H} {p : List MemPlace} (o : Value.okWide Try.prog w .any base 39 v) (h : DataW.Trod enc Try.prog w 0 (fun _ => true) true 39 v d p) :
    ∃ K m c kp, v = .slice K m c ∧ RowB w K m kp ∧ m ≤ 9223372036854775807 := by
  obtain ⟨K, m, c, rfl⟩ := okWide_slice Try.underlying39 o
  obtain ⟨fuel, hf0⟩ := h
  have hf : DataW.trod enc Try.prog w 0 (fun _ => true) true fuel 39 [.slice K m c] = some (d, p) := hf0
  rcases open_bools Try.underlying39 Try.underlying4 (by kernel_rfl) hf with ⟨hcs, _⟩ | ⟨a, len, cap, B, hcs, _, hl, hm, _, hx⟩
  · simp only [List.cons.injEq, Value.slice.injEq, and_true] at hcs
    obtain ⟨rfl, rfl, rfl⟩ := hcs
    exact ⟨none, 0, 0, fun _ => false, rfl, fun i hi => absurd hi (Nat.not_lt_zero i), by omega⟩
  · simp only [List.cons.injEq, Value.slice.injEq, and_true] at hcs
    obtain ⟨rfl, rfl, rfl⟩ := hcs
    unfold maxLen at hm
    refine ⟨some a, m, c, B, rfl, fun i hi => ?_, by omega⟩
    have h0 := hx 0 (by omega)
    obtain ⟨b, off, rfl⟩ := plain_of_cell h0
    have hi' := cell_add (hx i (by omega))
    exact ⟨b, off, rfl, by have := World.block_lt_of_cell? _ _ hi'; simpa using this, hi'⟩

theorem bridge_graphChanges {H : Type} {enc : TypeId × Value → H} (W : World) {base : Nat} {v0 v1 v2 v3 : Value} {d0 d1 d2 d3 : DataW H} {p0 p1 p2 p3 : List MemPlace}
    (o0 : Value.okWide Try.prog W .any base 24 v0) (h0 : DataW.Trod enc Try.prog W 0 (fun _ => true) true 24 v0 d0 p0)
    (o1 : Value.okWide Try.prog W .any base 3 v1) (h1 : DataW.Trod enc Try.prog W 0 (fun _ => true) true 3 v1 d1 p1)
    (o2 : Value.okWide Try.prog W .any base 36 v2) (h2 : DataW.Trod enc Try.prog W 0 (fun _ => true) true 36 v2 d2 p2)
    (o3 : Value.okWide Try.prog W .any base 39 v3) (h3 : DataW.Trod enc Try.prog W 0 (fun _ => true) true 39 v3 d3 p3) :
    Calls Try.prog 5 #[v0, v1, v2, v3] W fun e w' => e = .returned (.bool true) ∧ Below W.heap.size W w' := by
  obtain ⟨n0, A0, c0, es0, rfl, r0, l0⟩ := open_graph o0 h0
  obtain ⟨a1, rfl, _, _, _⟩ := open_int Try.underlying3 o1 h1
  obtain ⟨a2, rfl, _, _, _⟩ := open_int Try.underlying36 o2 h2
  obtain ⟨K, m, c, kp, rfl, rb, lm⟩ := open_keep o3 h3
  exact (changes_law n0 A0 K c0 c m es0 kp a1 a2 W r0 rb l0 lm).mono fun e w' ⟨he, hK⟩ => ⟨he, Grew.below hK⟩
end Go.Proofs.Ytiialiifjhgcmaa
