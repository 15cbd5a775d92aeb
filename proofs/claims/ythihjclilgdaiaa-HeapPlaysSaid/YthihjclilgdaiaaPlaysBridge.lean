/- The arguments of HeapPlays opened: a number, a slice of acts, a number. -/
import Derived.Test.YthihjclilgdaiaaPlays
import Derived.Test.YthihjclilgdaiaaRisesBridge
namespace Go.Proofs.Ythihjclilgdaiaa
open Go.ChangeShapes Go.WideShapes Go.RowKit Go.Deep

theorem bridge_heapPlays {H : Type} {enc : TypeId × Value → H} (W : World) {base : Nat} {v0 v1 v2 : Value} {d0 d1 d2 : DataW H} {p0 p1 p2 : List MemPlace}
    (o0 : Value.okWide Try.prog W .any base 3 v0) (h0 : DataW.Trod enc Try.prog W 0 (fun _ => true) true 3 v0 d0 p0)
    (o1 : Value.okWide Try.prog W .any base 23 v1) (h1 : DataW.Trod enc Try.prog W 0 (fun _ => true) true 23 v1 d1 p1)
    (o2 : Value.okWide Try.prog W .any base 3 v2) (h2 : DataW.Trod enc Try.prog W 0 (fun _ => true) true 3 v2 d2 p2) :
    Calls Try.prog 4 #[v0, v1, v2] W fun e w' => e = .returned (.bool true) ∧ Below W.heap.size W w' := by
  obtain ⟨a0, rfl, _, _, _⟩ := open_int Try.underlying3 o0 h0
  obtain ⟨A, len, cap, rfl⟩ := okWide_slice Try.underlying23 o1
  obtain ⟨a2, rfl, _, _, _⟩ := open_int Try.underlying3 o2 h2
  have r1 := open_acts h1
  exact (plays_law a0 A len cap _ a2 W r1.1 r1.2).mono fun e w' ⟨he, hK⟩ => ⟨he, Grew.below hK⟩
end Go.Proofs.Ythihjclilgdaiaa
