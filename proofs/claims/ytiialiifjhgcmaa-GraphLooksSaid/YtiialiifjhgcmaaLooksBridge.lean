/- The arguments of GraphLooks opened. -/
import Derived.Test.YtiialiifjhgcmaaLooksLaw
import Derived.Test.YtiialiifjhgcmaaOpenGraph
import Derived.WalkKit
import Derived.ProofKit
import Derived.OpenShut
import Derived.ShutString
import Derived.ChangeOld
import Derived.Below
namespace Go.Proofs.Ytiialiifjhgcmaa
open Go.ChangeShapes Go.WideShapes Go.ChangeAt Go.RowKit

theorem bridge_graphLooks {H : Type} {enc : TypeId × Value → H} (W : World) {base : Nat} {v0 v1 v2 v3 : Value} {d0 d1 d2 d3 : DataW H} {p0 p1 p2 p3 : List MemPlace}
    (o0 : Value.okWide Try.prog W .any base 24 v0) (h0 : DataW.Trod enc Try.prog W 0 (fun _ => true) true 24 v0 d0 p0)
    (o1 : Value.okWide Try.prog W .any base 24 v1) (h1 : DataW.Trod enc Try.prog W 0 (fun _ => true) true 24 v1 d1 p1)
    (o2 : Value.okWide Try.prog W .any base 3 v2) (h2 : DataW.Trod enc Try.prog W 0 (fun _ => true) true 3 v2 d2 p2)
    (o3 : Value.okWide Try.prog W .any base 3 v3) (h3 : DataW.Trod enc Try.prog W 0 (fun _ => true) true 3 v3 d3 p3) :
    Calls Try.prog 3 #[v0, v1, v2, v3] W fun e w' => e = .returned (.bool true) ∧ Below W.heap.size W w' := by
  obtain ⟨n0, A0, c0, es0, rfl, r0, l0⟩ := open_graph o0 h0
  obtain ⟨n1, A1, c1, es1, rfl, r1, l1⟩ := open_graph o1 h1
  obtain ⟨a2, rfl, _, _, _⟩ := open_int Try.underlying3 o2 h2
  obtain ⟨a3, rfl, _, _, _⟩ := open_int Try.underlying3 o3 h3
  exact (looks_law n0 n1 a2 a3 A0 A1 c0 c1 es0 es1 W r0 r1 l0 l1).mono fun e w' ⟨he, hK⟩ => ⟨he, Grew.below hK⟩
end Go.Proofs.Ytiialiifjhgcmaa
