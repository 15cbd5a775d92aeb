/- The arguments of GraphBack opened. -/
import Derived.Test.YtiialiifjhgcmaaBackLaw
import Derived.Test.YtiialiifjhgcmaaOpenGraph
import Derived.WalkKit
import Derived.ProofKit
import Derived.OpenShut
import Derived.ShutString
import Derived.ChangeOld
import Derived.Below
namespace Go.Proofs.Ytiialiifjhgcmaa
open Go.ChangeShapes Go.WideShapes Go.ChangeAt Go.RowKit

theorem bridge_graphBack {H : Type} {enc : TypeId × Value → H} (W : World) {base : Nat} {v0 v1 v2 : Value} {d0 d1 d2 : DataW H} {p0 p1 p2 : List MemPlace}
    (o0 : Value.okWide Try.prog W .any base 24 v0) (h0 : DataW.Trod enc Try.prog W 0 (fun _ => true) true 24 v0 d0 p0)
    (o1 : Value.okWide Try.prog W .any base 3 v1) (h1 : DataW.Trod enc Try.prog W 0 (fun _ => true) true 3 v1 d1 p1)
    (o2 : Value.okWide Try.prog W .any base 36 v2) (h2 : DataW.Trod enc Try.prog W 0 (fun _ => true) true 36 v2 d2 p2) :
    Calls Try.prog 6 #[v0, v1, v2] W fun e w' => e = .returned (.bool true) ∧ Below W.heap.size W w' := by
  obtain ⟨n0, A0, c0, es0, rfl, r0, l0⟩ := open_graph o0 h0
  obtain ⟨a1, rfl, _, _, _⟩ := open_int Try.underlying3 o1 h1
  obtain ⟨a2, rfl, _, _, _⟩ := open_int Try.underlying36 o2 h2
  exact (back_law n0 a1 a2 A0 c0 es0 W r0 l0).mono fun e w' ⟨he, hK⟩ => ⟨he, Grew.below hK⟩
end Go.Proofs.Ytiialiifjhgcmaa
