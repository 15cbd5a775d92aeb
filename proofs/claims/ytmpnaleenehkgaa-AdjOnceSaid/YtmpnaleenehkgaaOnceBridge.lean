/- The arguments of AdjOnce opened. -/
import Derived.Test.YtmpnaleenehkgaaOnce
import Derived.Test.YtmpnaleenehkgaaOpenGraph
import Derived.WalkKit
import Derived.ProofKit
import Derived.OpenShut
import Derived.ShutString
import Derived.ChangeOld
import Derived.Below
namespace Go.Proofs.Ytmpnaleenehkgaa
open Go.ChangeShapes Go.WideShapes Go.ChangeAt Go.RowKit

theorem bridge_adjOnce {H : Type} {enc : TypeId × Value → H} (W : World) {base : Nat} {v0 : Value} {d0 : DataW H} {p0 : List MemPlace}
    (o0 : Value.okWide Try.prog W .any base 24 v0) (h0 : DataW.Trod enc Try.prog W 0 (fun _ => true) true 24 v0 d0 p0) :
    Calls Try.prog 3 #[v0] W fun e w' => e = .returned (.bool true) ∧ Below W.heap.size W w' := by
  obtain ⟨n0, A0, c0, es0, rfl, r0, l0⟩ := open_graph o0 h0
  exact (once_law n0 A0 c0 es0 W r0 l0).mono fun e w' ⟨he, hK⟩ => ⟨he, Grew.below hK⟩
end Go.Proofs.Ytmpnaleenehkgaa
