/- The arguments of WitnessMore opened. -/
import Derived.Test.YthbcgdogmkgebaaMore
import Derived.Test.YthbcgdogmkgebaaOpenNet
import Derived.WalkKit
import Derived.ProofKit
import Derived.OpenShut
import Derived.ShutString
import Derived.ChangeOld
import Derived.Below
namespace Go.Proofs.Ythbcgdogmkgebaa
open Go.ChangeShapes Go.WideShapes Go.ChangeAt Go.RowKit

set_option maxRecDepth 100000 in
theorem bridge_witnessMore {H : Type} {enc : TypeId × Value → H} (W : World) {base : Nat} {v0 v1 v2 v3 v4 : Value} {d0 d1 d2 d3 d4 : DataW H} {p0 p1 p2 p3 p4 : List MemPlace}
    (o0 : Value.okWide Try.prog W .any base 25 v0) (h0 : DataW.Trod enc Try.prog W 0 (fun _ => true) true 25 v0 d0 p0)
    (o1 : Value.okWide Try.prog W .any base 3 v1) (h1 : DataW.Trod enc Try.prog W 0 (fun _ => true) true 3 v1 d1 p1)
    (o2 : Value.okWide Try.prog W .any base 3 v2) (h2 : DataW.Trod enc Try.prog W 0 (fun _ => true) true 3 v2 d2 p2)
    (o3 : Value.okWide Try.prog W .any base 26 v3) (h3 : DataW.Trod enc Try.prog W 0 (fun _ => true) true 26 v3 d3 p3)
    (o4 : Value.okWide Try.prog W .any base 26 v4) (h4 : DataW.Trod enc Try.prog W 0 (fun _ => true) true 26 v4 d4 p4) :
    Calls Try.prog 4 #[v0, v1, v2, v3, v4] W fun e w' => e = .returned (.bool true) ∧ Below W.heap.size W w' := by
  obtain ⟨A, c, ls, V, cG, gs, rfl, hr, hg, hl, hls, hgs⟩ := open_net o0 h0
  obtain ⟨a1, rfl, rfl, rfl, w1⟩ := open_int Try.underlying3 o1 h1
  obtain ⟨a2, rfl, rfl, rfl, w2⟩ := open_int Try.underlying3 o2 h2
  obtain ⟨a3, rfl, rfl, rfl, w3⟩ := open_int Try.underlying26 o3 h3
  obtain ⟨a4, rfl, rfl, rfl, w4⟩ := open_int Try.underlying26 o4 h4
  have u3 : 0 ≤ a3 := by
    have h := w3
    simp [Lit.wf, IntKind.min, IntKind.max, IntKind.bits, IntKind.signed] at h
    omega
  have u4 : 0 ≤ a4 := by
    have h := w4
    simp [Lit.wf, IntKind.min, IntKind.max, IntKind.bits, IntKind.signed] at h
    omega
  exact (more_law A V c cG ls gs a1 a2 a3 a4 W hr hg hl hls hgs u3 u4).mono fun e w' ⟨he, hK⟩ => ⟨he, Grew.below hK⟩
end Go.Proofs.Ythbcgdogmkgebaa
