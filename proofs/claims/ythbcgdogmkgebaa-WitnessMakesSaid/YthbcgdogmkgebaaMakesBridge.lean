/- The arguments of WitnessMakes opened. -/
import Derived.Test.YthbcgdogmkgebaaMakes
import Derived.Test.YthbcgdogmkgebaaOpenNet
import Derived.Test.YthbcgdogmkgebaaGOpen
import Derived.WalkKit
import Derived.ProofKit
import Derived.OpenShut
import Derived.ShutString
import Derived.ChangeOld
import Derived.Below
namespace Go.Proofs.Ythbcgdogmkgebaa
open Go.ChangeShapes Go.WideShapes Go.ChangeAt Go.RowKit

set_option maxRecDepth 100000 in
theorem bridge_witnessMakes {H : Type} {enc : TypeId × Value → H} (W : World) {base : Nat} {v0 v1 : Value} {d0 d1 : DataW H} {p0 p1 : List MemPlace}
    (o0 : Value.okWide Try.prog W .any base 41 v0) (h0 : DataW.Trod enc Try.prog W 0 (fun _ => true) true 41 v0 d0 p0)
    (o1 : Value.okWide Try.prog W .any base 42 v1) (h1 : DataW.Trod enc Try.prog W 0 (fun _ => true) true 42 v1 d1 p1) :
    Calls Try.prog 5 #[v0, v1] W fun e w' => e = .returned (.bool true) ∧ Below W.heap.size W w' := by
  obtain ⟨n, A, c, es, rfl, hr, hl⟩ := Gr.open_graph o0 h0
  obtain ⟨V0, m0, c0, rfl⟩ := okWide_slice Try.underlying42 o1
  obtain ⟨m, hm0⟩ := h1
  have hm : DataW.trod enc Try.prog W 0 (fun _ => true) true m 42 [.slice V0 m0 c0] = some (d1, p1) := hm0
  obtain ⟨V, cV, l, hv0, hv, hll⟩ := open_row hm
  rw [hv0]
  exact (makes_law n A c es V cV l W hr hv hl hll).mono fun e w' ⟨he, hK⟩ => ⟨he, Grew.below hK⟩
end Go.Proofs.Ythbcgdogmkgebaa
