/- The arguments of BitsBoth opened. -/
import Derived.Test.YtabddnlcgmbopaaDoorBothL
import Derived.Test.YtabddnlcgmbopaaDoorPlaysBridge
namespace Go.Proofs.YtabddnlcgmbopaaDoor
open Go.ChangeShapes Go.WideShapes Go.RowKit Go.Deep
theorem bridge_bitsBoth {H : Type} {enc : TypeId × Value → H} (W : World) (hT : TabB W) {base : Nat} {v0 v1 v2 v3 : Value} {d0 d1 d2 d3 : DataW H} {p0 p1 p2 p3 : List MemPlace}
    (o0 : Value.okWide Tryd.prog W .any base 3 v0) (h0 : DataW.Trod enc Tryd.prog W 0 (fun _ => true) true 3 v0 d0 p0)
    (o1 : Value.okWide Tryd.prog W .any base 3 v1) (h1 : DataW.Trod enc Tryd.prog W 0 (fun _ => true) true 3 v1 d1 p1)
    (o2 : Value.okWide Tryd.prog W .any base 22 v2) (h2 : DataW.Trod enc Tryd.prog W 0 (fun _ => true) true 22 v2 d2 p2)
    (o3 : Value.okWide Tryd.prog W .any base 22 v3) (h3 : DataW.Trod enc Tryd.prog W 0 (fun _ => true) true 22 v3 d3 p3) :
    Calls Tryd.prog 4 #[v0, v1, v2, v3] W fun e w' => e = .returned (.bool true) ∧ Below W.heap.size W w' := by
  obtain ⟨a0, rfl, _, _, _⟩ := open_int Tryd.underlying3 o0 h0
  obtain ⟨a1, rfl, _, _, _⟩ := open_int Tryd.underlying3 o1 h1
  obtain ⟨A, len, cap, rfl⟩ := okWide_slice Tryd.underlying22 o2
  obtain ⟨A', len', cap', rfl⟩ := okWide_slice Tryd.underlying22 o3
  obtain ⟨l, rfl, r1, z1⟩ := open_ints' h2
  obtain ⟨l2, rfl, r2, z2⟩ := open_ints' h3
  exact (both_law a0 a1 A cap l A' cap' l2 W r1 r2 z1 z2 hT).mono fun e w' ⟨he, hK⟩ => ⟨he, Grew.below hK⟩
end Go.Proofs.YtabddnlcgmbopaaDoor
