/- The arguments of BitsSums opened. -/
import Derived.Test.YtabddnlcgmbopaaDoorSums
import Derived.Test.YtabddnlcgmbopaaDoorPlaysBridge
namespace Go.Proofs.YtabddnlcgmbopaaDoor
open Go.ChangeShapes Go.WideShapes Go.RowKit Go.Deep
theorem bridge_bitsSums {H : Type} {enc : TypeId × Value → H} (W : World) (hT : TabB W) {base : Nat} {v0 v1 v2 : Value} {d0 d1 d2 : DataW H} {p0 p1 p2 : List MemPlace}
    (o0 : Value.okWide Tryd.prog W .any base 3 v0) (h0 : DataW.Trod enc Tryd.prog W 0 (fun _ => true) true 3 v0 d0 p0)
    (o1 : Value.okWide Tryd.prog W .any base 22 v1) (h1 : DataW.Trod enc Tryd.prog W 0 (fun _ => true) true 22 v1 d1 p1)
    (o2 : Value.okWide Tryd.prog W .any base 22 v2) (h2 : DataW.Trod enc Tryd.prog W 0 (fun _ => true) true 22 v2 d2 p2) :
    Calls Tryd.prog 5 #[v0, v1, v2] W fun e w' => e = .returned (.bool true) ∧ Below W.heap.size W w' := by
  obtain ⟨a0, rfl, _, _, _⟩ := open_int Tryd.underlying3 o0 h0
  obtain ⟨A, len, cap, rfl⟩ := okWide_slice Tryd.underlying22 o1
  obtain ⟨A', len', cap', rfl⟩ := okWide_slice Tryd.underlying22 o2
  obtain ⟨l, rfl, r1, z1⟩ := open_ints' h1
  obtain ⟨l2, rfl, r2, z2⟩ := open_ints' h2
  exact (sums_law a0 A cap l A' cap' l2 W r1 r2 z1 z2 hT).mono fun e w' ⟨he, hK⟩ => ⟨he, Grew.below hK⟩
end Go.Proofs.YtabddnlcgmbopaaDoor
