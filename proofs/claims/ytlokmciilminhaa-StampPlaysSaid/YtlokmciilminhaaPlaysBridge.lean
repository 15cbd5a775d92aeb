/- The arguments of StampPlays opened: a number, a slice of acts. -/
import Derived.Test.YtlokmciilminhaaPlays
import Derived.Test.YtlokmciilminhaaAgainBridge
namespace Go.Proofs.Ytlokmciilminhaa
open Go.ChangeShapes Go.WideShapes Go.RowKit Go.Deep

theorem bridge_stampPlays {H : Type} {enc : TypeId × Value → H} (W : World) {base : Nat} {v0 v1 : Value} {d0 d1 : DataW H} {p0 p1 : List MemPlace}
    (o0 : Value.okWide Try.prog W .any base 3 v0) (h0 : DataW.Trod enc Try.prog W 0 (fun _ => true) true 3 v0 d0 p0)
    (o1 : Value.okWide Try.prog W .any base 22 v1) (h1 : DataW.Trod enc Try.prog W 0 (fun _ => true) true 22 v1 d1 p1) :
    Calls Try.prog 4 #[v0, v1] W fun e w' => e = .returned (.bool true) ∧ Below W.heap.size W w' := by
  obtain ⟨a0, rfl, _, _, _⟩ := open_int Try.underlying3 o0 h0
  obtain ⟨A, len, cap, rfl⟩ := okWide_slice Try.underlying22 o1
  have r0 := open_acts h1
  exact (plays_law a0 A len cap _ W r0.1 r0.2).mono fun e w' ⟨he, hK⟩ => ⟨he, Grew.below hK⟩
end Go.Proofs.Ytlokmciilminhaa
