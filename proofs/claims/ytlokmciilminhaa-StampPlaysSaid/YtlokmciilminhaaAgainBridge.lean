/- The arguments of StampAgain opened: two slices of acts. -/
import Derived.Test.YtlokmciilminhaaAgain
import Derived.Test.YtlokmciilminhaaOpen
namespace Go.Proofs.Ytlokmciilminhaa
open Go.ChangeShapes Go.WideShapes Go.RowKit Go.Deep

def rdA (w : World) (A : Option Addr) (i : Nat) : Act3 := ⟨rdI w A (i * 3 + 0), rdI w A (i * 3 + 1), rdI w A (i * 3 + 2)⟩

theorem open_acts {H : Type} {enc : TypeId × Value → H} {w : World} {A : Option Addr} {len cap : Nat} {d : DataW H} {p : List MemPlace} (h : DataW.Trod enc Try.prog w 0 (fun _ => true) true 22 (.slice A len cap) d p) :
    RowA w A len (rdA w A) ∧ len ≤ 9223372036854775807 := by
  obtain ⟨fuel, hf⟩ := h
  obtain ⟨h1, h2, _, h3⟩ := open_structs Try.underlying22 Try.underlying29 (by kernel_rfl) (by kernel_rfl) (by decide) hf
  unfold maxLen at h2
  refine ⟨fun i hi => ?_, by omega⟩
  obtain ⟨b, off, rfl, hb, hc⟩ := h3 i hi
  obtain ⟨v0, y0, n0, c0, t0⟩ := hc 0 _ rfl
  obtain ⟨v1, y1, n1, c1, t1⟩ := hc 1 _ rfl
  obtain ⟨v2, y2, n2, c2, t2⟩ := hc 2 _ rfl
  exact ⟨b, off, rfl, (int_at Try.underlying3 c0 t0).1, (int_at Try.underlying3 c1 t1).1, (int_at Try.underlying27 c2 t2).1⟩

theorem bridge_stampAgain {H : Type} {enc : TypeId × Value → H} (W : World) {base : Nat} {v0 v1 : Value} {d0 d1 : DataW H} {p0 p1 : List MemPlace}
    (o0 : Value.okWide Try.prog W .any base 22 v0) (h0 : DataW.Trod enc Try.prog W 0 (fun _ => true) true 22 v0 d0 p0)
    (o1 : Value.okWide Try.prog W .any base 22 v1) (h1 : DataW.Trod enc Try.prog W 0 (fun _ => true) true 22 v1 d1 p1) :
    Calls Try.prog 3 #[v0, v1] W fun e w' => e = .returned (.bool true) ∧ Below W.heap.size W w' := by
  obtain ⟨A, len, cap, rfl⟩ := okWide_slice Try.underlying22 o0
  obtain ⟨A', len', cap', rfl⟩ := okWide_slice Try.underlying22 o1
  have r0 := open_acts h0
  have r1 := open_acts h1
  exact (again_law A A' len cap len' cap' _ _ W r0.1 r1.1 r0.2 r1.2).mono fun e w' ⟨he, hK⟩ => ⟨he, Grew.below hK⟩
end Go.Proofs.Ytlokmciilminhaa
