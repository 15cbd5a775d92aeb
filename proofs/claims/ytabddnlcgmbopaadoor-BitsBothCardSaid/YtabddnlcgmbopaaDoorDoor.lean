/- What the rows' condition gives: the library's table lies in its variable; and a world that meets it. -/
import Derived.Test.YtabddnlcgmbopaaDoorAll
import Derived.ProofKit
import Derived.OpenShut
import Derived.LaidLaws
import Derived.LaidHandle
import Derived.MakeChecks
namespace Go.Proofs.YtabddnlcgmbopaaDoor
open Go.ChangeShapes Go.WideShapes Go.ChangeAt Go.RowKit

abbrev laid : List (String × DataW Unit) := [("math/bits.deBruijn64tab", Rows.laid_math_bits_deBruijn64tab)]
theorem gTab : Tryd.prog.globalNamed "math/bits.deBruijn64tab" = some 0 := by kernel_rfl
theorem tTab : (Tryd.prog.globals[0]?).map (·.type) = some 55 := by kernel_rfl
theorem datum : (Rows.laid_math_bits_deBruijn64tab : DataW Unit) = .agg (Lib.deBruijn64tab.map fun n : Nat => .lit (.int .u8 (n : Int))) := by kernel_rfl

theorem tab_of_laid {W : World} (h : laidMetH Tryd.prog laid W) : TabB W := by
  rw [MakeChecks.laidMetH_plain _ _ _ (by kernel_rfl)] at h
  obtain ⟨ps, ⟨g, t, cs, fuel, p, q, hg, ht, hvar, hd, _, hps⟩, _, hcell⟩ := h
  obtain rfl := Option.some.inj (gTab.symm.trans hg)
  obtain rfl := Option.some.inj (tTab.symm.trans ht)
  obtain ⟨xs, m1, rfl, hx1, hlen, hn3, hel⟩ := DataW.trod_array Tryd.underlying55 hd
  have c1 : Tryd.prog.cellsOf 5 = 1 := by kernel_rfl
  have c64 : Tryd.prog.cellsOf 55 = 64 := by kernel_rfl
  rw [c64] at hlen
  have hx2 := (Prod.mk.inj hx1).1
  rw [datum] at hx2
  have hx3 := DataW.agg.inj hx2
  refine ⟨fun j hj => ?_, ?_⟩
  · have hj' : j < 64 := hj
    have h1 := hel j hj'
    rw [c1, Nat.mul_one] at h1
    have hxj : xs[j]? = some (xs[j]'(by omega)) := List.getElem?_eq_getElem (by omega)
    obtain ⟨k, e1, e2, _⟩ := DataW.trod_int Tryd.underlying5 (h1.trans hxj)
    have h2 := congrArg (·[j]?) hx3
    simp only [List.getElem?_map, hxj, Option.map_some, e2] at h2
    rw [List.getElem?_eq_getElem hj, Option.map_some] at h2
    have h3 : ((Lib.deBruijn64tab[j]'hj : Nat) : Int) = k := by
      have := Option.some.inj h2
      injection this with h4
      injection h4
    have hc : cs[j]? = some (.int .u8 k) := by
      have h5 := congrArg (·[0]?) e1
      simp only [List.getElem?_take, List.getElem?_drop, Nat.add_zero] at h5
      rw [← Array.getElem?_toList]
      simpa using h5
    have h6 := World.var?_cell hg hvar j
    rw [hc] at h6
    rw [List.getD_eq_getElem?_getD, List.getElem?_eq_getElem hj, Option.getD_some, h3]
    exact h6
  · obtain ⟨⟨c, t, h⟩, _⟩ := hcell 0 0 (by
      rw [hps]
      have hs : cs.size = 64 := by simpa using hlen
      rw [hs]
      exact List.mem_append_left _ (List.mem_append_left _ (by decide)))
    exact ⟨c, t, _, h⟩

def cells64 : Array Value := (Lib.deBruijn64tab.map fun n : Nat => Value.int .u8 (n : Int)).toArray
/-- A world that meets the condition: the settled one, the table laid. -/
noncomputable def laidWorld (os : Os) : World :=
  let w0 := World.holding Tryd.prog os ⟨#[], #[], []⟩
  { w0 with heap := w0.heap.modify 0 fun
      | .cells _ t frozen => .cells cells64 t frozen
      | o => o }
theorem laidWorld_met (os : Os) (args : Array Value) : laidMetH Tryd.prog laid ((laidWorld os).forCall (fun _ _ => 0) ⟨#[], args, []⟩).memory := by
  rw [MakeChecks.laidMetH_plain _ _ _ (by kernel_rfl)]
  exact laidMet_of_run' 8 (by kernel_rfl) (by kernel_rfl)
end Go.Proofs.YtabddnlcgmbopaaDoor
