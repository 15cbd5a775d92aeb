/- Closed facts of the rows of the theorems through the layers: each asked of the kernel by itself; that no function starts a goroutine. -/
import Derived.Test.YtepelooebggliaaGreatDoorRows
import Derived.JoinedOf
import Derived.SevenTiedAt
namespace Go.Proofs.YtepelooebggliaaGreatDoor
theorem and2 {a b : Bool} (ha : a = true) (hb : b = true) : (a && b) = true := by rw [ha, hb]; rfl
set_option maxHeartbeats 8000000 in
set_option maxRecDepth 100000 in
theorem st_closed : joinedFacts Tryz.prog 3 Tryz.f3 Rows.topStaleSpec Rows.topStaleRow = true := by
  unfold joinedFacts
  repeat' (with_reducible refine and2 ?_ ?_)
  all_goals as_aux_lemma => kernel_rfl
theorem goes_none {P : Program} (h : P.funcs.any Func.goes = false) (f : FuncId) : P.goes f = false := by
  have key : ∀ g : FuncId, (P.funcs[g]?).any Func.goes = false := fun g => by
    cases hg : P.funcs[g]? with
    | none => rfl
    | some fn =>
      have hm := Array.mem_of_getElem? hg
      simp only [Array.any_eq_false'] at h
      simpa using h fn hm
  unfold Program.goes
  rw [h, Bool.and_false, Bool.or_false]
  simp [key]
set_option maxHeartbeats 8000000 in
set_option maxRecDepth 100000 in
theorem no_goes : Tryz.prog.funcs.any Func.goes = false := by kernel_rfl
theorem st_goes : false = Rows.topStaleRow.goesBy Tryz.prog := by
  have e : Rows.topStaleRow.goesBy Tryz.prog = ((Tryz.prog.funcNamed "highroad/highroadtop.TopStale").any Tryz.prog.goes || false) := rfl
  rw [e, Bool.or_false]
  cases Tryz.prog.funcNamed "highroad/highroadtop.TopStale" with
  | none => rfl
  | some f => simp [goes_none no_goes f]
end Go.Proofs.YtepelooebggliaaGreatDoor
