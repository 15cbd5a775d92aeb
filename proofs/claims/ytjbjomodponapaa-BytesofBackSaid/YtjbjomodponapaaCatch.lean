/- What reads: the deferred call that catches. -/
import Derived.Test.YtjbjomodponapaaRead
import Derived.Defers
import Derived.Recover
namespace Go.Proofs.Ytjbjomodponapaa
open Go.RowKit

set_option maxHeartbeats 1000000 in
theorem catch_panicking (a f : Nat) (q x y : Int) (w : World) (ha : Blk w a 3 #[i64 x]) (hf : Blk w f 32 #[i64 y]) (haf : a ≠ f) :
    CallsD Try.prog 33 #[pt a, pt f] (.panicking (wrongs q)) w fun e u' w' =>
      e = .returned (.tuple #[]) ∧ u' = .panicking [{ v := .iface 60 (.agg #[i64 q]), recovered := true }] ∧ w' = ((w.alloc (.cells #[i64 q] 60)).setCell ⟨a, 0, none⟩ (i64 q)).setCell ⟨f, 0, none⟩ (i64 4) := by
  have c0 := ha.cell 0
  have c1 := hf.cell 0
  have z0 := ha.frozen 0
  have z1 := hf.frozen 0
  simp at c0 c1
  refine callsD_of_wpS Try.func33 rfl fun c₀ cs hu => ?_
  apply wpS_seq
  apply wpS_region
  have hta : ∀ w, (Instr.typeAssert (.iface 60 (.agg #[i64 q])) 20 60 true).run Try.prog w = .ok (.tuple #[.agg #[i64 q], .bool true]) w := fun w => by kernel_rfl
  have hrep : Array.replicate 10 undef = #[undef, undef, undef, undef, undef, undef, undef, undef, undef, undef] := rfl
  simp [wpOpsS, go_sem, recoverD, hu, Try.ntmps33, Exit.thenS, hrep, hta]
  have ba := ha.alloc (.cells #[i64 q] 60)
  have bf := (hf.alloc (.cells #[i64 q] 60)).far (p := ⟨a, 0, none⟩) (fun e => haf e.symm) (i64 q)
  have e0 := ba.cell 0
  have e1 := ba.frozen 0
  have e2 := bf.cell 0
  have e3 := bf.frozen 0
  simp at e0 e2
  clear ba bf c0 c1 z0 z1 hta hrep
  refine wpS_of_wp ?_
  go_wp2_with fail
  cases c₀
  simp [bodyPostS, results, Try.results33]
set_option maxHeartbeats 1000000 in
theorem catch_idle (a f : Nat) (w : World) :
    CallsD Try.prog 33 #[pt a, pt f] .returning w fun e u' w' => e = .returned (.tuple #[]) ∧ u' = .returning ∧ w' = w.alloc (.cells #[i64 0] 60) := by
  refine callsD_of_wpS Try.func33 rfl fun c₀ cs hu => ?_
  apply wpS_seq
  apply wpS_region
  have hta : ∀ w, (Instr.typeAssert .nilIface 20 60 true).run Try.prog w = .ok (.tuple #[.agg #[i64 0], .bool false]) w := fun w => by kernel_rfl
  have hrep : Array.replicate 10 undef = #[undef, undef, undef, undef, undef, undef, undef, undef, undef, undef] := rfl
  simp [wpOpsS, go_sem, recoverD, hu, Try.ntmps33, Exit.thenS, hrep, hta]
  clear hta hrep
  refine wpS_of_wp ?_
  go_wp2_with fail
  cases c₀
  simp_all [bodyPostS, results, Try.results33]
end Go.Proofs.Ytjbjomodponapaa
