/- A region where two may come first. -/
import Derived.Test.YthbcgdogmkgebaaWorld
namespace Go.Proofs.Ythbcgdogmkgebaa
open Go.RowKit
variable {P : Program} {ops : Array Oper} {Q : Exit → Act → World → Prop} {md : Region.Mode} {E : List Nat} {F : Nat → Prop}

/-- Numbers i and j are those that may come up. -/
theorem wpAnyG_two (i d j d2 : Nat) {oi oj : Oper} {fuel : Nat} {listed : Array Bool} {T : Array Value} {D : List Deferred} {w : World} (hi : ops[i]? = some oi) (hj : ops[j]? = some oj)
    (hr : Region.ready md ops listed = [i, j]) (hd : (ops[i]?).bind (·.dst) = some d) (hd2 : (ops[j]?).bind (·.dst) = some d2) (hw : Region.wanted oi (yielded ops T) = true) (hw2 : Region.wanted oj (yielded ops T) = true)
    (h : ∀ K : Act → World → Prop, (∀ (v : Value) (w' : World), (i ∉ E → Kept F w w') → wpAnyG P md ops E F Q fuel (listed.setIfInBounds i true) ⟨T.setIfInBounds d v, D⟩ w' → K (Act.put ⟨T, D⟩ (some d) v) w') → ({ oi with dst := some d }).wp P ⟨T, D⟩ w K Q)
    (h2 : ∀ K : Act → World → Prop, (∀ (v : Value) (w' : World), (j ∉ E → Kept F w w') → wpAnyG P md ops E F Q fuel (listed.setIfInBounds j true) ⟨T.setIfInBounds d2 v, D⟩ w' → K (Act.put ⟨T, D⟩ (some d2) v) w') → ({ oj with dst := some d2 }).wp P ⟨T, D⟩ w K Q) : wpAnyG P md ops E F Q (fuel + 1) listed ⟨T, D⟩ w := by
  refine ⟨fun h0 => (by rw [hr] at h0; cases h0), fun k hk => ?_⟩
  rw [hr] at hk
  rcases List.mem_cons.1 hk with rfl | hk
  · skip
    unfold wpOp
    simp only [hi, hw, if_true]
    have e : ({ oi with dst := some d } : Oper) = oi := by rw [← getDst hi hd]
    rw [← e]
    refine .inl (Oper.wp_mono ?_ (h (fun a' w' => ∃ v, a' = Act.put ⟨T, D⟩ (some d) v ∧ (k ∉ E → Kept F w w') ∧ wpAnyG P md ops E F Q fuel (listed.setIfInBounds k true) ⟨T.setIfInBounds d v, D⟩ w') fun v w' h1 h2 => ⟨v, rfl, h1, h2⟩))
    rintro a' w' ⟨v, rfl, h1, h2⟩
    exact ⟨h1, h2⟩
  · obtain rfl := List.mem_singleton.1 hk
    unfold wpOp
    simp only [hj, hw2, if_true]
    have e : ({ oj with dst := some d2 } : Oper) = oj := by rw [← getDst hj hd2]
    rw [← e]
    refine .inl (Oper.wp_mono ?_ (h2 (fun a' w' => ∃ v, a' = Act.put ⟨T, D⟩ (some d2) v ∧ (k ∉ E → Kept F w w') ∧ wpAnyG P md ops E F Q fuel (listed.setIfInBounds k true) ⟨T.setIfInBounds d2 v, D⟩ w') fun v w' h1 h2 => ⟨v, rfl, h1, h2⟩))
    rintro a' w' ⟨v, rfl, h1, h2⟩
    exact ⟨h1, h2⟩
end Go.Proofs.Ythbcgdogmkgebaa
