/- A region that draws its order and whose operations only make memory: what reads may be taken first, by one order alone.
   'wpAnyG': whatever order is picked, each operation that is carried out leaves all that there was as it was ('Below'). An operation that yields its value in every world that the world at hand grows into may then be taken first ('wpAnyG_take'). -/
import Derived.OrdersHeld
import Derived.Below
namespace Go.Proofs.Ytgbddffmbmielaa
open Go.RowKit
section
variable {P : Program} {ops : Array Oper} {Q : Exit → Act → World → Prop} {md : Region.Mode}

/-- What a world may become: all that there was is as it was. -/
def Grew (w w' : World) : Prop := Below w.heap.size w w'
theorem Grew.refl (w : World) : Grew w w := Below.refl _ _
theorem Grew.trans {a b c : World} (h : Grew a b) (k : Grew b c) : Grew a c := Below.trans h (Below.mono k h.size)
theorem Grew.drew (w : World) : Grew w w.drew := (Below.refl _ _).drew
theorem Grew.alloc (w : World) (o : Obj) : Grew w (w.alloc o) := (Below.refl _ _).alloc (Nat.le_refl _) _
theorem Grew.cell {w w' : World} (h : Grew w w') {p : Addr} {v : Value} (hc : w.cell? p = some v) : w'.cell? p = some v :=
  (Below.cell h (World.block_lt_of_cell? w p hc)).trans hc

def wpAnyG (P : Program) (md : Region.Mode) (ops : Array Oper) (Q : Exit → Act → World → Prop) : Nat → Array Bool → Act → World → Prop
  | 0, listed, a, w => Region.ready md ops listed = [] ∧ Q .normal a w
  | fuel + 1, listed, a, w =>
    (Region.ready md ops listed = [] → Q .normal a w) ∧
    ∀ i ∈ Region.ready md ops listed, wpOp P ops Q i (fun a' w' => Grew w w' ∧ wpAnyG P md ops Q fuel (listed.setIfInBounds i true) a' w') a w

theorem wpAny_of_grow : ∀ (fuel : Nat) (listed : Array Bool) (a : Act) (w : World), wpAnyG P md ops Q fuel listed a w → wpAny P md ops Q fuel listed a w
  | 0, _, _, _, h => h
  | fuel + 1, _, _, _, h => ⟨h.1, fun i hi => wpOp_mono (fun a' w' h' => wpAny_of_grow fuel _ a' w' h'.2) (h.2 i hi)⟩

theorem wpAnyG_first {w0 : World} {i : Nat} {oi : Oper} {v : Value} (hi : ops[i]? = some oi) (hsel : ∀ (j : Nat) (o : Oper) cs b, ops[j]? = some o → o.op ≠ .select cs b)
    (hQ : ∀ c a w, Q (.panic c) (a.put oi.dst v) w → Q (.panic c) a w) :
    ∀ (fuel : Nat) (listed : Array Bool) (a : Act) (w : World),
      (∀ j oj, ops[j]? = some oj → j ≠ i → listed.getD j true = false → (∀ e ∈ oj.after, Region.binds md e = true → e.on ≠ i) → oi.apart ops oj = true) →
      i ∈ Region.ready md ops listed → YieldsIf P ops (Grew w0) oi v a → Grew w0 w →
      wpAnyG P md ops Q fuel (listed.setIfInBounds i true) (a.put oi.dst v) w → wpAnyG P md ops Q (fuel + 1) listed a w := by
  intro fuel
  induction fuel with
  | zero =>
    intro listed a w _ hr hy hS H
    refine ⟨fun h => (by rw [h] at hr; cases hr), fun j hj => ?_⟩
    by_cases hji : j = i
    · subst hji; exact hy.wpOp hi hS ⟨Grew.refl w, H⟩
    · have := ready_mono hj hji
      rw [H.1] at this
      cases this
  | succ fuel ih =>
    intro listed a w hfree hr hy hS H
    refine ⟨fun h => (by rw [h] at hr; cases hr), fun j hj => ?_⟩
    by_cases hji : j = i
    · subst hji; exact hy.wpOp hi hS ⟨Grew.refl w, H⟩
    · have h1 := H.2 j (ready_mono hj hji)
      obtain ⟨hjun, oj, hoj, hall⟩ := mem_ready.1 hj
      have hnot : ∀ e ∈ oj.after, Region.binds md e = true → e.on ≠ i := fun e he hb heq => by
        have h1 := hall e he hb
        have h0 := (mem_ready.1 hr).1
        rw [heq] at h1
        rcases Nat.lt_or_ge i listed.size with h' | h'
        · simp [h'] at h0 h1; rw [h0] at h1; cases h1
        · simp [Array.getElem?_eq_none h'] at h1
      have h2 := wpOp_putIf hoj (hfree j oj hoj hji hjun hnot) (fun cs b => hsel i oi cs b hi) (fun cs b => hsel j oj cs b hoj) hQ hy h1
      have hfree' : ∀ k ok, ops[k]? = some ok → k ≠ i → (listed.setIfInBounds j true).getD k true = false →
          (∀ e ∈ ok.after, Region.binds md e = true → e.on ≠ i) → oi.apart ops ok = true := fun k ok hk hki hun hno => by
        refine hfree k ok hk hki ?_ hno
        by_cases hjk : j = k
        · subst hjk; exact hjun
        · rw [getD_set_ne true hjk] at hun; exact hun
      refine wpOp_mono (fun a' w' h3 => ⟨h3.2.1, ih (listed.setIfInBounds j true) a' w' hfree' (ready_mono hr (Ne.symm hji)) h3.1 (hS.trans h3.2.1) ?_⟩) h2
      rw [Array.setIfInBounds_comm _ _ hji]
      exact h3.2.2

/-- Q, but 'False' at a panic. -/
def Calm (Q : Exit → Act → World → Prop) : Exit → Act → World → Prop
  | .panic _, _, _ => False
  | e, a, w => Q e a w
theorem Calm.imp {Q : Exit → Act → World → Prop} : ∀ (e : Exit) (a : Act) (w : World), Calm Q e a w → Q e a w := fun e a w h => by
  cases e <;> first | exact h | exact (h : False).elim

/-- The three facts on the region's text that a move asks. -/
def okTake (md : Region.Mode) (ops : Array Oper) (listed : Array Bool) (i : Nat) : Bool := Region.noSelect ops && Region.free md ops listed i && (Region.ready md ops listed).contains i

theorem getDst {o : Option Oper} {oi : Oper} {d : Tmp} (hi : o = some oi) (hd : o.bind (·.dst) = some d) : oi.dst = some d := by
  subst hi; exact hd

/-- Take number i first: it yields v in every world that the one at hand grows into. -/
theorem wpAnyG_take (i d : Nat) {oi : Oper} {v : Value} {fuel : Nat} {listed : Array Bool} {T : Array Value} {D : List Deferred} {w : World} (hi : ops[i]? = some oi)
    (hok : okTake md ops listed i = true) (hd : (ops[i]?).bind (·.dst) = some d) (hw : Region.wanted oi (yielded ops T) = true)
    (hy : ∀ w', Grew w w' → (execOp (Act.eval ⟨T, D⟩) oi).run P w' = .ok (.value v) w')
    (h : wpAnyG P md ops (Calm Q) fuel (listed.setIfInBounds i true) ⟨T.setIfInBounds d v, D⟩ w) : wpAnyG P md ops (Calm Q) (fuel + 1) listed ⟨T, D⟩ w := by
  simp only [okTake, Bool.and_eq_true] at hok
  refine wpAnyG_first hi (Region.noSelect_spec hok.1.1) (fun _ _ _ h => h) fuel listed _ w (Region.free_spec hi hok.1.2) (by simpa using hok.2) (.inl ⟨hw, hy⟩) (Grew.refl w) ?_
  rw [getDst hi hd]
  exact h

/-- Number i is passed over: its guard says no. -/
theorem wpAnyG_pass (i d : Nat) {oi : Oper} {fuel : Nat} {listed : Array Bool} {T : Array Value} {D : List Deferred} {w : World} (hi : ops[i]? = some oi)
    (hok : okTake md ops listed i = true) (hd : (ops[i]?).bind (·.dst) = some d) (hw : Region.wanted oi (yielded ops T) = false)
    (h : wpAnyG P md ops (Calm Q) fuel (listed.setIfInBounds i true) ⟨T.setIfInBounds d undef, D⟩ w) : wpAnyG P md ops (Calm Q) (fuel + 1) listed ⟨T, D⟩ w := by
  simp only [okTake, Bool.and_eq_true] at hok
  refine wpAnyG_first hi (Region.noSelect_spec hok.1.1) (fun _ _ _ h => h) fuel listed _ w (Region.free_spec hi hok.1.2) (by simpa using hok.2) (.inr ⟨hw, rfl⟩) (Grew.refl w) ?_
  rw [getDst hi hd]
  exact h

/-- Number i is the only one that may come up. -/
theorem wpAnyG_step (i d : Nat) {oi : Oper} {fuel : Nat} {listed : Array Bool} {T : Array Value} {D : List Deferred} {w : World} (hi : ops[i]? = some oi)
    (hr : Region.ready md ops listed = [i]) (hd : (ops[i]?).bind (·.dst) = some d) (hw : Region.wanted oi (yielded ops T) = true)
    (h : ∀ K : Act → World → Prop, (∀ (v : Value) (w' : World), Grew w w' → wpAnyG P md ops Q fuel (listed.setIfInBounds i true) ⟨T.setIfInBounds d v, D⟩ w' → K (Act.put ⟨T, D⟩ (some d) v) w') → ({ oi with dst := some d }).wp P ⟨T, D⟩ w K Q) : wpAnyG P md ops Q (fuel + 1) listed ⟨T, D⟩ w := by
  refine ⟨fun h0 => (by rw [hr] at h0; cases h0), fun j hj => ?_⟩
  rw [hr, List.mem_singleton] at hj
  subst hj
  unfold wpOp
  simp only [hi, hw, if_true]
  have e : ({ oi with dst := some d } : Oper) = oi := by rw [← getDst hi hd]
  rw [← e]
  refine .inl (Oper.wp_mono ?_ (h (fun a' w' => ∃ v, a' = Act.put ⟨T, D⟩ (some d) v ∧ Grew w w' ∧ wpAnyG P md ops Q fuel (listed.setIfInBounds j true) ⟨T.setIfInBounds d v, D⟩ w') fun v w' h1 h2 => ⟨v, rfl, h1, h2⟩))
  rintro a' w' ⟨v, rfl, h1, h2⟩
  exact ⟨h1, h2⟩

theorem wpAnyG_done {fuel : Nat} {listed : Array Bool} {a : Act} {w : World} (hr : Region.ready md ops listed = []) (h : Q .normal a w) : wpAnyG P md ops (Calm Q) fuel listed a w := by
  cases fuel with
  | zero => exact ⟨hr, h⟩
  | succ n => exact ⟨fun _ => h, by rw [hr]; simp⟩

theorem wp_region_grow {id : Nat} {a : Act} {w : World} (hm : P.follows .mixedOrders = true)
    (h : wpAnyG P .any ops (Calm Q) ops.size (Array.replicate ops.size false) a w.drew) : (Code.region id ops true).wp P Q a w :=
  Code.wp_mono Calm.imp (wp_region_any hm (wpAny_of_grow _ _ _ _ h))
end
end Go.Proofs.Ytgbddffmbmielaa
