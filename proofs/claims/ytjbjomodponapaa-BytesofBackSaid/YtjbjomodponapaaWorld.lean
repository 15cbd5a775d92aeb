/- What a world keeps: 'Kept F w w'': of the blocks that were there, those that F does not name are as they were. Blocks that are known whole. Regions that draw their order, taken in one order. -/
import Derived.OrdersHeld
import Derived.WalkKit
import Derived.Lib.Hide
import Derived.WalkSpells
import Derived.WalkLawsBesides
namespace Go.Proofs.Ytjbjomodponapaa
open Go.RowKit

/-- Of the blocks that were there, those that F does not name are as they were; the streams are as they were. -/
structure Kept (F : Nat → Prop) (w w' : World) : Prop where
  os : w'.os = w.os
  tape : w'.tape = w.tape
  output : w'.output = w.output
  size : w.heap.size ≤ w'.heap.size
  block : ∀ k, k < w.heap.size → ¬ F k → w'.heap[k]? = w.heap[k]?

/-- Nothing that was there has turned. -/
abbrev Grew (w w' : World) : Prop := Kept (fun _ => False) w w'

section
variable {F G : Nat → Prop} {a b c w w' : World}
theorem Kept.refl (F : Nat → Prop) (w : World) : Kept F w w := ⟨rfl, rfl, rfl, Nat.le_refl _, fun _ _ _ => rfl⟩
theorem Kept.trans (h : Kept F a b) (k : Kept F b c) : Kept F a c :=
  ⟨k.os.trans h.os, k.tape.trans h.tape, k.output.trans h.output, Nat.le_trans h.size k.size, fun i hi hf => (k.block i (Nat.lt_of_lt_of_le hi h.size) hf).trans (h.block i hi hf)⟩
theorem Kept.mono (h : Kept F a b) (hFG : ∀ k, k < a.heap.size → F k → G k) : Kept G a b := ⟨h.os, h.tape, h.output, h.size, fun i hi hf => h.block i hi fun hF => hf (hFG i hi hF)⟩
theorem Grew.kept (h : Grew a b) : Kept F a b := h.mono fun _ _ h => h.elim
theorem Kept.then (h : Kept F a b) (k : Kept G b c) (hG : ∀ i, i < a.heap.size → G i → F i) : Kept F a c :=
  ⟨k.os.trans h.os, k.tape.trans h.tape, k.output.trans h.output, Nat.le_trans h.size k.size, fun i hi hf => (k.block i (Nat.lt_of_lt_of_le hi h.size) fun hg => hf (hG i hi hg)).trans (h.block i hi hf)⟩
theorem Kept.grew (h : Kept F a b) (k : Grew b c) : Kept F a c := h.then k fun _ _ h => h.elim
theorem Kept.drew (h : Kept F a w) : Kept F a w.drew := ⟨h.os, h.tape, h.output, h.size, h.block⟩
theorem Kept.drewN (h : Kept F a w) (n : Nat) : Kept F a (w.drewN n) := ⟨h.os, h.tape, h.output, h.size, h.block⟩
theorem Kept.alloc (h : Kept F a w) (o : Obj) : Kept F a (w.alloc o) :=
  ⟨h.os, h.tape, h.output, Nat.le_trans h.size (by simp), fun i hi hf => (Below.heap_alloc w o i (Nat.lt_of_lt_of_le hi h.size)).trans (h.block i hi hf)⟩
theorem Kept.setCell (h : Kept F a w) {p : Addr} (hp : F p.block ∨ a.heap.size ≤ p.block) (u : Value) : Kept F a (w.setCell p u) :=
  ⟨h.os, h.tape, h.output, by simpa [World.setCell] using h.size, fun i hi hf => (Below.heap_setCell w p u i (by
    rintro rfl
    rcases hp with hp | hp
    · exact hf hp
    · omega)).trans (h.block i hi hf)⟩
theorem Kept.grown {row : Option Nat} (h : Kept F a w) (hg : w.grownBy w' row) (hr : ∀ k, row = some k → F k ∨ a.heap.size ≤ k) : Kept F a w' :=
  ⟨hg.os.trans h.os, hg.tape.trans h.tape, hg.output.trans h.output, Nat.le_trans h.size hg.size, fun i hi hf => (hg.block i (Nat.lt_of_lt_of_le hi h.size) (fun e => by
    rcases hr i e.symm with h1 | h1
    · exact hf h1
    · omega)).trans (h.block i hi hf)⟩
theorem Kept.of_below {B : Nat} (h : Below B w w') (hB : ∀ k, B ≤ k → k < w.heap.size → F k) : Kept F w w' :=
  ⟨h.os, h.tape, h.output, h.size, fun i hi hf => h.block i (Nat.lt_of_not_le fun hle => hf (hB i hle hi))⟩
theorem Grew.of_below (h : Below w.heap.size w w') : Grew w w' := Kept.of_below h fun k h1 h2 => by omega
theorem Kept.to_below {B : Nat} (h : Kept F w w') (hB : ∀ k, F k → B ≤ k) (hs : B ≤ w.heap.size) : Below B w w' :=
  ⟨h.os, h.tape, h.output, h.size, fun i hi => h.block i (by omega) fun hf => by have := hB i hf; omega⟩
theorem Grew.below (h : Grew w w') : Below w.heap.size w w' := h.to_below (fun _ h => h.elim) (Nat.le_refl _)
theorem Kept.cell (h : Kept F w w') {p : Addr} {v : Value} (hc : w.cell? p = some v) (hf : ¬ F p.block) : w'.cell? p = some v :=
  (World.cell?_of_block (h.block p.block (World.block_lt_of_cell? w p hc) hf)).trans hc
theorem Grew.cell (h : Grew w w') {p : Addr} {v : Value} (hc : w.cell? p = some v) : w'.cell? p = some v := Kept.cell h hc (fun h => h)
theorem Kept.own (h : Kept F w w') {base n size : Nat} {e : TypeId} {v : Value} {xs : List Value} (ho : w.ownsRow base e size v n xs) (hf : ∀ k, v.ownBlock = some k → ¬ F k) : w'.ownsRow base e size v n xs := by
  refine ⟨ho.1, ?_⟩
  rcases ho.2 with hn | ⟨g, cap, cur, rfl, hb, hgg, rest⟩
  · exact .inl hn
  · exact .inr ⟨g, cap, cur, rfl, hb, (h.block g (Array.getElem?_eq_some_iff.1 hgg).1 (hf g rfl)).trans hgg, rest⟩
theorem Grew.own (h : Grew w w') {base n size : Nat} {e : TypeId} {v : Value} {xs : List Value} (ho : w.ownsRow base e size v n xs) : w'.ownsRow base e size v n xs := Kept.own h ho fun _ _ h => h
end

theorem Grew.alloc_drew (w : World) (o : Obj) : Grew w (w.alloc o).drew := ((Kept.refl _ _).alloc o).drew
/-- Block g is just the cells cs, of element type t, none frozen. -/
def Blk (w : World) (g : Nat) (t : TypeId) (cs : Array Value) : Prop := w.heap[g]? = some (.cells cs t (0, 0))
section
variable {F : Nat → Prop} {w w' : World} {g : Nat} {t : TypeId} {cs : Array Value}
theorem Blk.lt (h : Blk w g t cs) : g < w.heap.size := (Array.getElem?_eq_some_iff.1 h).1
theorem Blk.cell (h : Blk w g t cs) (i : Nat) : w.cell? ⟨g, i, none⟩ = cs[i]? := cell_of_row w g i cs t (0, 0) h
theorem Blk.frozen (h : Blk w g t cs) (i : Nat) : w.frozen? ⟨g, i, none⟩ = false := frozen_of_row w g i cs t h
theorem Blk.new (w : World) (t : TypeId) (cs : Array Value) : Blk (w.alloc (.cells cs t)) w.heap.size t cs := heap_alloc_new w _
theorem Blk.drew (h : Blk w g t cs) : Blk w.drew g t cs := h
theorem Blk.alloc (h : Blk w g t cs) (o : Obj) : Blk (w.alloc o) g t cs := (Below.heap_alloc w o g h.lt).trans h
theorem Blk.set (h : Blk w g t cs) (i : Nat) (u : Value) : Blk (w.setCell ⟨g, i, none⟩ u) g t (cs.setIfInBounds i u) := heap_setCell_same w g i cs t u h
theorem Blk.far (h : Blk w g t cs) {p : Addr} (hp : g ≠ p.block) (u : Value) : Blk (w.setCell p u) g t cs := (Below.heap_setCell w p u g hp).trans h
theorem Blk.kept (h : Blk w g t cs) (hk : Kept F w w') (hf : ¬ F g) : Blk w' g t cs := (hk.block g h.lt hf).trans h
theorem Blk.grew (h : Blk w g t cs) (hk : Grew w w') : Blk w' g t cs := h.kept hk fun h => h
theorem Blk.grown {row : Option Nat} (h : Blk w g t cs) (hb : w.grownBy w' row) (hg : some g ≠ row) : Blk w' g t cs := (hb.block g h.lt hg).trans h
end

theorem cell_add {w : World} {b off i : Nat} {v : Value} (h : w.cell? ((⟨b, off, none⟩ : Addr).add i) = some v) : w.cell? ⟨b, off + i, none⟩ = some v := by
  rw [← h]; congr 1; unfold Addr.add; split <;> simp_all

/-- An address whose first cell is known is a plain one. -/
theorem plain_of_cell {w : World} {x : Addr} {v : Value} (h : w.cell? (x.add 0) = some v) : ∃ b off, x = ⟨b, off, none⟩ := by
  have h2 := World.cell?_spot h
  obtain ⟨b, off, spot⟩ := x
  simp only [Addr.add, if_true] at h2
  exact ⟨b, off, by rw [h2]⟩

/-! ### Regions that draw their order -/
section
variable {P : Program} {ops : Array Oper} {Q : Exit → Act → World → Prop} {md : Region.Mode} {E : List Nat} {F : Nat → Prop}

/-- Whatever order is picked, each operation that is carried out keeps all blocks but F's; but for those whose numbers stand in E. -/
def wpAnyG (P : Program) (md : Region.Mode) (ops : Array Oper) (E : List Nat) (F : Nat → Prop) (Q : Exit → Act → World → Prop) : Nat → Array Bool → Act → World → Prop
  | 0, listed, a, w => Region.ready md ops listed = [] ∧ Q .normal a w
  | fuel + 1, listed, a, w =>
    (Region.ready md ops listed = [] → Q .normal a w) ∧
    ∀ i ∈ Region.ready md ops listed, wpOp P ops Q i (fun a' w' => (i ∉ E → Kept F w w') ∧ wpAnyG P md ops E F Q fuel (listed.setIfInBounds i true) a' w') a w

theorem wpAny_of_grow : ∀ (fuel : Nat) (listed : Array Bool) (a : Act) (w : World), wpAnyG P md ops E F Q fuel listed a w → wpAny P md ops Q fuel listed a w
  | 0, _, _, _, h => h
  | fuel + 1, _, _, _, h => ⟨h.1, fun i hi => wpOp_mono (fun a' w' h' => wpAny_of_grow fuel _ a' w' h'.2) (h.2 i hi)⟩

/-- Every operation of E is over, or waits for number i. -/
def behind (md : Region.Mode) (ops : Array Oper) (listed : Array Bool) (E : List Nat) (i : Nat) : Bool :=
  E.all fun e => listed.getD e true || match ops[e]? with | some o => o.after.any fun x => Region.binds md x && x.on == i | none => true

theorem behind_mono {listed : Array Bool} {i j : Nat} (h : behind md ops listed E i = true) : behind md ops (listed.setIfInBounds j true) E i = true := by
  simp only [behind, List.all_eq_true] at h ⊢
  intro e he
  have h1 := h e he
  by_cases hje : j = e
  · subst hje
    have : (listed.setIfInBounds j true).getD j true = true := by
      rcases Nat.lt_or_ge j listed.size with hl | hl
      · simp [hl]
      · simp [Array.getElem?_eq_none (show (listed.setIfInBounds j true).size ≤ j by simpa using hl)]
    simp only [this, Bool.true_or]
  · rw [getD_set_ne true hje]; exact h1

theorem behind_not {listed : Array Bool} {i j : Nat} {oj : Oper} (h : behind md ops listed E i = true) (hj : ops[j]? = some oj) (hun : listed.getD j true = false)
    (hno : ∀ e ∈ oj.after, Region.binds md e = true → e.on ≠ i) : j ∉ E := by
  intro hjE
  simp only [behind, List.all_eq_true] at h
  have h1 := h j hjE
  simp only [hj, hun, Bool.false_or] at h1
  obtain ⟨x, hx, hb⟩ := Array.any_eq_true'.1 h1
  simp only [Bool.and_eq_true, beq_iff_eq] at hb
  exact hno x hx hb.1 hb.2

theorem wpAnyG_first {S : World → Prop} {i : Nat} {oi : Oper} {v : Value} (hi : ops[i]? = some oi) (hsel : ∀ (j : Nat) (o : Oper) cs b, ops[j]? = some o → o.op ≠ .select cs b)
    (hQ : ∀ c a w, Q (.panic c) (a.put oi.dst v) w → Q (.panic c) a w) (B : Array Bool → Prop)
    (hSK : ∀ (listed : Array Bool) j oj, B listed → ops[j]? = some oj → listed.getD j true = false → (∀ e ∈ oj.after, Region.binds md e = true → e.on ≠ i) → ∀ w w', S w → (j ∉ E → Kept F w w') → S w')
    (hB : ∀ (listed : Array Bool) j, B listed → B (listed.setIfInBounds j true)) :
    ∀ (fuel : Nat) (listed : Array Bool) (a : Act) (w : World),
      (∀ j oj, ops[j]? = some oj → j ≠ i → listed.getD j true = false → (∀ e ∈ oj.after, Region.binds md e = true → e.on ≠ i) → oi.apart ops oj = true) →
      i ∈ Region.ready md ops listed → YieldsIf P ops S oi v a → S w → B listed →
      wpAnyG P md ops E F Q fuel (listed.setIfInBounds i true) (a.put oi.dst v) w → wpAnyG P md ops E F Q (fuel + 1) listed a w := by
  intro fuel
  induction fuel with
  | zero =>
    intro listed a w _ hr hy hS _ H
    refine ⟨fun h => (by rw [h] at hr; cases hr), fun j hj => ?_⟩
    by_cases hji : j = i
    · subst hji; exact hy.wpOp hi hS ⟨fun _ => Kept.refl F w, H⟩
    · have := ready_mono hj hji
      rw [H.1] at this
      cases this
  | succ fuel ih =>
    intro listed a w hfree hr hy hS hBl H
    refine ⟨fun h => (by rw [h] at hr; cases hr), fun j hj => ?_⟩
    by_cases hji : j = i
    · subst hji; exact hy.wpOp hi hS ⟨fun _ => Kept.refl F w, H⟩
    · have h1 := H.2 j (ready_mono hj hji)
      obtain ⟨hjun, oj, hoj, hall⟩ := mem_ready.1 hj
      have hnot : ∀ e ∈ oj.after, Region.binds md e = true → e.on ≠ i := fun e he hb heq => by
        have h1 := hall e he hb
        have h0 := (mem_ready.1 hr).1
        rw [heq] at h1
        rcases Nat.lt_or_ge i listed.size with h' | h'
        · simp [h'] at h0 h1; rw [h0] at h1; cases h1
        · simp [Array.getElem?_eq_none h'] at h1
      -- the operation is carried out in a world of S, and keeps S
      have h1' : wpOp P ops Q j (fun a' w' => S w' ∧ ((j ∉ E → Kept F w w') ∧ wpAnyG P md ops E F Q fuel ((listed.setIfInBounds i true).setIfInBounds j true) a' w')) (a.put oi.dst v) w :=
        wpOp_mono (fun a' w' h3 => ⟨hSK listed j oj hBl hoj hjun hnot w w' hS h3.1, h3⟩) h1
      have h2 := wpOp_putIf hoj (hfree j oj hoj hji hjun hnot) (fun cs b => hsel i oi cs b hi) (fun cs b => hsel j oj cs b hoj) hQ hy h1'
      have hfree' : ∀ k ok, ops[k]? = some ok → k ≠ i → (listed.setIfInBounds j true).getD k true = false →
          (∀ e ∈ ok.after, Region.binds md e = true → e.on ≠ i) → oi.apart ops ok = true := fun k ok hk hki hun hno => by
        refine hfree k ok hk hki ?_ hno
        by_cases hjk : j = k
        · subst hjk; exact hjun
        · rw [getD_set_ne true hjk] at hun; exact hun
      refine wpOp_mono (fun a' w' h3 => ⟨h3.2.2.1, ih (listed.setIfInBounds j true) a' w' hfree' (ready_mono hr (Ne.symm hji)) h3.1 h3.2.1 (hB _ _ hBl) ?_⟩) h2
      rw [Array.setIfInBounds_comm _ _ hji]
      exact h3.2.2.2

/-- Q, but 'False' at a panic. -/
def Calm (Q : Exit → Act → World → Prop) : Exit → Act → World → Prop
  | .panic _, _, _ => False
  | e, a, w => Q e a w
theorem Calm.imp {Q : Exit → Act → World → Prop} : ∀ (e : Exit) (a : Act) (w : World), Calm Q e a w → Q e a w := fun e a w h => by
  cases e <;> first | exact h | exact (h : False).elim

/-- The three facts on the region's text that a move asks. -/
def okTake (md : Region.Mode) (ops : Array Oper) (listed : Array Bool) (i : Nat) : Bool := Region.noSelect ops && Region.free md ops listed i && (Region.ready md ops listed).contains i

theorem getDst {o : Option Oper} {oi : Oper} {d : Tmp} (hi : o = some oi) (hd : o.bind (·.dst) = some d) : oi.dst = some d := by
  subst hi; exact hd

/-- Take number i first: it yields v in whatever world. -/
theorem wpAnyG_pure (i d : Nat) {oi : Oper} {v : Value} {fuel : Nat} {listed : Array Bool} {T : Array Value} {D : List Deferred} {w : World} (hi : ops[i]? = some oi)
    (hok : okTake md ops listed i = true) (hd : (ops[i]?).bind (·.dst) = some d) (hw : Region.wanted oi (yielded ops T) = true)
    (hy : ∀ w', (execOp (Act.eval ⟨T, D⟩) oi).run P w' = .ok (.value v) w')
    (h : wpAnyG P md ops E F (Calm Q) fuel (listed.setIfInBounds i true) ⟨T.setIfInBounds d v, D⟩ w) : wpAnyG P md ops E F (Calm Q) (fuel + 1) listed ⟨T, D⟩ w := by
  simp only [okTake, Bool.and_eq_true] at hok
  refine wpAnyG_first (S := fun _ => True) hi (Region.noSelect_spec hok.1.1) (fun _ _ _ h => h) (fun _ => True) (fun _ _ _ _ _ _ _ _ _ _ _ => trivial) (fun _ _ _ => trivial) fuel listed _ w (Region.free_spec hi hok.1.2) (by simpa using hok.2) (.inl ⟨hw, fun w' _ => hy w'⟩) trivial trivial ?_
  rw [getDst hi hd]
  exact h

/-- Take number i first: it yields v in every world that the one at hand may become; what may write more is over, or waits for it. -/
theorem wpAnyG_take (i d : Nat) {oi : Oper} {v : Value} {fuel : Nat} {listed : Array Bool} {T : Array Value} {D : List Deferred} {w : World} (hi : ops[i]? = some oi)
    (hok : (okTake md ops listed i && behind md ops listed E i) = true) (hd : (ops[i]?).bind (·.dst) = some d) (hw : Region.wanted oi (yielded ops T) = true)
    (hy : ∀ w', Kept F w w' → (execOp (Act.eval ⟨T, D⟩) oi).run P w' = .ok (.value v) w')
    (h : wpAnyG P md ops E F (Calm Q) fuel (listed.setIfInBounds i true) ⟨T.setIfInBounds d v, D⟩ w) : wpAnyG P md ops E F (Calm Q) (fuel + 1) listed ⟨T, D⟩ w := by
  simp only [okTake, Bool.and_eq_true] at hok
  refine wpAnyG_first (S := Kept F w) hi (Region.noSelect_spec hok.1.1.1) (fun _ _ _ h => h) (fun l => behind md ops l E i = true)
    (fun l j oj hb hj hun hno w1 w2 h1 h2 => h1.trans (h2 (behind_not hb hj hun hno))) (fun l j hb => behind_mono hb) fuel listed _ w (Region.free_spec hi hok.1.1.2) (by simpa using hok.1.2) (.inl ⟨hw, hy⟩) (Kept.refl F w) hok.2 ?_
  rw [getDst hi hd]
  exact h

/-- Number i is passed over: its guard says no. -/
theorem wpAnyG_pass (i d : Nat) {oi : Oper} {fuel : Nat} {listed : Array Bool} {T : Array Value} {D : List Deferred} {w : World} (hi : ops[i]? = some oi)
    (hok : okTake md ops listed i = true) (hd : (ops[i]?).bind (·.dst) = some d) (hw : Region.wanted oi (yielded ops T) = false)
    (h : wpAnyG P md ops E F (Calm Q) fuel (listed.setIfInBounds i true) ⟨T.setIfInBounds d undef, D⟩ w) : wpAnyG P md ops E F (Calm Q) (fuel + 1) listed ⟨T, D⟩ w := by
  simp only [okTake, Bool.and_eq_true] at hok
  refine wpAnyG_first (S := fun _ => True) hi (Region.noSelect_spec hok.1.1) (fun _ _ _ h => h) (fun _ => True) (fun _ _ _ _ _ _ _ _ _ _ _ => trivial) (fun _ _ _ => trivial) fuel listed _ w (Region.free_spec hi hok.1.2) (by simpa using hok.2) (.inr ⟨hw, rfl⟩) trivial trivial ?_
  rw [getDst hi hd]
  exact h

/-- Number i is the only one that may come up. -/
theorem wpAnyG_step (i d : Nat) {oi : Oper} {fuel : Nat} {listed : Array Bool} {T : Array Value} {D : List Deferred} {w : World} (hi : ops[i]? = some oi)
    (hr : Region.ready md ops listed = [i]) (hd : (ops[i]?).bind (·.dst) = some d) (hw : Region.wanted oi (yielded ops T) = true)
    (h : ∀ K : Act → World → Prop, (∀ (v : Value) (w' : World), (i ∉ E → Kept F w w') → wpAnyG P md ops E F Q fuel (listed.setIfInBounds i true) ⟨T.setIfInBounds d v, D⟩ w' → K (Act.put ⟨T, D⟩ (some d) v) w') → ({ oi with dst := some d }).wp P ⟨T, D⟩ w K Q) : wpAnyG P md ops E F Q (fuel + 1) listed ⟨T, D⟩ w := by
  refine ⟨fun h0 => (by rw [hr] at h0; cases h0), fun j hj => ?_⟩
  rw [hr, List.mem_singleton] at hj
  subst hj
  unfold wpOp
  simp only [hi, hw, if_true]
  have e : ({ oi with dst := some d } : Oper) = oi := by rw [← getDst hi hd]
  rw [← e]
  refine .inl (Oper.wp_mono ?_ (h (fun a' w' => ∃ v, a' = Act.put ⟨T, D⟩ (some d) v ∧ (j ∉ E → Kept F w w') ∧ wpAnyG P md ops E F Q fuel (listed.setIfInBounds j true) ⟨T.setIfInBounds d v, D⟩ w') fun v w' h1 h2 => ⟨v, rfl, h1, h2⟩))
  rintro a' w' ⟨v, rfl, h1, h2⟩
  exact ⟨h1, h2⟩

/-- Number i, which leaves nothing in a slot (a store), is the only one that may come up. -/
theorem wpAnyG_store (i : Nat) {oi : Oper} {fuel : Nat} {listed : Array Bool} {T : Array Value} {D : List Deferred} {w : World} (hi : ops[i]? = some oi)
    (hr : Region.ready md ops listed = [i]) (hd : (ops[i]?).bind (·.dst) = none) (hw : Region.wanted oi (yielded ops T) = true)
    (h : ∀ K : Act → World → Prop, (∀ (w' : World), (i ∉ E → Kept F w w') → wpAnyG P md ops E F Q fuel (listed.setIfInBounds i true) ⟨T, D⟩ w' → K ⟨T, D⟩ w') → ({ oi with dst := none }).wp P ⟨T, D⟩ w K Q) : wpAnyG P md ops E F Q (fuel + 1) listed ⟨T, D⟩ w := by
  refine ⟨fun h0 => (by rw [hr] at h0; cases h0), fun j hj => ?_⟩
  rw [hr, List.mem_singleton] at hj
  subst hj
  unfold wpOp
  simp only [hi, hw, if_true]
  have hdn : oi.dst = none := by rw [hi] at hd; exact hd
  have e : ({ oi with dst := none } : Oper) = oi := by rw [← hdn]
  rw [← e]
  refine .inl (Oper.wp_mono ?_ (h (fun a' w' => a' = ⟨T, D⟩ ∧ (j ∉ E → Kept F w w') ∧ wpAnyG P md ops E F Q fuel (listed.setIfInBounds j true) ⟨T, D⟩ w') fun w' h1 h2 => ⟨rfl, h1, h2⟩))
  rintro a' w' ⟨rfl, h1, h2⟩
  exact ⟨h1, h2⟩

theorem wpAnyG_done {fuel : Nat} {listed : Array Bool} {a : Act} {w : World} (hr : Region.ready md ops listed = []) (h : Q .normal a w) : wpAnyG P md ops E F (Calm Q) fuel listed a w := by
  cases fuel with
  | zero => exact ⟨hr, h⟩
  | succ n => exact ⟨fun _ => h, by rw [hr]; simp⟩

theorem wp_region_grow (E : List Nat) (F : Nat → Prop) {id : Nat} {a : Act} {w : World} (hm : P.follows .mixedOrders = true)
    (h : wpAnyG P .any ops E F (Calm Q) ops.size (Array.replicate ops.size false) a w.drew) : (Code.region id ops true).wp P Q a w :=
  Code.wp_mono Calm.imp (wp_region_any hm (wpAny_of_grow _ _ _ _ h))
end
end Go.Proofs.Ytjbjomodponapaa
