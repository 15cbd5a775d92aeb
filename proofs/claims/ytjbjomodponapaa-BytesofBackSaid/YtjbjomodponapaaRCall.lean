/- Graphs read: the reader, and what catches. -/
import Derived.Test.YtjbjomodponapaaReadG
import Derived.Test.YtjbjomodponapaaCatch
namespace Go.Proofs.Ytjbjomodponapaa
open Go.RowKit

/-- What read answers, of a graph. -/
def RcE (z : Nat → Int) (len G : Nat) (w : World) (e : Ending) (w' : World) : Prop :=
  (∃ n es v, e = .returned (.tuple #[i64 0, i64 0]) ∧ GBox w' G w.heap.size n es v ∧ rightF n es = 0 ∧ Rest z len 0 (encG n es) ∧
    (∀ n0 es0, rightF n0 es0 = 0 → Rest z len 0 (encG n0 es0) → n0 = (n : Int) ∧ es0 = es) ∧ Kept (· = G) w w') ∨
  (∃ q, e = .returned (.tuple #[i64 q, i64 4]) ∧ NoG z len ∧ (∃ x y, Blk w' G 24 #[x, y]) ∧ Kept (· = G) w w')
theorem GBox.kept {F : Nat → Prop} {w w' : World} {G B n : Nat} {es : List Edg} {v : Value} (h : GBox w G B n es v) (k : Kept F w w') (h1 : ¬ F G) (h2 : ∀ j, v.ownBlock = some j → ¬ F j) : GBox w' G B n es v := ⟨h.box.kept k h1, h.own.kept k h2⟩
theorem GBox.base {w : World} {G B B' n : Nat} {es : List Edg} {v : Value} (h : GBox w G B n es v) (hB : B' ≤ B) : GBox w G B' n es v := ⟨h.box, own_base h.own hB⟩
theorem own_type {w : World} {base n size : Nat} {e : TypeId} {v : Value} {xs : List Value} (h : w.ownsRow base e size v n xs) {k : Nat} (hk : v.ownBlock = some k) : base ≤ k ∧ ∃ cur, w.heap[k]? = some (.cells cur e (0, 0)) := by
  rcases h.2 with ⟨rfl, _⟩ | ⟨g, cap, cur, rfl, hb, hg, _⟩
  · cases hk
  · obtain rfl : g = k := Option.some.inj hk
    exact ⟨hb, cur, hg⟩
theorem keptG {w W w' : World} {R G : Nat} (h : Grew w W) (k : Kept (fun j => j = R ∨ j = G) W w') (hR : w.heap.size ≤ R) : Kept (· = G) w w' :=
  (Grew.kept h).then k (fun i hi h => by
    rcases h with h | h
    · omega
    · exact h)
/-- What the deferred call has written. -/
theorem caught {w w4 : World} {r0 G : Nat} {q x y : Int} (d0 : Blk w4 r0 3 #[i64 x]) (d1 : Blk w4 (r0 + 1) 32 #[i64 y]) (k : Kept (· = G) w w4) (h0 : w.heap.size ≤ r0) :
    ((w4.alloc (.cells #[i64 q] 60)).setCell ⟨r0, 0, none⟩ (i64 q)).cell? ⟨r0, 0, none⟩ = some (i64 q) ∧
    (((w4.alloc (.cells #[i64 q] 60)).setCell ⟨r0, 0, none⟩ (i64 q)).setCell ⟨r0 + 1, 0, none⟩ (i64 4)).cell? ⟨r0 + 1, 0, none⟩ = some (i64 4) ∧
    Kept (· = G) w (((w4.alloc (.cells #[i64 q] 60)).setCell ⟨r0, 0, none⟩ (i64 q)).setCell ⟨r0 + 1, 0, none⟩ (i64 4)) := by
  have b0 := (d0.alloc (.cells #[i64 q] 60)).set 0 (i64 q)
  have b1 := ((d1.alloc (.cells #[i64 q] 60)).far (p := ⟨r0, 0, none⟩) (by show r0 + 1 ≠ r0; omega) (i64 q)).set 0 (i64 4)
  have e0 := b0.cell 0
  have e1 := b1.cell 0
  simp at e0 e1
  exact ⟨e0, e1, ((k.alloc _).setCell (p := ⟨r0, 0, none⟩) (.inr h0) _).setCell (p := ⟨r0 + 1, 0, none⟩) (.inr (by show _ ≤ r0 + 1; omega)) _⟩
theorem caughtG {w4 : World} {r0 G : Nat} {q x y : Int} (h : ∃ u v, Blk w4 G 24 #[u, v]) (d0 : Blk w4 r0 3 #[i64 x]) (d1 : Blk w4 (r0 + 1) 32 #[i64 y]) :
    ∃ u v, Blk (((w4.alloc (.cells #[i64 q] 60)).setCell ⟨r0, 0, none⟩ (i64 q)).setCell ⟨r0 + 1, 0, none⟩ (i64 4)) G 24 #[u, v] := by
  obtain ⟨u, v, h⟩ := h
  refine ⟨u, v, ((h.alloc _).far (p := ⟨r0, 0, none⟩) (fun e => ?_) _).far (p := ⟨r0 + 1, 0, none⟩) (fun e => ?_) _⟩
  · have e : G = r0 := e
    rw [e] at h
    have := (show w4.heap[r0]? = _ from h).symm.trans d0
    cases this
  · have e : G = r0 + 1 := e
    rw [e] at h
    have := (show w4.heap[r0 + 1]? = _ from h).symm.trans d1
    cases this
theorem idled {w w5 : World} {r0 G : Nat} {x y : Int} (d0 : Blk w5 r0 3 #[i64 x]) (d1 : Blk w5 (r0 + 1) 32 #[i64 y]) (k : Kept (· = G) w w5) (h0 : w.heap.size ≤ r0) :
    (((w5.setCell ⟨r0, 0, none⟩ (i64 0)).setCell ⟨r0 + 1, 0, none⟩ (i64 0)).alloc (.cells #[i64 0] 60)).cell? ⟨r0, 0, none⟩ = some (i64 0) ∧
    (((w5.setCell ⟨r0, 0, none⟩ (i64 0)).setCell ⟨r0 + 1, 0, none⟩ (i64 0)).alloc (.cells #[i64 0] 60)).cell? ⟨r0 + 1, 0, none⟩ = some (i64 0) ∧
    Kept (· = G) w (((w5.setCell ⟨r0, 0, none⟩ (i64 0)).setCell ⟨r0 + 1, 0, none⟩ (i64 0)).alloc (.cells #[i64 0] 60)) := by
  have b0 := ((d0.set 0 (i64 0)).far (p := ⟨r0 + 1, 0, none⟩) (by show r0 ≠ r0 + 1; omega) (i64 0)).alloc (.cells #[i64 0] 60)
  have b1 := ((d1.far (p := ⟨r0, 0, none⟩) (by show r0 + 1 ≠ r0; omega) (i64 0)).set 0 (i64 0)).alloc (.cells #[i64 0] 60)
  have e0 := b0.cell 0
  have e1 := b1.cell 0
  simp at e0 e1
  exact ⟨by simpa using b0.cell 0, by simpa using b1.cell 0, ((k.setCell (p := ⟨r0, 0, none⟩) (.inr h0) _).setCell (p := ⟨r0 + 1, 0, none⟩) (.inr (by show _ ≤ r0 + 1; omega)) _).alloc _⟩
set_option maxHeartbeats 4000000 in
set_option maxRecDepth 100000 in
theorem readcall_any (G : Nat) (A : Option Addr) (len cap : Nat) (z : Nat → Int) (w : World) (hG : Blk w G 24 #[i64 0, .slice none 0 0]) (hs : Src w A len cap z) (hl : len ≤ 100000) (hA : ∀ a, A = some a → a.block < w.heap.size ∧ a.block ≠ G) :
    Calls Try.prog 17 #[.slice A len cap, .func (.func 18) #[] #[pt G]] w fun e w' => RcE z len G w e w' := by
  have hmf : ∀ (fn : Fn) (first cap : Array Value) (w : World), (Instr.makeFunc fn first cap).run Try.prog w = .ok (.func fn first cap) w := fun _ _ _ _ => rfl
  have hGl := hG.lt
  obtain ⟨r0, hr0⟩ : ∃ r, w.heap.size = r := ⟨_, rfl⟩
  have HR0 := Lib.hid hr0
  have k3 : Grew w (((w.alloc (.cells #[i64 0] 3)).alloc (.cells #[i64 0] 32)).alloc (.cells #[.slice A len cap, i64 0] 58)) := (((Kept.refl _ _).alloc _).alloc _).alloc _
  have bD0 : Blk (((w.alloc (.cells #[i64 0] 3)).alloc (.cells #[i64 0] 32)).alloc (.cells #[.slice A len cap, i64 0] 58)) r0 3 #[i64 0] := by
    rw [← hr0]; exact ((Blk.new w _ _).alloc _).alloc _
  have bD1 : Blk (((w.alloc (.cells #[i64 0] 3)).alloc (.cells #[i64 0] 32)).alloc (.cells #[.slice A len cap, i64 0] 58)) (r0 + 1) 32 #[i64 0] := by
    have q := Blk.new (w.alloc (.cells #[i64 0] 3)) 32 #[i64 0]
    rw [World.size_alloc, hr0] at q
    exact q.alloc _
  have bR : Rd (((w.alloc (.cells #[i64 0] 3)).alloc (.cells #[i64 0] 32)).alloc (.cells #[.slice A len cap, i64 0] 58)) (r0 + 1 + 1) A len cap 0 := by
    have q := Blk.new ((w.alloc (.cells #[i64 0] 3)).alloc (.cells #[i64 0] 32)) 58 #[.slice A len cap, i64 0]
    rw [World.size_alloc, World.size_alloc, hr0] at q
    exact q
  have hs3 : r0 + 3 = (((w.alloc (.cells #[i64 0] 3)).alloc (.cells #[i64 0] 32)).alloc (.cells #[.slice A len cap, i64 0] 58)).heap.size := by simp; omega
  have hC := Lib.hid (readG_any (r0 + 1 + 1) G A len cap z _ bR (hG.grew k3) (hs.grew k3) hl (by omega) (fun a ha => by obtain ⟨x, y⟩ := hA a ha; exact ⟨by omega, y⟩))
  rw [← hs3] at hC
  have HD0 := Lib.hid bD0
  have HD1 := Lib.hid bD1
  have HK3 := Lib.hid k3
  have HS3 := Lib.hid hs3
  clear bD0 bD1 bR k3 hG hs hA hs3
  go_enter_defers Try.func17, Try.ntmps17
  go_wp2_with fail
  obtain ⟨W3, hW3⟩ : ∃ W, ((w.alloc (.cells #[i64 0] 3)).alloc (.cells #[i64 0] 32)).alloc (.cells #[.slice A len cap, i64 0] 58) = W := ⟨_, rfl⟩
  rw [hW3] at hC HD0 HD1 HK3 HS3 ⊢
  clear hW3
  refine hC.out.mono ?_
  rintro e w4 (⟨p, n, es, v, rfl, hp, hR, hB, hr, hfin, huni, k⟩ | ⟨hno, hgb, q, rfl, k⟩)
  · have d0 := HD0.out.kept k (by omega)
    have d1 := HD1.out.kept k (by omega)
    have hE := Lib.hid (ends_read (r0 + 1 + 1) A len cap p w4 hR hp hl)
    have HB := Lib.hid (hB.base (B' := w.heap.size) (by omega))
    have HU := Lib.hid (show _ ∧ _ ∧ _ from ⟨hr, hfin, huni⟩)
    have HK4 : Hid (Kept (· = G) w w4) := keptG HK3.out k (by omega)
    clear hC k hR hp hB hr hfin huni HD0 HD1 HK3
    go_wp2_with fail
    refine hE.out.mono ?_
    rintro e w5 ⟨k5, ⟨rfl, rfl⟩ | ⟨hlt, rfl⟩⟩
    · have c0 := (d0.grew k5).cell 0
      have c1 := (d1.grew k5).cell 0
      have f0 := (d0.grew k5).frozen 0
      have f1 := (d1.grew k5).frozen 0
      simp at c0 c1
      obtain ⟨e0, e1, kk⟩ := idled (d0.grew k5) (d1.grew k5) (HK4.out.grew k5) (by omega)
      have bx := HB.out.kept k5 (fun h => h) (fun _ _ h => h)
      have hf : Hid (RcE z p G w (.returned (.tuple #[i64 0, i64 0])) (((w5.setCell ⟨r0, 0, none⟩ (i64 0)).setCell ⟨r0 + 1, 0, none⟩ (i64 0)).alloc (.cells #[i64 0] 60))) := by
        refine .inl ⟨n, es, v, rfl, ?_, HU.out.1, HU.out.2.1 rfl, fun n0 es0 a b => ⟨(HU.out.2.2 n0 es0 a b).1, (HU.out.2.2 n0 es0 a b).2.1⟩, kk⟩
        have hv : ∀ j, v.ownBlock = some j → j ≠ r0 ∧ j ≠ r0 + 1 := fun j hj => by
          obtain ⟨_, cur, hc⟩ := own_type bx.own hj
          refine ⟨fun h => ?_, fun h => ?_⟩
          · subst h
            have := (show w5.heap[j]? = _ from d0.grew k5).symm.trans hc
            cases this
          · subst h
            have := (show w5.heap[r0 + 1]? = _ from d1.grew k5).symm.trans hc
            cases this
        have s0 : Kept (fun j => j = r0 ∨ j = r0 + 1) w5 (((w5.setCell ⟨r0, 0, none⟩ (i64 0)).setCell ⟨r0 + 1, 0, none⟩ (i64 0)).alloc (.cells #[i64 0] 60)) :=
          (((Kept.refl (fun j => j = r0 ∨ j = r0 + 1) w5).setCell (p := ⟨r0, 0, none⟩) (.inl (.inl rfl)) _).setCell (p := ⟨r0 + 1, 0, none⟩) (.inl (.inr rfl)) _).alloc _
        exact bx.kept s0 (by omega) (fun j hj h => by
          obtain ⟨x, y⟩ := hv j hj
          rcases h with h | h
          · exact x h
          · exact y h)
      clear kk bx d0 d1 HB HU HK4 k5 hE
      go_wp2_with fail
      refine leaves_cons (f := 33) (args := #[pt r0, pt (r0 + 1)]) (by simp) (by simp [go_sem]) ?_
      refine (catch_idle r0 (r0 + 1) _).mono ?_
      rintro e u' w'' ⟨rfl, rfl, rfl⟩
      simp [Leaves, settle, results, Try.results17, go_sem, e0, e1]
      exact hf.out
    · have HNO : Hid (NoG z len) := fun n0 es0 a b => by have := (HU.out.2.2 n0 es0 a b).2.2; omega
      replace d0 := d0.grew k5
      replace d1 := d1.grew k5
      replace HK4 := Lib.hid (HK4.out.grew k5)
      have hgb : ∃ u v, Blk w5 G 24 #[u, v] := ⟨_, _, HB.out.box.grew k5⟩
      clear hE HB HU
      go_wp2_with fail
      refine leaves_cons (f := 33) (args := #[pt r0, pt (r0 + 1)]) (by simp) (by simp [go_sem]) ?_
      refine (catch_panicking r0 (r0 + 1) _ 0 0 _ d0 d1 (by omega)).mono ?_
      rintro e u' w'' ⟨rfl, rfl, rfl⟩
      obtain ⟨e0, e1, kk⟩ := caught (q := p) d0 d1 HK4.out (by omega)
      have hf := Lib.hid (show RcE z len G w (.returned (.tuple #[i64 p, i64 4])) _ from .inr ⟨_, rfl, HNO.out, caughtG hgb d0 d1, kk⟩)
      clear kk
      simp [Leaves, settle, results, Try.results17, go_sem, e0, e1]
      exact hf.out
  · have d0 := HD0.out.kept k (by omega)
    have d1 := HD1.out.kept k (by omega)
    have HK4 : Hid (Kept (· = G) w w4) := keptG HK3.out k (by omega)
    have HNO := Lib.hid hno
    clear hC k hno HD0 HD1 HK3
    go_wp2_with fail
    refine leaves_cons (f := 33) (args := #[pt r0, pt (r0 + 1)]) (by simp) (by simp [go_sem]) ?_
    refine (catch_panicking r0 (r0 + 1) _ 0 0 _ d0 d1 (by omega)).mono ?_
    rintro e u' w'' ⟨rfl, rfl, rfl⟩
    obtain ⟨e0, e1, kk⟩ := caught (q := q) d0 d1 HK4.out (by omega)
    have hf := Lib.hid (show RcE z len G w (.returned (.tuple #[i64 q, i64 4])) _ from .inr ⟨_, rfl, HNO.out, caughtG hgb d0 d1, kk⟩)
    clear kk
    simp [Leaves, settle, results, Try.results17, go_sem, e0, e1]
    exact hf.out
end Go.Proofs.Ytjbjomodponapaa
