/- Hierarchies read: the reader, and what catches. -/
import Derived.Test.YtjbjomodponapaaReadH
import Derived.Test.YtjbjomodponapaaCatch
namespace Go.Proofs.Ytjbjomodponapaa
open Go.RowKit

/-- What read answers, of a hierarchy. -/
def RcH (n : Nat) (es : List Edg) (z : Nat → Int) (len H : Nat) (w : World) (e : Ending) (w' : World) : Prop :=
  (∃ rk ss vr vs, e = .returned (.tuple #[i64 0, i64 0]) ∧ HBox w' H w.heap.size rk ss vr vs ∧ okH n es rk ss ∧ Rest z len 0 (encH rk ss) ∧
    (∀ rk0 ss0, okH n es rk0 ss0 → Rest z len 0 (encH rk0 ss0) → rk0 = rk ∧ ss0 = ss) ∧ Kept (· = H) w w') ∨
  (∃ q, e = .returned (.tuple #[i64 q, i64 4]) ∧ NoH n es z len ∧ (∃ x y, Blk w' H 28 #[x, y]) ∧ Kept (· = H) w w')
theorem HBox.base {w : World} {H B B' : Nat} {rk : List Int} {ss : List Sc} {vr vs : Value} (h : HBox w H B rk ss vr vs) (hB : B' ≤ B) : HBox w H B' rk ss vr vs := ⟨h.box, own_base h.ranks hB, own_base h.scs hB⟩
theorem caughtH {w4 : World} {r0 G : Nat} {q x y : Int} (h : ∃ u v, Blk w4 G 28 #[u, v]) (d0 : Blk w4 r0 3 #[i64 x]) (d1 : Blk w4 (r0 + 1) 32 #[i64 y]) :
    ∃ u v, Blk (((w4.alloc (.cells #[i64 q] 60)).setCell ⟨r0, 0, none⟩ (i64 q)).setCell ⟨r0 + 1, 0, none⟩ (i64 4)) G 28 #[u, v] := by
  obtain ⟨u, v, h⟩ := h
  refine ⟨u, v, ((h.alloc _).far (p := ⟨r0, 0, none⟩) (fun e => ?_) _).far (p := ⟨r0 + 1, 0, none⟩) (fun e => ?_) _⟩
  · have e : G = r0 := e
    rw [e] at h
    have := (show w4.heap[r0]? = _ from h).symm.trans d0
    cases this
  · have e : G = r0 + 1 := e
    rw [e] at h
    have := (show w4.heap[r0 + 1]? = _ from h).symm.trans d1
    cases this
set_option maxHeartbeats 4000000 in
set_option maxRecDepth 100000 in
theorem readcallH_any (n : Nat) (es : List Edg) (Ae : Option Addr) (ce G H : Nat) (A : Option Addr) (len cap : Nat) (z : Nat → Int) (w : World) (hG : Blk w G 24 #[i64 n, .slice Ae es.length ce]) (he : RowE w Ae es) (hH : Blk w H 28 #[.slice none 0 0, .slice none 0 0]) (hs : Src w A len cap z) (hl : len ≤ 100000) (hr : rightF n es = 0)
    (hGH : G ≠ H) (hA : ∀ a, A = some a → a.block < w.heap.size ∧ a.block ≠ H) (hAe : ∀ a, Ae = some a → a.block < w.heap.size ∧ a.block ≠ H) :
    Calls Try.prog 17 #[.slice A len cap, .func (.func 23) #[] #[pt G, pt H]] w fun e w' => RcH n es z len H w e w' := by
  have hmf : ∀ (fn : Fn) (first cap : Array Value) (w : World), (Instr.makeFunc fn first cap).run Try.prog w = .ok (.func fn first cap) w := fun _ _ _ _ => rfl
  have hGl := hG.lt
  have hHl := hH.lt
  obtain ⟨r0, hr0⟩ : ∃ r, w.heap.size = r := ⟨_, rfl⟩
  have HR0 := Lib.hid hr0
  have k3 : Grew w (((w.alloc (.cells #[i64 0] 3)).alloc (.cells #[i64 0] 32)).alloc (.cells #[.slice A len cap, i64 0] 58)) := (((Kept.refl _ _).alloc _).alloc _).alloc _
  have bD0 : Blk (((w.alloc (.cells #[i64 0] 3)).alloc (.cells #[i64 0] 32)).alloc (.cells #[.slice A len cap, i64 0] 58)) r0 3 #[i64 0] := by
    rw [← hr0]; exact ((Blk.new w _ _).alloc _).alloc _
  have bD1 : Blk (((w.alloc (.cells #[i64 0] 3)).alloc (.cells #[i64 0] 32)).alloc (.cells #[.slice A len cap, i64 0] 58)) (r0 + 1) 32 #[i64 0] := by
    have q := Blk.new (w.alloc (.cells #[i64 0] 3)) 32 #[i64 0]
    rw [World.size_alloc, hr0] at q
    exact q.alloc _
  have bR : Rd (((w.alloc (.cells #[i64 0] 3)).alloc (.cells #[i64 0] 32)).alloc (.cells #[.slice A len cap, i64 0] 58)) (r0 + 1 + 1) A len cap 0 := by
    have q := Blk.new ((w.alloc (.cells #[i64 0] 3)).alloc (.cells #[i64 0] 32)) 58 #[.slice A len cap, i64 0]
    rw [World.size_alloc, World.size_alloc, hr0] at q
    exact q
  have hs3 : r0 + 3 = (((w.alloc (.cells #[i64 0] 3)).alloc (.cells #[i64 0] 32)).alloc (.cells #[.slice A len cap, i64 0] 58)).heap.size := by simp; omega
  have hC := Lib.hid (readH_any n es Ae ce (r0 + 1 + 1) G H A len cap z _ bR (hG.grew k3) (he.grew k3) (hH.grew k3) (hs.grew k3) hl hr (by omega) (by omega) hGH (fun a ha => by obtain ⟨x, y⟩ := hA a ha; exact ⟨by omega, by omega, y⟩) (fun a ha => by obtain ⟨x, y⟩ := hAe a ha; exact ⟨by omega, y⟩))
  rw [← hs3] at hC
  have HD0 := Lib.hid bD0
  have HD1 := Lib.hid bD1
  have HK3 := Lib.hid k3
  have HS3 := Lib.hid hs3
  clear bD0 bD1 bR k3 hG hH he hr hs hA hAe hs3
  go_enter_defers Try.func17, Try.ntmps17
  go_wp2_with fail
  obtain ⟨W3, hW3⟩ : ∃ W, ((w.alloc (.cells #[i64 0] 3)).alloc (.cells #[i64 0] 32)).alloc (.cells #[.slice A len cap, i64 0] 58) = W := ⟨_, rfl⟩
  rw [hW3] at hC HD0 HD1 HK3 HS3 ⊢
  clear hW3
  refine hC.out.mono ?_
  rintro e w4 (⟨p, rk, ss, vr, vs, rfl, hp, hR, hB, hr, hfin, huni, k⟩ | ⟨hno, hgb, q, rfl, k⟩)
  · have d0 := HD0.out.kept k (by omega)
    have d1 := HD1.out.kept k (by omega)
    have hE := Lib.hid (ends_read (r0 + 1 + 1) A len cap p w4 hR hp hl)
    have HB := Lib.hid hB
    have HU := Lib.hid (show _ ∧ _ ∧ _ from ⟨hr, hfin, huni⟩)
    have HK4 : Hid (Kept (· = H) w w4) := keptG HK3.out k (by omega)
    clear hC k hR hp hB hr hfin huni HD0 HD1 HK3
    go_wp2_with fail
    refine hE.out.mono ?_
    rintro e w5 ⟨k5, ⟨rfl, rfl⟩ | ⟨hlt, rfl⟩⟩
    · have c0 := (d0.grew k5).cell 0
      have c1 := (d1.grew k5).cell 0
      have f0 := (d0.grew k5).frozen 0
      have f1 := (d1.grew k5).frozen 0
      simp at c0 c1
      obtain ⟨e0, e1, kk⟩ := idled (d0.grew k5) (d1.grew k5) (HK4.out.grew k5) (by omega)
      have bx := HB.out.grew k5
      have hf : Hid (RcH n es z p H w (.returned (.tuple #[i64 0, i64 0])) (((w5.setCell ⟨r0, 0, none⟩ (i64 0)).setCell ⟨r0 + 1, 0, none⟩ (i64 0)).alloc (.cells #[i64 0] 60))) := by
        refine .inl ⟨rk, ss, vr, vs, rfl, ?_, HU.out.1, HU.out.2.1 rfl, fun n0 es0 a b => ⟨(HU.out.2.2 n0 es0 a b).1, (HU.out.2.2 n0 es0 a b).2.1⟩, kk⟩
        have s0 : Kept (fun j => j = r0 ∨ j = r0 + 1) w5 (((w5.setCell ⟨r0, 0, none⟩ (i64 0)).setCell ⟨r0 + 1, 0, none⟩ (i64 0)).alloc (.cells #[i64 0] 60)) :=
          (((Kept.refl (fun j => j = r0 ∨ j = r0 + 1) w5).setCell (p := ⟨r0, 0, none⟩) (.inl (.inl rfl)) _).setCell (p := ⟨r0 + 1, 0, none⟩) (.inl (.inr rfl)) _).alloc _
        exact (bx.kept s0 (by omega) (fun j hj _ h => by
          rcases h with h | h
          · have h : j = r0 := h
            omega
          · have h : j = r0 + 1 := h
            omega)).base (by omega)
      clear kk bx d0 d1 HB HU HK4 k5 hE
      go_wp2_with fail
      refine leaves_cons (f := 33) (args := #[pt r0, pt (r0 + 1)]) (by simp) (by simp [go_sem]) ?_
      refine (catch_idle r0 (r0 + 1) _).mono ?_
      rintro e u' w'' ⟨rfl, rfl, rfl⟩
      simp [Leaves, settle, results, Try.results17, go_sem, e0, e1]
      exact hf.out
    · have HNO : Hid (NoH n es z len) := fun n0 es0 a b => by have := (HU.out.2.2 n0 es0 a b).2.2; omega
      replace d0 := d0.grew k5
      replace d1 := d1.grew k5
      replace HK4 := Lib.hid (HK4.out.grew k5)
      have hgb : ∃ u v, Blk w5 H 28 #[u, v] := ⟨_, _, HB.out.box.grew k5⟩
      clear hE HB HU
      go_wp2_with fail
      refine leaves_cons (f := 33) (args := #[pt r0, pt (r0 + 1)]) (by simp) (by simp [go_sem]) ?_
      refine (catch_panicking r0 (r0 + 1) _ 0 0 _ d0 d1 (by omega)).mono ?_
      rintro e u' w'' ⟨rfl, rfl, rfl⟩
      obtain ⟨e0, e1, kk⟩ := caught (q := p) d0 d1 HK4.out (by omega)
      have hf := Lib.hid (show RcH n es z len H w (.returned (.tuple #[i64 p, i64 4])) _ from .inr ⟨_, rfl, HNO.out, caughtH hgb d0 d1, kk⟩)
      clear kk
      simp [Leaves, settle, results, Try.results17, go_sem, e0, e1]
      exact hf.out
  · have d0 := HD0.out.kept k (by omega)
    have d1 := HD1.out.kept k (by omega)
    have HK4 : Hid (Kept (· = H) w w4) := keptG HK3.out k (by omega)
    have HNO := Lib.hid hno
    clear hC k hno HD0 HD1 HK3
    go_wp2_with fail
    refine leaves_cons (f := 33) (args := #[pt r0, pt (r0 + 1)]) (by simp) (by simp [go_sem]) ?_
    refine (catch_panicking r0 (r0 + 1) _ 0 0 _ d0 d1 (by omega)).mono ?_
    rintro e u' w'' ⟨rfl, rfl, rfl⟩
    obtain ⟨e0, e1, kk⟩ := caught (q := q) d0 d1 HK4.out (by omega)
    have hf := Lib.hid (show RcH n es z len H w (.returned (.tuple #[i64 q, i64 4])) _ from .inr ⟨_, rfl, HNO.out, caughtH hgb d0 d1, kk⟩)
    clear kk
    simp [Leaves, settle, results, Try.results17, go_sem, e0, e1]
    exact hf.out
end Go.Proofs.Ytjbjomodponapaa
