/- Graphs read: Read. -/
import Derived.Test.YtjbjomodponapaaRCall
namespace Go.Proofs.Ytjbjomodponapaa
open Go.RowKit

/-- What Read answers. -/
def ReadE (z : Nat → Int) (len : Nat) (w : World) (e : Ending) (w' : World) : Prop :=
  (∃ n es Av c, e = .returned (.tuple #[.agg #[i64 n, .slice Av (List.length es) c], i64 0, i64 0]) ∧ RowE w' Av es ∧ rightF n es = 0 ∧ Rest z len 0 (encG n es) ∧
    (∀ n0 es0, rightF n0 es0 = 0 → Rest z len 0 (encG n0 es0) → n0 = n ∧ es0 = es) ∧ Grew w w') ∨
  (∃ q, e = .returned (.tuple #[.agg #[i64 0, .slice none 0 0], i64 q, i64 4]) ∧ NoG z len ∧ Grew w w')
set_option maxHeartbeats 4000000 in
theorem read_any (A : Option Addr) (len cap : Nat) (z : Nat → Int) (w : World) (hs : Src w A len cap z) (hl : len ≤ 100000) (hA : ∀ a, A = some a → a.block < w.heap.size) :
    Calls Try.prog 7 #[.slice A len cap] w fun e w' => ReadE z len w e w' := by
  have hmf : ∀ (fn : Fn) (first cap : Array Value) (w : World), (Instr.makeFunc fn first cap).run Try.prog w = .ok (.func fn first cap) w := fun _ _ _ _ => rfl
  have k0 : Grew w (w.alloc (.cells #[i64 0, .slice none 0 0] 24)) := (Kept.refl _ _).alloc _
  have bG := Blk.new w 24 #[i64 0, .slice none 0 0]
  have hC := Lib.hid (readcall_any w.heap.size A len cap z _ bG (hs.grew k0) hl (fun a ha => by have := hA a ha; exact ⟨by simp; omega, by omega⟩))
  have HK0 := Lib.hid k0
  clear k0 bG hs hA
  go_enter Try.func7, Try.ntmps7
  go_wp2_with fail
  obtain ⟨W1, hW1⟩ : ∃ W, w.alloc (.cells #[i64 0, .slice none 0 0] 24) = W := ⟨_, rfl⟩
  have HW : Hid (w.heap.size < W1.heap.size) := by show _ < _; rw [← hW1]; simp
  rw [hW1] at hC HK0 ⊢
  clear hW1
  refine hC.out.mono ?_
  rintro e w2 (⟨n, es, v, rfl, hB, hr, hR, hu, k2⟩ | ⟨q, rfl, hno, ⟨x, y, hgb⟩, k2⟩)
  · obtain ⟨Av, cv, rfl, hrow⟩ := hB.own.row
    have hx : Hid (Kept (· = w.heap.size) W1 w2) := k2
    have b := hB.box
    have c0 := b.cell 0
    have c1 := b.cell 1
    have f0 := b.frozen 0
    have f1 := b.frozen 1
    simp at c0 c1
    have b' := (b.set 0 (i64 n)).set 1 (.slice Av es.length cv)
    have q0 := b'.cell 0
    have q1 := b'.cell 1
    simp at q0 q1
    have kS : Kept (· = w.heap.size) W1 ((w2.setCell ⟨w.heap.size, 0, none⟩ (i64 n)).setCell ⟨w.heap.size, 1, none⟩ (.slice Av es.length cv)) := (k2.setCell (p := ⟨w.heap.size, 0, none⟩) (.inl rfl) _).setCell (p := ⟨w.heap.size, 1, none⟩) (.inl rfl) _
    have rowS : RowE ((w2.setCell ⟨w.heap.size, 0, none⟩ (i64 n)).setCell ⟨w.heap.size, 1, none⟩ (.slice Av es.length cv)) Av es :=
      hrow.kept (((Kept.refl (· = w.heap.size) w2).setCell (p := ⟨w.heap.size, 0, none⟩) (.inl rfl) _).setCell (p := ⟨w.heap.size, 1, none⟩) (.inl rfl) _) (fun a ha h => by
        subst ha
        have h : a.block = w.heap.size := h
        have h1 := (hB.own.lt a.block rfl).1
        have := HW.out
        omega)
    have hf : Hid (ReadE z len w (.returned (.tuple #[.agg #[i64 n, .slice Av es.length cv], i64 0, i64 0])) ((w2.setCell ⟨w.heap.size, 0, none⟩ (i64 n)).setCell ⟨w.heap.size, 1, none⟩ (.slice Av es.length cv))) :=
      .inl ⟨n, es, Av, cv, rfl, rowS, hr, hR, hu, HK0.out.then kS (fun i hi h => by have h : i = w.heap.size := h; omega)⟩
    clear hC k2 kS rowS hrow hB hr hR hu b b' hx HK0
    go_wp2_with fail
    exact bodyPost_ret (v := .tuple #[.agg #[i64 n, .slice Av es.length cv], i64 0, i64 0]) (by simp [results, Try.results7, go_sem, q0, q1]) rfl hf.out
  · have c0 := hgb.cell 0
    have c1 := hgb.cell 1
    have f0 := hgb.frozen 0
    have f1 := hgb.frozen 1
    simp at c0 c1
    have b' := (hgb.set 0 (i64 0)).set 1 (.slice none 0 0)
    have q0 := b'.cell 0
    have q1 := b'.cell 1
    simp at q0 q1
    have kS : Kept (· = w.heap.size) W1 ((w2.setCell ⟨w.heap.size, 0, none⟩ (i64 0)).setCell ⟨w.heap.size, 1, none⟩ (.slice none 0 0)) := (k2.setCell (p := ⟨w.heap.size, 0, none⟩) (.inl rfl) _).setCell (p := ⟨w.heap.size, 1, none⟩) (.inl rfl) _
    have hf : Hid (ReadE z len w (.returned (.tuple #[.agg #[i64 0, .slice none 0 0], i64 q, i64 4])) ((w2.setCell ⟨w.heap.size, 0, none⟩ (i64 0)).setCell ⟨w.heap.size, 1, none⟩ (.slice none 0 0))) :=
      .inr ⟨q, rfl, hno, HK0.out.then kS (fun i hi h => by have h : i = w.heap.size := h; omega)⟩
    clear hC k2 kS hno hgb b' HK0
    go_wp2_with fail
    exact bodyPost_ret (v := .tuple #[.agg #[i64 0, .slice none 0 0], i64 q, i64 4]) (by simp [results, Try.results7, go_sem, q0, q1]) rfl hf.out
end Go.Proofs.Ytjbjomodponapaa
