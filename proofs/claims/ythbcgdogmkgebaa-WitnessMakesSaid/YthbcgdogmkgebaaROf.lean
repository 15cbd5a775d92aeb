/- The net of any graph: by definition. -/
import Derived.Test.YthbcgdogmkgebaaWOf
import Derived.Test.YthbcgdogmkgebaaRefMerge
namespace Go.Proofs.Ythbcgdogmkgebaa
open Go.RowKit
open Gr (Edg RowE rightF)

theorem info_rarcs : (Try.prog.info? 42).map (fun i => (i.zero, i.size, i.bytes)) = some (some (.slice none 0 0), 1, 24) := by kernel_rfl
/-- The rows so far. -/
def RowsR (w : World) (B : Nat) (f : Nat → List Ar) (k : Nat) (vals : List Value) : Prop := ∀ i, i < k → ∃ u, vals[i]? = some u ∧ OwnR w B u (f i)
theorem RowsR.grew {w w' : World} {B k : Nat} {f : Nat → List Ar} {vals : List Value} (h : RowsR w B f k vals) (g : Grew w w') : RowsR w' B f k vals := fun i hi => by
  obtain ⟨u, h1, h2⟩ := h i hi
  exact ⟨u, h1, h2.grew g⟩
theorem RowsR.kept {w w' : World} {B B' k n : Nat} {f : Nat → List Ar} {vals xs : List Value} {o : Value} (h : RowsR w B f k vals) (ho : w.ownsRow B' 42 1 o n xs) (g : Kept (fun j => o.ownBlock = some j) w w') : RowsR w' B f k vals := fun i hi => by
  obtain ⟨u, h1, h2⟩ := h i hi
  exact ⟨u, h1, Kept.own g h2 (fun j hj => own_apart h2 ho (by decide) hj)⟩
theorem RowsR.snoc {w : World} {B k : Nat} {f : Nat → List Ar} {vals : List Value} {u : Value} (h : RowsR w B f k vals) (hk : vals.length = k) (hu : OwnR w B u (f k)) : RowsR w B f (k + 1) (vals ++ [u]) := fun i hi => by
  rcases Nat.lt_or_ge i k with h1 | h1
  · obtain ⟨u', h2, h3⟩ := h i h1
    exact ⟨u', by rw [List.getElem?_append_left (by omega)]; exact h2, h3⟩
  · obtain rfl : i = k := by omega
    exact ⟨u, by rw [List.getElem?_append_right (by omega), hk, Nat.sub_self]; rfl, hu⟩
theorem RowsR.far {w w' : World} {B b k : Nat} {f : Nat → List Ar} {vals : List Value} {cs : Array Value} {t : TypeId} (h : RowsR w B f k vals) (hb : Blk w b t cs) (ht : t ≠ 58) (g : Kept (· = b) w w') : RowsR w' B f k vals := fun i hi => by
  obtain ⟨u, h1, h2⟩ := h i hi
  refine ⟨u, h1, Kept.own g h2 (fun j hj hjb => ?_)⟩
  obtain ⟨_, c1, g1⟩ := own_type h2 hj
  have : j = b := hjb
  subst this
  rw [show w.heap[j]? = some (.cells cs t (0, 0)) from hb] at g1
  cases g1
  exact ht rfl
theorem rowN_ofR {w : World} {B B' N c : Nat} {A : Option Addr} {f : Nat → List Ar} {vals : List Value} (own : w.ownsRow B' 42 1 (.slice A N c) N vals) (rows : RowsR w B f N vals) : RowN w A ((List.range N).map f) := fun i l hl => by
  have hi : i < N := by
    have := (List.getElem?_eq_some_iff.1 hl).1
    simpa using this
  have e : f i = l := by simpa [hi] using hl
  subst e
  obtain ⟨u, h1, h2⟩ := rows i hi
  obtain ⟨Au, cu, rfl, h3⟩ := h2.row
  rcases own.2 with ⟨_, h0⟩ | ⟨g, cap, cur, hv, hb, hg, _⟩
  · omega
  · cases hv
    have h4 := World.ownsRow.cellAt own i (by omega)
    rw [h1] at h4
    exact ⟨g, 0, Au, cu, rfl, (Array.getElem?_eq_some_iff.1 hg).1, by rw [Nat.zero_add]; exact h4, h3⟩
def RofS (w w' : World) (r0 N L c : Nat) (A : Option Addr) (es : List Edg) (o : Value) (k : Nat) (vals : List Value) : Prop :=
  Blk w' r0 41 #[i64 N, .slice A L c] ∧ Blk w' (r0 + 1) 25 #[.slice none 0 0, .slice none 0 0] ∧ Blk w' (r0 + 3) 25 #[o, .slice (some ⟨r0 + 2, 0, none⟩) N N] ∧ w'.ownsRow (r0 + 4) 42 1 o k vals ∧ RowsR w' r0 (rowG es) k vals ∧ Grew w w' ∧ r0 + 4 ≤ w'.heap.size
theorem max_nat (N : Nat) : max (N : Int) 0 = (N : Int) := by omega

set_option maxHeartbeats 4000000 in
set_option maxRecDepth 100000 in
theorem rof_any (N : Nat) (A : Option Addr) (c : Nat) (es : List Edg) (w : World) (h : RowE w A es) (hl : es.length ≤ 300) (hN : N ≤ 100) (hr : rightF N es = 0) :
    Calls Try.prog 20 #[.agg #[i64 N, .slice A es.length c]] w fun e w' => ∃ A' c' g, e = .returned (.agg #[.slice A' N c', .slice (some ⟨g, 0, none⟩) N N]) ∧ RowN w' A' ((List.range N).map (rowG es)) ∧ Grew w w' := by
  have hE0 := Lib.hid h
  have hC := Lib.hid (fun W (g : Grew w W) => Gr.refRight_any N A c es W (h.grew g) (by omega))
  have hz := Lib.hid (right_zero hr).2.2.2
  rw [hr] at hC
  obtain ⟨L, hL⟩ : ∃ L, es.length = L := ⟨_, rfl⟩
  have HL := Lib.hid hL
  rw [hL] at hC hl ⊢
  clear hr hL h
  obtain ⟨j0, ji, jz0, jz1, jz2⟩ := info_parts info_bool
  have jmk := fun W => run_make (P := Try.prog) W 23 4 j0 _ Try.underlying23 ji jz0 .i64 .i64 (N : Int) (N : Int) (by omega) (Int.le_refl _) (by rw [jz2]; omega) (by omega)
  simp only [Int.toNat_natCast, jz1, Nat.mul_one] at jmk
  clear ji jz0 jz1 jz2
  obtain ⟨i0, hi, hz0, hz1, hz2⟩ := info_parts info_rarc
  obtain ⟨q0, qi, qz0, qz1, qz2⟩ := info_parts info_rarcs
  obtain ⟨r0, hr0⟩ : ∃ r, w.heap.size = r := ⟨_, rfl⟩
  have HR0 := Lib.hid hr0
  have hmx := max_nat N
  have hmx2 : max (0 : Int) (N : Int) = (N : Int) := by omega
  have hd : decide ((N : Int) < 0) = false := decide_eq_false (by omega)
  have b0 : Blk ((((w.alloc (.cells #[i64 N, .slice A L c] 41)).alloc (.cells #[.slice none 0 0, .slice none 0 0] 25)).alloc (.cells (madeCells #[.bool false] N) 4)).alloc (.cells #[.slice none 0 0, .slice (some ⟨r0 + 2, 0, none⟩) N N] 25)) r0 41 #[i64 N, .slice A L c] := by
    rw [← hr0]; exact (((Blk.new w _ _).alloc _).alloc _).alloc _
  have b1 : Blk ((((w.alloc (.cells #[i64 N, .slice A L c] 41)).alloc (.cells #[.slice none 0 0, .slice none 0 0] 25)).alloc (.cells (madeCells #[.bool false] N) 4)).alloc (.cells #[.slice none 0 0, .slice (some ⟨r0 + 2, 0, none⟩) N N] 25)) (r0 + 1) 25 #[.slice none 0 0, .slice none 0 0] := by
    have q := Blk.new (w.alloc (.cells #[i64 N, .slice A L c] 41)) 25 #[.slice none 0 0, .slice none 0 0]
    rw [World.size_alloc, hr0] at q
    exact (q.alloc _).alloc _
  have b3 : Blk ((((w.alloc (.cells #[i64 N, .slice A L c] 41)).alloc (.cells #[.slice none 0 0, .slice none 0 0] 25)).alloc (.cells (madeCells #[.bool false] N) 4)).alloc (.cells #[.slice none 0 0, .slice (some ⟨r0 + 2, 0, none⟩) N N] 25)) (r0 + 3) 25 #[.slice none 0 0, .slice (some ⟨r0 + 2, 0, none⟩) N N] := by
    have q := Blk.new (((w.alloc (.cells #[i64 N, .slice A L c] 41)).alloc (.cells #[.slice none 0 0, .slice none 0 0] 25)).alloc (.cells (madeCells #[.bool false] N) 4)) 25 #[.slice none 0 0, .slice (some ⟨r0 + 2, 0, none⟩) N N]
    rw [World.size_alloc, World.size_alloc, World.size_alloc, hr0] at q
    exact q
  have kk : Grew w ((((w.alloc (.cells #[i64 N, .slice A L c] 41)).alloc (.cells #[.slice none 0 0, .slice none 0 0] 25)).alloc (.cells (madeCells #[.bool false] N) 4)).alloc (.cells #[.slice none 0 0, .slice (some ⟨r0 + 2, 0, none⟩) N N] 25)) := ((((Kept.refl _ _).alloc _).alloc _).alloc _).alloc _
  have hsS : r0 + 4 ≤ ((((w.alloc (.cells #[i64 N, .slice A L c] 41)).alloc (.cells #[.slice none 0 0, .slice none 0 0] 25)).alloc (.cells (madeCells #[.bool false] N) 4)).alloc (.cells #[.slice none 0 0, .slice (some ⟨r0 + 2, 0, none⟩) N N] 25)).heap.size := by simp; omega
  have hS0 : Hid (RofS w ((((w.alloc (.cells #[i64 N, .slice A L c] 41)).alloc (.cells #[.slice none 0 0, .slice none 0 0] 25)).alloc (.cells (madeCells #[.bool false] N) 4)).alloc (.cells #[.slice none 0 0, .slice (some ⟨r0 + 2, 0, none⟩) N N] 25)) r0 N L c A es (.slice none 0 0) 0 []) := ⟨b0, b1, b3, World.ownsRow_nil _ _ _ _, fun i hi => by omega, kk, hsS⟩
  clear b0 b1 b3 kk hsS
  go_enter Try.func20, Try.ntmps20
  go_wp2_with fail
  go_loopw [4] (fun i wr => ∃ (v : Nat) (o : Value) (vals : List Value), v ≤ N ∧ i = .int .i64 v ∧ Hid (RofS w wr r0 N L c A es o v vals)) (fun i _ => N - (intOf i).toNat)
  case atStart => exact ⟨0, _, _, by omega, rfl, hS0⟩
  case round =>
    clear hS0 jmk hmx hmx2 hd
    obtain ⟨v, o, vals, hv, rfl, hS⟩ := hrel
    obtain ⟨wO, hwO⟩ : ∃ W, W = wr := ⟨_, rfl⟩
    subst hwO
    obtain ⟨Ao, co, rfl⟩ : ∃ Ao co, o = .slice Ao v co := by
      rcases hS.out.2.2.2.1.2 with ⟨h, h0⟩ | ⟨g, cap, _, hv, _⟩
      · exact ⟨none, 0, by rw [h, h0]⟩
      · exact ⟨_, cap, hv⟩
    have c0 := hS.out.1.cell 0
    have c1 := hS.out.1.cell 1
    have d0 := hS.out.2.2.1.cell 0
    have d1 := hS.out.2.2.1.cell 1
    simp at c0 c1 d0 d1
    by_cases hlt : v < N
    · have v0 : (v : Int) < (N : Int) := by omega
      have hC2 := Lib.hid (hC.out wO hS.out.2.2.2.2.2.1)
      go_wp2_with fail
      refine hC2.out.mono ?_
      rintro e w3 ⟨rfl, k3⟩
      obtain ⟨H0, hH0⟩ : ∃ H, w3.heap.size = H := ⟨_, rfl⟩
      have HH0 := Lib.hid hH0
      have K3 := Lib.hid k3
      have hI0 : Hid (OwnR w3 H0 (.slice none 0 0) (rowG (es.take 0) v) ∧ Grew wO w3 ∧ H0 ≤ w3.heap.size) := ⟨World.ownsRow_nil _ _ _ _, k3, by omega⟩
      have hs3 : Hid (wO.heap.size ≤ H0) := by have := k3.size; show _ ≤ _; omega
      replace c0 := k3.cell c0
      replace c1 := k3.cell c1
      have cO0 := hS.out.1.cell 0
      have cO1 := hS.out.1.cell 1
      simp at cO0 cO1
      clear hC2 hH0 k3
      go_wp2_with fail
      go_loopw [5, 6] (fun l i wr => ∃ (k : Nat), k ≤ L ∧ i = .int .i64 k ∧ Hid (OwnR wr H0 l (rowG (es.take k) v) ∧ Grew wO wr ∧ H0 ≤ wr.heap.size)) (fun _ i _ => L - (intOf i).toNat)
      case atStart => exact ⟨0, by omega, rfl, hI0⟩
      case round =>
        clear hI0 c0 c1
        obtain ⟨k, hk, rfl, hI⟩ := hrel
        obtain ⟨Al, cl, rfl, _⟩ := hI.out.1.row
        obtain ⟨m, hm⟩ : ∃ m, (rowG (es.take k) v).length = m := ⟨_, rfl⟩
        have HM := Lib.hid hm
        have hmk : m ≤ k := by
          have h1 := rowG_le (es.take k) v
          rw [List.length_take] at h1
          omega
        have hOl : Hid (wr.ownsRow H0 58 2 (.slice Al m cl) m (cellsA (rowG (es.take k) v))) := by
          have h := hI.out.1
          unfold OwnR at h
          rw [hm] at h
          exact h
        rw [hm]
        clear hm
        have g0 := Grew.cell hI.out.2.1 cO0
        have g1 := Grew.cell hI.out.2.1 cO1
        by_cases hlt2 : k < L
        · obtain ⟨⟨p, q, r⟩, hx⟩ : ∃ x, es[k]? = some x := ⟨_, List.getElem?_eq_getElem (by rw [HL.out]; exact hlt2)⟩
          obtain ⟨b, off, hAe, hb, e0, e1, e2⟩ := hE0.out k _ hx
          subst hAe
          have hgg := (hS.out.2.2.2.2.2.1).trans hI.out.2.1
          replace e0 := Grew.cell hgg e0
          replace e1 := Grew.cell hgg e1
          replace e2 := Grew.cell hgg e2
          dsimp only at e0 e1 e2
          have k0 : (0 : Int) ≤ (k : Int) := by omega
          have k1 : (k : Int) < (L : Int) := by omega
          have HX := Lib.hid hx
          have hsz := Lib.hid hI.out.2.2
          by_cases hp : p = (v : Int)
          · as_aux_lemma =>
            subst hp
            have hge : ∀ j, (Value.slice Al m cl).ownBlock = some j → H0 ≤ j := fun j hj => (hOl.out.lt j hj).1
            have hwO := hs3.out
            have hr4 := hS.out.2.2.2.2.2.2
            have hr0' := HR0.out
            have ne0 : ¬ (Value.slice Al m cl).ownBlock = some r0 := fun h => by have := hge _ h; omega
            have neb : ¬ (Value.slice Al m cl).ownBlock = some b := fun h => by have := hge _ h; omega
            clear hge hwO hr4 hr0' hgg hx
            go_wp2_with fail
            refine wp_region_grow [] (fun j => (Value.slice Al m cl).ownBlock = some j) (by kernel_rfl) ?_
            simp only [List.size_toArray, List.length_cons, List.length_nil, Nat.reduceAdd]
            refine wpAnyG_pure 0 38 (v := ?_) rfl (by kernel_rfl) rfl (by rfl) (fun w' => ?_) ?_
            rotate_left
            · go_simp <;> with_reducible rfl
            simp only [List.setIfInBounds_toArray, List.set_cons_zero, List.set_cons_succ]
            refine wpAnyG_pure 1 39 (v := ?_) rfl (by kernel_rfl) rfl (by rfl) (fun w' => ?_) ?_
            rotate_left
            · go_simp <;> with_reducible rfl
            simp only [List.setIfInBounds_toArray, List.set_cons_zero, List.set_cons_succ]
            refine wpAnyG_take 2 40 (v := ?_) rfl (by kernel_rfl) rfl (by rfl) (fun w' hG' => ?_) ?_
            rotate_left
            · have hx0 := hG'.cell (show wr.drew.cell? _ = _ from e0) neb
              have hx1 := hG'.cell (show wr.drew.cell? _ = _ from e1) neb
              have hx2 := hG'.cell (show wr.drew.cell? _ = _ from e2) neb
              have hx3 := hG'.cell (show wr.drew.cell? _ = _ from g0) ne0
              have hx4 := hG'.cell (show wr.drew.cell? _ = _ from g1) ne0
              go_simp <;> with_reducible rfl
            simp only [List.setIfInBounds_toArray, List.set_cons_zero, List.set_cons_succ]
            refine wpAnyG_pure 3 41 (v := ?_) rfl (by kernel_rfl) rfl (by rfl) (fun w' => ?_) ?_
            rotate_left
            · go_simp <;> with_reducible rfl
            simp only [List.setIfInBounds_toArray, List.set_cons_zero, List.set_cons_succ]
            refine wpAnyG_pure 4 42 (v := ?_) rfl (by kernel_rfl) rfl (by rfl) (fun w' => ?_) ?_
            rotate_left
            · go_simp <;> with_reducible rfl
            simp only [List.setIfInBounds_toArray, List.set_cons_zero, List.set_cons_succ]
            refine wpAnyG_pure 5 43 (v := ?_) rfl (by kernel_rfl) rfl (by rfl) (fun w' => ?_) ?_
            rotate_left
            · go_simp <;> with_reducible rfl
            simp only [List.setIfInBounds_toArray, List.set_cons_zero, List.set_cons_succ]
            refine wpAnyG_take 6 44 (v := ?_) rfl (by kernel_rfl) rfl (by rfl) (fun w' hG' => ?_) ?_
            rotate_left
            · have hx0 := hG'.cell (show wr.drew.cell? _ = _ from e0) neb
              have hx1 := hG'.cell (show wr.drew.cell? _ = _ from e1) neb
              have hx2 := hG'.cell (show wr.drew.cell? _ = _ from e2) neb
              have hx3 := hG'.cell (show wr.drew.cell? _ = _ from g0) ne0
              have hx4 := hG'.cell (show wr.drew.cell? _ = _ from g1) ne0
              go_simp <;> with_reducible rfl
            simp only [List.setIfInBounds_toArray, List.set_cons_zero, List.set_cons_succ]
            refine wpAnyG_pure 7 45 (v := ?_) rfl (by kernel_rfl) rfl (by rfl) (fun w' => ?_) ?_
            rotate_left
            · go_simp <;> with_reducible rfl
            simp only [List.setIfInBounds_toArray, List.set_cons_zero, List.set_cons_succ]
            refine wpAnyG_take 8 46 (v := ?_) rfl (by kernel_rfl) rfl (by rfl) (fun w' hG' => ?_) ?_
            rotate_left
            · have hx0 := hG'.cell (show wr.drew.cell? _ = _ from e0) neb
              have hx1 := hG'.cell (show wr.drew.cell? _ = _ from e1) neb
              have hx2 := hG'.cell (show wr.drew.cell? _ = _ from e2) neb
              have hx3 := hG'.cell (show wr.drew.cell? _ = _ from g0) ne0
              have hx4 := hG'.cell (show wr.drew.cell? _ = _ from g1) ne0
              go_simp <;> with_reducible rfl
            simp only [List.setIfInBounds_toArray, List.set_cons_zero, List.set_cons_succ]
            refine wpAnyG_pure 9 47 (v := ?_) rfl (by kernel_rfl) rfl (by rfl) (fun w' => ?_) ?_
            rotate_left
            · go_simp <;> with_reducible rfl
            simp only [List.setIfInBounds_toArray, List.set_cons_zero, List.set_cons_succ]
            refine wpAnyG_pure 10 48 (v := ?_) rfl (by kernel_rfl) rfl (by rfl) (fun w' => ?_) ?_
            rotate_left
            · go_simp <;> with_reducible rfl
            simp only [List.setIfInBounds_toArray, List.set_cons_zero, List.set_cons_succ]
            refine wpAnyG_pure 11 49 (v := ?_) rfl (by kernel_rfl) rfl (by rfl) (fun w' => ?_) ?_
            rotate_left
            · go_simp <;> with_reducible rfl
            simp only [List.setIfInBounds_toArray, List.set_cons_zero, List.set_cons_succ]
            refine wpAnyG_take 12 50 (v := ?_) rfl (by kernel_rfl) rfl (by rfl) (fun w' hG' => ?_) ?_
            rotate_left
            · have hx0 := hG'.cell (show wr.drew.cell? _ = _ from e0) neb
              have hx1 := hG'.cell (show wr.drew.cell? _ = _ from e1) neb
              have hx2 := hG'.cell (show wr.drew.cell? _ = _ from e2) neb
              have hx3 := hG'.cell (show wr.drew.cell? _ = _ from g0) ne0
              have hx4 := hG'.cell (show wr.drew.cell? _ = _ from g1) ne0
              go_simp <;> with_reducible rfl
            simp only [List.setIfInBounds_toArray, List.set_cons_zero, List.set_cons_succ]
            refine wpAnyG_pure 13 51 (v := ?_) rfl (by kernel_rfl) rfl (by rfl) (fun w' => ?_) ?_
            rotate_left
            · go_simp <;> with_reducible rfl
            simp only [List.setIfInBounds_toArray, List.set_cons_zero, List.set_cons_succ]
            refine wpAnyG_step 14 52 rfl (by kernel_rfl) rfl (by rfl) (fun K hK' => ?_)
            go_simp
            refine hK' _ _ (fun _ => (Kept.refl _ _).alloc _) ?_
            clear hK'
            simp only [List.setIfInBounds_toArray, List.set_cons_zero, List.set_cons_succ]
            refine wpAnyG_step 15 53 rfl (by kernel_rfl) rfl (by rfl) (fun K hK' => ?_)
            refine wp_append_lies _ (.tmp 38) (.tmp 52) 42 (by rfl) H0 58 i0 (.agg #[i64 0, .int .u64 0]) 2 16 Try.underlying42 hi hz0 hz1 hz2 (by rfl) (by omega) (.slice Al m cl) m (cellsA (rowG (es.take k) v)) (by rfl) (Grew.own (((Kept.refl (fun _ => False) wr).drew).alloc _) hOl.out) ⟨wr.heap.size, 0, none⟩ 1 1 (arCells (q, r)) (by rfl) (by rfl) (World.news_of_block (heap_alloc_new _ _)) ?_ (by omega) ?_ ?_ ?_ _ rfl ?_
            · intro u hu; simp [arCells] at hu; rcases hu with rfl | rfl <;> rfl
            · unfold maxLen; omega
            · omega
            · have := hsz.out; simp; omega
            intro g cap wa hown1 hgrow1 hat1 hlt1
            refine hK' _ _ (fun _ => (Kept.refl _ _).grown hgrow1 (fun k hk => .inl hk)) ?_
            clear hK'
            simp only [List.setIfInBounds_toArray, List.set_cons_zero, List.set_cons_succ]
            refine wpAnyG_pure 16 5 (v := ?_) rfl (by kernel_rfl) rfl (by rfl) (fun w' => ?_) ?_
            rotate_left
            · go_simp <;> with_reducible rfl
            simp only [List.setIfInBounds_toArray, List.set_cons_zero, List.set_cons_succ]
            refine wpAnyG_done (by kernel_rfl) ?_
            have hI1 : Hid (OwnR wa H0 (.slice (some ⟨g, 0, none⟩) (m + 1) cap) (rowG (es.take (k + 1)) v) ∧ Grew wO wa ∧ H0 ≤ wa.heap.size) := by
              have gA : Kept (fun j => (Value.slice Al m cl).ownBlock = some j) wr wa := ((Kept.refl _ _).drew.alloc _).grown hgrow1 (fun k hk => .inl hk)
              refine ⟨?_, hI.out.2.1.then gA (fun i hi h => by have := (hOl.out.lt i h).1; have := hs3.out; omega), by have := gA.size; have := hsz.out; omega⟩
              unfold OwnR
              rw [rowG_yes HX.out, List.length_append, HM.out, cellsA_append, show cellsA [(q, r)] = arCells (q, r) from rfl]
              exact hown1
            clear hI hOl hown1 hgrow1 hat1 hlt1 e0 e1 e2 g0 g1 HX HM
            go_wp2_with fail
            go_roundw
            case rel => exact ⟨k + 1, by omega, by go_num, hI1⟩
            case measure => simp [intOf]; omega
          · as_aux_lemma =>
            have hp1 : (p == (v : Int)) = false := by simp [hp]
            have hI1 : Hid (OwnR wr H0 (.slice Al m cl) (rowG (es.take (k + 1)) v) ∧ Grew wO wr ∧ H0 ≤ wr.heap.size) := by
              refine ⟨?_, hI.out.2⟩
              unfold OwnR
              rw [rowG_no HX.out hp, HM.out]
              exact hOl.out
            clear hI hOl HX HM hgg hx
            go_wp2_with fail
            go_roundw
            case rel => exact ⟨k + 1, by omega, by go_num, hI1⟩
            case measure => simp [intOf]; omega
        · as_aux_lemma =>
          obtain rfl : k = L := by omega
          obtain ⟨B0, B1, B3, ho, hrow, hK, hsz⟩ := hS.out
          have gI := hI.out.2.1
          have D3 := Lib.hid (B3.grew gI)
          have D0 := Lib.hid (B0.grew gI)
          have D1 := Lib.hid (B1.grew gI)
          have Do := Lib.hid (Grew.own gI ho)
          have DR := Lib.hid (hrow.grew gI)
          have DK := Lib.hid (hK.trans gI)
          have hvl : vals.length = v := by have := ho.1; omega
          have hou : Hid (OwnR wr r0 (.slice Al m cl) (rowG es v)) := by
            show OwnR wr r0 (.slice Al m cl) (rowG es v)
            refine OwnR.base (B := H0) (B' := r0) ?_ (by have := hs3.out; omega)
            unfold OwnR
            have h := hOl.out
            have hM := HM.out
            rw [List.take_of_length_le (by rw [HL.out]; exact Nat.le_refl _)] at h hM
            rw [hM]
            exact h
          have d0 := D3.out.cell 0
          simp at d0
          have hge : ∀ j, (Value.slice Ao v co).ownBlock = some j → r0 + 4 ≤ j := fun j hj => (ho.lt j hj).1
          have ne3 : ¬ (Value.slice Ao v co).ownBlock = some (r0 + 3) := fun h => by have := hge _ h; omega
          have ne1 : ¬ (Value.slice Ao v co).ownBlock = some (r0 + 1) := fun h => by have := hge _ h; omega
          have ne0 : ¬ (Value.slice Ao v co).ownBlock = some r0 := fun h => by have := hge _ h; omega
          have hs4 : Hid (r0 + 4 ≤ wr.heap.size) := by have := gI.size; show _ ≤ _; omega
          clear B0 B1 B3 ho hrow hK gI hI hS hOl hge HM cO0 cO1
          go_wp2_with
            (at_builtin
             refine wpList_append_lies _ rfl (.tmp 55) (.tmp 57) 22 (by rfl) (r0 + 4) 42 q0 (.slice none 0 0) 1 24 Try.underlying22 qi qz0 qz1 qz2 (by rfl) (by omega) (.slice Ao v co) v vals (by rfl) (Grew.own ((Kept.refl (fun _ => False) wr).alloc _) Do.out) ⟨wr.heap.size, 0, none⟩ 1 1 [.slice Al m cl] (by rfl) (by rfl) (World.news_of_block (heap_alloc_new _ _)) (by intro u hu; simp at hu; subst hu; rfl) (by omega) (by unfold maxLen; omega) (by omega) (by have := hs4.out; simp; omega) _ rfl ?_
             intro g cap wa hown1 hgrow1 _ _
             have kA : Kept (fun j => (Value.slice Ao v co).ownBlock = some j) (wr.alloc (.cells #[.slice Al m cl] 42)) wa := (Kept.refl _ _).grown hgrow1 (fun k hk => .inl hk)
             have gE : Grew wr (wr.alloc (.cells #[.slice Al m cl] 42)) := (Kept.refl _ _).alloc _
             have b3w := (D3.out.grew gE).kept kA ne3
             have v0' := b3w.cell 0
             have vf := b3w.frozen 0
             simp at v0'
             have hS1 : Hid (RofS w (wa.setCell ⟨r0 + 3, 0, none⟩ (.slice (some ⟨g, 0, none⟩) (v + 1) cap)) r0 N k c A es (.slice (some ⟨g, 0, none⟩) (v + 1) cap) (v + 1) (vals ++ [.slice Al m cl])) := by
               have hF : Kept (· = r0 + 3) wa (wa.setCell ⟨r0 + 3, 0, none⟩ (.slice (some ⟨g, 0, none⟩) (v + 1) cap)) := (Kept.refl (· = r0 + 3) wa).setCell (p := ⟨r0 + 3, 0, none⟩) (.inl rfl) _
               have hgr : r0 + 4 ≤ g := (hown1.lt g rfl).1
               have own4 := Grew.own gE Do.out
               have ou4 := hou.out.grew gE
               have rows4 := ((DR.out.grew gE).kept own4 kA).snoc hvl (Kept.own kA ou4 (fun j hj => own_apart ou4 own4 (by decide) hj))
               have rows5 := rows4.far b3w (by decide) hF
               have b3x := b3w.set 0 (.slice (some ⟨g, 0, none⟩) (v + 1) cap)
               simp at b3x
               refine ⟨((D0.out.grew gE).kept kA ne0).kept hF (by show ¬ r0 = r0 + 3; omega), ((D1.out.grew gE).kept kA ne1).kept hF (by show ¬ r0 + 1 = r0 + 3; omega), b3x, Kept.own hF hown1 (fun j hj h => by obtain rfl : g = j := Option.some.inj hj; have : g = r0 + 3 := h; omega), rows5, ((DK.out.trans gE).then kA (fun i hi h => by have := (own4.lt i h).1; have := HR0.out; omega)).then hF (fun i hi h => by have h2 : i = r0 + 3 := h; have := HR0.out; omega), ?_⟩
               have h1 := hF.size
               have h2 := kA.size
               have h3 := gE.size
               have h4 := hs4.out
               omega
             clear hown1 hgrow1 kA gE b3w D0 D1 D3 Do DR DK hou hvl)
          go_roundw
          case rel => exact ⟨v + 1, _, _, by omega, by go_num, hS1⟩
          case measure => simp [intOf]; omega
    · as_aux_lemma =>
      obtain rfl : v = N := by omega
      obtain ⟨B0, B1, B3, ho, hrow, hK, hsz⟩ := hS.out
      have f0 := B1.frozen 0
      have f1 := B1.frozen 1
      have s0 := B1.cell 0
      have s1 := B1.cell 1
      simp at s0 s1
      have hF : Kept (· = r0 + 1) wO ((wO.setCell ⟨r0 + 1, 0, none⟩ (.slice Ao v co)).setCell ⟨r0 + 1, 1, none⟩ (.slice (some ⟨r0 + 2, 0, none⟩) v v)) := ((Kept.refl (· = r0 + 1) wO).setCell (p := ⟨r0 + 1, 0, none⟩) (.inl rfl) _).setCell (p := ⟨r0 + 1, 1, none⟩) (.inl rfl) _
      have hRN : Hid (RowN ((wO.setCell ⟨r0 + 1, 0, none⟩ (.slice Ao v co)).setCell ⟨r0 + 1, 1, none⟩ (.slice (some ⟨r0 + 2, 0, none⟩) v v)) Ao ((List.range v).map (rowG es))) := rowN_ofR (Kept.own hF ho (fun j hj h => by have := (ho.lt j hj).1; have h2 : j = r0 + 1 := h; omega)) (hrow.far B1 (by decide) hF)
      have hKx : Hid (Grew w ((wO.setCell ⟨r0 + 1, 0, none⟩ (.slice Ao v co)).setCell ⟨r0 + 1, 1, none⟩ (.slice (some ⟨r0 + 2, 0, none⟩) v v))) := hK.then hF (fun i hi h => by have h2 : i = r0 + 1 := h; have := HR0.out; omega)
      have q := (B1.set 0 (.slice Ao v co)).set 1 (.slice (some ⟨r0 + 2, 0, none⟩) v v)
      have q0 := q.cell 0
      have q1 := q.cell 1
      simp at q0 q1
      clear ho hrow hK hS B0 B1 B3 hF q
      go_wp2_with fail
      exact bodyPost_ret (v := .agg #[.slice Ao v co, .slice (some ⟨r0 + 2, 0, none⟩) v v]) (by simp [results, Try.results20, go_sem, q0, q1]) rfl ⟨Ao, co, _, rfl, hRN.out, hKx.out⟩
end Go.Proofs.Ythbcgdogmkgebaa
