/- A graph's copy, and whether two graphs are the same: the program's walks. -/
import Derived.Test.YtmpnaleenehkgaaEdge
import Derived.Lib.SliceRun
namespace Go.Proofs.Ytmpnaleenehkgaa
open Go.RowKit

theorem RowE.news {w : World} {a : Addr} {es : List Edg} (h : RowE w (some a) es) : ∀ j u, (cellsOf es)[j]? = some u → w.cell? (a.add j) = some u := by
  intro j u hj
  have hl : j < es.length * 3 := by
    rw [← cellsOf_length]
    exact (List.getElem?_eq_some_iff.1 hj).1
  have hd := Nat.div_add_mod j 3
  have hm := Nat.mod_lt j (show 0 < 3 by decide)
  obtain ⟨e, he⟩ : ∃ e, es[j / 3]? = some e := ⟨_, List.getElem?_eq_getElem (by omega)⟩
  obtain ⟨b, off, hA, _, h0, h1, h2⟩ := h (j / 3) e he
  cases hA
  have hc := cellsOf_get es (j / 3) (j % 3) e he hm
  rw [show j / 3 * 3 + j % 3 = j by omega, hj] at hc
  have ha : (⟨b, off, none⟩ : Addr).add j = ⟨b, off + j, none⟩ := by unfold Addr.add; split <;> simp_all
  rw [ha]
  have hj3 : j % 3 = 0 ∨ j % 3 = 1 ∨ j % 3 = 2 := by omega
  rcases hj3 with g | g | g
  · rw [g] at hc
    rw [show off + j = off + j / 3 * 3 by omega, h0]; simp [edgeCells] at hc; simp [hc]
  · rw [g] at hc
    rw [show off + j = off + j / 3 * 3 + 1 by omega, h1]; simp [edgeCells] at hc; simp [hc]
  · rw [g] at hc
    rw [show off + j = off + j / 3 * 3 + 2 by omega, h2]; simp [edgeCells] at hc; simp [hc]

theorem cellsOf_one' (es : List Edg) : ∀ u ∈ cellsOf es, u.oneCell' = true := by
  intro u hu
  simp only [cellsOf, List.mem_flatMap] at hu
  obtain ⟨e, _, he⟩ := hu
  simp [edgeCells] at he
  rcases he with rfl | rfl | rfl <;> rfl

theorem Edges.empty (w : World) (B : Nat) (hB : B ≤ w.heap.size) : Edges (w.alloc (.cells #[] 36)) B (.slice (some ⟨w.heap.size, 0, none⟩) 0 0) [] :=
  ⟨rfl, .inr ⟨w.heap.size, 0, #[], rfl, hB, heap_alloc_new w _, Nat.le_refl _, by unfold maxLen; omega, rfl, rfl⟩⟩

set_option maxHeartbeats 1000000 in
theorem sclone_any (A : Option Addr) (c : Nat) (es : List Edg) (w : World) (h : RowE w A es) (hl : es.length ≤ 100000) :
    Calls Try.prog 34 #[.slice A es.length c] w fun e w' => ∃ v, e = .returned v ∧ Edges w' w.heap.size v es ∧ Grew w w' := by
  obtain ⟨i0, hi, hz0, hz1, hz2⟩ := info_parts info_edge
  have hq := fun w a n c => Lib.run_eql_slice_nil (P := Try.prog) w 22 36 a n c 0 0 Try.underlying22
  cases A with
  | none =>
    obtain rfl : es = [] := by
      cases es with
      | nil => rfl
      | cons x es => obtain ⟨_, _, hA, _⟩ := h 0 x rfl; cases hA
    go_enter Try.func34, Try.ntmps34
    go_wp2
    go_ret
    exact ⟨_, rfl, World.ownsRow_nil _ _ _ _, Kept.refl _ _⟩
  | some a =>
    have hn := Lib.hid (h.grew ((Kept.refl _ w).alloc (.cells #[] 36))).news
    have hE := Lib.hid (Edges.empty w w.heap.size (Nat.le_refl _))
    have h1 := Lib.hid (cellsOf_one' es)
    have hL := Lib.hid (cellsOf_length es)
    clear h
    go_enter Try.func34, Try.ntmps34
    go_wp2_with (at_builtin; refine wpList_append_own _ rfl (.tmp 5) (.tmp 6) 22 (by rfl) w.heap.size 36 i0 (.agg #[i64 0, i64 0, u64 0]) 3 24 Try.underlying22 hi hz0 hz1 hz2 (by rfl) (by omega) _ 0 [] rfl hE.out a es.length c (cellsOf es) rfl hL.out hn.out h1.out (by unfold maxLen; omega) (by omega) (by simp) ?_; intro v' w1 hown hg _)
    rw [Nat.zero_add, List.nil_append] at hown
    go_wp2_with fail
    go_ret
    exact ⟨_, rfl, hown, ((Kept.refl (fun _ => False) w).alloc _).grown hg (fun k hk => by cases hk; exact .inr (Nat.le_refl _))⟩

set_option maxHeartbeats 1000000 in
theorem clone_any (n : Int) (A : Option Addr) (c : Nat) (es : List Edg) (w : World) (h : RowE w A es) (hl : es.length ≤ 100000) :
    Calls Try.prog 22 #[.agg #[i64 n, .slice A es.length c]] w fun e w' => ∃ v, e = .returned (.agg #[i64 n, v]) ∧ Edges w' w.heap.size v es ∧ Grew w w' := by
  have b0 : Blk ((w.alloc (.cells #[i64 n, .slice A es.length c] 24)).alloc (.cells #[i64 0, .slice none 0 0] 24)) w.heap.size 24 #[i64 n, .slice A es.length c] := (Blk.new w _ _).alloc _
  have b1 : Blk ((w.alloc (.cells #[i64 n, .slice A es.length c] 24)).alloc (.cells #[i64 0, .slice none 0 0] 24)) (w.heap.size + 1) 24 #[i64 0, .slice none 0 0] := by
    have h := Blk.new (w.alloc (.cells #[i64 n, .slice A es.length c] 24)) 24 #[i64 0, .slice none 0 0]
    rw [World.size_alloc] at h; exact h
  have hK0 : Grew w ((w.alloc (.cells #[i64 n, .slice A es.length c] 24)).alloc (.cells #[i64 0, .slice none 0 0] 24)) := ((Kept.refl _ _).alloc _).alloc _
  have hE := Lib.hid (h.grew hK0)
  have hC := Lib.hid (fun W h => sclone_any A c es W h hl)
  clear h
  obtain ⟨L, hL⟩ : ∃ L, es.length = L := ⟨_, rfl⟩
  have HL := Lib.hid hL
  rw [hL] at b0 b1 hK0 hE hC
  rw [hL]
  clear hL
  go_enter Try.func22, Try.ntmps22
  go_wp2_with fail
  refine wp_region_grow [6] (fun _ => False) (by kernel_rfl) ?_
  simp only [List.size_toArray, List.length_cons, List.length_nil, Nat.reduceAdd]
  refine wpAnyG_pure 0 3 (v := ?_) rfl (by kernel_rfl) rfl (by rfl) (fun w' => ?_) ?_
  rotate_left
  · go_simp <;> with_reducible rfl
  simp only [List.setIfInBounds_toArray, List.set_cons_zero, List.set_cons_succ]
  refine wpAnyG_take 1 4 (v := ?_) rfl (by kernel_rfl) rfl (by rfl) (fun w' hG => ?_) ?_
  rotate_left
  · have hx := (b0.drew.grew hG).cell 0
    simp at hx
    go_simp <;> with_reducible rfl
  simp only [List.setIfInBounds_toArray, List.set_cons_zero, List.set_cons_succ]
  refine wpAnyG_pure 2 5 (v := ?_) rfl (by kernel_rfl) rfl (by rfl) (fun w' => ?_) ?_
  rotate_left
  · go_simp <;> with_reducible rfl
  simp only [List.setIfInBounds_toArray, List.set_cons_zero, List.set_cons_succ]
  refine wpAnyG_take 3 6 (v := ?_) rfl (by kernel_rfl) rfl (by rfl) (fun w' hG => ?_) ?_
  rotate_left
  · have hx := (b0.drew.grew hG).cell 1
    simp at hx
    go_simp <;> with_reducible rfl
  simp only [List.setIfInBounds_toArray, List.set_cons_zero, List.set_cons_succ]
  refine wpAnyG_step 4 7 rfl (by kernel_rfl) rfl (by rfl) (fun K hK' => ?_)
  -- 7 call 34 - [graph.go:34]
  go_simp
  refine (hC.out _ (Lib.hid (hE.out.grew (Kept.refl _ _).drew)).out).mono ?_
  rintro e w1 ⟨v, rfl, hown, k1⟩
  rw [World.size_drew] at hown
  obtain ⟨A1, cc, rfl⟩ := own_slice hown
  refine hK' _ _ (fun _ => k1) ?_
  clear hK'
  simp only [List.setIfInBounds_toArray, List.set_cons_zero, List.set_cons_succ]
  refine wpAnyG_pure 5 8 (v := ?_) rfl (by kernel_rfl) rfl (by rfl) (fun w' => ?_) ?_
  rotate_left
  · go_simp <;> with_reducible rfl
  simp only [List.setIfInBounds_toArray, List.set_cons_zero, List.set_cons_succ]
  refine wpAnyG_store 6 rfl (by kernel_rfl) rfl (by rfl) (fun K hK' => ?_)
  -- 9999 store - [graph.go:34]
  have b2 := b1.drew.grew k1
  have c0 := b2.cell 0
  have c1 := b2.cell 1
  have f0 := b2.frozen 0
  have f1 := b2.frozen 1
  simp at c0 c1
  go_simp
  refine hK' _ (fun h => absurd (List.mem_singleton.2 rfl) h) ?_
  clear hK'
  refine wpAnyG_done (by kernel_rfl) ?_

  go_wp2_with fail
  have q0 := ((b2.set 0 (i64 n)).set 1 (.slice A1 es.length cc)).cell 0
  have q1 := ((b2.set 0 (i64 n)).set 1 (.slice A1 es.length cc)).cell 1
  simp at q0 q1
  have hF : Kept (· = w.heap.size + 1) w1 ((w1.setCell ⟨w.heap.size + 1, 0, none⟩ (i64 n)).setCell ⟨w.heap.size + 1, 1, none⟩ (.slice A1 es.length cc)) := ((Kept.refl (· = w.heap.size + 1) w1).setCell (p := ⟨w.heap.size + 1, 0, none⟩) (.inl rfl) _).setCell (p := ⟨w.heap.size + 1, 1, none⟩) (.inl rfl) _
  refine bodyPost_ret (v := .agg #[i64 n, .slice A1 es.length cc]) (by simp [results, Try.results22, go_sem, q0, q1]) rfl ⟨_, rfl, ?_, ?_⟩
  · refine own_base (Kept.own hF hown (fun k hk h => ?_)) (by simp; omega)
    have := (hown.lt k hk).1
    simp at this
    omega
  · have hk1 : Grew w w1 := (hK0.drew).trans k1
    exact hk1.then hF (fun i hi h => by have : i = w.heap.size + 1 := h; omega)
end Go.Proofs.Ytmpnaleenehkgaa
