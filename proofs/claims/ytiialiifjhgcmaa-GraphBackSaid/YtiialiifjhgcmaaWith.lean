/- Another weight: the walks. -/
import Derived.Test.YtiialiifjhgcmaaTotal
import Derived.Test.YtiialiifjhgcmaaTwo
import Derived.Deep.DeepCutAuto
namespace Go.Proofs.Ytiialiifjhgcmaa
open Go.RowKit

def setW (es : List Edg) (k : Nat) (x : Int) : List Edg := es.set k ((es.getD k (0, 0, 0)).1, (es.getD k (0, 0, 0)).2.1, x)
theorem setW_length (es : List Edg) (k : Nat) (x : Int) : (setW es k x).length = es.length := by simp [setW]
theorem setW_cells (es : List Edg) (k : Nat) (x : Int) (h : k < es.length) : (cellsOf es).set (k * 3 + 2) (u64 x) = cellsOf (setW es k x) := by
  have hd : es = es.take k ++ es[k] :: es.drop (k + 1) := by rw [← List.drop_eq_getElem_cons h, List.take_append_drop]
  have hk : (es.take k).length = k := by simp; omega
  have hs : setW es k x = es.take k ++ (es[k].1, es[k].2.1, x) :: es.drop (k + 1) := by
    unfold setW
    rw [List.getD_eq_getElem?_getD, List.getElem?_eq_getElem h, List.set_eq_take_append_cons_drop, if_pos h]
    rfl
  rw [hs]
  conv => lhs; rw [hd]
  have hl := cellsOf_length (es.take k)
  rw [hk] at hl
  rw [cellsOf_append, cellsOf_append, List.set_append_right _ _ (by omega), hl, Nat.add_sub_cancel_left]
  rfl


set_option maxHeartbeats 1000000 in
theorem with_no1 (n : Int) (A : Option Addr) (c : Nat) (es : List Edg) (e x : Int) (w : World) (h : RowE w A es) (hl : es.length ≤ 100000) (hr : ¬ rightF n es = 0) :
    Calls Try.prog 23 #[.agg #[i64 n, .slice A es.length c], i64 e, u64 x] w fun e w' => e = .returned (.tuple #[.agg #[i64 0, .slice none 0 0], i64 1]) ∧ Grew w w' := by
  have b0 : Blk ((w.alloc (.cells #[i64 n, .slice A es.length c] 24)).alloc (.cells #[i64 0, .slice none 0 0] 24)) w.heap.size 24 #[i64 n, .slice A es.length c] := (Blk.new w _ _).alloc _
  have b1 : Blk ((w.alloc (.cells #[i64 n, .slice A es.length c] 24)).alloc (.cells #[i64 0, .slice none 0 0] 24)) (w.heap.size + 1) 24 #[i64 0, .slice none 0 0] := by
    have h := Blk.new (w.alloc (.cells #[i64 n, .slice A es.length c] 24)) 24 #[i64 0, .slice none 0 0]
    rw [World.size_alloc] at h; exact h
  have hK0 : Grew w ((w.alloc (.cells #[i64 n, .slice A es.length c] 24)).alloc (.cells #[i64 0, .slice none 0 0] 24)) := ((Kept.refl _ _).alloc _).alloc _
  have hE := Lib.hid (h.grew hK0)
  have hC := Lib.hid (right_any n A c es _ (h.grew hK0) hl)
  obtain ⟨f, hf⟩ : ∃ f, rightF n es = f := ⟨_, rfl⟩
  rw [hf] at hC hr
  have hb : (f == 0) = false := by simpa using hr
  have hb' : (f != 0) = true := by simpa using hr
  obtain ⟨L, hL⟩ : ∃ L, es.length = L := ⟨_, rfl⟩
  rw [hL] at b0 b1 hK0 hC
  rw [hL]
  clear h hf hr hL hl hE
  have c0 := b0.cell 0
  have c1 := b0.cell 1
  simp at c0 c1
  go_enter Try.func23, Try.ntmps23
  go_wp2_with fail
  refine hC.out.mono ?_
  rintro e w1 ⟨rfl, k1⟩
  replace b1 := b1.grew k1
  have d0 := b1.cell 0
  have d1 := b1.cell 1
  have f0 := b1.frozen 0
  have f1 := b1.frozen 1
  simp at d0 d1
  have q0 := ((b1.set 0 (i64 0)).set 1 (.slice none 0 0)).cell 0
  have q1 := ((b1.set 0 (i64 0)).set 1 (.slice none 0 0)).cell 1
  simp at q0 q1
  go_wp2_with fail
  refine bodyPost_ret (v := .tuple #[.agg #[i64 0, .slice none 0 0], i64 1]) (by simp [results, Try.results23, go_sem, q0, q1]) rfl ⟨rfl, ?_⟩
  have hF : Kept (· = w.heap.size + 1) w1 ((w1.setCell ⟨w.heap.size + 1, 0, none⟩ (i64 0)).setCell ⟨w.heap.size + 1, 1, none⟩ (.slice none 0 0)) := ((Kept.refl (· = w.heap.size + 1) w1).setCell (p := ⟨w.heap.size + 1, 0, none⟩) (.inl rfl) _).setCell (p := ⟨w.heap.size + 1, 1, none⟩) (.inl rfl) _
  exact (hK0.trans k1).then hF (fun i hi h => by have : i = w.heap.size + 1 := h; omega)


set_option maxHeartbeats 1000000 in
theorem with_no2 (n : Int) (A : Option Addr) (c : Nat) (es : List Edg) (e x : Int) (w : World) (h : RowE w A es) (hl : es.length ≤ 100000) (hr : rightF n es = 0) (he : ¬ (0 ≤ e ∧ e < es.length)) :
    Calls Try.prog 23 #[.agg #[i64 n, .slice A es.length c], i64 e, u64 x] w fun e w' => e = .returned (.tuple #[.agg #[i64 0, .slice none 0 0], i64 8]) ∧ Grew w w' := by
  have b0 : Blk ((w.alloc (.cells #[i64 n, .slice A es.length c] 24)).alloc (.cells #[i64 0, .slice none 0 0] 24)) w.heap.size 24 #[i64 n, .slice A es.length c] := (Blk.new w _ _).alloc _
  have b1 : Blk ((w.alloc (.cells #[i64 n, .slice A es.length c] 24)).alloc (.cells #[i64 0, .slice none 0 0] 24)) (w.heap.size + 1) 24 #[i64 0, .slice none 0 0] := by
    have h := Blk.new (w.alloc (.cells #[i64 n, .slice A es.length c] 24)) 24 #[i64 0, .slice none 0 0]
    rw [World.size_alloc] at h; exact h
  have hK0 : Grew w ((w.alloc (.cells #[i64 n, .slice A es.length c] 24)).alloc (.cells #[i64 0, .slice none 0 0] 24)) := ((Kept.refl _ _).alloc _).alloc _
  have hE := Lib.hid (h.grew hK0)
  have hC := Lib.hid (right_any n A c es _ (h.grew hK0) hl)
  rw [hr] at hC
  have hEd := Lib.hid (fun W => edge_any n A es.length c e W (by omega))
  rw [decide_eq_false he] at hEd
  obtain ⟨L, hL⟩ : ∃ L, es.length = L := ⟨_, rfl⟩
  rw [hL] at b0 b1 hK0 hC he hEd
  rw [hL]
  clear h hr hL hl hE
  have c0 := b0.cell 0
  have c1 := b0.cell 1
  simp at c0 c1

  go_enter Try.func23, Try.ntmps23
  go_wp2_with fail
  refine hC.out.mono ?_
  rintro e w1 ⟨rfl, k1⟩
  replace b0 := b0.grew k1
  replace c0 := b0.cell 0
  replace c1 := b0.cell 1
  simp at c0 c1
  go_wp2_with fail
  refine (hEd.out _).mono ?_
  rintro e w2 ⟨rfl, k2⟩
  replace b1 := (b1.grew k1).grew k2
  have d0 := b1.cell 0
  have d1 := b1.cell 1
  have f0 := b1.frozen 0
  have f1 := b1.frozen 1
  simp at d0 d1
  have q0 := ((b1.set 0 (i64 0)).set 1 (.slice none 0 0)).cell 0
  have q1 := ((b1.set 0 (i64 0)).set 1 (.slice none 0 0)).cell 1
  simp at q0 q1
  go_wp2_with fail
  refine bodyPost_ret (v := .tuple #[.agg #[i64 0, .slice none 0 0], i64 8]) (by simp [results, Try.results23, go_sem, q0, q1]) rfl ⟨rfl, ?_⟩
  have hF : Kept (· = w.heap.size + 1) w2 ((w2.setCell ⟨w.heap.size + 1, 0, none⟩ (i64 0)).setCell ⟨w.heap.size + 1, 1, none⟩ (.slice none 0 0)) := ((Kept.refl (· = w.heap.size + 1) w2).setCell (p := ⟨w.heap.size + 1, 0, none⟩) (.inl rfl) _).setCell (p := ⟨w.heap.size + 1, 1, none⟩) (.inl rfl) _
  exact ((hK0.trans k1).trans k2).then hF (fun i hi h => by have : i = w.heap.size + 1 := h; omega)


set_option maxHeartbeats 1000000 in
theorem with_no3 (n : Int) (A : Option Addr) (c : Nat) (es : List Edg) (e : Nat) (x : Int) (w : World) (h : RowE w A es) (hl : es.length ≤ 100000) (hr : rightF n es = 0) (he : e < es.length) (hx : ¬ (1 ≤ x ∧ x ≤ 4294967296)) :
    Calls Try.prog 23 #[.agg #[i64 n, .slice A es.length c], i64 e, u64 x] w fun e w' => e = .returned (.tuple #[.agg #[i64 0, .slice none 0 0], i64 2]) ∧ Grew w w' := by
  have b0 : Blk ((w.alloc (.cells #[i64 n, .slice A es.length c] 24)).alloc (.cells #[i64 0, .slice none 0 0] 24)) w.heap.size 24 #[i64 n, .slice A es.length c] := (Blk.new w _ _).alloc _
  have b1 : Blk ((w.alloc (.cells #[i64 n, .slice A es.length c] 24)).alloc (.cells #[i64 0, .slice none 0 0] 24)) (w.heap.size + 1) 24 #[i64 0, .slice none 0 0] := by
    have h := Blk.new (w.alloc (.cells #[i64 n, .slice A es.length c] 24)) 24 #[i64 0, .slice none 0 0]
    rw [World.size_alloc] at h; exact h
  have hK0 : Grew w ((w.alloc (.cells #[i64 n, .slice A es.length c] 24)).alloc (.cells #[i64 0, .slice none 0 0] 24)) := ((Kept.refl _ _).alloc _).alloc _
  have hE := Lib.hid (h.grew hK0)
  have hC := Lib.hid (right_any n A c es _ (h.grew hK0) hl)
  rw [hr] at hC
  have hEd := Lib.hid (fun W => edge_any n A es.length c (e : Int) W (by omega))
  rw [decide_eq_true (show 0 ≤ (e : Int) ∧ (e : Int) < (es.length : Int) by omega)] at hEd
  have hWt := Lib.hid (fun W => weight_any x W)
  rw [decide_eq_false hx] at hWt
  obtain ⟨L, hL⟩ : ∃ L, es.length = L := ⟨_, rfl⟩
  rw [hL] at b0 b1 hK0 hC he hEd
  rw [hL]
  clear h hr hL hl hE hx
  have c0 := b0.cell 0
  have c1 := b0.cell 1
  simp at c0 c1

  go_enter Try.func23, Try.ntmps23
  go_wp2_with fail
  refine hC.out.mono ?_
  rintro e w1 ⟨rfl, k1⟩
  replace b0 := b0.grew k1
  replace c0 := b0.cell 0
  replace c1 := b0.cell 1
  simp at c0 c1
  go_wp2_with fail
  refine (hEd.out _).mono ?_
  rintro e w2 ⟨rfl, k2⟩
  go_wp2_with fail
  refine (hWt.out _).mono ?_
  rintro e w9 ⟨rfl, rfl⟩
  replace b1 := (b1.grew k1).grew k2
  have d0 := b1.cell 0
  have d1 := b1.cell 1
  have f0 := b1.frozen 0
  have f1 := b1.frozen 1
  simp at d0 d1
  have q0 := ((b1.set 0 (i64 0)).set 1 (.slice none 0 0)).cell 0
  have q1 := ((b1.set 0 (i64 0)).set 1 (.slice none 0 0)).cell 1
  simp at q0 q1
  go_wp2_with fail
  refine bodyPost_ret (v := .tuple #[.agg #[i64 0, .slice none 0 0], i64 2]) (by simp [results, Try.results23, go_sem, q0, q1]) rfl ⟨rfl, ?_⟩
  have hF : Kept (· = w.heap.size + 1) w2 ((w2.setCell ⟨w.heap.size + 1, 0, none⟩ (i64 0)).setCell ⟨w.heap.size + 1, 1, none⟩ (.slice none 0 0)) := ((Kept.refl (· = w.heap.size + 1) w2).setCell (p := ⟨w.heap.size + 1, 0, none⟩) (.inl rfl) _).setCell (p := ⟨w.heap.size + 1, 1, none⟩) (.inl rfl) _
  exact ((hK0.trans k1).trans k2).then hF (fun i hi h => by have : i = w.heap.size + 1 := h; omega)


set_option maxHeartbeats 2000000 in
set_option maxRecDepth 100000 in
theorem with_yes (n : Int) (A : Option Addr) (c : Nat) (es : List Edg) (e : Nat) (x : Int) (w : World) (h : RowE w A es) (hl : es.length ≤ 100000) (hr : rightF n es = 0) (he : e < es.length) (hx : 1 ≤ x ∧ x ≤ 4294967296) :
    Calls Try.prog 23 #[.agg #[i64 n, .slice A es.length c], i64 e, u64 x] w fun r w' => ∃ v, r = .returned (.tuple #[.agg #[i64 n, v], i64 0]) ∧ Edges w' w.heap.size v (setW es e x) ∧ Grew w w' := by
  have b0 : Blk ((w.alloc (.cells #[i64 n, .slice A es.length c] 24)).alloc (.cells #[i64 0, .slice none 0 0] 24)) w.heap.size 24 #[i64 n, .slice A es.length c] := (Blk.new w _ _).alloc _
  have b1 : Blk ((w.alloc (.cells #[i64 n, .slice A es.length c] 24)).alloc (.cells #[i64 0, .slice none 0 0] 24)) (w.heap.size + 1) 24 #[i64 0, .slice none 0 0] := by
    have h := Blk.new (w.alloc (.cells #[i64 n, .slice A es.length c] 24)) 24 #[i64 0, .slice none 0 0]
    rw [World.size_alloc] at h; exact h
  have hK0 : Grew w ((w.alloc (.cells #[i64 n, .slice A es.length c] 24)).alloc (.cells #[i64 0, .slice none 0 0] 24)) := ((Kept.refl _ _).alloc _).alloc _
  have hE := Lib.hid (h.grew hK0)
  have hC := Lib.hid (right_any n A c es _ (h.grew hK0) hl)
  rw [hr] at hC
  have hEd := Lib.hid (fun W => edge_any n A es.length c (e : Int) W (by omega))
  rw [decide_eq_true (show 0 ≤ (e : Int) ∧ (e : Int) < (es.length : Int) by omega)] at hEd
  have hWt := Lib.hid (fun W => weight_any x W)
  rw [decide_eq_true hx] at hWt
  have hQ := Lib.hid (fun W h => clone_any n A c es W h hl)
  obtain ⟨L, hL⟩ : ∃ L, es.length = L := ⟨_, rfl⟩
  have HL := Lib.hid hL
  have he0 := Lib.hid he
  rw [hL] at b0 b1 hK0 hC he hE hEd hQ
  rw [hL]
  have hl9 : L ≤ 100000 := by omega
  clear h hr hL hx
  have c0 := b0.cell 0
  have c1 := b0.cell 1
  simp at c0 c1

  go_enter Try.func23, Try.ntmps23
  go_wp2_with fail
  refine hC.out.mono ?_
  rintro e w1 ⟨rfl, k1⟩
  replace b0 := b0.grew k1
  replace b1 := b1.grew k1
  replace c0 := b0.cell 0
  replace c1 := b0.cell 1
  simp at c0 c1
  go_wp2_with fail
  refine (hEd.out _).mono ?_
  rintro e w2 ⟨rfl, k2⟩
  go_wp2_with fail
  refine (hWt.out _).mono ?_
  rintro e w9 ⟨rfl, rfl⟩
  replace b0 := b0.grew k2
  replace b1 := b1.grew k2
  replace c0 := b0.cell 0
  replace c1 := b0.cell 1
  simp at c0 c1
  have hE2 := Lib.hid ((hE.out.grew k1).grew k2)
  go_wp2_with fail
  refine (hQ.out _ hE2.out).mono ?_
  rintro e w3 ⟨v, rfl, hown, k3⟩
  obtain ⟨g, cc, rfl⟩ := own_form hown (by have := he0.out; omega)
  rw [HL.out] at hown ⊢
  have hs1 := k1.size
  have hs2 := k2.size
  have hs3 := k3.size
  simp at hs1
  have hg := hown.lt g rfl
  have hK3 := ((hK0.trans k1).trans k2).trans k3
  have HO : Hid (World.ownsRow (w3.alloc (.cells #[i64 n, .slice (some ⟨g, 0, none⟩) L cc] 24)) w2.heap.size 46 3 (.slice (some ⟨g, 0, none⟩) L cc) L (cellsOf es)) := by
    have h := Grew.own ((Kept.refl (fun _ => False) w3).alloc (.cells #[i64 n, .slice (some ⟨g, 0, none⟩) L cc] 24)) hown
    unfold Edges at h
    rw [HL.out] at h
    exact h
  have HO3 : Hid (World.ownsRow w3 w2.heap.size 46 3 (.slice (some ⟨g, 0, none⟩) L cc) L (cellsOf es)) := by
    have h := hown
    unfold Edges at h
    rw [HL.out] at h
    exact h
  have x2 : (w3.alloc (.cells #[i64 n, .slice (some ⟨g, 0, none⟩) L cc] 24)).cell? ⟨g, e * 3 + 2, none⟩ = some (u64 ((es.getD e (0, 0, 0)).2.2)) := by
    have h := World.ownsRow.cellAt HO.out (e * 3 + 2) (by omega)
    rw [h, cellsOf_get es e 2 _ (List.getElem?_eq_getElem he0.out) (by omega), List.getD_eq_getElem?_getD, List.getElem?_eq_getElem he0.out]
    rfl
  have y2 := World.ownsRow.frozenAt HO.out (e * 3 + 2)
  have hng : ¬ g = w3.heap.size := by omega
  have hng2 : ¬ w3.heap.size = g := by omega
  have hn1 : ¬ w.heap.size + 1 = g := by omega
  have hn2 : ¬ g = w.heap.size + 1 := by omega
  have b1' := ((b1.grew k3).far (p := ⟨g, e * 3 + 2, none⟩) hn1 (u64 x)).alloc (.cells #[i64 n, .slice (some ⟨g, 0, none⟩) L cc] 24)
  have d0 := b1'.cell 0
  have d1 := b1'.cell 1
  have f0 := b1'.frozen 0
  have f1 := b1'.frozen 1
  simp only [List.getElem?_toArray, List.getElem?_cons_zero, List.getElem?_cons_succ] at d0 d1
  have q0 := ((b1'.set 0 (i64 n)).set 1 (.slice (some ⟨g, 0, none⟩) L cc)).cell 0
  have q1 := ((b1'.set 0 (i64 n)).set 1 (.slice (some ⟨g, 0, none⟩) L cc)).cell 1
  simp at q0 q1
  have bX := Blk.new w3 24 #[i64 n, .slice (some ⟨g, 0, none⟩) L cc]
  have g0 := bX.cell 0
  have g1 := bX.cell 1
  simp at g0 g1
  clear hown hE hE2 hQ bX
  go_wp2_with fail
  refine bodyPost_ret (v := .tuple #[.agg #[i64 n, .slice (some ⟨g, 0, none⟩) L cc], i64 0]) (by simp [results, Try.results23, go_sem, q0, q1]) rfl ⟨_, rfl, ?_, ?_⟩
  · have h1 := (World.ownsRow.stored HO3.out (e * 3 + 2) (u64 x)).1
    rw [setW_cells es e x he0.out] at h1
    have h2 : Edges ((w3.setCell ⟨g, e * 3 + 2, none⟩ (u64 x)).alloc (.cells #[i64 n, .slice (some ⟨g, 0, none⟩) L cc] 24)) w2.heap.size (.slice (some ⟨g, 0, none⟩) L cc) (setW es e x) := by
      unfold Edges
      rw [setW_length, HL.out]
      exact Grew.own ((Kept.refl (fun _ => False) _).alloc _) h1
    refine own_base (Kept.own (F := (· = w.heap.size + 1)) (((Kept.refl (· = w.heap.size + 1) _).setCell (p := ⟨w.heap.size + 1, 0, none⟩) (.inl rfl) _).setCell (p := ⟨w.heap.size + 1, 1, none⟩) (.inl rfl) _) h2 (fun k hk h => ?_)) (by omega)
    have h3 : k = w.heap.size + 1 := h
    have h4 : g = k := Option.some.inj (show some g = some k from hk)
    omega
  · exact (((hK3.setCell (p := ⟨g, e * 3 + 2, none⟩) (.inr (by show w.heap.size ≤ g; omega)) _).alloc _).setCell (p := ⟨w.heap.size + 1, 0, none⟩) (.inr (by show w.heap.size ≤ w.heap.size + 1; omega)) _).setCell (p := ⟨w.heap.size + 1, 1, none⟩) (.inr (by show w.heap.size ≤ w.heap.size + 1; omega)) _


set_option maxHeartbeats 1000000 in
theorem refWith_no1 (n : Int) (A : Option Addr) (c : Nat) (es : List Edg) (e x : Int) (w : World) (h : RowE w A es) (hl : es.length ≤ 100000) (hr : ¬ rightF n es = 0) :
    Calls Try.prog 24 #[.agg #[i64 n, .slice A es.length c], i64 e, u64 x] w fun e w' => e = .returned (.tuple #[.agg #[i64 0, .slice none 0 0], i64 1]) ∧ Grew w w' := by
  have b0 : Blk ((w.alloc (.cells #[i64 n, .slice A es.length c] 24)).alloc (.cells #[i64 0, .slice none 0 0] 24)) w.heap.size 24 #[i64 n, .slice A es.length c] := (Blk.new w _ _).alloc _
  have b1 : Blk ((w.alloc (.cells #[i64 n, .slice A es.length c] 24)).alloc (.cells #[i64 0, .slice none 0 0] 24)) (w.heap.size + 1) 24 #[i64 0, .slice none 0 0] := by
    have h := Blk.new (w.alloc (.cells #[i64 n, .slice A es.length c] 24)) 24 #[i64 0, .slice none 0 0]
    rw [World.size_alloc] at h; exact h
  have hK0 : Grew w ((w.alloc (.cells #[i64 n, .slice A es.length c] 24)).alloc (.cells #[i64 0, .slice none 0 0] 24)) := ((Kept.refl _ _).alloc _).alloc _
  have hE := Lib.hid (h.grew hK0)
  have hC := Lib.hid (refRight_any n A c es _ (h.grew hK0) hl)
  obtain ⟨f, hf⟩ : ∃ f, rightF n es = f := ⟨_, rfl⟩
  rw [hf] at hC hr
  have hb : (f == 0) = false := by simpa using hr
  have hb' : (f != 0) = true := by simpa using hr
  obtain ⟨L, hL⟩ : ∃ L, es.length = L := ⟨_, rfl⟩
  rw [hL] at b0 b1 hK0 hC
  rw [hL]
  clear h hf hr hL hl hE
  have c0 := b0.cell 0
  have c1 := b0.cell 1
  simp at c0 c1
  go_enter Try.func24, Try.ntmps24
  go_wp2_with fail
  refine hC.out.mono ?_
  rintro e w1 ⟨rfl, k1⟩
  replace b1 := b1.grew k1
  have d0 := b1.cell 0
  have d1 := b1.cell 1
  have f0 := b1.frozen 0
  have f1 := b1.frozen 1
  simp at d0 d1
  have q0 := ((b1.set 0 (i64 0)).set 1 (.slice none 0 0)).cell 0
  have q1 := ((b1.set 0 (i64 0)).set 1 (.slice none 0 0)).cell 1
  simp at q0 q1
  go_wp2_with fail
  refine bodyPost_ret (v := .tuple #[.agg #[i64 0, .slice none 0 0], i64 1]) (by simp [results, Try.results24, go_sem, q0, q1]) rfl ⟨rfl, ?_⟩
  have hF : Kept (· = w.heap.size + 1) w1 ((w1.setCell ⟨w.heap.size + 1, 0, none⟩ (i64 0)).setCell ⟨w.heap.size + 1, 1, none⟩ (.slice none 0 0)) := ((Kept.refl (· = w.heap.size + 1) w1).setCell (p := ⟨w.heap.size + 1, 0, none⟩) (.inl rfl) _).setCell (p := ⟨w.heap.size + 1, 1, none⟩) (.inl rfl) _
  exact (hK0.trans k1).then hF (fun i hi h => by have : i = w.heap.size + 1 := h; omega)


set_option maxHeartbeats 1000000 in
theorem refWith_no2a (n : Int) (A : Option Addr) (c : Nat) (es : List Edg) (e x : Int) (w : World) (h : RowE w A es) (hl : es.length ≤ 100000) (hr : rightF n es = 0) (he : e < 0) :
    Calls Try.prog 24 #[.agg #[i64 n, .slice A es.length c], i64 e, u64 x] w fun e w' => e = .returned (.tuple #[.agg #[i64 0, .slice none 0 0], i64 8]) ∧ Grew w w' := by
  have b0 : Blk ((w.alloc (.cells #[i64 n, .slice A es.length c] 24)).alloc (.cells #[i64 0, .slice none 0 0] 24)) w.heap.size 24 #[i64 n, .slice A es.length c] := (Blk.new w _ _).alloc _
  have b1 : Blk ((w.alloc (.cells #[i64 n, .slice A es.length c] 24)).alloc (.cells #[i64 0, .slice none 0 0] 24)) (w.heap.size + 1) 24 #[i64 0, .slice none 0 0] := by
    have h := Blk.new (w.alloc (.cells #[i64 n, .slice A es.length c] 24)) 24 #[i64 0, .slice none 0 0]
    rw [World.size_alloc] at h; exact h
  have hK0 : Grew w ((w.alloc (.cells #[i64 n, .slice A es.length c] 24)).alloc (.cells #[i64 0, .slice none 0 0] 24)) := ((Kept.refl _ _).alloc _).alloc _
  have hE := Lib.hid (h.grew hK0)
  have hC := Lib.hid (refRight_any n A c es _ (h.grew hK0) hl)
  rw [hr] at hC

  obtain ⟨L, hL⟩ : ∃ L, es.length = L := ⟨_, rfl⟩
  rw [hL] at b0 b1 hK0 hC
  rw [hL]
  clear h hr hL hl hE
  have c0 := b0.cell 0
  have c1 := b0.cell 1
  simp at c0 c1

  go_enter Try.func24, Try.ntmps24
  go_wp2_with fail
  refine hC.out.mono ?_
  rintro e w1 ⟨rfl, k1⟩
  replace b0 := b0.grew k1
  replace c0 := b0.cell 0
  replace c1 := b0.cell 1
  simp at c0 c1

  replace b1 := b1.grew k1
  have d0 := b1.cell 0
  have d1 := b1.cell 1
  have f0 := b1.frozen 0
  have f1 := b1.frozen 1
  simp at d0 d1
  have q0 := ((b1.set 0 (i64 0)).set 1 (.slice none 0 0)).cell 0
  have q1 := ((b1.set 0 (i64 0)).set 1 (.slice none 0 0)).cell 1
  simp at q0 q1
  go_wp2_with fail
  refine bodyPost_ret (v := .tuple #[.agg #[i64 0, .slice none 0 0], i64 8]) (by simp [results, Try.results24, go_sem, q0, q1]) rfl ⟨rfl, ?_⟩
  have hF : Kept (· = w.heap.size + 1) w1 ((w1.setCell ⟨w.heap.size + 1, 0, none⟩ (i64 0)).setCell ⟨w.heap.size + 1, 1, none⟩ (.slice none 0 0)) := ((Kept.refl (· = w.heap.size + 1) w1).setCell (p := ⟨w.heap.size + 1, 0, none⟩) (.inl rfl) _).setCell (p := ⟨w.heap.size + 1, 1, none⟩) (.inl rfl) _
  exact (hK0.trans k1).then hF (fun i hi h => by have : i = w.heap.size + 1 := h; omega)


set_option maxHeartbeats 1000000 in
theorem refWith_no2b (n : Int) (A : Option Addr) (c : Nat) (es : List Edg) (e x : Int) (w : World) (h : RowE w A es) (hl : es.length ≤ 100000) (hr : rightF n es = 0) (he : 0 ≤ e ∧ (es.length : Int) ≤ e) :
    Calls Try.prog 24 #[.agg #[i64 n, .slice A es.length c], i64 e, u64 x] w fun e w' => e = .returned (.tuple #[.agg #[i64 0, .slice none 0 0], i64 8]) ∧ Grew w w' := by
  have b0 : Blk ((w.alloc (.cells #[i64 n, .slice A es.length c] 24)).alloc (.cells #[i64 0, .slice none 0 0] 24)) w.heap.size 24 #[i64 n, .slice A es.length c] := (Blk.new w _ _).alloc _
  have b1 : Blk ((w.alloc (.cells #[i64 n, .slice A es.length c] 24)).alloc (.cells #[i64 0, .slice none 0 0] 24)) (w.heap.size + 1) 24 #[i64 0, .slice none 0 0] := by
    have h := Blk.new (w.alloc (.cells #[i64 n, .slice A es.length c] 24)) 24 #[i64 0, .slice none 0 0]
    rw [World.size_alloc] at h; exact h
  have hK0 : Grew w ((w.alloc (.cells #[i64 n, .slice A es.length c] 24)).alloc (.cells #[i64 0, .slice none 0 0] 24)) := ((Kept.refl _ _).alloc _).alloc _
  have hE := Lib.hid (h.grew hK0)
  have hC := Lib.hid (refRight_any n A c es _ (h.grew hK0) hl)
  rw [hr] at hC

  obtain ⟨L, hL⟩ : ∃ L, es.length = L := ⟨_, rfl⟩
  rw [hL] at b0 b1 hK0 hC he 
  rw [hL]
  clear h hr hL hl hE
  have c0 := b0.cell 0
  have c1 := b0.cell 1
  simp at c0 c1
  obtain ⟨he1, he2⟩ := he
  go_enter Try.func24, Try.ntmps24
  go_wp2_with fail
  refine hC.out.mono ?_
  rintro e w1 ⟨rfl, k1⟩
  replace b0 := b0.grew k1
  replace c0 := b0.cell 0
  replace c1 := b0.cell 1
  simp at c0 c1

  replace b1 := b1.grew k1
  have d0 := b1.cell 0
  have d1 := b1.cell 1
  have f0 := b1.frozen 0
  have f1 := b1.frozen 1
  simp at d0 d1
  have q0 := ((b1.set 0 (i64 0)).set 1 (.slice none 0 0)).cell 0
  have q1 := ((b1.set 0 (i64 0)).set 1 (.slice none 0 0)).cell 1
  simp at q0 q1
  go_wp2_with fail
  refine bodyPost_ret (v := .tuple #[.agg #[i64 0, .slice none 0 0], i64 8]) (by simp [results, Try.results24, go_sem, q0, q1]) rfl ⟨rfl, ?_⟩
  have hF : Kept (· = w.heap.size + 1) w1 ((w1.setCell ⟨w.heap.size + 1, 0, none⟩ (i64 0)).setCell ⟨w.heap.size + 1, 1, none⟩ (.slice none 0 0)) := ((Kept.refl (· = w.heap.size + 1) w1).setCell (p := ⟨w.heap.size + 1, 0, none⟩) (.inl rfl) _).setCell (p := ⟨w.heap.size + 1, 1, none⟩) (.inl rfl) _
  exact (hK0.trans k1).then hF (fun i hi h => by have : i = w.heap.size + 1 := h; omega)


set_option maxHeartbeats 1000000 in
theorem refWith_no3 (n : Int) (A : Option Addr) (c : Nat) (es : List Edg) (e : Nat) (x : Int) (w : World) (h : RowE w A es) (hl : es.length ≤ 100000) (hr : rightF n es = 0) (he : e < es.length) (hx : ¬ (1 ≤ x ∧ x ≤ 4294967296)) :
    Calls Try.prog 24 #[.agg #[i64 n, .slice A es.length c], i64 e, u64 x] w fun e w' => e = .returned (.tuple #[.agg #[i64 0, .slice none 0 0], i64 2]) ∧ Grew w w' := by
  have b0 : Blk ((w.alloc (.cells #[i64 n, .slice A es.length c] 24)).alloc (.cells #[i64 0, .slice none 0 0] 24)) w.heap.size 24 #[i64 n, .slice A es.length c] := (Blk.new w _ _).alloc _
  have b1 : Blk ((w.alloc (.cells #[i64 n, .slice A es.length c] 24)).alloc (.cells #[i64 0, .slice none 0 0] 24)) (w.heap.size + 1) 24 #[i64 0, .slice none 0 0] := by
    have h := Blk.new (w.alloc (.cells #[i64 n, .slice A es.length c] 24)) 24 #[i64 0, .slice none 0 0]
    rw [World.size_alloc] at h; exact h
  have hK0 : Grew w ((w.alloc (.cells #[i64 n, .slice A es.length c] 24)).alloc (.cells #[i64 0, .slice none 0 0] 24)) := ((Kept.refl _ _).alloc _).alloc _
  have hE := Lib.hid (h.grew hK0)
  have hC := Lib.hid (refRight_any n A c es _ (h.grew hK0) hl)
  rw [hr] at hC

  have hWt := Lib.hid (fun W => refWeight_any x W)
  rw [decide_eq_false hx] at hWt
  obtain ⟨L, hL⟩ : ∃ L, es.length = L := ⟨_, rfl⟩
  rw [hL] at b0 b1 hK0 hC he 
  rw [hL]
  clear h hr hL hl hE hx
  have c0 := b0.cell 0
  have c1 := b0.cell 1
  simp at c0 c1
  have he1 : ¬ (e : Int) < 0 := by omega
  have he2 : ¬ L ≤ e := by omega
  have he3 : ¬ (L : Int) ≤ (e : Int) := by omega
  go_enter Try.func24, Try.ntmps24
  go_wp2_with fail
  refine hC.out.mono ?_
  rintro e w1 ⟨rfl, k1⟩
  replace b0 := b0.grew k1
  replace c0 := b0.cell 0
  replace c1 := b0.cell 1
  simp at c0 c1

  go_wp2_with fail
  refine (hWt.out _).mono ?_
  rintro e w9 ⟨rfl, rfl⟩
  replace b1 := b1.grew k1
  have d0 := b1.cell 0
  have d1 := b1.cell 1
  have f0 := b1.frozen 0
  have f1 := b1.frozen 1
  simp at d0 d1
  have q0 := ((b1.set 0 (i64 0)).set 1 (.slice none 0 0)).cell 0
  have q1 := ((b1.set 0 (i64 0)).set 1 (.slice none 0 0)).cell 1
  simp at q0 q1
  go_wp2_with fail
  refine bodyPost_ret (v := .tuple #[.agg #[i64 0, .slice none 0 0], i64 2]) (by simp [results, Try.results24, go_sem, q0, q1]) rfl ⟨rfl, ?_⟩
  have hF : Kept (· = w.heap.size + 1) w1 ((w1.setCell ⟨w.heap.size + 1, 0, none⟩ (i64 0)).setCell ⟨w.heap.size + 1, 1, none⟩ (.slice none 0 0)) := ((Kept.refl (· = w.heap.size + 1) w1).setCell (p := ⟨w.heap.size + 1, 0, none⟩) (.inl rfl) _).setCell (p := ⟨w.heap.size + 1, 1, none⟩) (.inl rfl) _
  exact (hK0.trans k1).then hF (fun i hi h => by have : i = w.heap.size + 1 := h; omega)

end Go.Proofs.Ytiialiifjhgcmaa
