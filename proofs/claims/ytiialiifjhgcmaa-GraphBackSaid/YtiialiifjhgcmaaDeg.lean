/- How many go out, and come in: the walks. -/
import Derived.Test.YtiialiifjhgcmaaTotal
import Derived.RegionTactic
import Derived.Deep.DeepCutAuto
namespace Go.Proofs.Ytiialiifjhgcmaa
open Go.RowKit

/-- How often each node below n is so named among the edges. -/
def degL (f : Edg → Int) (es : List Edg) (n : Nat) : List Int := (List.range n).map fun (v : Nat) => (es.countP (fun e => f e == (v : Int)) : Int)
def degA (f : Edg → Int) (es : List Edg) (n : Nat) : Array Value := ((degL f es n).map i64).toArray
theorem degA_get (f : Edg → Int) (es : List Edg) (n v : Nat) (hv : v < n) : (degA f es n)[v]? = some (i64 (es.countP (fun e => f e == (v : Int)))) := by
  simp [degA, degL, hv]
theorem degA_zero (f : Edg → Int) (n : Nat) : degA f [] n = madeCells #[i64 0] n := by
  apply Array.ext
  · simp [degA, degL, size_madeCells]
  · intro k h1 h2
    have hk : k < n := by simpa [degA, degL] using h1
    simp [degA, degL, madeCells, Value.cells, Nat.mod_one]
theorem degA_step (f : Edg → Int) (es : List Edg) (k n v : Nat) (e : Edg) (h : es[k]? = some e) (hv : f e = (v : Int)) (hn : v < n) :
    (degA f (es.take k) n).setIfInBounds v (i64 ((es.take k).countP (fun e => f e == (v : Int)) + 1)) = degA f (es.take (k + 1)) n := by
  apply Array.ext_getElem?
  intro j
  by_cases hj : j < n
  · rw [degA_get f _ n j hj]
    by_cases hjv : v = j
    · subst hjv
      rw [Array.getElem?_setIfInBounds_self_of_lt (by simpa [degA, degL] using hj), List.take_add_one, h, List.countP_append]
      simp [hv]
    · rw [Array.getElem?_setIfInBounds_ne hjv, degA_get f _ n j hj, List.take_add_one, h, List.countP_append]
      have : ¬ (f e = (j : Int)) := by omega
      simp [this]
  · rw [Array.getElem?_eq_none (by simp [degA, degL]; omega), Array.getElem?_eq_none (by simp [degA, degL]; omega)]
theorem count_bd (f : Edg → Int) (es : List Edg) (k : Nat) (x : Int) : (es.take k).countP (fun e => f e == x) ≤ k := by
  refine Nat.le_trans List.countP_le_length ?_
  rw [List.length_take]; omega

theorem info_int : (Try.prog.info? 3).map (fun i => (i.zero, i.size, i.bytes)) = some (some (i64 0), 1, 8) := by kernel_rfl
def DegE (n : Int) (es : List Edg) (e : Ending) (w w' : World) : Prop := ∃ A c B d, e = .returned (.tuple #[.slice A (List.length (if rightF n es = 0 then degL (fun e => e.1) es n.toNat else [])) c, .slice B (List.length (if rightF n es = 0 then degL (fun e => e.2.1) es n.toNat else [])) d]) ∧
  RowI w' A (if rightF n es = 0 then degL (fun e => e.1) es n.toNat else []) ∧ RowI w' B (if rightF n es = 0 then degL (fun e => e.2.1) es n.toNat else []) ∧ Grew w w'
theorem deg_row {w : World} {g n : Nat} {f : Edg → Int} {es : List Edg} (h : Blk w g 3 (degA f es n)) : RowI w (some ⟨g, 0, none⟩) (degL f es n) := by
  intro i z hz
  have hi : i < n := by
    have := (List.getElem?_eq_some_iff.1 hz).1
    simpa [degL] using this
  refine ⟨g, 0, rfl, h.lt, ?_⟩
  rw [Nat.zero_add, h.cell, degA, List.getElem?_toArray, List.getElem?_map, hz]
  rfl
theorem deg_end {n : Nat} {es : List Edg} {w w' : World} {g1 g2 : Nat} (hr : rightF n es = 0) (h1 : Blk w' g1 3 (degA (fun e => e.1) es n)) (h2 : Blk w' g2 3 (degA (fun e => e.2.1) es n)) (hK : Grew w w') :
    DegE n es (.returned (.tuple #[.slice (some ⟨g1, 0, none⟩) n n, .slice (some ⟨g2, 0, none⟩) n n])) w w' := by
  unfold DegE
  simp only [hr, if_true, Int.toNat_natCast]
  exact ⟨_, n, _, n, by simp [degL], deg_row h1, deg_row h2, hK⟩


set_option maxHeartbeats 1000000 in
theorem deg_no (n : Int) (A : Option Addr) (c : Nat) (es : List Edg) (w : World) (h : RowE w A es) (hl : es.length ≤ 100000) (hr : ¬ rightF n es = 0) :
    Calls Try.prog 16 #[.agg #[i64 n, .slice A es.length c]] w fun e w' => DegE n es e w w' := by
  have b0 : Blk (w.alloc (.cells #[i64 n, .slice A es.length c] 24)) w.heap.size 24 #[i64 n, .slice A es.length c] := Blk.new w _ _
  have hK0 : Grew w (w.alloc (.cells #[i64 n, .slice A es.length c] 24)) := (Kept.refl _ _).alloc _
  have hC := Lib.hid (right_any n A c es _ (h.grew hK0) hl)
  have hD : Hid (∀ W, Grew w W → DegE n es (.returned (.tuple #[.slice none 0 0, .slice none 0 0])) w W) := by
    intro W k
    unfold DegE
    simp only [hr, if_false]
    exact ⟨none, 0, none, 0, rfl, RowI.nil _ _, RowI.nil _ _, k⟩
  obtain ⟨f, hf⟩ : ∃ f, rightF n es = f := ⟨_, rfl⟩
  rw [hf] at hC hr
  have hb : (f == 0) = false := by simpa using hr
  have hb' : (f != 0) = true := by simpa using hr
  obtain ⟨L, hL⟩ : ∃ L, es.length = L := ⟨_, rfl⟩
  rw [hL] at b0 hK0 hC
  rw [hL]
  clear h hf hr hL hl
  have c0 := b0.cell 0
  have c1 := b0.cell 1
  simp at c0 c1
  go_enter Try.func16, Try.ntmps16
  go_wp2_with fail
  refine hC.out.mono ?_
  rintro e w1 ⟨rfl, k1⟩
  go_wp2_with fail
  go_ret2
  exact hD.out _ (hK0.trans k1)


set_option maxHeartbeats 2000000 in
set_option maxRecDepth 100000 in
theorem deg_yes (n : Nat) (A : Option Addr) (c : Nat) (es : List Edg) (w : World) (h : RowE w A es) (hl : es.length ≤ 100000) (hr : rightF n es = 0) :
    Calls Try.prog 16 #[.agg #[i64 n, .slice A es.length c]] w fun e w' => DegE n es e w w' := by
  have b0 : Blk (w.alloc (.cells #[i64 n, .slice A es.length c] 24)) w.heap.size 24 #[i64 n, .slice A es.length c] := Blk.new w _ _
  have hK0 : Grew w (w.alloc (.cells #[i64 n, .slice A es.length c] 24)) := (Kept.refl _ _).alloc _
  have hW := Lib.hid h
  have hE := Lib.hid (h.grew hK0)
  have hC := Lib.hid (right_any n A c es _ (h.grew hK0) hl)
  have hl2 := (right_zero hr).2.2.1
  have hn1 := (right_zero hr).1
  have hn2 := (right_zero hr).2.1
  have hz := Lib.hid (right_zero hr).2.2.2
  have hR := Lib.hid hr
  rw [hr] at hC
  obtain ⟨L, hL⟩ : ∃ L, es.length = L := ⟨_, rfl⟩
  have HL := Lib.hid hL
  rw [hL] at b0 hK0 hC hE hl2
  rw [hL]
  clear hr hL hl h
  obtain ⟨i0, hi, hz0, hz1, hz2⟩ := info_parts info_int
  have hmk := fun W => run_make (P := Try.prog) W 33 3 i0 _ Try.underlying33 hi hz0 .i64 .i64 (n : Int) (n : Int) (by omega) (Int.le_refl _) (by rw [hz2]; omega) (by omega)
  simp only [Int.toNat_natCast, hz1, Nat.mul_one] at hmk
  clear hi hz0 hz1 hz2
  have c0 := b0.cell 0
  have c1 := b0.cell 1
  simp at c0 c1
  go_enter Try.func16, Try.ntmps16
  go_wp2_with fail
  refine hC.out.mono ?_
  rintro e w1 ⟨rfl, k1⟩
  replace b0 := b0.grew k1
  replace c0 := b0.cell 0
  replace c1 := b0.cell 1
  simp at c0 c1
  have hE1 := Lib.hid (hE.out.grew k1)
  have hK1 := hK0.trans k1
  clear hE hK0 hC
  have cA : ∀ o, (w1.alloc o).cell? ⟨w.heap.size, 0, none⟩ = some (i64 n) := fun o => (b0.alloc o).cell 0
  go_upto_region 3 with fail
  go_cut [2, 3] (fun s2 s3 wx => ∃ g1 g2 : Nat, s2 = .slice (some ⟨g1, 0, none⟩) n n ∧ s3 = .slice (some ⟨g2, 0, none⟩) n n ∧ g1 ≠ g2 ∧ w1.heap.size ≤ g1 ∧ w1.heap.size ≤ g2 ∧ Blk wx g1 3 (madeCells #[i64 0] n) ∧ Blk wx g2 3 (madeCells #[i64 0] n) ∧ Grew w1 wx)
  case first =>
    go_region
    all_goals go_wp2_with fail
    all_goals go_meet
    all_goals
      have B1 := (Blk.new w1 3 (madeCells #[i64 0] n)).alloc (.cells (madeCells #[i64 0] n) 3)
      have B2 := Blk.new (w1.alloc (.cells (madeCells #[i64 0] n) 3)) 3 (madeCells #[i64 0] n)
      rw [World.size_alloc] at B2
      have hk : Grew w1 ((w1.alloc (.cells (madeCells #[i64 0] n) 3)).alloc (.cells (madeCells #[i64 0] n) 3)).drew := (((Kept.refl _ _).alloc _).alloc _).drew
    · first
        | exact ⟨w1.heap.size, w1.heap.size + 1, rfl, rfl, by omega, by omega, by omega, B1, B2, hk⟩
        | exact ⟨w1.heap.size + 1, w1.heap.size, rfl, rfl, by omega, by omega, by omega, B2, B1, hk⟩
    · first
        | exact ⟨w1.heap.size, w1.heap.size + 1, rfl, rfl, by omega, by omega, by omega, B1, B2, hk⟩
        | exact ⟨w1.heap.size + 1, w1.heap.size, rfl, rfl, by omega, by omega, by omega, B2, B1, hk⟩
  case rest =>
    obtain ⟨g1, g2, rfl, rfl, hne, hg1, hg2, B1, B2, k2⟩ := hcut
    have hs1 := k1.size
    simp at hs1
    rw [← degA_zero (fun e => e.1) n] at B1
    rw [← degA_zero (fun e => e.2.1) n] at B2
    have hne' : ¬ g2 = g1 := fun h => hne h.symm
    have hne'' : ¬ g1 = g2 := hne
    have hE2 := Lib.hid (hE1.out.grew k2)
    have hK2 := hK1.trans k2
    have b2 := b0.grew k2
    have B1' : Hid (Blk wc g1 3 (degA (fun e => e.1) (es.take 0) n)) := B1
    have B2' : Hid (Blk wc g2 3 (degA (fun e => e.2.1) (es.take 0) n)) := B2
    replace c0 := b2.cell 0
    replace c1 := b2.cell 1
    simp at c0 c1
    clear hE1 hK1 k1 k2 cA b0 B1 B2 hmk hne
    go_wp2_with fail
    go_loopw [5, 18] (fun u5 i wr => ∃ (k : Nat), k ≤ L ∧ i = .int .i64 k ∧ Hid (Blk wr g1 3 (degA (fun e => e.1) (es.take k) n)) ∧ Hid (Blk wr g2 3 (degA (fun e => e.2.1) (es.take k) n)) ∧ Blk wr w.heap.size 24 #[i64 n, .slice A L c] ∧ Hid (RowE wr A es) ∧ Grew w wr) (fun u5 i _ => L - (intOf i).toNat)
    case atStart => exact ⟨0, by omega, rfl, B1', B2', b2, hE2, hK2⟩
    case round =>
      clear B1' B2' b2 hE2 hK2 c0 c1
      obtain ⟨k, hk, rfl, B1, B2, b0, hE, hK⟩ := hrel
      have c0 := b0.cell 0
      have c1 := b0.cell 1
      simp at c0 c1
      by_cases hlt : k < L
      · obtain ⟨x, hx⟩ : ∃ x, es[k]? = some x := ⟨_, List.getElem?_eq_getElem (by rw [HL.out]; exact hlt)⟩
        obtain ⟨b, off, hA, hb, e0, e1, e2⟩ := hE.out k x hx
        have hbw : b < w.heap.size := by
          obtain ⟨b', off', hA', hb', _⟩ := hW.out k x hx
          rw [hA] at hA'
          cases hA'
          exact hb'
        obtain ⟨p, q, r⟩ := x
        subst hA
        have hq := hz.out k p q r hx
        obtain ⟨pn, rfl⟩ := Int.eq_ofNat_of_zero_le hq.1
        obtain ⟨qn, rfl⟩ := Int.eq_ofNat_of_zero_le hq.2.2.1
        have hp1 : pn < n := by have := hq.2.1; omega
        have hq1 : qn < n := by have := hq.2.2.2.1; omega
        have hp2 : (pn : Int) < (n : Int) := by omega
        have hq2 : (qn : Int) < (n : Int) := by omega
        obtain ⟨m1, hm1⟩ : ∃ m, (es.take k).countP (fun e => e.1 == (pn : Int)) = m := ⟨_, rfl⟩
        obtain ⟨m2, hm2⟩ : ∃ m, (es.take k).countP (fun e => e.2.1 == (qn : Int)) = m := ⟨_, rfl⟩
        have hb1 : m1 ≤ k := by rw [← hm1]; exact count_bd (fun e => e.1) es k pn
        have hb2 : m2 ≤ k := by rw [← hm2]; exact count_bd (fun e => e.2.1) es k qn
        have S1 : Hid ((degA (fun e => e.1) (es.take k) n).setIfInBounds pn (i64 ((m1 : Int) + 1)) = degA (fun e => e.1) (es.take (k + 1)) n) := by
          have := degA_step (fun e => e.1) es k n pn _ hx rfl hp1
          rw [hm1] at this
          exact this
        have S2 : Hid ((degA (fun e => e.2.1) (es.take k) n).setIfInBounds qn (i64 ((m2 : Int) + 1)) = degA (fun e => e.2.1) (es.take (k + 1)) n) := by
          have := degA_step (fun e => e.2.1) es k n qn _ hx rfl hq1
          rw [hm2] at this
          exact this
        have d1 := (B1.out.cell pn).trans (degA_get (fun e => e.1) (es.take k) n pn hp1)
        have d2 := (B2.out.cell qn).trans (degA_get (fun e => e.2.1) (es.take k) n qn hq1)
        rw [hm1] at d1
        rw [hm2] at d2
        have f1 := B1.out.frozen pn
        have f2 := B2.out.frozen qn
        have z0 : ∀ o, (wr.alloc o).cell? ⟨g1, pn, none⟩ = some (i64 (m1 : Int)) := fun o => ((B1.out.alloc o).cell pn).trans (((B1.out.cell pn).symm.trans d1))
        have z1 : ∀ o, (wr.alloc o).cell? ⟨g2, qn, none⟩ = some (i64 (m2 : Int)) := fun o => ((B2.out.alloc o).cell qn).trans (((B2.out.cell qn).symm.trans d2))
        have z2 : ∀ o, (wr.alloc o).frozen? ⟨g1, pn, none⟩ = false := fun o => (B1.out.alloc o).frozen pn
        have z3 : ∀ o, (wr.alloc o).frozen? ⟨g2, qn, none⟩ = false := fun o => (B2.out.alloc o).frozen qn
        have hw1 : ¬ wr.heap.size = g1 := fun h => by have := B1.out.lt; omega
        have hw2 : ¬ wr.heap.size = g2 := fun h => by have := B2.out.lt; omega
        have hw3 : ¬ g1 = wr.heap.size := fun h => hw1 h.symm
        have hw4 : ¬ g2 = wr.heap.size := fun h => hw2 h.symm
        clear hx hq hm1 hm2 d1 d2 f1 f2
        go_wp2_with fail
        go_roundw
        case rel =>
          refine ⟨k + 1, by omega, by go_num, ?_, ?_, ?_, ?_, ?_⟩
          · show Blk _ _ _ _
            rw [← S1.out]
            exact ((B1.out.alloc _).set pn _).far (p := ⟨g2, qn, none⟩) hne'' _
          · show Blk _ _ _ _
            rw [← S2.out]
            exact ((B2.out.alloc _).far (p := ⟨g1, pn, none⟩) hne' _).set qn _
          · exact ((b0.alloc _).far (p := ⟨g1, pn, none⟩) (by show w.heap.size ≠ g1; omega) _).far (p := ⟨g2, qn, none⟩) (by show w.heap.size ≠ g2; omega) _
          · have hA1 := hE.out.grew ((Kept.refl _ wr).alloc (.cells #[i64 (pn : Int), i64 (qn : Int), u64 r] 46))
            refine Lib.hid (hA1.kept (F := fun j => j = g1 ∨ j = g2) (((Kept.refl _ _).setCell (p := ⟨g1, pn, none⟩) (.inl (.inl rfl)) _).setCell (p := ⟨g2, qn, none⟩) (.inl (.inr rfl)) _) ?_)
            intro a ha h
            cases ha
            have := hbw
            rcases h with h | h
            · have h' : b = g1 := h
              omega
            · have h' : b = g2 := h
              omega
          · exact ((hK.alloc _).setCell (p := ⟨g1, pn, none⟩) (.inr (by show w.heap.size ≤ g1; omega)) _).setCell (p := ⟨g2, qn, none⟩) (.inr (by show w.heap.size ≤ g2; omega)) _
        case measure => simp [intOf]; omega
      · obtain rfl : k = L := by omega
        have hend : Hid (∀ W, Grew wr W → Grew w W → DegE n es (.returned (.tuple #[.slice (some ⟨g1, 0, none⟩) n n, .slice (some ⟨g2, 0, none⟩) n n])) w W) := by
          intro W kW kw
          have h1 := B1.out.grew kW
          have h2 := B2.out.grew kW
          rw [List.take_of_length_le (by rw [HL.out]; omega)] at h1 h2
          exact deg_end hR.out h1 h2 kw
        go_wp2_with fail
        go_ret2
        exact hend.out _ (Kept.refl _ _) hK


theorem deg_any (n : Int) (A : Option Addr) (c : Nat) (es : List Edg) (w : World) (h : RowE w A es) (hl : es.length ≤ 100000) :
    Calls Try.prog 16 #[.agg #[i64 n, .slice A es.length c]] w fun e w' => DegE n es e w w' := by
  by_cases hr : rightF n es = 0
  · obtain ⟨m, rfl⟩ := Int.eq_ofNat_of_zero_le (show 0 ≤ n by have := (right_zero hr).1; omega)
    exact deg_yes m A c es w h hl hr
  · exact deg_no n A c es w h hl hr


set_option maxHeartbeats 1000000 in
theorem refDeg_no (n : Int) (A : Option Addr) (c : Nat) (es : List Edg) (w : World) (h : RowE w A es) (hl : es.length ≤ 100000) (hr : ¬ rightF n es = 0) :
    Calls Try.prog 17 #[.agg #[i64 n, .slice A es.length c]] w fun e w' => DegE n es e w w' := by
  have b0 : Blk (w.alloc (.cells #[i64 n, .slice A es.length c] 24)) w.heap.size 24 #[i64 n, .slice A es.length c] := Blk.new w _ _
  have hK0 : Grew w (w.alloc (.cells #[i64 n, .slice A es.length c] 24)) := (Kept.refl _ _).alloc _
  have hC := Lib.hid (refRight_any n A c es _ (h.grew hK0) hl)
  have hD : Hid (∀ W, Grew w W → DegE n es (.returned (.tuple #[.slice none 0 0, .slice none 0 0])) w W) := by
    intro W k
    unfold DegE
    simp only [hr, if_false]
    exact ⟨none, 0, none, 0, rfl, RowI.nil _ _, RowI.nil _ _, k⟩
  obtain ⟨f, hf⟩ : ∃ f, rightF n es = f := ⟨_, rfl⟩
  rw [hf] at hC hr
  have hb : (f == 0) = false := by simpa using hr
  have hb' : (f != 0) = true := by simpa using hr
  obtain ⟨L, hL⟩ : ∃ L, es.length = L := ⟨_, rfl⟩
  rw [hL] at b0 hK0 hC
  rw [hL]
  clear h hf hr hL hl
  have c0 := b0.cell 0
  have c1 := b0.cell 1
  simp at c0 c1
  go_enter Try.func17, Try.ntmps17
  go_wp2_with fail
  refine hC.out.mono ?_
  rintro e w1 ⟨rfl, k1⟩
  go_wp2_with fail
  go_ret2
  exact hD.out _ (hK0.trans k1)


set_option maxHeartbeats 2000000 in
set_option maxRecDepth 100000 in
theorem refDeg_yes (n : Nat) (A : Option Addr) (c : Nat) (es : List Edg) (w : World) (h : RowE w A es) (hl : es.length ≤ 100000) (hr : rightF n es = 0) :
    Calls Try.prog 17 #[.agg #[i64 n, .slice A es.length c]] w fun e w' => DegE n es e w w' := by
  have b0 : Blk (w.alloc (.cells #[i64 n, .slice A es.length c] 24)) w.heap.size 24 #[i64 n, .slice A es.length c] := Blk.new w _ _
  have hK0 : Grew w (w.alloc (.cells #[i64 n, .slice A es.length c] 24)) := (Kept.refl _ _).alloc _
  have hW := Lib.hid h
  have hE := Lib.hid (h.grew hK0)
  have hC := Lib.hid (refRight_any n A c es _ (h.grew hK0) hl)
  have hl2 := (right_zero hr).2.2.1
  have hn1 := (right_zero hr).1
  have hn2 := (right_zero hr).2.1
  have hz := Lib.hid (right_zero hr).2.2.2
  have hR := Lib.hid hr
  rw [hr] at hC
  obtain ⟨L, hL⟩ : ∃ L, es.length = L := ⟨_, rfl⟩
  have HL := Lib.hid hL
  rw [hL] at b0 hK0 hC hE hl2
  rw [hL]
  clear hr hL hl h
  obtain ⟨i0, hi, hz0, hz1, hz2⟩ := info_parts info_int
  have hmk := fun W => run_make (P := Try.prog) W 33 3 i0 _ Try.underlying33 hi hz0 .i64 .i64 (n : Int) (n : Int) (by omega) (Int.le_refl _) (by rw [hz2]; omega) (by omega)
  simp only [Int.toNat_natCast, hz1, Nat.mul_one] at hmk
  clear hi hz0 hz1 hz2
  have c0 := b0.cell 0
  have c1 := b0.cell 1
  simp at c0 c1
  go_enter Try.func17, Try.ntmps17
  go_wp2_with fail
  refine hC.out.mono ?_
  rintro e w1 ⟨rfl, k1⟩
  replace b0 := b0.grew k1
  replace c0 := b0.cell 0
  replace c1 := b0.cell 1
  simp at c0 c1
  have hE1 := Lib.hid (hE.out.grew k1)
  have hK1 := hK0.trans k1
  clear hE hK0 hC
  have cA : ∀ o, (w1.alloc o).cell? ⟨w.heap.size, 0, none⟩ = some (i64 n) := fun o => (b0.alloc o).cell 0
  go_upto_region 3 with fail
  go_cut [4, 5] (fun s2 s3 wx => ∃ g1 g2 : Nat, s2 = .slice (some ⟨g1, 0, none⟩) n n ∧ s3 = .slice (some ⟨g2, 0, none⟩) n n ∧ g1 ≠ g2 ∧ w1.heap.size ≤ g1 ∧ w1.heap.size ≤ g2 ∧ Blk wx g1 3 (madeCells #[i64 0] n) ∧ Blk wx g2 3 (madeCells #[i64 0] n) ∧ Grew w1 wx)
  case first =>
    go_region
    all_goals go_wp2_with fail
    all_goals go_meet
    all_goals
      have B1 := (Blk.new w1 3 (madeCells #[i64 0] n)).alloc (.cells (madeCells #[i64 0] n) 3)
      have B2 := Blk.new (w1.alloc (.cells (madeCells #[i64 0] n) 3)) 3 (madeCells #[i64 0] n)
      rw [World.size_alloc] at B2
      have hk : Grew w1 ((w1.alloc (.cells (madeCells #[i64 0] n) 3)).alloc (.cells (madeCells #[i64 0] n) 3)).drew := (((Kept.refl _ _).alloc _).alloc _).drew
    · first
        | exact ⟨w1.heap.size, w1.heap.size + 1, rfl, rfl, by omega, by omega, by omega, B1, B2, hk⟩
        | exact ⟨w1.heap.size + 1, w1.heap.size, rfl, rfl, by omega, by omega, by omega, B2, B1, hk⟩
    · first
        | exact ⟨w1.heap.size, w1.heap.size + 1, rfl, rfl, by omega, by omega, by omega, B1, B2, hk⟩
        | exact ⟨w1.heap.size + 1, w1.heap.size, rfl, rfl, by omega, by omega, by omega, B2, B1, hk⟩
  case rest =>
    obtain ⟨g1, g2, rfl, rfl, hne, hg1, hg2, B1, B2, k2⟩ := hcut
    have hs1 := k1.size
    simp at hs1
    rw [← degA_zero (fun e => e.1) n] at B1
    rw [← degA_zero (fun e => e.2.1) n] at B2
    have hne' : ¬ g2 = g1 := fun h => hne h.symm
    have hne'' : ¬ g1 = g2 := hne
    have hE2 := Lib.hid (hE1.out.grew k2)
    have hK2 := hK1.trans k2
    have b2 := b0.grew k2
    have B1' : Hid (Blk wc g1 3 (degA (fun e => e.1) (es.take 0) n)) := B1
    have B2' : Hid (Blk wc g2 3 (degA (fun e => e.2.1) (es.take 0) n)) := B2
    replace c0 := b2.cell 0
    replace c1 := b2.cell 1
    simp at c0 c1
    clear hE1 hK1 k1 k2 cA b0 B1 B2 hmk hne
    go_wp2_with fail
    go_loopw [6] (fun i wr => ∃ (k : Nat), k ≤ L ∧ i = .int .i64 k ∧ Hid (Blk wr g1 3 (degA (fun e => e.1) (es.take k) n)) ∧ Hid (Blk wr g2 3 (degA (fun e => e.2.1) (es.take k) n)) ∧ Blk wr w.heap.size 24 #[i64 n, .slice A L c] ∧ Hid (RowE wr A es) ∧ Grew w wr) (fun i _ => L - (intOf i).toNat)
    case atStart => exact ⟨0, by omega, rfl, B1', B2', b2, hE2, hK2⟩
    case round =>
      clear B1' B2' b2 hE2 hK2 c0 c1
      obtain ⟨k, hk, rfl, B1, B2, b0, hE, hK⟩ := hrel
      have c0 := b0.cell 0
      have c1 := b0.cell 1
      simp at c0 c1
      by_cases hlt : k < L
      · obtain ⟨x, hx⟩ : ∃ x, es[k]? = some x := ⟨_, List.getElem?_eq_getElem (by rw [HL.out]; exact hlt)⟩
        obtain ⟨b, off, hA, hb, e0, e1, e2⟩ := hE.out k x hx
        have hbw : b < w.heap.size := by
          obtain ⟨b', off', hA', hb', _⟩ := hW.out k x hx
          rw [hA] at hA'
          cases hA'
          exact hb'
        obtain ⟨p, q, r⟩ := x
        subst hA
        have hq := hz.out k p q r hx
        obtain ⟨pn, rfl⟩ := Int.eq_ofNat_of_zero_le hq.1
        obtain ⟨qn, rfl⟩ := Int.eq_ofNat_of_zero_le hq.2.2.1
        have hp1 : pn < n := by have := hq.2.1; omega
        have hq1 : qn < n := by have := hq.2.2.2.1; omega
        have hp2 : (pn : Int) < (n : Int) := by omega
        have hq2 : (qn : Int) < (n : Int) := by omega
        obtain ⟨m1, hm1⟩ : ∃ m, (es.take k).countP (fun e => e.1 == (pn : Int)) = m := ⟨_, rfl⟩
        obtain ⟨m2, hm2⟩ : ∃ m, (es.take k).countP (fun e => e.2.1 == (qn : Int)) = m := ⟨_, rfl⟩
        have hb1 : m1 ≤ k := by rw [← hm1]; exact count_bd (fun e => e.1) es k pn
        have hb2 : m2 ≤ k := by rw [← hm2]; exact count_bd (fun e => e.2.1) es k qn
        have S1 : Hid ((degA (fun e => e.1) (es.take k) n).setIfInBounds pn (i64 ((m1 : Int) + 1)) = degA (fun e => e.1) (es.take (k + 1)) n) := by
          have := degA_step (fun e => e.1) es k n pn _ hx rfl hp1
          rw [hm1] at this
          exact this
        have S2 : Hid ((degA (fun e => e.2.1) (es.take k) n).setIfInBounds qn (i64 ((m2 : Int) + 1)) = degA (fun e => e.2.1) (es.take (k + 1)) n) := by
          have := degA_step (fun e => e.2.1) es k n qn _ hx rfl hq1
          rw [hm2] at this
          exact this
        have d1 := (B1.out.cell pn).trans (degA_get (fun e => e.1) (es.take k) n pn hp1)
        have d2 := (B2.out.cell qn).trans (degA_get (fun e => e.2.1) (es.take k) n qn hq1)
        rw [hm1] at d1
        rw [hm2] at d2
        have f1 := B1.out.frozen pn
        have f2 := B2.out.frozen qn
        have hw1 : ¬ b = g1 := by omega
        have hw2 : ¬ b = g2 := by omega
        have hw3 : ¬ w.heap.size = g1 := by omega
        have hw4 : ¬ w.heap.size = g2 := by omega
        have hw5 : ¬ g1 = b := by omega
        have hw6 : ¬ g1 = w.heap.size := by omega
        clear hx hq hm1 hm2
        go_wp2_with fail
        go_roundw
        case rel =>
          refine ⟨k + 1, by omega, by go_num, ?_, ?_, ?_, ?_, ?_⟩
          · show Blk _ _ _ _
            rw [← S1.out]
            exact (B1.out.set pn _).far (p := ⟨g2, qn, none⟩) hne'' _
          · show Blk _ _ _ _
            rw [← S2.out]
            exact (B2.out.far (p := ⟨g1, pn, none⟩) hne' _).set qn _
          · exact (b0.far (p := ⟨g1, pn, none⟩) (by show w.heap.size ≠ g1; omega) _).far (p := ⟨g2, qn, none⟩) (by show w.heap.size ≠ g2; omega) _
          · refine Lib.hid (hE.out.kept (F := fun j => j = g1 ∨ j = g2) (((Kept.refl _ _).setCell (p := ⟨g1, pn, none⟩) (.inl (.inl rfl)) _).setCell (p := ⟨g2, qn, none⟩) (.inl (.inr rfl)) _) ?_)
            intro a ha h
            cases ha
            have := hbw
            rcases h with h | h
            · have h' : b = g1 := h
              omega
            · have h' : b = g2 := h
              omega
          · exact (hK.setCell (p := ⟨g1, pn, none⟩) (.inr (by show w.heap.size ≤ g1; omega)) _).setCell (p := ⟨g2, qn, none⟩) (.inr (by show w.heap.size ≤ g2; omega)) _
        case measure => simp [intOf]; omega
      · obtain rfl : k = L := by omega
        have hend : Hid (∀ W, Grew wr W → Grew w W → DegE n es (.returned (.tuple #[.slice (some ⟨g1, 0, none⟩) n n, .slice (some ⟨g2, 0, none⟩) n n])) w W) := by
          intro W kW kw
          have h1 := B1.out.grew kW
          have h2 := B2.out.grew kW
          rw [List.take_of_length_le (by rw [HL.out]; omega)] at h1 h2
          exact deg_end hR.out h1 h2 kw
        go_wp2_with fail
        go_ret2
        exact hend.out _ (Kept.refl _ _) hK


theorem refDeg_any (n : Int) (A : Option Addr) (c : Nat) (es : List Edg) (w : World) (h : RowE w A es) (hl : es.length ≤ 100000) :
    Calls Try.prog 17 #[.agg #[i64 n, .slice A es.length c]] w fun e w' => DegE n es e w w' := by
  by_cases hr : rightF n es = 0
  · obtain ⟨m, rfl⟩ := Int.eq_ofNat_of_zero_le (show 0 ≤ n by have := (right_zero hr).1; omega)
    exact refDeg_yes m A c es w h hl hr
  · exact refDeg_no n A c es w h hl hr

end Go.Proofs.Ytiialiifjhgcmaa
