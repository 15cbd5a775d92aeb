/- Grids of dice: the walk of the document's Grid. -/
import Derived.Test.YtppnndhekikagaaGrid
namespace Go.Proofs.Ytppnndhekikagaa
open Go.RowKit

theorem pairS_puts (most x : Int) (es : List Edg) (a b : Int) : pairS most (x, es) a b = (belowX (belowX x most) most, (es ++ [(a, b, 1 + belowR x most)]) ++ [(b, a, 1 + belowR (belowX x most) most)]) := by
  simp [pairS]

theorem side_any (n : Int) (w : World) : Calls Try.prog 26 #[i64 n] w fun e w' => e = .returned (.bool (decide (1 ≤ n ∧ n ≤ 4096))) ∧ w = w' := by
  rcases Int.lt_or_le n 1 with h1 | h1
  · have hr : decide (1 ≤ n ∧ n ≤ 4096) = false := decide_eq_false (by omega)
    rw [hr]
    clear hr
    go_enter Try.func26, Try.ntmps26
    go_wp2
    go_ret
    exact ⟨rfl, rfl⟩
  · rcases Int.lt_or_le 4096 n with h2 | h2
    · have hr : decide (1 ≤ n ∧ n ≤ 4096) = false := decide_eq_false (by omega)
      rw [hr]
      clear hr
      have h3 : ¬ n ≤ 4096 := by omega
      go_enter Try.func26, Try.ntmps26
      go_wp2
      go_ret
      exact ⟨by simp [h3], rfl⟩
    · have hr : decide (1 ≤ n ∧ n ≤ 4096) = true := decide_eq_true (by omega)
      rw [hr]
      clear hr
      go_enter Try.func26, Try.ntmps26
      go_wp2
      go_ret
      exact ⟨rfl, rfl⟩
theorem side_yes (n : Int) (w : World) (h1 : 1 ≤ n) (h2 : n ≤ 4096) : Calls Try.prog 26 #[i64 n] w fun e w' => e = .returned (.bool true) ∧ w = w' := by
  have h := side_any n w
  rw [decide_eq_true (show 1 ≤ n ∧ n ≤ 4096 from ⟨h1, h2⟩)] at h
  exact h
theorem side_no (n : Int) (w : World) (h1 : n < 1 ∨ 4096 < n) : Calls Try.prog 26 #[i64 n] w fun e w' => e = .returned (.bool false) ∧ w = w' := by
  have h := side_any n w
  rw [decide_eq_false (show ¬ (1 ≤ n ∧ n ≤ 4096) by omega)] at h
  exact h


set_option maxHeartbeats 4000000 in
set_option maxRecDepth 100000 in
theorem refGrid_yes (wide high : Nat) (seed most : Int) (w : World) (h1 : 1 ≤ wide) (h2 : wide ≤ 4096) (h3 : 1 ≤ high) (h6 : high ≤ 4096) (h4 : 1 ≤ most) (h5 : most ≤ 4294967296) (hPm : wide * high ≤ 4096) :
    Calls Try.prog 15 #[i64 wide, i64 high, u64 seed, i64 most] w fun e w' => ∃ v pv, e = .returned (.tuple #[.agg #[i64 ((wide * high : Nat) : Int), v], pv, i64 0]) ∧ Edges w' w.heap.size v (gridS wide high most seed (wide * high)).2 ∧ Places w' w.heap.size pv (plL wide (wide * high)) ∧ Grew w w' := by
  obtain ⟨i0, hi, hz0, hz1, hz2⟩ := info_parts info_place
  have hW1 := Lib.hid (fun W => side_yes wide W (by omega) (by omega))
  have hW2 := Lib.hid (fun W => side_yes high W (by omega) (by omega))
  obtain ⟨P, hPe⟩ : ∃ P, wide * high = P := ⟨_, rfl⟩
  have hwh : wide ≤ wide * high := Nat.le_mul_of_pos_right _ (by omega)
  have hwh2 : high ≤ wide * high := Nat.le_mul_of_pos_left _ (by omega)
  rw [hPe] at hPm hwh hwh2
  rw [hPe]
  have hPi : (wide : Int) * (high : Int) = (P : Int) := by rw [← hPe, Int.natCast_mul]
  have hw1 : IntKind.i64.wrap ((wide : Int) * (high : Int)) = (P : Int) := by rw [hPi]; exact IntWalk.i64_in _ (by omega)
  have hw2 : IntKind.i64.wrap (((wide : Int) - 1) * (high : Int)) = (P : Int) - high := by rw [Int.sub_mul, hPi, Int.one_mul]; exact IntWalk.i64_in _ (by omega)
  have hw3 : IntKind.i64.wrap ((wide : Int) * ((high : Int) - 1)) = (P : Int) - wide := by rw [Int.mul_sub, hPi, Int.mul_one]; exact IntWalk.i64_in _ (by omega)
  have HP := Lib.hid hPe
  clear hPi hPe
  go_enter Try.func15, Try.ntmps15
  go_wp2_with fail
  refine (hW1.out _).mono ?_
  rintro e w1 ⟨rfl, rfl⟩
  go_wp2_with fail
  refine (hW2.out _).mono ?_
  rintro e w1 ⟨rfl, rfl⟩
  go_wp2_with fail
  go_loopw [12, 13, 14] (fun pv0 xi i wr => ∃ (k : Nat) (pv v : Value) (xd : Int) (es : List Edg), k ≤ P ∧ i = .int .i64 k ∧ pv = pv0 ∧ xi = .int .u64 xd ∧ Hid (gridS wide high most seed k = (xd, es)) ∧ Blk wr w.heap.size 37 #[i64 0, .slice none 0 0] ∧
      Blk wr (w.heap.size + 1) 37 #[i64 P, v] ∧ Edges wr (w.heap.size + 2) v es ∧ Places wr (w.heap.size + 2) pv (plL wide k) ∧ Grew w wr) (fun _ _ i _ => P - (intOf i).toNat)
  case atStart =>
    refine ⟨0, _, _, _, _, by omega, rfl, rfl, rfl, rfl, (Blk.new w _ _).alloc _, ?_, World.ownsRow_nil _ _ _ _, World.ownsRow_nil _ _ _ _, ((Kept.refl _ _).alloc _).alloc _⟩
    have hb := Blk.new (w.alloc (.cells #[i64 0, .slice none 0 0] 37)) 37 #[i64 P, .slice none 0 0]
    rw [World.size_alloc] at hb
    exact hb
  case round =>
    obtain ⟨k, pv, v, xd, es, hk, rfl, rfl, rfl, hS, hR, hG, hown, hpl, hK⟩ := hrel
    have hpG := own_ne hpl hG (by decide)
    have hpR := own_ne hpl hR (by decide)
    have hsz := hG.lt
    replace hsz : w.heap.size + 2 ≤ wr.heap.size := hsz
    have hgc0 := hG.cell 0
    simp at hgc0
    by_cases hlt : k < P
    · have hLp := plL_length wide k
      have hLp0 : (plL wide k).length ≤ 10000 := by omega
      clear hLp
      have hLe := gridS_length wide high most seed k
      rw [hS.out] at hLe
      replace hLe : es.length ≤ 4 * k := hLe
      obtain ⟨x, hx⟩ : ∃ x, k % wide = x := ⟨_, rfl⟩
      obtain ⟨y, hy⟩ : ∃ y, k / wide = y := ⟨_, rfl⟩
      have hxw : x < wide := by rw [← hx]; exact Nat.mod_lt _ (by omega)
      have hyh : y < high := by rw [← hy]; exact Nat.div_lt_of_lt_mul (by rw [HP.out]; exact hlt)
      have htm : (k : Int).tmod (wide : Int) = (x : Int) := by rw [← hx]; rfl
      have htd : (k : Int).tdiv (wide : Int) = (y : Int) := by rw [← hy]; rfl
      have hn0 : ¬ ((wide : Int) = 0) := by omega
      have hn0' : ¬ (wide = 0) := by omega
      have hwx : IntKind.i64.wrap (x : Int) = (x : Int) := IntWalk.i64_in _ (by omega)
      have hwy : IntKind.i64.wrap (y : Int) = (y : Int) := IntWalk.i64_in _ (by omega)
      have HX := Lib.hid hx
      have HY := Lib.hid hy
      clear hx hy
      have hwb : IntKind.i64.wrap ((k : Int) + (wide : Int)) = (k : Int) + (wide : Int) := IntWalk.i64_in _ (by omega)
      go_wp2_with fail
      refine wp_region_grow [] (fun j => pv.ownBlock = some j) (by kernel_rfl) ?_
      simp only [List.size_toArray, List.length_cons, List.length_nil, Nat.reduceAdd]
      refine wpAnyG_pure 0 61 (v := ?_) rfl (by kernel_rfl) rfl (by rfl) (fun w' => ?_) ?_
      rotate_left
      · go_simp <;> with_reducible rfl
      simp only [List.setIfInBounds_toArray, List.set_cons_zero, List.set_cons_succ]
      refine wpAnyG_pure 1 62 (v := ?_) rfl (by kernel_rfl) rfl (by rfl) (fun w' => ?_) ?_
      rotate_left
      · go_simp <;> with_reducible rfl
      simp only [List.setIfInBounds_toArray, List.set_cons_zero, List.set_cons_succ]
      refine wpAnyG_pure 2 63 (v := ?_) rfl (by kernel_rfl) rfl (by rfl) (fun w' => ?_) ?_
      rotate_left
      · go_simp <;> with_reducible rfl
      simp only [List.setIfInBounds_toArray, List.set_cons_zero, List.set_cons_succ]
      refine wpAnyG_pure 3 64 (v := ?_) rfl (by kernel_rfl) rfl (by rfl) (fun w' => ?_) ?_
      rotate_left
      · go_simp <;> with_reducible rfl
      simp only [List.setIfInBounds_toArray, List.set_cons_zero, List.set_cons_succ]
      refine wpAnyG_pure 4 65 (v := ?_) rfl (by kernel_rfl) rfl (by rfl) (fun w' => ?_) ?_
      rotate_left
      · go_simp <;> with_reducible rfl
      simp only [List.setIfInBounds_toArray, List.set_cons_zero, List.set_cons_succ]
      refine wpAnyG_pure 5 66 (v := ?_) rfl (by kernel_rfl) rfl (by rfl) (fun w' => ?_) ?_
      rotate_left
      · go_simp <;> with_reducible rfl
      simp only [List.setIfInBounds_toArray, List.set_cons_zero, List.set_cons_succ]
      refine wpAnyG_pure 6 67 (v := ?_) rfl (by kernel_rfl) rfl (by rfl) (fun w' => ?_) ?_
      rotate_left
      · go_simp <;> with_reducible rfl
      simp only [List.setIfInBounds_toArray, List.set_cons_zero, List.set_cons_succ]
      refine wpAnyG_pure 7 68 (v := ?_) rfl (by kernel_rfl) rfl (by rfl) (fun w' => ?_) ?_
      rotate_left
      · go_simp <;> with_reducible rfl
      simp only [List.setIfInBounds_toArray, List.set_cons_zero, List.set_cons_succ]
      refine wpAnyG_step 8 69 rfl (by kernel_rfl) rfl (by rfl) (fun K hK' => ?_)
      -- 69 buildSlice - [ref.go:42]
      go_simp
      refine hK' _ _ (fun _ => (Kept.refl _ _).alloc _) ?_
      clear hK'
      simp only [List.setIfInBounds_toArray, List.set_cons_zero, List.set_cons_succ]
      refine wpAnyG_step 9 70 rfl (by kernel_rfl) rfl (by rfl) (fun K hK' => ?_)
      -- 70 builtin Go.Builtin.append - [ref.go:42]
      refine wp_append_lies _ (.tmp 61) (.tmp 69) 38 (by rfl) (w.heap.size + 2) 43 i0 (.agg #[i64 0, i64 0]) 2 16 Try.underlying38 hi hz0 hz1 hz2 (by rfl) (by omega) pv _ _ (by rfl) (hpl.drew.alloc _) ⟨wr.drew.heap.size, 0, none⟩ 1 1 (plcCells ((x : Int), (y : Int))) (by rfl) (by rfl) (World.news_of_block (heap_alloc_new _ _)) (plc_one _) (by omega) ?_ ?_ ?_ _ rfl ?_
      · unfold maxLen; omega
      · omega
      · simp; omega
      intro g cap w1 hpl1 hgrow1 hat1 hlt1
      have hG1 := (hG.drew.alloc (.cells #[i64 x, i64 y] 43)).grown hgrow1 (fun h => hpG h.symm)
      have hR1 := (hR.drew.alloc (.cells #[i64 x, i64 y] 43)).grown hgrow1 (fun h => hpR h.symm)
      have hK1 : Kept (fun j => pv.ownBlock = some j) wr w1 := ((Kept.refl _ _).drew.alloc _).grown hgrow1 (fun k h => .inl h)
      have hown1 := Kept.own hK1 hown (fun k h h' => own_own hown hpl (by decide) h h')
      refine hK' _ _ (fun _ => (Kept.refl _ _).grown hgrow1 (fun k h => .inl h)) ?_
      clear hK'
      simp only [List.setIfInBounds_toArray, List.set_cons_zero, List.set_cons_succ]
      refine wpAnyG_pure 10 12 (v := ?_) rfl (by kernel_rfl) rfl (by rfl) (fun w' => ?_) ?_
      rotate_left
      · go_simp <;> with_reducible rfl
      simp only [List.setIfInBounds_toArray, List.set_cons_zero, List.set_cons_succ]
      refine wpAnyG_done (by kernel_rfl) ?_
      have hKK1 : Grew w w1 := hK.then hK1 (fun i a b => by have := hpl.lt _ b; omega)
      have hsz1 := Nat.le_trans hsz hK1.size
      have hplA : Places w1 (w.heap.size + 2) (.slice (some ⟨g, 0, none⟩) ((plL wide k).length + 1) cap) (plL wide (k + 1)) := by
        unfold Places
        rw [plL, HX.out, HY.out, plcsOf_append, plcsOf_one, List.length_append]
        exact hpl1
      replace hpl1 := hplA
      clear hplA
      have hrg0 := hG1.cell 0
      have hrg1 := hG1.cell 1
      simp at hrg0 hrg1
      by_cases ha : x + 1 < wide
      · by_cases hb : y + 1 < high
        · skip
          go_wp2_with fail
          have hPut2 := put_any (w.heap.size + 2) P ((k : Int)) ((k : Int) + 1) most xd v es w1 hown1 hsz1 (by omega) h4 h5
          refine hPut2.mono ?_
          rintro e y2 ⟨g2, c2, rfl, hown2, hg2, hK2⟩
          have hneG2 : ¬ (v).ownBlock = some (w.heap.size + 1) := fun h => by have := hown1.lt _ h; omega
          have hneR2 : ¬ (v).ownBlock = some w.heap.size := fun h => by have := hown1.lt _ h; omega
          have hR2 := hR1.kept hK2 hneR2
          have hG2 := hG1.kept hK2 hneG2
          have hpl2 := Kept.own hK2 hpl1 (fun k h h' => own_own hpl1 hown1 (by decide) h h')
          have hKK2 : Grew w y2 := hKK1.then hK2 (fun i a b => by have := hown1.lt _ b; omega)
          have hsz2 := Nat.le_trans hsz1 hK2.size
          obtain ⟨es2, hes2⟩ : ∃ z, es ++ [((k : Int), (k : Int) + 1, 1 + belowR xd most)] = z := ⟨_, rfl⟩
          rw [hes2] at hown2
          have hLe2 : es2.length ≤ es.length + 1 := by rw [← hes2]; simp
          have HES2 := Lib.hid hes2
          have hrg0 := hG2.cell 0
          have hrg1 := hG2.cell 1
          have hfg0 := hG2.frozen 0
          have hfg1 := hG2.frozen 1
          simp at hrg0 hrg1
          clear hes2 hPut2 hK2 hg2
          go_wp2_with fail
          have q1 := hrg0
          clear hrg0 hrg1 hfg0 hfg1 q1
          obtain ⟨w2, hw2⟩ : ∃ W, ((y2.setCell ⟨w.heap.size + 1, 0, none⟩ (i64 P)).setCell ⟨w.heap.size + 1, 1, none⟩ (.slice (some ⟨g2, 0, none⟩) (es.length + 1) c2)) = W := ⟨_, rfl⟩
          replace hR2 : Blk w2 w.heap.size 37 #[i64 0, .slice none 0 0] := by
            rw [← hw2]
            exact (hR2.far (p := ⟨w.heap.size + 1, 0, none⟩) (show w.heap.size ≠ w.heap.size + 1 by omega) _).far (p := ⟨w.heap.size + 1, 1, none⟩) (show w.heap.size ≠ w.heap.size + 1 by omega) _
          replace hG2 : Blk w2 (w.heap.size + 1) 37 #[i64 P, .slice (some ⟨g2, 0, none⟩) (es.length + 1) c2] := by
            rw [← hw2]
            exact (hG2.set 0 _).set 1 _
          have hst : Kept (· = w.heap.size + 1) y2 w2 := by
            rw [← hw2]
            exact ((Kept.refl (· = w.heap.size + 1) _).setCell (p := ⟨w.heap.size + 1, 0, none⟩) (.inl rfl) _).setCell (p := ⟨w.heap.size + 1, 1, none⟩) (.inl rfl) _
          have hownN : Edges w2 (w.heap.size + 2) (.slice (some ⟨g2, 0, none⟩) (es.length + 1) c2) es2 := Kept.own hst hown2 (fun k hk h => by have := hown2.lt k hk; omega)
          replace hown2 := hownN
          clear hownN
          have hplN := Kept.own hst hpl2 (fun k hk h => by have := hpl2.lt k hk; omega)
          replace hpl2 := hplN
          clear hplN
          replace hKK2 : Grew w w2 := hKK2.then hst (fun i a b => by omega)
          replace hsz2 := Nat.le_trans hsz2 hst.size
          rw [hw2]
          clear hw2 hst
          have hrg0 := hG2.cell 0
          have hrg1 := hG2.cell 1
          simp at hrg0 hrg1
          go_wp2_with fail
          have hPut3 := put_any (w.heap.size + 2) P ((k : Int) + 1) ((k : Int)) most (belowX xd most) (Value.slice (some ⟨g2, 0, none⟩) (es.length + 1) c2) es2 w2 hown2 hsz2 (by omega) h4 h5
          refine hPut3.mono ?_
          rintro e y3 ⟨g3, c3, rfl, hown3, hg3, hK3⟩
          have hneG3 : ¬ ((Value.slice (some ⟨g2, 0, none⟩) (es.length + 1) c2)).ownBlock = some (w.heap.size + 1) := fun h => by have := hown2.lt _ h; omega
          have hneR3 : ¬ ((Value.slice (some ⟨g2, 0, none⟩) (es.length + 1) c2)).ownBlock = some w.heap.size := fun h => by have := hown2.lt _ h; omega
          have hR3 := hR2.kept hK3 hneR3
          have hG3 := hG2.kept hK3 hneG3
          have hpl3 := Kept.own hK3 hpl2 (fun k h h' => own_own hpl2 hown2 (by decide) h h')
          have hKK3 : Grew w y3 := hKK2.then hK3 (fun i a b => by have := hown2.lt _ b; omega)
          have hsz3 := Nat.le_trans hsz2 hK3.size
          obtain ⟨es3, hes3⟩ : ∃ z, es2 ++ [((k : Int) + 1, (k : Int), 1 + belowR (belowX xd most) most)] = z := ⟨_, rfl⟩
          rw [hes3] at hown3
          have hLe3 : es3.length ≤ es2.length + 1 := by rw [← hes3]; simp
          have HES3 := Lib.hid hes3
          have hrg0 := hG3.cell 0
          have hrg1 := hG3.cell 1
          have hfg0 := hG3.frozen 0
          have hfg1 := hG3.frozen 1
          simp at hrg0 hrg1
          clear hes3 hPut3 hK3 hg3
          go_wp2_with fail
          have q1 := hrg0
          clear hrg0 hrg1 hfg0 hfg1 q1
          obtain ⟨w3, hw3⟩ : ∃ W, ((y3.setCell ⟨w.heap.size + 1, 0, none⟩ (i64 P)).setCell ⟨w.heap.size + 1, 1, none⟩ (.slice (some ⟨g3, 0, none⟩) (es2.length + 1) c3)) = W := ⟨_, rfl⟩
          replace hR3 : Blk w3 w.heap.size 37 #[i64 0, .slice none 0 0] := by
            rw [← hw3]
            exact (hR3.far (p := ⟨w.heap.size + 1, 0, none⟩) (show w.heap.size ≠ w.heap.size + 1 by omega) _).far (p := ⟨w.heap.size + 1, 1, none⟩) (show w.heap.size ≠ w.heap.size + 1 by omega) _
          replace hG3 : Blk w3 (w.heap.size + 1) 37 #[i64 P, .slice (some ⟨g3, 0, none⟩) (es2.length + 1) c3] := by
            rw [← hw3]
            exact (hG3.set 0 _).set 1 _
          have hst : Kept (· = w.heap.size + 1) y3 w3 := by
            rw [← hw3]
            exact ((Kept.refl (· = w.heap.size + 1) _).setCell (p := ⟨w.heap.size + 1, 0, none⟩) (.inl rfl) _).setCell (p := ⟨w.heap.size + 1, 1, none⟩) (.inl rfl) _
          have hownN : Edges w3 (w.heap.size + 2) (.slice (some ⟨g3, 0, none⟩) (es2.length + 1) c3) es3 := Kept.own hst hown3 (fun k hk h => by have := hown3.lt k hk; omega)
          replace hown3 := hownN
          clear hownN
          have hplN := Kept.own hst hpl3 (fun k hk h => by have := hpl3.lt k hk; omega)
          replace hpl3 := hplN
          clear hplN
          replace hKK3 : Grew w w3 := hKK3.then hst (fun i a b => by omega)
          replace hsz3 := Nat.le_trans hsz3 hst.size
          rw [hw3]
          clear hw3 hst
          have hrg0 := hG3.cell 0
          have hrg1 := hG3.cell 1
          simp at hrg0 hrg1
          go_wp2_with fail
          have hPut4 := put_any (w.heap.size + 2) P ((k : Int)) ((k : Int) + wide) most (belowX (belowX xd most) most) (Value.slice (some ⟨g3, 0, none⟩) (es2.length + 1) c3) es3 w3 hown3 hsz3 (by omega) h4 h5
          refine hPut4.mono ?_
          rintro e y4 ⟨g4, c4, rfl, hown4, hg4, hK4⟩
          have hneG4 : ¬ ((Value.slice (some ⟨g3, 0, none⟩) (es2.length + 1) c3)).ownBlock = some (w.heap.size + 1) := fun h => by have := hown3.lt _ h; omega
          have hneR4 : ¬ ((Value.slice (some ⟨g3, 0, none⟩) (es2.length + 1) c3)).ownBlock = some w.heap.size := fun h => by have := hown3.lt _ h; omega
          have hR4 := hR3.kept hK4 hneR4
          have hG4 := hG3.kept hK4 hneG4
          have hpl4 := Kept.own hK4 hpl3 (fun k h h' => own_own hpl3 hown3 (by decide) h h')
          have hKK4 : Grew w y4 := hKK3.then hK4 (fun i a b => by have := hown3.lt _ b; omega)
          have hsz4 := Nat.le_trans hsz3 hK4.size
          obtain ⟨es4, hes4⟩ : ∃ z, es3 ++ [((k : Int), (k : Int) + wide, 1 + belowR (belowX (belowX xd most) most) most)] = z := ⟨_, rfl⟩
          rw [hes4] at hown4
          have hLe4 : es4.length ≤ es3.length + 1 := by rw [← hes4]; simp
          have HES4 := Lib.hid hes4
          have hrg0 := hG4.cell 0
          have hrg1 := hG4.cell 1
          have hfg0 := hG4.frozen 0
          have hfg1 := hG4.frozen 1
          simp at hrg0 hrg1
          clear hes4 hPut4 hK4 hg4
          go_wp2_with fail
          have q1 := hrg0
          clear hrg0 hrg1 hfg0 hfg1 q1
          obtain ⟨w4, hw4⟩ : ∃ W, ((y4.setCell ⟨w.heap.size + 1, 0, none⟩ (i64 P)).setCell ⟨w.heap.size + 1, 1, none⟩ (.slice (some ⟨g4, 0, none⟩) (es3.length + 1) c4)) = W := ⟨_, rfl⟩
          replace hR4 : Blk w4 w.heap.size 37 #[i64 0, .slice none 0 0] := by
            rw [← hw4]
            exact (hR4.far (p := ⟨w.heap.size + 1, 0, none⟩) (show w.heap.size ≠ w.heap.size + 1 by omega) _).far (p := ⟨w.heap.size + 1, 1, none⟩) (show w.heap.size ≠ w.heap.size + 1 by omega) _
          replace hG4 : Blk w4 (w.heap.size + 1) 37 #[i64 P, .slice (some ⟨g4, 0, none⟩) (es3.length + 1) c4] := by
            rw [← hw4]
            exact (hG4.set 0 _).set 1 _
          have hst : Kept (· = w.heap.size + 1) y4 w4 := by
            rw [← hw4]
            exact ((Kept.refl (· = w.heap.size + 1) _).setCell (p := ⟨w.heap.size + 1, 0, none⟩) (.inl rfl) _).setCell (p := ⟨w.heap.size + 1, 1, none⟩) (.inl rfl) _
          have hownN : Edges w4 (w.heap.size + 2) (.slice (some ⟨g4, 0, none⟩) (es3.length + 1) c4) es4 := Kept.own hst hown4 (fun k hk h => by have := hown4.lt k hk; omega)
          replace hown4 := hownN
          clear hownN
          have hplN := Kept.own hst hpl4 (fun k hk h => by have := hpl4.lt k hk; omega)
          replace hpl4 := hplN
          clear hplN
          replace hKK4 : Grew w w4 := hKK4.then hst (fun i a b => by omega)
          replace hsz4 := Nat.le_trans hsz4 hst.size
          rw [hw4]
          clear hw4 hst
          have hrg0 := hG4.cell 0
          have hrg1 := hG4.cell 1
          simp at hrg0 hrg1
          go_wp2_with fail
          have hPut5 := put_any (w.heap.size + 2) P ((k : Int) + wide) ((k : Int)) most (belowX (belowX (belowX xd most) most) most) (Value.slice (some ⟨g4, 0, none⟩) (es3.length + 1) c4) es4 w4 hown4 hsz4 (by omega) h4 h5
          refine hPut5.mono ?_
          rintro e y5 ⟨g5, c5, rfl, hown5, hg5, hK5⟩
          have hneG5 : ¬ ((Value.slice (some ⟨g4, 0, none⟩) (es3.length + 1) c4)).ownBlock = some (w.heap.size + 1) := fun h => by have := hown4.lt _ h; omega
          have hneR5 : ¬ ((Value.slice (some ⟨g4, 0, none⟩) (es3.length + 1) c4)).ownBlock = some w.heap.size := fun h => by have := hown4.lt _ h; omega
          have hR5 := hR4.kept hK5 hneR5
          have hG5 := hG4.kept hK5 hneG5
          have hpl5 := Kept.own hK5 hpl4 (fun k h h' => own_own hpl4 hown4 (by decide) h h')
          have hKK5 : Grew w y5 := hKK4.then hK5 (fun i a b => by have := hown4.lt _ b; omega)
          have hsz5 := Nat.le_trans hsz4 hK5.size
          obtain ⟨es5, hes5⟩ : ∃ z, es4 ++ [((k : Int) + wide, (k : Int), 1 + belowR (belowX (belowX (belowX xd most) most) most) most)] = z := ⟨_, rfl⟩
          rw [hes5] at hown5
          have hLe5 : es5.length ≤ es4.length + 1 := by rw [← hes5]; simp
          have HES5 := Lib.hid hes5
          have hrg0 := hG5.cell 0
          have hrg1 := hG5.cell 1
          have hfg0 := hG5.frozen 0
          have hfg1 := hG5.frozen 1
          simp at hrg0 hrg1
          clear hes5 hPut5 hK5 hg5
          go_wp2_with fail
          have q1 := hrg0
          clear hrg0 hrg1 hfg0 hfg1 q1
          obtain ⟨w5, hw5⟩ : ∃ W, ((y5.setCell ⟨w.heap.size + 1, 0, none⟩ (i64 P)).setCell ⟨w.heap.size + 1, 1, none⟩ (.slice (some ⟨g5, 0, none⟩) (es4.length + 1) c5)) = W := ⟨_, rfl⟩
          replace hR5 : Blk w5 w.heap.size 37 #[i64 0, .slice none 0 0] := by
            rw [← hw5]
            exact (hR5.far (p := ⟨w.heap.size + 1, 0, none⟩) (show w.heap.size ≠ w.heap.size + 1 by omega) _).far (p := ⟨w.heap.size + 1, 1, none⟩) (show w.heap.size ≠ w.heap.size + 1 by omega) _
          replace hG5 : Blk w5 (w.heap.size + 1) 37 #[i64 P, .slice (some ⟨g5, 0, none⟩) (es4.length + 1) c5] := by
            rw [← hw5]
            exact (hG5.set 0 _).set 1 _
          have hst : Kept (· = w.heap.size + 1) y5 w5 := by
            rw [← hw5]
            exact ((Kept.refl (· = w.heap.size + 1) _).setCell (p := ⟨w.heap.size + 1, 0, none⟩) (.inl rfl) _).setCell (p := ⟨w.heap.size + 1, 1, none⟩) (.inl rfl) _
          have hownN : Edges w5 (w.heap.size + 2) (.slice (some ⟨g5, 0, none⟩) (es4.length + 1) c5) es5 := Kept.own hst hown5 (fun k hk h => by have := hown5.lt k hk; omega)
          replace hown5 := hownN
          clear hownN
          have hplN := Kept.own hst hpl5 (fun k hk h => by have := hpl5.lt k hk; omega)
          replace hpl5 := hplN
          clear hplN
          replace hKK5 : Grew w w5 := hKK5.then hst (fun i a b => by omega)
          replace hsz5 := Nat.le_trans hsz5 hst.size
          rw [hw5]
          clear hw5 hst
          have hrg0 := hG5.cell 0
          have hrg1 := hG5.cell 1
          simp at hrg0 hrg1
          go_wp2_with fail
          have hS1 : Hid (gridS wide high most seed (k + 1) = ((belowX (belowX (belowX (belowX xd most) most) most) most), es5)) := by
            show gridS wide high most seed (k + 1) = ((belowX (belowX (belowX (belowX xd most) most) most) most), es5)
            rw [gridS, HX.out, HY.out, hS.out, spotS]
            rw [if_pos ha, if_pos hb, pairS_puts most xd es, HES2.out, HES3.out, pairS_puts most (belowX (belowX xd most) most) es3, HES4.out, HES5.out]
          go_roundw
          case rel => exact ⟨k + 1, _, (Value.slice (some ⟨g5, 0, none⟩) (es4.length + 1) c5), _, _, by omega, by go_num, rfl, rfl, hS1, hR5, hG5, hown5, hpl5, hKK5⟩
          case measure => simp [intOf]; omega
        · skip
          go_wp2_with fail
          have hPut2 := put_any (w.heap.size + 2) P ((k : Int)) ((k : Int) + 1) most xd v es w1 hown1 hsz1 (by omega) h4 h5
          refine hPut2.mono ?_
          rintro e y2 ⟨g2, c2, rfl, hown2, hg2, hK2⟩
          have hneG2 : ¬ (v).ownBlock = some (w.heap.size + 1) := fun h => by have := hown1.lt _ h; omega
          have hneR2 : ¬ (v).ownBlock = some w.heap.size := fun h => by have := hown1.lt _ h; omega
          have hR2 := hR1.kept hK2 hneR2
          have hG2 := hG1.kept hK2 hneG2
          have hpl2 := Kept.own hK2 hpl1 (fun k h h' => own_own hpl1 hown1 (by decide) h h')
          have hKK2 : Grew w y2 := hKK1.then hK2 (fun i a b => by have := hown1.lt _ b; omega)
          have hsz2 := Nat.le_trans hsz1 hK2.size
          obtain ⟨es2, hes2⟩ : ∃ z, es ++ [((k : Int), (k : Int) + 1, 1 + belowR xd most)] = z := ⟨_, rfl⟩
          rw [hes2] at hown2
          have hLe2 : es2.length ≤ es.length + 1 := by rw [← hes2]; simp
          have HES2 := Lib.hid hes2
          have hrg0 := hG2.cell 0
          have hrg1 := hG2.cell 1
          have hfg0 := hG2.frozen 0
          have hfg1 := hG2.frozen 1
          simp at hrg0 hrg1
          clear hes2 hPut2 hK2 hg2
          go_wp2_with fail
          have q1 := hrg0
          clear hrg0 hrg1 hfg0 hfg1 q1
          obtain ⟨w2, hw2⟩ : ∃ W, ((y2.setCell ⟨w.heap.size + 1, 0, none⟩ (i64 P)).setCell ⟨w.heap.size + 1, 1, none⟩ (.slice (some ⟨g2, 0, none⟩) (es.length + 1) c2)) = W := ⟨_, rfl⟩
          replace hR2 : Blk w2 w.heap.size 37 #[i64 0, .slice none 0 0] := by
            rw [← hw2]
            exact (hR2.far (p := ⟨w.heap.size + 1, 0, none⟩) (show w.heap.size ≠ w.heap.size + 1 by omega) _).far (p := ⟨w.heap.size + 1, 1, none⟩) (show w.heap.size ≠ w.heap.size + 1 by omega) _
          replace hG2 : Blk w2 (w.heap.size + 1) 37 #[i64 P, .slice (some ⟨g2, 0, none⟩) (es.length + 1) c2] := by
            rw [← hw2]
            exact (hG2.set 0 _).set 1 _
          have hst : Kept (· = w.heap.size + 1) y2 w2 := by
            rw [← hw2]
            exact ((Kept.refl (· = w.heap.size + 1) _).setCell (p := ⟨w.heap.size + 1, 0, none⟩) (.inl rfl) _).setCell (p := ⟨w.heap.size + 1, 1, none⟩) (.inl rfl) _
          have hownN : Edges w2 (w.heap.size + 2) (.slice (some ⟨g2, 0, none⟩) (es.length + 1) c2) es2 := Kept.own hst hown2 (fun k hk h => by have := hown2.lt k hk; omega)
          replace hown2 := hownN
          clear hownN
          have hplN := Kept.own hst hpl2 (fun k hk h => by have := hpl2.lt k hk; omega)
          replace hpl2 := hplN
          clear hplN
          replace hKK2 : Grew w w2 := hKK2.then hst (fun i a b => by omega)
          replace hsz2 := Nat.le_trans hsz2 hst.size
          rw [hw2]
          clear hw2 hst
          have hrg0 := hG2.cell 0
          have hrg1 := hG2.cell 1
          simp at hrg0 hrg1
          go_wp2_with fail
          have hPut3 := put_any (w.heap.size + 2) P ((k : Int) + 1) ((k : Int)) most (belowX xd most) (Value.slice (some ⟨g2, 0, none⟩) (es.length + 1) c2) es2 w2 hown2 hsz2 (by omega) h4 h5
          refine hPut3.mono ?_
          rintro e y3 ⟨g3, c3, rfl, hown3, hg3, hK3⟩
          have hneG3 : ¬ ((Value.slice (some ⟨g2, 0, none⟩) (es.length + 1) c2)).ownBlock = some (w.heap.size + 1) := fun h => by have := hown2.lt _ h; omega
          have hneR3 : ¬ ((Value.slice (some ⟨g2, 0, none⟩) (es.length + 1) c2)).ownBlock = some w.heap.size := fun h => by have := hown2.lt _ h; omega
          have hR3 := hR2.kept hK3 hneR3
          have hG3 := hG2.kept hK3 hneG3
          have hpl3 := Kept.own hK3 hpl2 (fun k h h' => own_own hpl2 hown2 (by decide) h h')
          have hKK3 : Grew w y3 := hKK2.then hK3 (fun i a b => by have := hown2.lt _ b; omega)
          have hsz3 := Nat.le_trans hsz2 hK3.size
          obtain ⟨es3, hes3⟩ : ∃ z, es2 ++ [((k : Int) + 1, (k : Int), 1 + belowR (belowX xd most) most)] = z := ⟨_, rfl⟩
          rw [hes3] at hown3
          have hLe3 : es3.length ≤ es2.length + 1 := by rw [← hes3]; simp
          have HES3 := Lib.hid hes3
          have hrg0 := hG3.cell 0
          have hrg1 := hG3.cell 1
          have hfg0 := hG3.frozen 0
          have hfg1 := hG3.frozen 1
          simp at hrg0 hrg1
          clear hes3 hPut3 hK3 hg3
          go_wp2_with fail
          have q1 := hrg0
          clear hrg0 hrg1 hfg0 hfg1 q1
          obtain ⟨w3, hw3⟩ : ∃ W, ((y3.setCell ⟨w.heap.size + 1, 0, none⟩ (i64 P)).setCell ⟨w.heap.size + 1, 1, none⟩ (.slice (some ⟨g3, 0, none⟩) (es2.length + 1) c3)) = W := ⟨_, rfl⟩
          replace hR3 : Blk w3 w.heap.size 37 #[i64 0, .slice none 0 0] := by
            rw [← hw3]
            exact (hR3.far (p := ⟨w.heap.size + 1, 0, none⟩) (show w.heap.size ≠ w.heap.size + 1 by omega) _).far (p := ⟨w.heap.size + 1, 1, none⟩) (show w.heap.size ≠ w.heap.size + 1 by omega) _
          replace hG3 : Blk w3 (w.heap.size + 1) 37 #[i64 P, .slice (some ⟨g3, 0, none⟩) (es2.length + 1) c3] := by
            rw [← hw3]
            exact (hG3.set 0 _).set 1 _
          have hst : Kept (· = w.heap.size + 1) y3 w3 := by
            rw [← hw3]
            exact ((Kept.refl (· = w.heap.size + 1) _).setCell (p := ⟨w.heap.size + 1, 0, none⟩) (.inl rfl) _).setCell (p := ⟨w.heap.size + 1, 1, none⟩) (.inl rfl) _
          have hownN : Edges w3 (w.heap.size + 2) (.slice (some ⟨g3, 0, none⟩) (es2.length + 1) c3) es3 := Kept.own hst hown3 (fun k hk h => by have := hown3.lt k hk; omega)
          replace hown3 := hownN
          clear hownN
          have hplN := Kept.own hst hpl3 (fun k hk h => by have := hpl3.lt k hk; omega)
          replace hpl3 := hplN
          clear hplN
          replace hKK3 : Grew w w3 := hKK3.then hst (fun i a b => by omega)
          replace hsz3 := Nat.le_trans hsz3 hst.size
          rw [hw3]
          clear hw3 hst
          have hrg0 := hG3.cell 0
          have hrg1 := hG3.cell 1
          simp at hrg0 hrg1
          go_wp2_with fail
          have hS1 : Hid (gridS wide high most seed (k + 1) = ((belowX (belowX xd most) most), es3)) := by
            show gridS wide high most seed (k + 1) = ((belowX (belowX xd most) most), es3)
            rw [gridS, HX.out, HY.out, hS.out, spotS]
            rw [if_pos ha, if_neg hb, pairS_puts most xd es, HES2.out, HES3.out]
          go_roundw
          case rel => exact ⟨k + 1, _, (Value.slice (some ⟨g3, 0, none⟩) (es2.length + 1) c3), _, _, by omega, by go_num, rfl, rfl, hS1, hR3, hG3, hown3, hpl3, hKK3⟩
          case measure => simp [intOf]; omega
      · by_cases hb : y + 1 < high
        · skip
          go_wp2_with fail
          have hPut2 := put_any (w.heap.size + 2) P ((k : Int)) ((k : Int) + wide) most xd v es w1 hown1 hsz1 (by omega) h4 h5
          refine hPut2.mono ?_
          rintro e y2 ⟨g2, c2, rfl, hown2, hg2, hK2⟩
          have hneG2 : ¬ (v).ownBlock = some (w.heap.size + 1) := fun h => by have := hown1.lt _ h; omega
          have hneR2 : ¬ (v).ownBlock = some w.heap.size := fun h => by have := hown1.lt _ h; omega
          have hR2 := hR1.kept hK2 hneR2
          have hG2 := hG1.kept hK2 hneG2
          have hpl2 := Kept.own hK2 hpl1 (fun k h h' => own_own hpl1 hown1 (by decide) h h')
          have hKK2 : Grew w y2 := hKK1.then hK2 (fun i a b => by have := hown1.lt _ b; omega)
          have hsz2 := Nat.le_trans hsz1 hK2.size
          obtain ⟨es2, hes2⟩ : ∃ z, es ++ [((k : Int), (k : Int) + wide, 1 + belowR xd most)] = z := ⟨_, rfl⟩
          rw [hes2] at hown2
          have hLe2 : es2.length ≤ es.length + 1 := by rw [← hes2]; simp
          have HES2 := Lib.hid hes2
          have hrg0 := hG2.cell 0
          have hrg1 := hG2.cell 1
          have hfg0 := hG2.frozen 0
          have hfg1 := hG2.frozen 1
          simp at hrg0 hrg1
          clear hes2 hPut2 hK2 hg2
          go_wp2_with fail
          have q1 := hrg0
          clear hrg0 hrg1 hfg0 hfg1 q1
          obtain ⟨w2, hw2⟩ : ∃ W, ((y2.setCell ⟨w.heap.size + 1, 0, none⟩ (i64 P)).setCell ⟨w.heap.size + 1, 1, none⟩ (.slice (some ⟨g2, 0, none⟩) (es.length + 1) c2)) = W := ⟨_, rfl⟩
          replace hR2 : Blk w2 w.heap.size 37 #[i64 0, .slice none 0 0] := by
            rw [← hw2]
            exact (hR2.far (p := ⟨w.heap.size + 1, 0, none⟩) (show w.heap.size ≠ w.heap.size + 1 by omega) _).far (p := ⟨w.heap.size + 1, 1, none⟩) (show w.heap.size ≠ w.heap.size + 1 by omega) _
          replace hG2 : Blk w2 (w.heap.size + 1) 37 #[i64 P, .slice (some ⟨g2, 0, none⟩) (es.length + 1) c2] := by
            rw [← hw2]
            exact (hG2.set 0 _).set 1 _
          have hst : Kept (· = w.heap.size + 1) y2 w2 := by
            rw [← hw2]
            exact ((Kept.refl (· = w.heap.size + 1) _).setCell (p := ⟨w.heap.size + 1, 0, none⟩) (.inl rfl) _).setCell (p := ⟨w.heap.size + 1, 1, none⟩) (.inl rfl) _
          have hownN : Edges w2 (w.heap.size + 2) (.slice (some ⟨g2, 0, none⟩) (es.length + 1) c2) es2 := Kept.own hst hown2 (fun k hk h => by have := hown2.lt k hk; omega)
          replace hown2 := hownN
          clear hownN
          have hplN := Kept.own hst hpl2 (fun k hk h => by have := hpl2.lt k hk; omega)
          replace hpl2 := hplN
          clear hplN
          replace hKK2 : Grew w w2 := hKK2.then hst (fun i a b => by omega)
          replace hsz2 := Nat.le_trans hsz2 hst.size
          rw [hw2]
          clear hw2 hst
          have hrg0 := hG2.cell 0
          have hrg1 := hG2.cell 1
          simp at hrg0 hrg1
          go_wp2_with fail
          have hPut3 := put_any (w.heap.size + 2) P ((k : Int) + wide) ((k : Int)) most (belowX xd most) (Value.slice (some ⟨g2, 0, none⟩) (es.length + 1) c2) es2 w2 hown2 hsz2 (by omega) h4 h5
          refine hPut3.mono ?_
          rintro e y3 ⟨g3, c3, rfl, hown3, hg3, hK3⟩
          have hneG3 : ¬ ((Value.slice (some ⟨g2, 0, none⟩) (es.length + 1) c2)).ownBlock = some (w.heap.size + 1) := fun h => by have := hown2.lt _ h; omega
          have hneR3 : ¬ ((Value.slice (some ⟨g2, 0, none⟩) (es.length + 1) c2)).ownBlock = some w.heap.size := fun h => by have := hown2.lt _ h; omega
          have hR3 := hR2.kept hK3 hneR3
          have hG3 := hG2.kept hK3 hneG3
          have hpl3 := Kept.own hK3 hpl2 (fun k h h' => own_own hpl2 hown2 (by decide) h h')
          have hKK3 : Grew w y3 := hKK2.then hK3 (fun i a b => by have := hown2.lt _ b; omega)
          have hsz3 := Nat.le_trans hsz2 hK3.size
          obtain ⟨es3, hes3⟩ : ∃ z, es2 ++ [((k : Int) + wide, (k : Int), 1 + belowR (belowX xd most) most)] = z := ⟨_, rfl⟩
          rw [hes3] at hown3
          have hLe3 : es3.length ≤ es2.length + 1 := by rw [← hes3]; simp
          have HES3 := Lib.hid hes3
          have hrg0 := hG3.cell 0
          have hrg1 := hG3.cell 1
          have hfg0 := hG3.frozen 0
          have hfg1 := hG3.frozen 1
          simp at hrg0 hrg1
          clear hes3 hPut3 hK3 hg3
          go_wp2_with fail
          have q1 := hrg0
          clear hrg0 hrg1 hfg0 hfg1 q1
          obtain ⟨w3, hw3⟩ : ∃ W, ((y3.setCell ⟨w.heap.size + 1, 0, none⟩ (i64 P)).setCell ⟨w.heap.size + 1, 1, none⟩ (.slice (some ⟨g3, 0, none⟩) (es2.length + 1) c3)) = W := ⟨_, rfl⟩
          replace hR3 : Blk w3 w.heap.size 37 #[i64 0, .slice none 0 0] := by
            rw [← hw3]
            exact (hR3.far (p := ⟨w.heap.size + 1, 0, none⟩) (show w.heap.size ≠ w.heap.size + 1 by omega) _).far (p := ⟨w.heap.size + 1, 1, none⟩) (show w.heap.size ≠ w.heap.size + 1 by omega) _
          replace hG3 : Blk w3 (w.heap.size + 1) 37 #[i64 P, .slice (some ⟨g3, 0, none⟩) (es2.length + 1) c3] := by
            rw [← hw3]
            exact (hG3.set 0 _).set 1 _
          have hst : Kept (· = w.heap.size + 1) y3 w3 := by
            rw [← hw3]
            exact ((Kept.refl (· = w.heap.size + 1) _).setCell (p := ⟨w.heap.size + 1, 0, none⟩) (.inl rfl) _).setCell (p := ⟨w.heap.size + 1, 1, none⟩) (.inl rfl) _
          have hownN : Edges w3 (w.heap.size + 2) (.slice (some ⟨g3, 0, none⟩) (es2.length + 1) c3) es3 := Kept.own hst hown3 (fun k hk h => by have := hown3.lt k hk; omega)
          replace hown3 := hownN
          clear hownN
          have hplN := Kept.own hst hpl3 (fun k hk h => by have := hpl3.lt k hk; omega)
          replace hpl3 := hplN
          clear hplN
          replace hKK3 : Grew w w3 := hKK3.then hst (fun i a b => by omega)
          replace hsz3 := Nat.le_trans hsz3 hst.size
          rw [hw3]
          clear hw3 hst
          have hrg0 := hG3.cell 0
          have hrg1 := hG3.cell 1
          simp at hrg0 hrg1
          go_wp2_with fail
          have hS1 : Hid (gridS wide high most seed (k + 1) = ((belowX (belowX xd most) most), es3)) := by
            show gridS wide high most seed (k + 1) = ((belowX (belowX xd most) most), es3)
            rw [gridS, HX.out, HY.out, hS.out, spotS]
            rw [if_neg ha, if_pos hb, pairS_puts most xd es, HES2.out, HES3.out]
          go_roundw
          case rel => exact ⟨k + 1, _, (Value.slice (some ⟨g3, 0, none⟩) (es2.length + 1) c3), _, _, by omega, by go_num, rfl, rfl, hS1, hR3, hG3, hown3, hpl3, hKK3⟩
          case measure => simp [intOf]; omega
        · skip
          go_wp2_with fail
          have hS1 : Hid (gridS wide high most seed (k + 1) = (xd, es)) := by
            show gridS wide high most seed (k + 1) = (xd, es)
            rw [gridS, HX.out, HY.out, hS.out, spotS]
            rw [if_neg ha, if_neg hb]
          go_roundw
          case rel => exact ⟨k + 1, _, v, _, _, by omega, by go_num, rfl, rfl, hS1, hR1, hG1, hown1, hpl1, hKK1⟩
          case measure => simp [intOf]; omega
    · obtain rfl : k = P := by omega
      have hE : Hid ((gridS wide high most seed k).2 = es) := by
        show (gridS wide high most seed k).2 = es
        rw [hS.out]
      obtain ⟨A, c, rfl⟩ := own_slice hown
      obtain ⟨L, hL⟩ : ∃ L, es.length = L := ⟨_, rfl⟩
      rw [hL] at hG
      have hownL := hown
      rw [hL] at hownL
      have HL := Lib.hid hL
      clear hL
      have hc0 := hG.cell 0
      have hc1 := hG.cell 1
      have hr0' := hR.cell 0
      have hr1' := hR.cell 1
      have hf0' := hR.frozen 0
      have hf1' := hR.frozen 1
      simp at hc0 hc1 hr0' hr1'
      have hq0 := ((hR.set 0 (i64 k)).set 1 (.slice A L c)).cell 0
      have hq1 := ((hR.set 0 (i64 k)).set 1 (.slice A L c)).cell 1
      simp at hq0 hq1
      have hneR : ¬ (Value.slice A L c).ownBlock = some w.heap.size := fun h => by have := hownL.lt _ h; omega
      go_wp2_with fail
      refine bodyPost_ret (v := .tuple #[.agg #[i64 k, .slice A L c], pv, i64 0]) (by simp [results, Try.results15, go_sem, hq0, hq1]) rfl ⟨_, _, rfl, ?_, ?_, ?_⟩
      · rw [hE.out]
        refine own_base (Kept.own (((Kept.refl (· = w.heap.size) wr).setCell (p := ⟨w.heap.size, 0, none⟩) (.inl rfl) _).setCell (p := ⟨w.heap.size, 1, none⟩) (.inl rfl) _) ?_ (fun k hk h => hneR (by rw [hk, h]))) (Nat.le_add_right _ 2)
        exact hownL
      · refine own_base (Kept.own (((Kept.refl (· = w.heap.size) wr).setCell (p := ⟨w.heap.size, 0, none⟩) (.inl rfl) _).setCell (p := ⟨w.heap.size, 1, none⟩) (.inl rfl) _) ?_ (fun k hk h => hpR (by rw [hk, h]))) (Nat.le_add_right _ 2)
        exact hpl
      · exact (hK.setCell (p := ⟨w.heap.size, 0, none⟩) (.inr (Nat.le_refl _)) _).setCell (p := ⟨w.heap.size, 1, none⟩) (.inr (Nat.le_refl _)) _
end Go.Proofs.Ytppnndhekikagaa
