/- Graphs of dice, by the document: the walk. -/
import Derived.Test.YtppnndhekikagaaRandom
namespace Go.Proofs.Ytppnndhekikagaa
open Go.RowKit


set_option maxHeartbeats 2000000 in
set_option maxRecDepth 100000 in
theorem refRandom_yes (n m : Nat) (seed most : Int) (w : World) (h1 : 2 ≤ n) (h2 : n ≤ 4096) (h3 : m ≤ 16384) (h4 : 1 ≤ most) (h5 : most ≤ 4294967296) :
    Calls Try.prog 22 #[i64 n, i64 m, u64 seed, i64 most] w fun e w' => ∃ v, e = .returned (.tuple #[.agg #[i64 n, v], i64 0]) ∧ Edges w' w.heap.size v (rndS n most seed m).2 ∧ Grew w w' := by
  go_enter Try.func22, Try.ntmps22
  go_wp2_with fail
  go_loopw [11, 12] (fun xi i wr => ∃ (k : Nat) (v : Value) (x : Int) (es : List Edg), k ≤ m ∧ i = .int .i64 k ∧ xi = u64 x ∧ Hid (rndS n most seed k = (x, es)) ∧ Blk wr w.heap.size 37 #[i64 0, .slice none 0 0] ∧
      Blk wr (w.heap.size + 1) 37 #[i64 n, v] ∧ Edges wr (w.heap.size + 2) v es ∧ Grew w wr) (fun _ i _ => m - (intOf i).toNat)
  case atStart =>
    refine ⟨0, _, _, _, by omega, rfl, rfl, rfl, (Blk.new w _ _).alloc _, ?_, World.ownsRow_nil _ _ _ _, ((Kept.refl _ _).alloc _).alloc _⟩
    have hb := Blk.new (w.alloc (.cells #[i64 0, .slice none 0 0] 37)) 37 #[i64 n, .slice none 0 0]
    rw [World.size_alloc] at hb
    exact hb
  case round =>
    obtain ⟨k, v, x, es, hk, rfl, rfl, hS, hR, hG, hown, hK⟩ := hrel
    have hneG : ¬ v.ownBlock = some (w.heap.size + 1) := fun h => by have := hown.lt _ h; omega
    have hneR : ¬ v.ownBlock = some w.heap.size := fun h => by have := hown.lt _ h; omega
    have hsz := hG.lt
    replace hsz : w.heap.size + 2 ≤ wr.heap.size := hsz
    by_cases hlt : k < m
    · have hS1 := Lib.hid (rndS_succ _ _ _ _ _ _ hS.out)
      have hL := rndS_length n most seed k
      rw [hS.out] at hL
      replace hL : es.length = k := hL
      have hLk : es.length ≤ 100000 := by omega
      have HL := Lib.hid hL
      clear hL
      have hb1 := belowR_bd x n
      obtain ⟨hb1, hb2⟩ := hb1
      have hb3 := belowR_bd (belowX x n) ((n : Int) - 1)
      obtain ⟨hb3, hb4⟩ := hb3
      have hB1 := Lib.hid (fun W => refBelow_any x n W (by omega))
      have hB2 := Lib.hid (fun W => refBelow_any (belowX x n) ((n : Int) - 1) W (by omega))
      have hwk : IntKind.i64.wrap ((n : Int) - 1) = (n : Int) - 1 := IntWalk.i64_in _ (by omega)
      have hw1 : IntKind.i64.wrap (belowR x n + 1) = belowR x n + 1 := IntWalk.i64_in _ (by omega)
      have hw2 : IntKind.i64.wrap (belowR x n + 1 + belowR (belowX x n) ((n : Int) - 1)) = belowR x n + 1 + belowR (belowX x n) ((n : Int) - 1) := IntWalk.i64_in _ (by omega)
      have hto := Int.emod_nonneg (belowR x n + 1 + belowR (belowX x n) ((n : Int) - 1)) (show (n : Int) ≠ 0 by omega)
      have hto2 := Int.emod_lt_of_pos (belowR x n + 1 + belowR (belowX x n) ((n : Int) - 1)) (show 0 < (n : Int) by omega)
      have hw3 : IntKind.i64.wrap ((belowR x n + 1 + belowR (belowX x n) ((n : Int) - 1)) % n) = (belowR x n + 1 + belowR (belowX x n) ((n : Int) - 1)) % n := IntWalk.i64_in _ (by omega)
      have htm : (belowR x n + 1 + belowR (belowX x n) ((n : Int) - 1)).tmod n = (belowR x n + 1 + belowR (belowX x n) ((n : Int) - 1)) % n := by rw [Int.tmod_eq_emod_of_nonneg (by omega)]
      have hn0 : ¬ ((n : Int) = 0) := by omega
      have hn0' : ¬ (n = 0) := by omega
      go_wp2_with fail
      refine (hB1.out _).mono ?_
      rintro e wa ⟨rfl, hk1⟩
      replace hR := hR.grew hk1
      replace hG := hG.grew hk1
      replace hown := hk1.own hown
      replace hK := hK.grew hk1
      replace hsz := Nat.le_trans hsz hk1.size
      clear hk1
      go_wp2_with fail
      refine (hB2.out _).mono ?_
      rintro e wb ⟨rfl, hk1⟩
      replace hR := hR.grew hk1
      replace hG := hG.grew hk1
      replace hown := hk1.own hown
      replace hK := hK.grew hk1
      replace hsz := Nat.le_trans hsz hk1.size
      clear hk1
      go_wp2_with fail
      refine wp_region_grow [14] (fun j => v.ownBlock = some j) (by kernel_rfl) ?_
      simp only [List.size_toArray, List.length_cons, List.length_nil, Nat.reduceAdd]
      refine wpAnyG_take 0 61 (v := ?_) rfl (by kernel_rfl) rfl (by rfl) (fun w' hG' => ?_) ?_
      rotate_left
      · have hx := (hG.drew.kept hG' hneG)
        have hx0 := hx.cell 0
        have hx1 := hx.cell 1
        simp at hx0 hx1
        go_simp <;> with_reducible rfl
      simp only [List.setIfInBounds_toArray, List.set_cons_zero, List.set_cons_succ]
      refine wpAnyG_pure 1 62 (v := ?_) rfl (by kernel_rfl) rfl (by rfl) (fun w' => ?_) ?_
      rotate_left
      · go_simp <;> with_reducible rfl
      simp only [List.setIfInBounds_toArray, List.set_cons_zero, List.set_cons_succ]
      refine wpAnyG_pure 2 63 (v := ?_) rfl (by kernel_rfl) rfl (by rfl) (fun w' => ?_) ?_
      rotate_left
      · go_simp <;> with_reducible rfl
      simp only [List.setIfInBounds_toArray, List.set_cons_zero, List.set_cons_succ]
      refine wpAnyG_pure 3 64 (v := ?_) rfl (by kernel_rfl) rfl (by rfl) (fun w' => ?_) ?_
      rotate_left
      · go_simp <;> with_reducible rfl
      simp only [List.setIfInBounds_toArray, List.set_cons_zero, List.set_cons_succ]
      refine wpAnyG_pure 4 65 (v := ?_) rfl (by kernel_rfl) rfl (by rfl) (fun w' => ?_) ?_
      rotate_left
      · go_simp <;> with_reducible rfl
      simp only [List.setIfInBounds_toArray, List.set_cons_zero, List.set_cons_succ]
      refine wpAnyG_pure 5 66 (v := ?_) rfl (by kernel_rfl) rfl (by rfl) (fun w' => ?_) ?_
      rotate_left
      · go_simp <;> with_reducible rfl
      simp only [List.setIfInBounds_toArray, List.set_cons_zero, List.set_cons_succ]
      refine wpAnyG_pure 6 67 (v := ?_) rfl (by kernel_rfl) rfl (by rfl) (fun w' => ?_) ?_
      rotate_left
      · go_simp <;> with_reducible rfl
      simp only [List.setIfInBounds_toArray, List.set_cons_zero, List.set_cons_succ]
      refine wpAnyG_pure 7 68 (v := ?_) rfl (by kernel_rfl) rfl (by rfl) (fun w' => ?_) ?_
      rotate_left
      · go_simp <;> with_reducible rfl
      simp only [List.setIfInBounds_toArray, List.set_cons_zero, List.set_cons_succ]
      refine wpAnyG_pure 8 69 (v := ?_) rfl (by kernel_rfl) rfl (by rfl) (fun w' => ?_) ?_
      rotate_left
      · go_simp <;> with_reducible rfl
      simp only [List.setIfInBounds_toArray, List.set_cons_zero, List.set_cons_succ]
      refine wpAnyG_pure 9 70 (v := ?_) rfl (by kernel_rfl) rfl (by rfl) (fun w' => ?_) ?_
      rotate_left
      · go_simp <;> with_reducible rfl
      simp only [List.setIfInBounds_toArray, List.set_cons_zero, List.set_cons_succ]
      refine wpAnyG_step 10 71 rfl (by kernel_rfl) rfl (by rfl) (fun K hK' => ?_)
      -- 71 call 27 - [ref.go:98]
      go_simp
      refine (put_any (w.heap.size + 2) n (belowR x n) ((belowR x n + 1 + belowR (belowX x n) ((n : Int) - 1)) % n) most _ v es wb.drew hown hsz hLk h4 h5).mono ?_
      rintro e w2 ⟨g, c, rfl, hown2, hg2, hK2⟩
      have hR2 := hR.drew.kept hK2 hneR
      have hG2 := hG.drew.kept hK2 hneG
      have hrg0 := hG2.cell 0
      have hrg1 := hG2.cell 1
      have hfg0 := hG2.frozen 0
      have hfg1 := hG2.frozen 1
      simp at hrg0 hrg1
      refine hK' _ _ (fun _ => hK2) ?_
      clear hK'
      simp only [List.setIfInBounds_toArray, List.set_cons_zero, List.set_cons_succ]
      refine wpAnyG_pure 11 60 (v := ?_) rfl (by kernel_rfl) rfl (by rfl) (fun w' => ?_) ?_
      rotate_left
      · go_simp <;> with_reducible rfl
      simp only [List.setIfInBounds_toArray, List.set_cons_zero, List.set_cons_succ]
      refine wpAnyG_pure 12 72 (v := ?_) rfl (by kernel_rfl) rfl (by rfl) (fun w' => ?_) ?_
      rotate_left
      · go_simp <;> with_reducible rfl
      simp only [List.setIfInBounds_toArray, List.set_cons_zero, List.set_cons_succ]
      refine wpAnyG_pure 13 73 (v := ?_) rfl (by kernel_rfl) rfl (by rfl) (fun w' => ?_) ?_
      rotate_left
      · go_simp <;> with_reducible rfl
      simp only [List.setIfInBounds_toArray, List.set_cons_zero, List.set_cons_succ]
      refine wpAnyG_store 14 rfl (by kernel_rfl) rfl (by rfl) (fun K hK' => ?_)
      -- 9999 store - [ref.go:98]
      go_simp
      refine hK' _ (fun h => absurd (List.mem_singleton.2 rfl) h) ?_
      clear hK'
      refine wpAnyG_pure 15 11 (v := ?_) rfl (by kernel_rfl) rfl (by rfl) (fun w' => ?_) ?_
      rotate_left
      · go_simp <;> with_reducible rfl
      simp only [List.setIfInBounds_toArray, List.set_cons_zero, List.set_cons_succ]
      refine wpAnyG_done (by kernel_rfl) ?_
      go_wp2_with fail
      go_roundw
      case rel =>
        refine ⟨k + 1, _, _, _, by omega, by go_num, rfl, hS1, (hR2.far (p := ⟨w.heap.size + 1, 0, none⟩) (show w.heap.size ≠ w.heap.size + 1 by omega) _).far (p := ⟨w.heap.size + 1, 1, none⟩) (show w.heap.size ≠ w.heap.size + 1 by omega) _, (hG2.set 0 _).set 1 _, ?_, ?_⟩
        · have e : Edges w2 (w.heap.size + 2) (.slice (some ⟨g, 0, none⟩) (es.length + 1) c) (es ++ [(belowR x n, (belowR x n + 1 + belowR (belowX x n) ((n : Int) - 1)) % n, 1 + belowR (belowX (belowX x n) ((n : Int) - 1)) most)]) := hown2
          exact Kept.own (((Kept.refl (· = w.heap.size + 1) w2).setCell (p := ⟨w.heap.size + 1, 0, none⟩) (.inl rfl) _).setCell (p := ⟨w.heap.size + 1, 1, none⟩) (.inl rfl) _) e (fun k hk h => by have := hown2.lt k hk; omega)
        · have k2 : Kept (fun j => w.heap.size ≤ j) w w2 := (Grew.kept hK.drew).then hK2 (fun i a b => by have := hown.lt _ b; omega)
          exact ((k2.setCell (p := ⟨w.heap.size + 1, 0, none⟩) (.inl (Nat.le_succ _)) _).setCell (p := ⟨w.heap.size + 1, 1, none⟩) (.inl (Nat.le_succ _)) _).mono (fun k h1 h2 => by omega)
      case measure => simp [intOf]; omega
    · obtain rfl : k = m := by omega
      have hE : (rndS n most seed k).2 = es := by rw [hS.out]
      obtain ⟨A, c, rfl⟩ := own_slice hown
      obtain ⟨L, hL⟩ : ∃ L, es.length = L := ⟨_, rfl⟩
      rw [hL] at hG
      have hownL := hown
      rw [hL] at hownL
      have HL := Lib.hid hL
      clear hL
      have hc0 := hG.cell 0
      have hc1 := hG.cell 1
      have hr0' := hR.cell 0
      have hr1' := hR.cell 1
      have hf0' := hR.frozen 0
      have hf1' := hR.frozen 1
      simp at hc0 hc1 hr0' hr1'
      have hq0 := ((hR.set 0 (i64 n)).set 1 (.slice A L c)).cell 0
      have hq1 := ((hR.set 0 (i64 n)).set 1 (.slice A L c)).cell 1
      simp at hq0 hq1
      have hneR : ¬ (Value.slice A L c).ownBlock = some w.heap.size := fun h => by have := hownL.lt _ h; omega
      have HE := Lib.hid hE
      clear hE
      go_wp2_with fail
      refine bodyPost_ret (v := .tuple #[.agg #[i64 n, .slice A L c], i64 0]) (by simp [results, Try.results22, go_sem, hq0, hq1]) rfl ⟨_, rfl, ?_, ?_⟩
      · rw [HE.out]
        refine own_base (Kept.own (((Kept.refl (· = w.heap.size) wr).setCell (p := ⟨w.heap.size, 0, none⟩) (.inl rfl) _).setCell (p := ⟨w.heap.size, 1, none⟩) (.inl rfl) _) ?_ (fun k hk h => hneR (by rw [hk, h]))) (Nat.le_add_right _ 2)
        exact hownL
      · exact (hK.setCell (p := ⟨w.heap.size, 0, none⟩) (.inr (Nat.le_refl _)) _).setCell (p := ⟨w.heap.size, 1, none⟩) (.inr (Nat.le_refl _)) _

theorem refRandom_no (n m seed most : Int) (w : World) (h : n < 2 ∨ m < 0 ∨ most < 1 ∨ 4294967296 < most ∨ 4096 < n ∨ 16384 < m) :
    Calls Try.prog 22 #[i64 n, i64 m, u64 seed, i64 most] w fun e w' => e = .returned (.tuple #[.agg #[i64 0, .slice none 0 0], i64 (rndF n m most)]) ∧ Grew w w' := by
  have hb0 := Blk.new w 37 #[i64 0, .slice none 0 0]
  have hq0 := hb0.cell 0
  have hq1 := hb0.cell 1
  have hf0 := hb0.frozen 0
  have hf1 := hb0.frozen 1
  simp at hq0 hq1
  have hk0 : Grew w (w.alloc (.cells #[i64 0, .slice none 0 0] 37)) := (Kept.refl _ _).alloc _
  by_cases h1 : n < 2 ∨ m < 0 ∨ most < 1 ∨ 4294967296 < most
  · have hr : Hid (rndF n m most = 1) := if_pos h1
    rcases Int.lt_or_le n 2 with g1 | g1
    · clear h h1
      go_enter Try.func22, Try.ntmps22
      go_wp2_with fail
      rw [hr.out]
      refine bodyPost_ret (v := .tuple #[.agg #[i64 0, .slice none 0 0], i64 1]) (by simp [results, Try.results22, go_sem, hq0, hq1]) rfl ⟨rfl, hk0⟩
    · rcases Int.lt_or_le m 0 with g2 | g2
      · clear h h1
        go_enter Try.func22, Try.ntmps22
        go_wp2_with fail
        rw [hr.out]
        refine bodyPost_ret (v := .tuple #[.agg #[i64 0, .slice none 0 0], i64 1]) (by simp [results, Try.results22, go_sem, hq0, hq1]) rfl ⟨rfl, hk0⟩
      · rcases Int.lt_or_le most 1 with g3 | g3
        · clear h h1
          go_enter Try.func22, Try.ntmps22
          go_wp2_with fail
          rw [hr.out]
          refine bodyPost_ret (v := .tuple #[.agg #[i64 0, .slice none 0 0], i64 1]) (by simp [results, Try.results22, go_sem, hq0, hq1]) rfl ⟨rfl, hk0⟩
        · have g4 : 4294967296 < most := by omega
          clear h h1
          go_enter Try.func22, Try.ntmps22
          go_wp2_with fail
          rw [hr.out]
          refine bodyPost_ret (v := .tuple #[.agg #[i64 0, .slice none 0 0], i64 1]) (by simp [results, Try.results22, go_sem, hq0, hq1]) rfl ⟨rfl, hk0⟩
  · have hr : Hid (rndF n m most = 5) := (if_neg h1).trans (if_pos (by omega))
    have g1 : 2 ≤ n := by omega
    have g2 : 0 ≤ m := by omega
    have g5 : 1 ≤ most := by omega
    have g6 : most ≤ 4294967296 := by omega
    rcases Int.lt_or_le 4096 n with g3 | g3
    · clear h h1
      go_enter Try.func22, Try.ntmps22
      go_wp2_with fail
      rw [hr.out]
      refine bodyPost_ret (v := .tuple #[.agg #[i64 0, .slice none 0 0], i64 5]) (by simp [results, Try.results22, go_sem, hq0, hq1]) rfl ⟨rfl, hk0⟩
    · have g4 : 16384 < m := by omega
      clear h h1
      go_enter Try.func22, Try.ntmps22
      go_wp2_with fail
      rw [hr.out]
      refine bodyPost_ret (v := .tuple #[.agg #[i64 0, .slice none 0 0], i64 5]) (by simp [results, Try.results22, go_sem, hq0, hq1]) rfl ⟨rfl, hk0⟩
end Go.Proofs.Ytppnndhekikagaa
