/- Graphs of dice: the walks of Random, of the program and of the document. -/
import Derived.Test.YtppnndhekikagaaMake
namespace Go.Proofs.Ytppnndhekikagaa
open Go.RowKit

/-- The dice then, and the edges: k of them thrown. -/
def rndS (n most seed : Int) : Nat → Int × List Edg
  | 0 => (seed, [])
  | k + 1 =>
    let x := (rndS n most seed k).1
    let x1 := belowX x n
    let x2 := belowX x1 (n - 1)
    (belowX x2 most, (rndS n most seed k).2 ++ [(belowR x n, (belowR x n + 1 + belowR x1 (n - 1)) % n, 1 + belowR x2 most)])
theorem rndS_succ (n most seed : Int) (k : Nat) (x : Int) (es : List Edg) (h : rndS n most seed k = (x, es)) :
    rndS n most seed (k + 1) = (belowX (belowX (belowX x n) (n - 1)) most, es ++ [(belowR x n, (belowR x n + 1 + belowR (belowX x n) (n - 1)) % n, 1 + belowR (belowX (belowX x n) (n - 1)) most)]) := by
  simp only [rndS, h]
theorem rndS_length (n most seed : Int) (k : Nat) : (rndS n most seed k).2.length = k := by
  induction k with
  | zero => rfl
  | succ k ih => simp [rndS, ih]
def rndF (n m most : Int) : Int := if n < 2 ∨ m < 0 ∨ most < 1 ∨ 4294967296 < most then 1 else if 4096 < n ∨ 16384 < m then 5 else 0

theorem own_slice {w : World} {base n size : Nat} {e : TypeId} {v : Value} {xs : List Value} (h : w.ownsRow base e size v n xs) : ∃ A c, v = .slice A n c := by
  rcases h.2 with ⟨rfl, rfl⟩ | ⟨g, cap, _, hv, _⟩
  · exact ⟨none, 0, rfl⟩
  · exact ⟨_, cap, hv⟩

theorem within_yes (n a b : Int) (w : World) (h1 : a ≤ n) (h2 : n ≤ b) : Calls Try.prog 24 #[i64 n, i64 a, i64 b] w fun e w' => e = .returned (.bool true) ∧ w = w' := by
  go_enter Try.func24, Try.ntmps24
  go_wp2
  go_ret
  exact ⟨rfl, rfl⟩
theorem within_no (n a b : Int) (w : World) (h : n < a ∨ b < n) : Calls Try.prog 24 #[i64 n, i64 a, i64 b] w fun e w' => e = .returned (.bool false) ∧ w = w' := by
  rcases Int.lt_or_le n a with h1 | h1
  · clear h
    go_enter Try.func24, Try.ntmps24
    go_wp2
    go_ret
    exact ⟨rfl, rfl⟩
  · have h2 : ¬ n ≤ b := by omega
    clear h
    go_enter Try.func24, Try.ntmps24
    go_wp2
    go_ret
    exact ⟨by simp [h2], rfl⟩

theorem type_ne {w : World} {g g' : Nat} {t t' : TypeId} {cs cs' : Array Value} (h : Blk w g t cs) (h' : Blk w g' t' cs') (hne : t ≠ t') : ¬ g = g' := by
  rintro rfl
  unfold Blk at h h'
  rw [h] at h'
  injection h' with h'
  injection h' with _ ht _
  exact hne ht


set_option maxHeartbeats 2000000 in
set_option maxRecDepth 100000 in
theorem random_yes (n m : Nat) (seed most : Int) (w : World) (h1 : 2 ≤ n) (h2 : n ≤ 4096) (h3 : m ≤ 16384) (h4 : 1 ≤ most) (h5 : most ≤ 4294967296) :
    Calls Try.prog 21 #[i64 n, i64 m, u64 seed, i64 most] w fun e w' => ∃ v, e = .returned (.tuple #[.agg #[i64 n, v], i64 0]) ∧ Edges w' w.heap.size v (rndS n most seed m).2 ∧ Grew w w' := by
  have hW := Lib.hid (fun W => within_yes most 1 4294967296 W h4 h5)
  go_enter Try.func21, Try.ntmps21
  go_wp2_with fail
  refine (hW.out _).mono ?_
  rintro e w1 ⟨rfl, rfl⟩
  go_wp2_with fail
  refine (new_any _ _).mono ?_
  rintro e w1 ⟨rfl, rfl⟩
  obtain ⟨W, hWe⟩ : ∃ W, ((w.alloc (.cells #[i64 0, .slice none 0 0] 37)).alloc (.cells #[u64 seed] 55)) = W := ⟨_, rfl⟩
  have hR0 : Blk W w.heap.size 37 #[i64 0, .slice none 0 0] := by rw [← hWe]; exact (Blk.new w _ _).alloc _
  have hD0 : Blk W (w.heap.size + 1) 55 #[u64 seed] := by
    have h := Blk.new (w.alloc (.cells #[i64 0, .slice none 0 0] 37)) 55 #[u64 seed]
    rw [World.size_alloc] at h; rw [← hWe]; exact h
  have hKW : Grew w W := by rw [← hWe]; exact ((Kept.refl _ _).alloc _).alloc _
  have hsW : W.heap.size = w.heap.size + 2 := by rw [← hWe]; simp
  have HsW := Lib.hid hsW
  simp only [World.size_alloc]
  rw [hWe]
  clear hWe hsW
  go_wp2_with fail
  go_loopw [41] (fun i wr => ∃ (k : Nat) (v : Value) (x : Int) (es : List Edg), k ≤ m ∧ i = .int .i64 k ∧ Hid (rndS n most seed k = (x, es)) ∧ Blk wr w.heap.size 37 #[i64 0, .slice none 0 0] ∧ Blk wr (w.heap.size + 1) 55 #[u64 x] ∧
      Blk wr W.heap.size 60 #[pt (w.heap.size + 1), i64 n, v, i64 most] ∧ Edges wr (w.heap.size + 1) v es ∧ Grew w wr) (fun i _ => m - (intOf i).toNat)
  case atStart => exact ⟨0, _, _, _, by omega, rfl, rfl, hR0.alloc _, hD0.alloc _, Blk.new _ _ _, World.ownsRow_nil _ _ _ _, hKW.alloc _⟩
  case round =>
    obtain ⟨k, v, x, es, hk, rfl, hS, hR, hD, hM, hown, hK⟩ := hrel
    have hs := HsW.out
    have hWs : w.heap.size + 1 ≤ W.heap.size := by omega
    have hRM : ¬ w.heap.size = W.heap.size := by omega
    have hDM : ¬ w.heap.size + 1 = W.heap.size := by omega
    clear hs
    by_cases hlt : k < m
    · have hS1 := Lib.hid (rndS_succ _ _ _ _ _ _ hS.out)
      have hL := rndS_length n most seed k
      rw [hS.out] at hL
      replace hL : es.length = k := hL
      have hLk : es.length ≤ 20000 := by omega
      clear hL
      have hc0 := hM.cell 0
      simp at hc0
      have hB1 := Lib.hid (below_any (w.heap.size + 1) x n wr hD (by omega))
      have hb1 := belowR_bd x n
      obtain ⟨hb1, hb2⟩ := hb1
      have hb3 := belowR_bd (belowX x n) ((n : Int) - 1)
      obtain ⟨hb3, hb4⟩ := hb3
      go_wp2_with fail
      refine hB1.out.mono ?_
      rintro e w2 ⟨rfl, hD2, hK2⟩
      have hM2 := hM.kept hK2 (fun h => hDM h.symm)
      have hc0' := hM2.cell 0
      simp at hc0'
      have hR2 := hR.kept hK2 (by omega)
      have hown2 := Kept.own hK2 hown (fun j hj h => own_ne hown hD (by decide) (by rw [hj, h]))
      have hKg2 : Grew w w2 := hK.then hK2 (fun i a b => by omega)
      have hB2 := Lib.hid (below_any (w.heap.size + 1) (belowX x n) ((n : Int) - 1) w2 hD2 (by omega))
      clear hc0 hD hK2
      go_wp2_with fail
      refine hB2.out.mono ?_
      rintro e w3 ⟨rfl, hD3, hK3⟩
      have hM3 := hM2.kept hK3 (fun h => hDM h.symm)
      have hR3 := hR2.kept hK3 (by omega)
      have hown3 := Kept.own hK3 hown2 (fun j hj h => own_ne hown2 hD2 (by decide) (by rw [hj, h]))
      have hKg3 : Grew w w3 := hKg2.then hK3 (fun i a b => by omega)
      clear hc0' hK3 hM2 hR2 hown2 hD2 hM hR hown hKg2
      go_wp2_with fail
      have hto := Int.emod_nonneg (belowR x n + 1 + belowR (belowX x n) ((n : Int) - 1)) (show (n : Int) ≠ 0 by omega)
      have hto2 := Int.emod_lt_of_pos (belowR x n + 1 + belowR (belowX x n) ((n : Int) - 1)) (show 0 < (n : Int) by omega)
      have hbl := Blk.new w3 3 #[i64 (belowR x n), i64 ((belowR x n + 1 + belowR (belowX x n) ((n : Int) - 1)) % n)]
      have hWay := way_any W.heap.size (w.heap.size + 1) (w.heap.size + 1) w3.heap.size 0 2 2 (fun i => if i = 0 then belowR x n else (belowR x n + 1 + belowR (belowX x n) ((n : Int) - 1)) % n) n most _ v es _
        (hM3.alloc _) (hD3.alloc _) (show Edges (w3.alloc (.cells #[i64 (belowR x n), i64 ((belowR x n + 1 + belowR (belowX x n) ((n : Int) - 1)) % n)] 3)) _ v es from hown3.alloc _) hWs ⟨_, hbl⟩ (by
          intro i hi
          rcases (show i = 0 ∨ i = 1 by omega) with rfl | rfl
          · refine ⟨by rw [hbl.cell]; rfl, ?_⟩
            simp only [if_true]; omega
          · refine ⟨by rw [hbl.cell]; rfl, ?_⟩
            simp only [if_neg (show ¬ (1 = 0) by omega)]; omega) (by omega) (by omega) h4 h5
      refine hWay.mono ?_
      rintro e w4 ⟨rfl, v', hM4, hD4, hown4, hK4⟩
      rw [wayS_succ _ _ _ 1 (by omega), wayS_one] at hD4 hown4
      simp only [if_true, Nat.sub_self, if_neg (show ¬ (1 = 0) by omega), List.nil_append] at hD4 hown4
      go_wp2_with fail
      go_roundw
      case rel =>
        refine ⟨k + 1, v', _, _, by omega, by go_num, hS1, ?_, hD4, hM4, hown4, ?_⟩
        · exact (hR3.alloc _).kept hK4 (fun h => h.elim (fun h => hRM h) fun h => h.elim (fun h => by omega) fun h => by have := hown3.lt _ h; omega)
        · exact (hKg3.alloc _).then hK4 (fun i a b => b.elim (fun b => by omega) fun b => b.elim (fun b => by omega) fun b => by have := hown3.lt _ b; omega)
      case measure => simp [intOf]; omega
    · obtain rfl : k = m := by omega
      have hE : (rndS n most seed k).2 = es := by rw [hS.out]
      obtain ⟨A, c, rfl⟩ := own_slice hown
      obtain ⟨L, hL⟩ : ∃ L, es.length = L := ⟨_, rfl⟩
      rw [hL] at hM
      have hownL := hown
      rw [hL] at hownL
      have HL := Lib.hid hL
      clear hL
      have hc0 := hM.cell 1
      have hc1 := hM.cell 2
      have hr0' := hR.cell 0
      have hr1' := hR.cell 1
      have hf0' := hR.frozen 0
      have hf1' := hR.frozen 1
      simp at hc0 hc1 hr0' hr1'
      have hq0 := ((hR.set 0 (i64 n)).set 1 (.slice A L c)).cell 0
      have hq1 := ((hR.set 0 (i64 n)).set 1 (.slice A L c)).cell 1
      simp at hq0 hq1
      have hneR : ¬ (Value.slice A L c).ownBlock = some w.heap.size := fun h => by have := hownL.lt _ h; omega
      have HE := Lib.hid hE
      clear hE
      go_wp2_with fail
      refine bodyPost_ret (v := .tuple #[.agg #[i64 n, .slice A L c], i64 0]) (by simp [results, Try.results21, go_sem, hq0, hq1]) rfl ⟨_, rfl, ?_, ?_⟩
      · rw [HE.out]
        refine own_base (Kept.own (((Kept.refl (· = w.heap.size) wr).setCell (p := ⟨w.heap.size, 0, none⟩) (.inl rfl) _).setCell (p := ⟨w.heap.size, 1, none⟩) (.inl rfl) _) ?_ (fun k hk h => hneR (by rw [hk, h]))) (Nat.le_succ _)
        exact hownL
      · exact (hK.setCell (p := ⟨w.heap.size, 0, none⟩) (.inr (Nat.le_refl _)) _).setCell (p := ⟨w.heap.size, 1, none⟩) (.inr (Nat.le_refl _)) _

theorem random_no (n m seed most : Int) (w : World) (h : n < 2 ∨ m < 0 ∨ most < 1 ∨ 4294967296 < most ∨ 4096 < n ∨ 16384 < m) :
    Calls Try.prog 21 #[i64 n, i64 m, u64 seed, i64 most] w fun e w' => e = .returned (.tuple #[.agg #[i64 0, .slice none 0 0], i64 (rndF n m most)]) ∧ Grew w w' := by
  have hb0 := Blk.new w 37 #[i64 0, .slice none 0 0]
  have hq0 := hb0.cell 0
  have hq1 := hb0.cell 1
  have hf0 := hb0.frozen 0
  have hf1 := hb0.frozen 1
  simp at hq0 hq1
  have hk0 : Grew w (w.alloc (.cells #[i64 0, .slice none 0 0] 37)) := (Kept.refl _ _).alloc _
  by_cases h1 : n < 2 ∨ m < 0 ∨ most < 1 ∨ 4294967296 < most
  · have hr : Hid (rndF n m most = 1) := if_pos h1
    rcases Int.lt_or_le n 2 with g1 | g1
    · clear h h1
      go_enter Try.func21, Try.ntmps21
      go_wp2_with fail
      rw [hr.out]
      refine bodyPost_ret (v := .tuple #[.agg #[i64 0, .slice none 0 0], i64 1]) (by simp [results, Try.results21, go_sem, hq0, hq1]) rfl ⟨rfl, hk0⟩
    · rcases Int.lt_or_le m 0 with g2 | g2
      · clear h h1
        go_enter Try.func21, Try.ntmps21
        go_wp2_with fail
        rw [hr.out]
        refine bodyPost_ret (v := .tuple #[.agg #[i64 0, .slice none 0 0], i64 1]) (by simp [results, Try.results21, go_sem, hq0, hq1]) rfl ⟨rfl, hk0⟩
      · have hW := Lib.hid (fun W => within_no most 1 4294967296 W (by omega))
        clear h h1
        go_enter Try.func21, Try.ntmps21
        go_wp2_with fail
        refine (hW.out _).mono ?_
        rintro e w1 ⟨rfl, rfl⟩
        go_wp2_with fail
        rw [hr.out]
        refine bodyPost_ret (v := .tuple #[.agg #[i64 0, .slice none 0 0], i64 1]) (by simp [results, Try.results21, go_sem, hq0, hq1]) rfl ⟨rfl, hk0⟩
  · have hW := Lib.hid (fun W => within_yes most 1 4294967296 W (by omega) (by omega))
    have hr : Hid (rndF n m most = 5) := (if_neg h1).trans (if_pos (by omega))
    have g1 : 2 ≤ n := by omega
    have g2 : 0 ≤ m := by omega
    rcases Int.lt_or_le 4096 n with g3 | g3
    · clear h h1
      go_enter Try.func21, Try.ntmps21
      go_wp2_with fail
      refine (hW.out _).mono ?_
      rintro e w1 ⟨rfl, rfl⟩
      go_wp2_with fail
      rw [hr.out]
      refine bodyPost_ret (v := .tuple #[.agg #[i64 0, .slice none 0 0], i64 5]) (by simp [results, Try.results21, go_sem, hq0, hq1]) rfl ⟨rfl, hk0⟩
    · have g4 : 16384 < m := by omega
      clear h h1
      go_enter Try.func21, Try.ntmps21
      go_wp2_with fail
      refine (hW.out _).mono ?_
      rintro e w1 ⟨rfl, rfl⟩
      go_wp2_with fail
      rw [hr.out]
      refine bodyPost_ret (v := .tuple #[.agg #[i64 0, .slice none 0 0], i64 5]) (by simp [results, Try.results21, go_sem, hq0, hq1]) rfl ⟨rfl, hk0⟩
end Go.Proofs.Ytppnndhekikagaa
