/- A way of edges by dice, and one edge by the document's put: the walks. -/
import Derived.Test.YtppnndhekikagaaLadder
namespace Go.Proofs.Ytppnndhekikagaa
open Go.RowKit

theorem belowR_bd (x n : Int) : 0 ≤ belowR x n ∧ belowR x n ≤ 2147483647 := by
  unfold belowR
  split
  · omega
  · have hb := told_bd x
    have h2 := Int.emod_nonneg (told x) (show n ≠ 0 by omega)
    have h3 : told x % n ≤ told x := by
      rcases Int.lt_or_le (told x) n with h | h
      · rw [Int.emod_eq_of_lt hb.1 h]; omega
      · have := Int.emod_lt_of_pos (told x) (show 0 < n by omega); omega
    omega

/-- The dice then, and the edges of a way through l, k of its nodes passed. -/
def wayS (l : Nat → Int) (most x : Int) : Nat → Int × List Edg
  | 0 => (x, [])
  | k + 1 => if k = 0 then (x, []) else (belowX (wayS l most x k).1 most, (wayS l most x k).2 ++ [(l (k - 1), l k, 1 + belowR (wayS l most x k).1 most)])

theorem wayS_one (l : Nat → Int) (most x : Int) : wayS l most x 1 = (x, []) := by simp [wayS]
theorem wayS_succ (l : Nat → Int) (most x : Int) (k : Nat) (hk : 0 < k) :
    wayS l most x (k + 1) = (belowX (wayS l most x k).1 most, (wayS l most x k).2 ++ [(l (k - 1), l k, 1 + belowR (wayS l most x k).1 most)]) := by
  rw [wayS, if_neg (by omega)]
theorem wayS_length (l : Nat → Int) (most x : Int) (k : Nat) : (wayS l most x k).2.length ≤ k := by
  induction k with
  | zero => simp [wayS]
  | succ k ih => rw [wayS]; split <;> simp <;> omega

theorem own_ne {w : World} {base g n size : Nat} {e t : TypeId} {v : Value} {xs : List Value} {cs : Array Value} (h : w.ownsRow base e size v n xs) (hg : Blk w g t cs) (hne : e ≠ t) : ¬ v.ownBlock = some g := by
  rcases h.2 with ⟨rfl, _⟩ | ⟨g', cap, cur, rfl, _, hh, _⟩
  · simp [Value.ownBlock]
  · intro he
    obtain rfl : g' = g := by simpa [Value.ownBlock] using he
    unfold Blk at hg
    rw [hh] at hg
    injection hg with hg
    injection hg with _ ht _
    exact hne ht


set_option maxHeartbeats 2000000 in
set_option maxRecDepth 100000 in
theorem way_any (M D B b off len cap : Nat) (l : Nat → Int) (n most x : Int) (v : Value) (es : List Edg) (w : World) (hM0 : Blk w M 60 #[pt D, i64 n, v, i64 most]) (hD0 : Blk w D 55 #[u64 x])
    (hown0 : Edges w B v es) (hBM : B ≤ M) (hb : ∃ cs, Blk w b 3 cs) (hl : ∀ i, i < len → w.cell? ⟨b, off + i, none⟩ = some (i64 (l i)) ∧ -9223372036854775808 ≤ l i ∧ l i ≤ 9223372036854775807) (hlen : len ≤ 100) (hes : es.length ≤ 100000) (hm1 : 1 ≤ most) (hm2 : most ≤ 4294967296) :
    Calls Try.prog 25 #[pt M, .slice (some ⟨b, off, none⟩) len cap] w fun e w' => e = .returned (.tuple #[]) ∧ ∃ v', Blk w' M 60 #[pt D, i64 n, v', i64 most] ∧ Blk w' D 55 #[u64 (wayS l most x len).1] ∧
      Edges w' B v' (es ++ (wayS l most x len).2) ∧ Kept (fun k => k = M ∨ k = D ∨ v.ownBlock = some k) w w' := by
  obtain ⟨i0, hi, hz0, hz1, hz2⟩ := info_parts info_edge
  obtain ⟨csb, hb⟩ := hb
  have hMD : ¬ M = D := by
    rintro rfl
    unfold Blk at hM0 hD0
    rw [hM0] at hD0; injection hD0 with h; injection h with _ h2 _; revert h2; decide
  have hbM : ¬ b = M := by
    rintro rfl
    unfold Blk at hM0 hb
    rw [hM0] at hb; injection hb with h; injection h with _ h2 _; revert h2; decide
  have hbD : ¬ b = D := by
    rintro rfl
    unfold Blk at hD0 hb
    rw [hD0] at hb; injection hb with h; injection h with _ h2 _; revert h2; decide
  have hbv := own_ne hown0 hb (by decide)
  have hblt := hb.lt
  have hc0 := hM0.cell 0
  simp at hc0
  have hF : ¬ (b = M ∨ b = D ∨ v.ownBlock = some b) := fun h => h.elim hbM fun h => h.elim hbD hbv
  go_enter Try.func25, Try.ntmps25
  go_wp2
  go_loopw [14] (fun i wr => ∃ (k : Nat) (vr : Value) (xr : Int) (er : List Edg), k ≤ len ∧ i = .int .i64 k ∧ Hid (wayS l most x k = (xr, er)) ∧ Blk wr M 60 #[pt D, i64 n, vr, i64 most] ∧ Blk wr D 55 #[u64 xr] ∧ Edges wr B vr (es ++ er) ∧
      (∀ j, vr.ownBlock = some j → v.ownBlock = some j ∨ w.heap.size ≤ j) ∧ Kept (fun k => k = M ∨ k = D ∨ v.ownBlock = some k) w wr) (fun i _ => len - (intOf i).toNat)
  case atStart => exact ⟨0, v, x, [], by omega, rfl, rfl, hM0, hD0, by simpa using hown0, fun j hj => .inl hj, Kept.refl _ _⟩
  case round =>
    obtain ⟨k, vr, xr, er, hk, rfl, hS, hM, hD, hown, hv, hK⟩ := hrel
    by_cases hlt : k < len
    · obtain ⟨hcl, hl1, hl2⟩ := hl k hlt
      replace hcl := hK.cell hcl hF
      rcases Nat.lt_or_ge 0 k with hk1 | hk0
      rotate_left
      · have hS1 : Hid (wayS l most x (k + 1) = (xr, er)) := by
          obtain rfl : k = 0 := by omega
          have h0 : wayS l most x 0 = (x, []) := rfl
          have h1 := hS.out
          rw [h0] at h1
          show wayS l most x 1 = (xr, er)
          rw [wayS_one, h1]
        clear hl
        go_wp2_with fail
        go_roundw
        case rel => exact ⟨k + 1, vr, xr, er, by omega, by go_num, hS1, hM, hD, hown, hv, hK⟩
        case measure => simp [intOf]; omega
      · obtain ⟨hcl1, _, _⟩ := hl (k - 1) (by omega)
        replace hcl1 := hK.cell hcl1 hF
        have hS1 := Lib.hid (wayS_succ l most x k hk1)
        rw [hS.out] at hS1
        have hLen := wayS_length l most x k
        rw [hS.out] at hLen
        replace hLen : er.length ≤ k := hLen
        have hbd := belowR_bd xr most
        obtain ⟨hbd1, hbd2⟩ := hbd
        obtain ⟨L, hL⟩ : ∃ L, (es ++ er).length = L := ⟨_, rfl⟩
        have hLb : L ≤ 200000 := by rw [← hL, List.length_append]; omega
        have hown := (show wr.ownsRow B 53 3 vr (es ++ er).length (cellsOf (es ++ er)) from hown)
        rw [hL] at hown
        have HL := Lib.hid hL
        clear hL
        have hnM := own_ne hown hM (by decide)
        have hnD := own_ne hown hD (by decide)
        have hnMF : ¬ (M = D ∨ vr.ownBlock = some M) := fun h => h.elim hMD hnM
        have hnbF : ¬ (b = D ∨ vr.ownBlock = some b) := by
          rintro (h | h)
          · exact hbD h
          · rcases hv _ h with h | h
            · exact hbv h
            · omega
        have hkm1 : ((k : Int) - 1).toNat = k - 1 := by omega
        have hk1i : (0 : Int) < (k : Int) := by omega
        have hk1j : (1 : Int) ≤ (k : Int) := by omega
        have hkl : (k : Int) ≤ (len : Int) := by omega
        have hwk : IntKind.i64.wrap ((k : Int) - 1) = (k : Int) - 1 := IntWalk.i64_in _ (by omega)
        have hi0 : (0 : Int) ≤ (k : Int) - 1 := by omega
        have hi1 : (k : Int) - 1 < (len : Int) := by omega
        have hwu : IntKind.u64.wrap (belowR xr most) = belowR xr most := by rw [IntKind.wrap_u64]; omega
        have hwv : IntKind.u64.wrap (1 + belowR xr most) = 1 + belowR xr most := by rw [IntKind.wrap_u64]; omega
        clear hl
        go_wp2_with fail
        refine wp_region_grow [26] (fun j => j = D ∨ vr.ownBlock = some j) (by kernel_rfl) ?_
        simp only [List.size_toArray, List.length_cons, List.length_nil, Nat.reduceAdd]
        refine wpAnyG_pure 0 21 (v := ?_) rfl (by kernel_rfl) rfl (by rfl) (fun w' => ?_) ?_
        rotate_left
        · go_simp <;> with_reducible rfl
        simp only [List.setIfInBounds_toArray, List.set_cons_zero, List.set_cons_succ]
        refine wpAnyG_pure 1 22 (v := ?_) rfl (by kernel_rfl) rfl (by rfl) (fun w' => ?_) ?_
        rotate_left
        · go_simp <;> with_reducible rfl
        simp only [List.setIfInBounds_toArray, List.set_cons_zero, List.set_cons_succ]
        refine wpAnyG_pure 2 23 (v := ?_) rfl (by kernel_rfl) rfl (by rfl) (fun w' => ?_) ?_
        rotate_left
        · go_simp <;> with_reducible rfl
        simp only [List.setIfInBounds_toArray, List.set_cons_zero, List.set_cons_succ]
        refine wpAnyG_pure 3 24 (v := ?_) rfl (by kernel_rfl) rfl (by rfl) (fun w' => ?_) ?_
        rotate_left
        · go_simp <;> with_reducible rfl
        simp only [List.setIfInBounds_toArray, List.set_cons_zero, List.set_cons_succ]
        refine wpAnyG_pure 4 25 (v := ?_) rfl (by kernel_rfl) rfl (by rfl) (fun w' => ?_) ?_
        rotate_left
        · go_simp <;> with_reducible rfl
        simp only [List.setIfInBounds_toArray, List.set_cons_zero, List.set_cons_succ]
        refine wpAnyG_take 5 26 (v := ?_) rfl (by kernel_rfl) rfl (by rfl) (fun w' hG => ?_) ?_
        rotate_left
        · have hx := (hM.drew.kept hG hnMF).cell 2
          simp at hx
          go_simp <;> with_reducible rfl
        simp only [List.setIfInBounds_toArray, List.set_cons_zero, List.set_cons_succ]
        refine wpAnyG_pure 6 27 (v := ?_) rfl (by kernel_rfl) rfl (by rfl) (fun w' => ?_) ?_
        rotate_left
        · go_simp <;> with_reducible rfl
        simp only [List.setIfInBounds_toArray, List.set_cons_zero, List.set_cons_succ]
        refine wpAnyG_pure 7 28 (v := ?_) rfl (by kernel_rfl) rfl (by rfl) (fun w' => ?_) ?_
        rotate_left
        · go_simp <;> with_reducible rfl
        simp only [List.setIfInBounds_toArray, List.set_cons_zero, List.set_cons_succ]
        refine wpAnyG_pure 8 29 (v := ?_) rfl (by kernel_rfl) rfl (by rfl) (fun w' => ?_) ?_
        rotate_left
        · go_simp <;> with_reducible rfl
        simp only [List.setIfInBounds_toArray, List.set_cons_zero, List.set_cons_succ]
        refine wpAnyG_pure 9 30 (v := ?_) rfl (by kernel_rfl) rfl (by rfl) (fun w' => ?_) ?_
        rotate_left
        · go_simp <;> with_reducible rfl
        simp only [List.setIfInBounds_toArray, List.set_cons_zero, List.set_cons_succ]
        refine wpAnyG_take 10 31 (v := ?_) rfl (by kernel_rfl) rfl (by rfl) (fun w' hG => ?_) ?_
        rotate_left
        · have hx := hG.cell (show wr.drew.cell? ⟨b, off + (k - 1), none⟩ = some (i64 (l (k - 1))) from hcl1) hnbF
          go_simp <;> with_reducible rfl
        simp only [List.setIfInBounds_toArray, List.set_cons_zero, List.set_cons_succ]
        refine wpAnyG_pure 11 32 (v := ?_) rfl (by kernel_rfl) rfl (by rfl) (fun w' => ?_) ?_
        rotate_left
        · go_simp <;> with_reducible rfl
        simp only [List.setIfInBounds_toArray, List.set_cons_zero, List.set_cons_succ]
        refine wpAnyG_pure 12 33 (v := ?_) rfl (by kernel_rfl) rfl (by rfl) (fun w' => ?_) ?_
        rotate_left
        · go_simp <;> with_reducible rfl
        simp only [List.setIfInBounds_toArray, List.set_cons_zero, List.set_cons_succ]
        refine wpAnyG_pure 13 34 (v := ?_) rfl (by kernel_rfl) rfl (by rfl) (fun w' => ?_) ?_
        rotate_left
        · go_simp <;> with_reducible rfl
        simp only [List.setIfInBounds_toArray, List.set_cons_zero, List.set_cons_succ]
        refine wpAnyG_pure 14 35 (v := ?_) rfl (by kernel_rfl) rfl (by rfl) (fun w' => ?_) ?_
        rotate_left
        · go_simp <;> with_reducible rfl
        simp only [List.setIfInBounds_toArray, List.set_cons_zero, List.set_cons_succ]
        refine wpAnyG_pure 15 36 (v := ?_) rfl (by kernel_rfl) rfl (by rfl) (fun w' => ?_) ?_
        rotate_left
        · go_simp <;> with_reducible rfl
        simp only [List.setIfInBounds_toArray, List.set_cons_zero, List.set_cons_succ]
        refine wpAnyG_take 16 37 (v := ?_) rfl (by kernel_rfl) rfl (by rfl) (fun w' hG => ?_) ?_
        rotate_left
        · have hx := (hM.drew.kept hG hnMF).cell 3
          simp at hx
          go_simp <;> with_reducible rfl
        simp only [List.setIfInBounds_toArray, List.set_cons_zero, List.set_cons_succ]
        refine wpAnyG_step 17 38 rfl (by kernel_rfl) rfl (by rfl) (fun K hK' => ?_)
        -- 38 call ? - [gen.go:46]
        go_simp
        refine (below_any D xr most wr.drew hD.drew (by omega)).mono ?_
        rintro e w1 ⟨rfl, hD1, hK1⟩
        have hM1 := hM.drew.kept hK1 hMD
        have hown1 := Kept.own hK1 (show wr.drew.ownsRow _ _ _ _ _ _ from hown) (fun k hk h => hnD (by rw [hk, h]))
        refine hK' _ _ (fun _ => hK1.mono (fun i h1 h2 => .inl h2)) ?_
        clear hK'
        simp only [List.setIfInBounds_toArray, List.set_cons_zero, List.set_cons_succ]
        refine wpAnyG_take 18 39 (v := ?_) rfl (by kernel_rfl) rfl (by rfl) (fun w' hG => ?_) ?_
        rotate_left
        · skip
          go_simp <;> with_reducible rfl
        simp only [List.setIfInBounds_toArray, List.set_cons_zero, List.set_cons_succ]
        refine wpAnyG_pure 19 40 (v := ?_) rfl (by kernel_rfl) rfl (by rfl) (fun w' => ?_) ?_
        rotate_left
        · go_simp <;> with_reducible rfl
        simp only [List.setIfInBounds_toArray, List.set_cons_zero, List.set_cons_succ]
        refine wpAnyG_pure 20 41 (v := ?_) rfl (by kernel_rfl) rfl (by rfl) (fun w' => ?_) ?_
        rotate_left
        · go_simp <;> with_reducible rfl
        simp only [List.setIfInBounds_toArray, List.set_cons_zero, List.set_cons_succ]
        refine wpAnyG_step 21 42 rfl (by kernel_rfl) rfl (by rfl) (fun K hK' => ?_)
        -- 42 buildSlice - [gen.go:46]
        go_simp
        refine hK' _ _ (fun _ => (Kept.refl _ _).alloc _) ?_
        clear hK'
        simp only [List.setIfInBounds_toArray, List.set_cons_zero, List.set_cons_succ]
        refine wpAnyG_step 22 43 rfl (by kernel_rfl) rfl (by rfl) (fun K hK' => ?_)
        -- 43 builtin Go.Builtin.append - [gen.go:46]
        refine wp_append_lies _ (.tmp 26) (.tmp 42) 35 (by rfl) B 53 i0 (.agg #[i64 0, i64 0, u64 0]) 3 24 Try.underlying35 hi hz0 hz1 hz2 (by rfl) (by omega) vr _ _ (by rfl) (hown1.alloc _) ⟨w1.heap.size, 0, none⟩ 1 1 (edgeCells (l (k - 1), l k, 1 + belowR xr most)) (by rfl) (by rfl) (World.news_of_block (heap_alloc_new _ _)) (edge_one _) (by omega) ?_ ?_ ?_ _ rfl ?_
        · unfold maxLen; omega
        · omega
        · have := hM1.lt; simp; omega
        intro g cap w2 hown2 hgrow2 hat2 hlt2
        have hM2 := (hM1.alloc (.cells #[i64 (l (k - 1)), i64 (l k), u64 (1 + belowR xr most)] 53)).grown hgrow2 (fun h => hnM h.symm)
        have hD2 := (hD1.alloc (.cells #[i64 (l (k - 1)), i64 (l k), u64 (1 + belowR xr most)] 53)).grown hgrow2 (fun h => hnD h.symm)
        have hc2' := hM2.cell 2
        have hf2' := hM2.frozen 2
        simp at hc2'
        refine hK' _ _ (fun _ => (Kept.refl _ _).grown hgrow2 (fun k hk => .inl (.inr hk))) ?_
        clear hK'
        simp only [List.setIfInBounds_toArray, List.set_cons_zero, List.set_cons_succ]
        refine wpAnyG_pure 23 44 (v := ?_) rfl (by kernel_rfl) rfl (by rfl) (fun w' => ?_) ?_
        rotate_left
        · go_simp <;> with_reducible rfl
        simp only [List.setIfInBounds_toArray, List.set_cons_zero, List.set_cons_succ]
        refine wpAnyG_pure 24 45 (v := ?_) rfl (by kernel_rfl) rfl (by rfl) (fun w' => ?_) ?_
        rotate_left
        · go_simp <;> with_reducible rfl
        simp only [List.setIfInBounds_toArray, List.set_cons_zero, List.set_cons_succ]
        refine wpAnyG_pure 25 46 (v := ?_) rfl (by kernel_rfl) rfl (by rfl) (fun w' => ?_) ?_
        rotate_left
        · go_simp <;> with_reducible rfl
        simp only [List.setIfInBounds_toArray, List.set_cons_zero, List.set_cons_succ]
        refine wpAnyG_store 26 rfl (by kernel_rfl) rfl (by rfl) (fun K hK' => ?_)
        -- 9999 store - [gen.go:46]
        go_simp
        refine hK' _ (fun h => absurd (List.mem_singleton.2 rfl) h) ?_
        clear hK'
        refine wpAnyG_done (by kernel_rfl) ?_
        go_wp2_with fail
        go_roundw
        case rel =>
          have e : Edges w2 B (.slice (some ⟨g, 0, none⟩) (L + 1) cap) (es ++ (er ++ [(l (k - 1), l k, 1 + belowR xr most)])) := by
            unfold Edges
            rw [← List.append_assoc, cellsOf_append, cellsOf_one, List.length_append, HL.out]
            exact hown2
          refine ⟨k + 1, _, _, _, by omega, by go_num, hS1, hM2.set 2 _, hD2.far (p := ⟨M, 2, none⟩) (fun h => hMD h.symm) _, ?_, ?_, ?_⟩
          · exact Kept.own ((Kept.refl (· = M) w2).setCell (p := ⟨M, 2, none⟩) (.inl rfl) _) e (fun j hj h => own_ne hown2 hM2 (by decide) (by rw [hj, h]))
          · intro j hj
            simp only [Value.ownBlock, Option.some.injEq] at hj
            subst hj
            rcases hat2 with h | h
            · exact hv _ h
            · have := hK.size; have := hK1.size; simp at h; simp at this; omega
          · have k1 : Kept (fun k => k = M ∨ k = D ∨ v.ownBlock = some k) w w1 := (hK.drew).then hK1 (fun i h1 h2 => .inr (.inl h2))
            have k2 : Kept (fun k => k = M ∨ k = D ∨ v.ownBlock = some k) w w2 := (k1.alloc _).grown hgrow2 (fun j hj => (hv j hj).elim (fun h => .inl (.inr (.inr h))) .inr)
            exact k2.setCell (p := ⟨M, 2, none⟩) (.inl (.inl rfl)) _
        case measure => simp [intOf]; omega
    · obtain rfl : k = len := by omega
      go_wp2_with fail
      go_end0
      rw [hS.out]
      exact ⟨rfl, vr, hM, hD, hown, hK⟩

set_option maxHeartbeats 1000000 in
set_option maxRecDepth 100000 in
theorem put_any (B : Nat) (n fr to most x : Int) (v : Value) (es : List Edg) (w : World) (hown0 : Edges w B v es) (hB : B ≤ w.heap.size) (hes : es.length ≤ 100000) (hm1 : 1 ≤ most) (hm2 : most ≤ 4294967296) :
    Calls Try.prog 27 #[.agg #[i64 n, v], u64 x, i64 fr, i64 to, i64 most] w fun e w' => ∃ g c, e = .returned (.tuple #[.agg #[i64 n, .slice (some ⟨g, 0, none⟩) (es.length + 1) c], u64 (belowX x most)]) ∧
      Edges w' B (.slice (some ⟨g, 0, none⟩) (es.length + 1) c) (es ++ [(fr, to, 1 + belowR x most)]) ∧ (v.ownBlock = some g ∨ w.heap.size ≤ g) ∧ Kept (fun k => v.ownBlock = some k) w w' := by
  obtain ⟨i0, hi, hz0, hz1, hz2⟩ := info_parts info_edge
  obtain ⟨L, hL⟩ : ∃ L, es.length = L := ⟨_, rfl⟩
  have hown := (show w.ownsRow B 53 3 v es.length (cellsOf es) from hown0)
  rw [hL] at hown hes
  have HL := Lib.hid hL
  rw [hL]
  clear hL hown0
  have hbd := belowR_bd x most
  obtain ⟨hbd1, hbd2⟩ := hbd
  go_enter Try.func27, Try.ntmps27
  go_wp2_with fail
  refine (refBelow_any _ _ _ (by omega)).mono ?_
  rintro e w1 ⟨rfl, hK1⟩
  have hb0 : Blk w1 w.heap.size 37 #[i64 n, v] := ((Blk.new w _ _).alloc _).grew hK1
  have hb1 : Blk w1 (w.heap.size + 1) 37 #[i64 0, .slice none 0 0] := by
    have h := Blk.new (w.alloc (.cells #[i64 n, v] 37)) 37 #[i64 0, .slice none 0 0]
    rw [World.size_alloc] at h
    exact h.grew hK1
  have hK : Grew w w1 := (((Kept.refl _ _).alloc _).alloc _).trans hK1
  have hown1 := hK.own hown
  have hlt0 := hown.lt
  have hc0 := hb0.cell 0
  have hc1 := hb0.cell 1
  have hr0 := hb1.cell 0
  have hr1 := hb1.cell 1
  simp at hc0 hc1 hr0 hr1
  have hne0 : ¬ v.ownBlock = some w.heap.size := fun h => by have := hlt0 _ h; omega
  have hne1 : ¬ v.ownBlock = some (w.heap.size + 1) := fun h => by have := hlt0 _ h; omega
  have hsz := hb1.lt
  go_wp2_with (at_builtin; refine wpList_append_lies _ rfl _ _ 35 rfl B 53 i0 (.agg #[i64 0, i64 0, u64 0]) 3 24 Try.underlying35 hi hz0 hz1 hz2 rfl (by omega) v _ _ rfl (hown1.alloc _) ⟨w1.heap.size, 0, none⟩ 1 1 (edgeCells (fr, to, 1 + belowR x most)) rfl rfl (World.news_of_block (heap_alloc_new _ _)) (edge_one _) (by omega) (by unfold maxLen; omega) (by omega) (by simp; omega) _ rfl ?_; intro g cap w2 hown2 hgrow2 hat2 hlt2; have hb2 := (hb0.alloc (.cells #[i64 fr, i64 to, u64 (1 + belowR x most)] 53)).grown hgrow2 (fun h => hne0 h.symm); have hb3 := (hb1.alloc (.cells #[i64 fr, i64 to, u64 (1 + belowR x most)] 53)).grown hgrow2 (fun h => hne1 h.symm); have hd0 := hb2.cell 0; have hd1 := hb2.cell 1; have hf1 := hb2.frozen 1; have he0 := hb3.cell 0; have he1 := hb3.cell 1; have hg0 := hb3.frozen 0; have hg1 := hb3.frozen 1; simp at hd0 hd1 he0 he1)
  have hB2 := hb3.lt
  have hq0 := (((hb3.far (p := ⟨w.heap.size, 1, none⟩) (show w.heap.size + 1 ≠ w.heap.size by omega) (.slice (some ⟨g, 0, none⟩) (L + 1) cap)).set 0 (i64 n)).set 1 (.slice (some ⟨g, 0, none⟩) (L + 1) cap)).cell 0
  have hq1 := (((hb3.far (p := ⟨w.heap.size, 1, none⟩) (show w.heap.size + 1 ≠ w.heap.size by omega) (.slice (some ⟨g, 0, none⟩) (L + 1) cap)).set 0 (i64 n)).set 1 (.slice (some ⟨g, 0, none⟩) (L + 1) cap)).cell 1
  simp at hq0 hq1
  refine bodyPost_ret (v := .tuple #[.agg #[i64 n, .slice (some ⟨g, 0, none⟩) (L + 1) cap], u64 (belowX x most)]) (by simp [results, Try.results27, go_sem, hq0, hq1]) rfl ⟨g, cap, rfl, ?_, ?_, ?_⟩
  · have e : Edges w2 B (.slice (some ⟨g, 0, none⟩) (L + 1) cap) (es ++ [(fr, to, 1 + belowR x most)]) := by
      unfold Edges
      rw [cellsOf_append, cellsOf_one, List.length_append, HL.out]
      exact hown2
    exact Kept.own ((((Kept.refl (fun k => k = w.heap.size ∨ k = w.heap.size + 1) w2).setCell (p := ⟨w.heap.size, 1, none⟩) (.inl (.inl rfl)) _).setCell (p := ⟨w.heap.size + 1, 0, none⟩) (.inl (.inr rfl)) _).setCell (p := ⟨w.heap.size + 1, 1, none⟩) (.inl (.inr rfl)) _) e
      (fun j hj h => h.elim (fun h => own_ne hown2 hb2 (by decide) (by rw [hj, h])) (fun h => own_ne hown2 hb3 (by decide) (by rw [hj, h])))
  · rcases hat2 with h | h
    · exact .inl h
    · right; have := hK.size; simp at h; omega
  · have k2 : Kept (fun k => v.ownBlock = some k) w w2 := ((Grew.kept hK).alloc _).grown hgrow2 (fun j hj => .inl hj)
    exact ((k2.setCell (p := ⟨w.heap.size, 1, none⟩) (.inr (Nat.le_refl _)) _).setCell (p := ⟨w.heap.size + 1, 0, none⟩) (.inr (Nat.le_succ _)) _).setCell (p := ⟨w.heap.size + 1, 1, none⟩) (.inr (Nat.le_succ _)) _
end Go.Proofs.Ytppnndhekikagaa
