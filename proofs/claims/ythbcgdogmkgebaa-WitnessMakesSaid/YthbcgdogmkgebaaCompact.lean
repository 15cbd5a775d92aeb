/- Runs of arcs to one node: but the first are dropped. -/
import Derived.Test.YthbcgdogmkgebaaSwap
import Derived.Test.YthbcgdogmkgebaaMergeP
import Derived.Lib.SliceRun
import Derived.BigFrame
namespace Go.Proofs.Ythbcgdogmkgebaa
open Go.RowKit

theorem arc_zero (w : World) : (zeroValue 56).run Try.prog w = .ok (.agg #[i64 0, u64 0]) w := by kernel_rfl
/-- clear of arcs: cells from o on turn, no others. -/
theorem run_clear_arcs (w : World) (g o n c : Nat) (hn : 0 < n) (hc : ∀ j, j < n * 2 → (w.cell? ⟨g, o + j, none⟩).isSome = true) (hf : ∀ j, j < n * 2 → w.frozen? ⟨g, o + j, none⟩ = false) :
    ∃ L, ∀ ty, (Builtin.clear_ #[48] ty #[.slice (some ⟨g, o, none⟩) n c]).run Try.prog w = .ok (.tuple #[]) (w.setCells g o L) := by
  have hlen : (Builtin.zeroCells (Value.agg #[i64 0, u64 0]).cells n).toList.length = n * 2 := by simp [Builtin.zeroCells, Value.cells]
  have hone : ∀ v ∈ (Builtin.zeroCells (Value.agg #[i64 0, u64 0]).cells n).toList, v.oneCell' = true := by
    intro v hv
    simp [Builtin.zeroCells, Value.cells] at hv
    obtain ⟨i, hi, rfl⟩ := hv
    rcases (show i % 2 = 0 ∨ i % 2 = 1 by omega) with e | e <;> simp [e] <;> rfl
  have hst := run_storeCells_cells (P := Try.prog) g o (Builtin.zeroCells (Value.agg #[i64 0, u64 0]).cells n).toList 0 w (by rw [hlen]; simpa using hc) (by rw [hlen]; simpa using hf) hone
  simp only [Nat.add_zero] at hst
  obtain ⟨m, rfl⟩ : ∃ m, n = m + 1 := ⟨n - 1, by omega⟩
  refine ⟨(Builtin.zeroCells (Value.agg #[i64 0, u64 0]).cells (m + 1)).toList, fun ty => ?_⟩
  simp [Builtin.clear_, run_underlying Try.underlying48, arc_zero, hst]
theorem Kept.setCells {F : Nat → Prop} {a : World} {g : Nat} (hp : F g ∨ a.heap.size ≤ g) : ∀ (vs : List Value) (o : Nat) (w : World), Kept F a w → Kept F a (w.setCells g o vs)
  | [], _, _, h => h
  | v :: vs, o, w, h => Kept.setCells hp vs (o + 1) _ (h.setCell (p := ⟨g, o, none⟩) hp v)

/-! ### Plain -/
theorem Kp_all (f : Row) : ∀ k, (∀ i, 1 ≤ i → i < k → (f i).1 ≠ (f (i - 1)).1) → (Kp f k).length = k ∧ ∀ i, i < k → (Kp f k)[i]? = some (f i)
  | 0, _ => ⟨rfl, fun i h => by omega⟩
  | k + 1, h => by
    obtain ⟨h1, h2⟩ := Kp_all f k (fun i a b => h i a (by omega))
    have hc : k = 0 ∨ (f k).1 ≠ (f (k - 1)).1 := by
      by_cases e : k = 0
      · exact .inl e
      · exact .inr (h k (by omega) (by omega))
    unfold Kp
    rw [if_pos hc]
    refine ⟨by rw [List.length_append, h1]; rfl, fun i hi => ?_⟩
    by_cases e : i < k
    · rw [List.getElem?_append_left (by rw [h1]; exact e)]; exact h2 i e
    · obtain rfl : i = k := by omega
      rw [List.getElem?_append_right (by rw [h1]; exact Nat.le_refl _), h1, Nat.sub_self]; rfl
/-- The first m arcs of f are gone through, kk of them stay: g. -/
structure CI (f g : Row) (kk m : Nat) : Prop where
  len : (Kp f m).length = kk
  get : ∀ i, i < kk → (Kp f m)[i]? = some (g i)
  rest : ∀ i, kk ≤ i → g i = f i
  lt : kk < m
theorem CI.start {f : Row} {k : Nat} (h0 : 1 ≤ k) (h : ∀ i, 1 ≤ i → i < k → (f i).1 ≠ (f (i - 1)).1) (e : (f k).1 = (f (k - 1)).1) : CI f f k (k + 1) := by
  obtain ⟨h1, h2⟩ := Kp_all f k h
  have hk : Kp f (k + 1) = Kp f k := by
    rw [Kp]
    exact if_neg (fun hc => by rcases hc with hc | hc; · omega
                               · exact hc e)
  exact ⟨by rw [hk]; exact h1, by rw [hk]; exact h2, fun _ _ => rfl, by omega⟩
theorem CI.dup {f g : Row} {kk m : Nat} (h : CI f g kk m) (e : (f m).1 = (f (m - 1)).1) : CI f g kk (m + 1) := by
  have := h.lt
  have hk : Kp f (m + 1) = Kp f m := by
    rw [Kp]
    exact if_neg (fun hc => by rcases hc with hc | hc; · omega
                               · exact hc e)
  exact ⟨by rw [hk]; exact h.len, by rw [hk]; exact h.get, h.rest, by omega⟩
theorem CI.new {f g : Row} {kk m : Nat} (h : CI f g kk m) (e : (f m).1 ≠ (f (m - 1)).1) : CI f (updR g kk (f m)) (kk + 1) (m + 1) := by
  have := h.lt
  have hk : Kp f (m + 1) = Kp f m ++ [f m] := by rw [Kp]; exact if_pos (.inr e)
  refine ⟨by rw [hk, List.length_append, h.len]; rfl, fun i hi => ?_, fun i hi => ?_, by omega⟩
  · rw [hk]
    unfold updR
    by_cases e' : i < kk
    · rw [List.getElem?_append_left (by rw [h.len]; exact e'), if_neg (by omega)]; exact h.get i e'
    · obtain rfl : i = kk := by omega
      rw [List.getElem?_append_right (by rw [h.len]; exact Nat.le_refl _), h.len, Nat.sub_self, if_pos rfl]; rfl
  · unfold updR
    rw [if_neg (by omega)]
    exact h.rest i (by omega)
theorem RowF.list {w : World} {g n k : Nat} {f : Row} {l : List Ar} (h : RowF w g n f) (hk : k ≤ n) (hl : l.length = k) (hg : ∀ i, i < k → l[i]? = some (f i)) : RowA w (some ⟨g, 0, none⟩) l := by
  intro i e he
  have hi : i < k := by rw [← hl]; exact (List.getElem?_eq_some_iff.1 he).1
  obtain rfl := Option.some.inj ((hg i hi).symm.trans he)
  refine ⟨g, 0, rfl, h.lt, ?_, ?_⟩
  · rw [Nat.zero_add]; exact h.c0 (by omega)
  · rw [Nat.zero_add]; exact h.c1 (by omega)
theorem RowF.listc {w : World} {g n k : Nat} {f : Row} {l : List Ar} (h : RowF w g n f) (hk : k ≤ n) (hl : l.length = k) (hg : ∀ i, i < k → l[i]? = some (f i)) (L : List Value) : RowA (w.setCells g (k * 2) L) (some ⟨g, 0, none⟩) l := by
  intro i e he
  have hi : i < k := by rw [← hl]; exact (List.getElem?_eq_some_iff.1 he).1
  obtain rfl := Option.some.inj ((hg i hi).symm.trans he)
  refine ⟨g, 0, rfl, Nat.lt_of_lt_of_le h.lt (Kept.setCells (F := (· = g)) (.inl rfl) L _ w (Kept.refl _ _)).size, ?_, ?_⟩
  · rw [Nat.zero_add, World.cell?_setCells_out _ _ _ _ _ (fun _ _ => .inl (show i * 2 < k * 2 by omega))]; exact h.c0 (by omega)
  · rw [Nat.zero_add, World.cell?_setCells_out _ _ _ _ _ (fun _ _ => .inl (show i * 2 + 1 < k * 2 by omega))]; exact h.c1 (by omega)

set_option maxHeartbeats 4000000 in
set_option maxRecDepth 100000 in
theorem compact_any (g n cap : Nat) (f : Row) (w : World) (h : RowF w g n f) (hn : n ≤ 60) (hcap : n ≤ cap) :
    Calls Try.prog 34 #[.slice (some ⟨g, 0, none⟩) n cap, (.func (.func 35) #[] #[])] w fun e w' => e = .returned (.slice (some ⟨g, 0, none⟩) (Kp f n).length cap) ∧ RowA w' (some ⟨g, 0, none⟩) (Kp f n) ∧ Kept (· = g) w w' := by
  by_cases h2 : n < 2
  · have l2 : (n : Int) < 2 := by omega
    have hr : Hid ((Kp f n).length = n ∧ RowA w (some ⟨g, 0, none⟩) (Kp f n)) := by
      obtain ⟨h3, h4⟩ := Kp_all f n (fun i a b => by omega)
      exact ⟨h3, h.list (Nat.le_refl _) h3 h4⟩
    clear h
    go_enter Try.func34, Try.ntmps34
    go_wp2_with fail
    go_ret
    rw [hr.out.1]
    exact ⟨rfl, hr.out.2, Kept.refl _ _⟩
  have l2 : (2 : Int) ≤ (n : Int) := by omega
  have hS0 : Hid (RowF w g n f ∧ Grew w w ∧ ∀ i, 1 ≤ i → i < 1 → (f i).1 ≠ (f (i - 1)).1) := ⟨h, Kept.refl _ _, fun i _ _ => by omega⟩
  clear h
  go_enter Try.func34, Try.ntmps34
  go_wp2_with fail
  go_loopw [5, 6, 7] (fun i _ _ wr => ∃ (k : Nat), (1 ≤ k ∧ k ≤ n) ∧ i = .int .i64 k ∧ Hid (RowF wr g n f ∧ Grew w wr ∧ ∀ i, 1 ≤ i → i < k → (f i).1 ≠ (f (i - 1)).1)) (fun i _ _ _ => n - (intOf i).toNat)
  case atStart => exact ⟨1, ⟨by omega, by omega⟩, rfl, hS0⟩
  case round =>
    clear hS0
    obtain ⟨k, ⟨hk1, hkn⟩, rfl, hS⟩ := hrel
    by_cases hlt : k < n
    · have l1 : (k : Int) < (n : Int) := by omega
      obtain ⟨p, hp⟩ : ∃ p, k - 1 = p := ⟨_, rfl⟩
      have ep : (k : Int) - 1 = (p : Int) := by omega
      have wp : IntKind.i64.wrap (p : Int) = (p : Int) := Go.IntWalk.i64_in _ (by omega)
      have HP := Lib.hid hp
      have iL : k < n := hlt
      have jL : p < n := by omega
      have i0 : (0 : Int) ≤ (k : Int) := by omega
      have i1 : (k : Int) < (n : Int) := by omega
      have j0 : (0 : Int) ≤ (p : Int) := by omega
      have j1 : (p : Int) < (n : Int) := by omega
      have x0 := hS.out.1.c0 iL
      have x1 := hS.out.1.c1 iL
      have x2 := hS.out.1.c0 jL
      have x3 := hS.out.1.c1 jL
      obtain ⟨⟨p1, p2⟩, hy⟩ : ∃ q, f k = q := ⟨_, rfl⟩
      obtain ⟨⟨q1, q2⟩, hq⟩ : ∃ q, f p = q := ⟨_, rfl⟩
      rw [hy] at x0 x1
      rw [hq] at x2 x3
      simp only at x0 x1 x2 x3
      have hC := Lib.hid (eq_any p1 p2 q1 q2)
      have HY := Lib.hid hy
      have HQ := Lib.hid hq
      have wk1 : IntKind.i64.wrap ((k : Int) + 1) = (k : Int) + 1 := Go.IntWalk.i64_in _ (by omega)
      obtain ⟨b, hb⟩ : ∃ b, (p1 == q1) = b := ⟨_, rfl⟩
      have HB := Lib.hid hb
      rw [hb] at hC
      clear hp hy hq hb
      go_upto_region 6 with fail
      refine wp_region_grow [] (fun _ => False) (by kernel_rfl) ?_
      simp only [List.size_toArray, List.length_cons, List.length_nil, Nat.reduceAdd]
      refine wpAnyG_pure 0 18 (v := ?_) rfl (by kernel_rfl) rfl (by rfl) (fun w' => ?_) ?_
      rotate_left
      · go_simp <;> with_reducible rfl
      simp only [List.setIfInBounds_toArray, List.set_cons_zero, List.set_cons_succ]
      refine wpAnyG_pure 1 19 (v := ?_) rfl (by kernel_rfl) rfl (by rfl) (fun w' => ?_) ?_
      rotate_left
      · go_simp <;> with_reducible rfl
      simp only [List.setIfInBounds_toArray, List.set_cons_zero, List.set_cons_succ]
      refine wpAnyG_pure 2 20 (v := ?_) rfl (by kernel_rfl) rfl (by rfl) (fun w' => ?_) ?_
      rotate_left
      · go_simp <;> with_reducible rfl
      simp only [List.setIfInBounds_toArray, List.set_cons_zero, List.set_cons_succ]
      refine wpAnyG_pure 3 21 (v := ?_) rfl (by kernel_rfl) rfl (by rfl) (fun w' => ?_) ?_
      rotate_left
      · go_simp <;> with_reducible rfl
      simp only [List.setIfInBounds_toArray, List.set_cons_zero, List.set_cons_succ]
      refine wpAnyG_take 4 22 (v := ?_) rfl (by kernel_rfl) rfl (by rfl) (fun w' hG' => ?_) ?_
      rotate_left
      · have hx0 := Grew.cell hG' (show wr.drew.cell? _ = _ from x0)
        have hx1 := Grew.cell hG' (show wr.drew.cell? _ = _ from x1)
        have hx2 := Grew.cell hG' (show wr.drew.cell? _ = _ from x2)
        have hx3 := Grew.cell hG' (show wr.drew.cell? _ = _ from x3)
        go_simp <;> with_reducible rfl
      simp only [List.setIfInBounds_toArray, List.set_cons_zero, List.set_cons_succ]
      refine wpAnyG_pure 5 23 (v := ?_) rfl (by kernel_rfl) rfl (by rfl) (fun w' => ?_) ?_
      rotate_left
      · go_simp <;> with_reducible rfl
      simp only [List.setIfInBounds_toArray, List.set_cons_zero, List.set_cons_succ]
      refine wpAnyG_pure 6 24 (v := ?_) rfl (by kernel_rfl) rfl (by rfl) (fun w' => ?_) ?_
      rotate_left
      · go_simp <;> with_reducible rfl
      simp only [List.setIfInBounds_toArray, List.set_cons_zero, List.set_cons_succ]
      refine wpAnyG_pure 7 25 (v := ?_) rfl (by kernel_rfl) rfl (by rfl) (fun w' => ?_) ?_
      rotate_left
      · go_simp <;> with_reducible rfl
      simp only [List.setIfInBounds_toArray, List.set_cons_zero, List.set_cons_succ]
      refine wpAnyG_pure 8 26 (v := ?_) rfl (by kernel_rfl) rfl (by rfl) (fun w' => ?_) ?_
      rotate_left
      · go_simp <;> with_reducible rfl
      simp only [List.setIfInBounds_toArray, List.set_cons_zero, List.set_cons_succ]
      refine wpAnyG_take 9 27 (v := ?_) rfl (by kernel_rfl) rfl (by rfl) (fun w' hG' => ?_) ?_
      rotate_left
      · have hx0 := Grew.cell hG' (show wr.drew.cell? _ = _ from x0)
        have hx1 := Grew.cell hG' (show wr.drew.cell? _ = _ from x1)
        have hx2 := Grew.cell hG' (show wr.drew.cell? _ = _ from x2)
        have hx3 := Grew.cell hG' (show wr.drew.cell? _ = _ from x3)
        go_simp <;> with_reducible rfl
      simp only [List.setIfInBounds_toArray, List.set_cons_zero, List.set_cons_succ]
      refine wpAnyG_step 10 28 rfl (by kernel_rfl) rfl (by rfl) (fun K hK' => ?_)
      go_simp
      refine (hC.out _).mono ?_
      rintro e w2 ⟨rfl, k2⟩
      refine hK' _ _ (fun _ => k2) ?_
      clear hK'
      simp only [List.setIfInBounds_toArray, List.set_cons_zero, List.set_cons_succ]
      refine wpAnyG_done (by kernel_rfl) ?_
      have hS2 : Hid (RowF w2 g n f ∧ Grew w w2 ∧ ∀ i, 1 ≤ i → i < k → (f i).1 ≠ (f (i - 1)).1) := ⟨(hS.out.1.grew (Kept.refl (fun _ => False) wr).drew).grew k2, hS.out.2.1.drew.trans k2, hS.out.2.2⟩
      clear hS k2 x0 x1 x2 x3 hC
      cases b with
      | false =>
        have hS3 : Hid (RowF w2 g n f ∧ Grew w w2 ∧ ∀ i, 1 ≤ i → i < k + 1 → (f i).1 ≠ (f (i - 1)).1) := ⟨hS2.out.1, hS2.out.2.1, fun i i1 i2 => by
          by_cases e : i = k
          · rw [e, HP.out, HY.out, HQ.out]
            have := HB.out
            simpa using this
          · exact hS2.out.2.2 i i1 (by omega)⟩
        clear hS2 HB HY HQ HP
        go_wp2_with fail
        go_roundw
        case rel => exact ⟨k + 1, ⟨by omega, by omega⟩, by go_num, hS3⟩
        case measure => simp [intOf]; omega
      | true =>
        have hI0 : Hid (RowF w2 g n f ∧ Kept (· = g) w w2 ∧ CI f f k (k + 1)) := ⟨hS2.out.1, hS2.out.2.1.kept, CI.start hk1 hS2.out.2.2 (by
          have := HB.out
          rw [HP.out, HY.out, HQ.out]
          simpa using this)⟩
        obtain ⟨N2, hN2⟩ : ∃ d, n - k = d := ⟨_, rfl⟩
        have HN2 := Lib.hid hN2
        obtain ⟨C2, hC2⟩ : ∃ d, cap - k = d := ⟨_, rfl⟩
        have HC2 := Lib.hid hC2
        have hN2b : N2 ≤ n ∧ k + N2 = n ∧ 0 < N2 := by omega
        obtain ⟨hN2c, hN2d, hN2e⟩ := hN2b
        have lkc : (k : Int) ≤ (n : Int) := by omega
        have lkc3 : (n : Int) ≤ (cap : Int) := by omega
        have lkc4 : (k : Int) ≤ (cap : Int) := by omega
        clear hS2 HB HY HQ HP jL j0 j1 hN2 hC2 iL i1 wk1
        go_wp2_with fail
        rw [HN2.out, HC2.out]
        clear lkc4 lkc l1 hlt
        go_loopw [5, 7] (fun a b wx => ∃ (kk j : Nat) (gg : Row), (1 ≤ j ∧ j ≤ N2 ∧ kk < k + j) ∧ a = .int .i64 kk ∧ b = .int .i64 j ∧ Hid (RowF wx g n gg ∧ Kept (· = g) w wx ∧ CI f gg kk (k + j))) (fun _ b _ => n - (intOf b).toNat)
        case atStart => exact ⟨k, 1, f, ⟨by omega, by omega, by omega⟩, rfl, rfl, hI0⟩
        case round =>
          clear hI0
          obtain ⟨kk, j, gg, ⟨hj1, hj2, hkj⟩, rfl, rfl, hI⟩ := hrel
          by_cases hltj : j < N2
          · have l3 : (j : Int) < (N2 : Int) := by omega
            obtain ⟨jp, hjp⟩ : ∃ p, j - 1 = p := ⟨_, rfl⟩
            have ejp : (j : Int) - 1 = (jp : Int) := by omega
            have wjp : IntKind.i64.wrap (jp : Int) = (jp : Int) := Go.IntWalk.i64_in _ (by omega)
            have HJ : Hid (k + j - 1 = k + jp) := by unfold Hid; omega
            have iL : k + j < n := by omega
            have jL : k + jp < n := by omega
            have j0 : (0 : Int) ≤ (j : Int) := by omega
            have j1 : (0 : Int) ≤ (jp : Int) := by omega
            have j2 : (jp : Int) < (N2 : Int) := by omega
            have kL : kk < n := by omega
            have k0 : (0 : Int) ≤ (kk : Int) := by omega
            have k1 : (kk : Int) < (n : Int) := by omega
            have x0 := hI.out.1.c0 iL
            have x1 := hI.out.1.c1 iL
            have x2 := hI.out.1.c0 jL
            have x3 := hI.out.1.c1 jL
            rw [hI.out.2.2.rest _ (by omega), Nat.add_mul] at x0 x1
            rw [hI.out.2.2.rest _ (by omega), Nat.add_mul] at x2 x3
            obtain ⟨⟨p1, p2⟩, hy⟩ : ∃ q, f (k + j) = q := ⟨_, rfl⟩
            obtain ⟨⟨q1, q2⟩, hq⟩ : ∃ q, f (k + jp) = q := ⟨_, rfl⟩
            rw [hy] at x0 x1
            rw [hq] at x2 x3
            simp only at x0 x1 x2 x3
            have hC := Lib.hid (eq_any p1 p2 q1 q2)
            have HY := Lib.hid hy
            have HQ := Lib.hid hq
            have wk1 : IntKind.i64.wrap ((kk : Int) + 1) = (kk : Int) + 1 := Go.IntWalk.i64_in _ (by omega)
            have wj1 : IntKind.i64.wrap ((j : Int) + 1) = (j : Int) + 1 := Go.IntWalk.i64_in _ (by omega)
            obtain ⟨b, hb⟩ : ∃ b, (p1 == q1) = b := ⟨_, rfl⟩
            have HB := Lib.hid hb
            rw [hb] at hC
            clear hjp hy hq hb
            go_upto_region 11 with fail
            refine wp_region_grow [] (fun _ => False) (by kernel_rfl) ?_
            simp only [List.size_toArray, List.length_cons, List.length_nil, Nat.reduceAdd]
            refine wpAnyG_pure 0 38 (v := ?_) rfl (by kernel_rfl) rfl (by rfl) (fun w' => ?_) ?_
            rotate_left
            · go_simp <;> with_reducible rfl
            simp only [List.setIfInBounds_toArray, List.set_cons_zero, List.set_cons_succ]
            refine wpAnyG_pure 1 39 (v := ?_) rfl (by kernel_rfl) rfl (by rfl) (fun w' => ?_) ?_
            rotate_left
            · go_simp <;> with_reducible rfl
            simp only [List.setIfInBounds_toArray, List.set_cons_zero, List.set_cons_succ]
            refine wpAnyG_pure 2 40 (v := ?_) rfl (by kernel_rfl) rfl (by rfl) (fun w' => ?_) ?_
            rotate_left
            · go_simp <;> with_reducible rfl
            simp only [List.setIfInBounds_toArray, List.set_cons_zero, List.set_cons_succ]
            refine wpAnyG_pure 3 41 (v := ?_) rfl (by kernel_rfl) rfl (by rfl) (fun w' => ?_) ?_
            rotate_left
            · go_simp <;> with_reducible rfl
            simp only [List.setIfInBounds_toArray, List.set_cons_zero, List.set_cons_succ]
            refine wpAnyG_take 4 42 (v := ?_) rfl (by kernel_rfl) rfl (by rfl) (fun w' hG' => ?_) ?_
            rotate_left
            · have hx0 := Grew.cell hG' (show wr.drew.cell? _ = _ from x0)
              have hx1 := Grew.cell hG' (show wr.drew.cell? _ = _ from x1)
              have hx2 := Grew.cell hG' (show wr.drew.cell? _ = _ from x2)
              have hx3 := Grew.cell hG' (show wr.drew.cell? _ = _ from x3)
              go_simp <;> with_reducible rfl
            simp only [List.setIfInBounds_toArray, List.set_cons_zero, List.set_cons_succ]
            refine wpAnyG_pure 5 43 (v := ?_) rfl (by kernel_rfl) rfl (by rfl) (fun w' => ?_) ?_
            rotate_left
            · go_simp <;> with_reducible rfl
            simp only [List.setIfInBounds_toArray, List.set_cons_zero, List.set_cons_succ]
            refine wpAnyG_pure 6 44 (v := ?_) rfl (by kernel_rfl) rfl (by rfl) (fun w' => ?_) ?_
            rotate_left
            · go_simp <;> with_reducible rfl
            simp only [List.setIfInBounds_toArray, List.set_cons_zero, List.set_cons_succ]
            refine wpAnyG_pure 7 45 (v := ?_) rfl (by kernel_rfl) rfl (by rfl) (fun w' => ?_) ?_
            rotate_left
            · go_simp <;> with_reducible rfl
            simp only [List.setIfInBounds_toArray, List.set_cons_zero, List.set_cons_succ]
            refine wpAnyG_pure 8 46 (v := ?_) rfl (by kernel_rfl) rfl (by rfl) (fun w' => ?_) ?_
            rotate_left
            · go_simp <;> with_reducible rfl
            simp only [List.setIfInBounds_toArray, List.set_cons_zero, List.set_cons_succ]
            refine wpAnyG_take 9 47 (v := ?_) rfl (by kernel_rfl) rfl (by rfl) (fun w' hG' => ?_) ?_
            rotate_left
            · have hx0 := Grew.cell hG' (show wr.drew.cell? _ = _ from x0)
              have hx1 := Grew.cell hG' (show wr.drew.cell? _ = _ from x1)
              have hx2 := Grew.cell hG' (show wr.drew.cell? _ = _ from x2)
              have hx3 := Grew.cell hG' (show wr.drew.cell? _ = _ from x3)
              go_simp <;> with_reducible rfl
            simp only [List.setIfInBounds_toArray, List.set_cons_zero, List.set_cons_succ]
            refine wpAnyG_step 10 48 rfl (by kernel_rfl) rfl (by rfl) (fun K hK' => ?_)
            go_simp
            refine (hC.out _).mono ?_
            rintro e w2 ⟨rfl, k2⟩
            refine hK' _ _ (fun _ => k2) ?_
            clear hK'
            simp only [List.setIfInBounds_toArray, List.set_cons_zero, List.set_cons_succ]
            refine wpAnyG_pure 11 49 (v := ?_) rfl (by kernel_rfl) rfl (by rfl) (fun w' => ?_) ?_
            rotate_left
            · go_simp <;> with_reducible rfl
            simp only [List.setIfInBounds_toArray, List.set_cons_zero, List.set_cons_succ]
            refine wpAnyG_done (by kernel_rfl) ?_
            have hI2 : Hid (RowF w2 g n gg ∧ Kept (· = g) w w2 ∧ CI f gg kk (k + j)) := ⟨(hI.out.1.grew (Kept.refl (fun _ => False) wr).drew).grew k2, hI.out.2.1.trans (show Grew wr w2 from (Kept.refl (fun _ => False) wr).drew.trans k2).kept, hI.out.2.2⟩
            clear hI k2 x0 x1 x2 x3 hC
            cases b with
            | true =>
              have hI3 : Hid (RowF w2 g n gg ∧ Kept (· = g) w w2 ∧ CI f gg kk (k + (j + 1))) := ⟨hI2.out.1, hI2.out.2.1, hI2.out.2.2.dup (by
                rw [HJ.out, HY.out, HQ.out]
                have := HB.out
                simpa using this)⟩
              clear hI2 HB HY HQ HJ
              go_wp2_with fail
              go_roundw
              case rel => exact ⟨kk, j + 1, gg, ⟨by omega, by omega, by omega⟩, by go_num, by go_num, hI3⟩
              case measure => simp [intOf]; omega
            | false =>
              have x0 := hI2.out.1.c0 iL
              have x1 := hI2.out.1.c1 iL
              rw [hI2.out.2.2.rest _ (by omega), Nat.add_mul] at x0 x1
              rw [HY.out] at x0 x1
              simp only at x0 x1
              have y0 := hI2.out.1.c0 kL
              have y1 := hI2.out.1.c1 kL
              have z0 := hI2.out.1.frozen (kk * 2)
              have z1 := hI2.out.1.frozen (kk * 2 + 1)
              have hI3 : Hid (RowF ((w2.setCell ⟨g, kk * 2, none⟩ (i64 p1)).setCell ⟨g, kk * 2 + 1, none⟩ (.int .u64 p2)) g n (updR gg kk (f (k + j))) ∧ Kept (· = g) w ((w2.setCell ⟨g, kk * 2, none⟩ (i64 p1)).setCell ⟨g, kk * 2 + 1, none⟩ (.int .u64 p2)) ∧ CI f (updR gg kk (f (k + j))) (kk + 1) (k + (j + 1))) := by
                refine ⟨?_, ((hI2.out.2.1.setCell (p := ⟨g, kk * 2, none⟩) (.inl rfl) _).setCell (p := ⟨g, kk * 2 + 1, none⟩) (.inl rfl) _), hI2.out.2.2.new (by
                  rw [HJ.out, HY.out, HQ.out]
                  have := HB.out
                  simpa using this)⟩
                rw [HY.out]
                exact hI2.out.1.set kL p1 p2
              obtain ⟨g3, hg3⟩ : ∃ q, updR gg kk (f (k + j)) = q := ⟨_, rfl⟩
              rw [hg3] at hI3
              clear hI2 HB HY HQ HJ hg3
              go_wp2_with fail
              go_roundw
              case rel => exact ⟨kk + 1, j + 1, g3, ⟨by omega, by omega, by omega⟩, by go_num, by go_num, hI3⟩
              case measure => simp [intOf]; omega
          · obtain rfl : j = N2 := by omega
            have kn : kk < n := by omega
            have m1 : (kk : Int) ≤ (n : Int) := by omega
            have m2 : (kk : Int) ≤ (cap : Int) := by omega
            have hcn : ∀ q : Nat, q < (n - kk) * 2 → (wr.cell? ⟨g, kk * 2 + q, none⟩).isSome = true := fun q hq => by
              have e : kk * 2 + q = (kk + q / 2) * 2 ∨ kk * 2 + q = (kk + q / 2) * 2 + 1 := by omega
              rcases e with e | e
              · rw [e, hI.out.1.c0 (show kk + q / 2 < n by omega)]; rfl
              · rw [e, hI.out.1.c1 (show kk + q / 2 < n by omega)]; rfl
            obtain ⟨L, hL⟩ := run_clear_arcs wr g (kk * 2) (n - kk) (cap - kk) (by omega) hcn (fun q _ => hI.out.1.frozen _)
            have hr : Hid ((Kp f n).length = kk ∧ RowA (wr.setCells g (kk * 2) L) (some ⟨g, 0, none⟩) (Kp f n) ∧ Kept (· = g) w (wr.setCells g (kk * 2) L)) := by
              have hc := hI.out.2.2
              rw [hN2d] at hc
              exact ⟨hc.len, hI.out.1.listc (by omega) hc.len hc.get L, Kept.setCells (F := (· = g)) (.inl rfl) L _ _ hI.out.2.1⟩
            clear hI hcn
            go_wp2_with fail
            go_ret
            rw [hr.out.1]
            exact ⟨rfl, hr.out.2⟩
    · obtain rfl : k = n := by omega
      have hr : Hid ((Kp f k).length = k ∧ RowA wr (some ⟨g, 0, none⟩) (Kp f k) ∧ Kept (· = g) w wr) := by
        obtain ⟨h3, h4⟩ := Kp_all f k hS.out.2.2
        exact ⟨h3, hS.out.1.list (Nat.le_refl _) h3 h4, hS.out.2.1.kept⟩
      clear hS
      go_wp2_with fail
      go_ret
      rw [hr.out.1]
      exact ⟨rfl, hr.out.2⟩
end Go.Proofs.Ythbcgdogmkgebaa
