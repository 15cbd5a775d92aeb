/- adj.laid, by from. -/
import Derived.Test.YtmpnaleenehkgaaLaidC
namespace Go.Proofs.Ytmpnaleenehkgaa
open Go.RowKit
set_option maxHeartbeats 4000000 in
set_option maxRecDepth 100000 in
theorem laid_from (kf : Edg → Int) (key : Nat → Nat) (n : Nat) (A : Option Addr) (c : Nat) (es : List Edg) (w : World) (h : RowE w A es) (hl : es.length ≤ 70000) (hn : n ≤ 60000)
    (hcall : ∀ p q r W, Calls Try.prog 24 #[.agg #[i64 p, i64 q, u64 r]] W fun e W' => e = .returned (i64 (kf (p, q, r))) ∧ Grew W W')
    (hkey : ∀ k e, es[k]? = some e → kf e = (key k : Int) ∧ key k < n) :
    Calls Try.prog 23 #[i64 n, .slice A es.length c, .func (.func 24) #[] #[]] w fun e w' => ∃ gE gB f, e = .returned (rowsV gE gB n es.length) ∧ Laid w' gE gB n es.length key f ∧ Grew w w' ∧ w.heap.size ≤ gE ∧ w.heap.size ≤ gB := by
  obtain ⟨m, hm⟩ : ∃ m, es.length = m := ⟨_, rfl⟩
  have HM := Lib.hid hm
  rw [hm] at hl
  rw [hm]
  obtain ⟨i0, hi, hz0, hz1, hz2⟩ := info_parts info_int
  have hmk := fun W => run_make (P := Try.prog) W 32 3 i0 _ Try.underlying32 hi hz0 .i64 .i64 (m : Int) (m : Int) (by omega) (Int.le_refl _) (by rw [hz2]; omega) (by omega)
  have hmk2 := fun W => run_make (P := Try.prog) W 32 3 i0 _ Try.underlying32 hi hz0 .i64 .i64 ((n : Int) + 1) ((n : Int) + 1) (by omega) (Int.le_refl _) (by rw [hz2]; omega) (by omega)
  have hn1 : ((n : Int) + 1).toNat = n + 1 := by omega
  simp only [Int.toNat_natCast, hz1, Nat.mul_one, hn1] at hmk hmk2
  clear hi hz0 hz1 hz2 hn1
  have HE := Lib.hid h
  have HC := Lib.hid hcall
  have HK := Lib.hid hkey
  have HKN : Hid (∀ j, j < m → key j < n) := fun j hj => (hkey j _ (List.getElem?_eq_getElem (by omega))).2
  clear h hcall hkey hm
  go_enter Try.func23, Try.ntmps23
  go_upto_region 1 with fail
  obtain ⟨w0, hw0⟩ : ∃ w0, w.alloc (.cells #[.slice none 0 0, .slice none 0 0] 51) = w0 := ⟨_, rfl⟩
  have k0 : Grew w w0 := by rw [← hw0]; exact (Kept.refl _ _).alloc _
  have b6 : Blk w0 w.heap.size 51 #[.slice none 0 0, .slice none 0 0] := by rw [← hw0]; exact Blk.new w _ _
  rw [hw0]
  clear hw0
  have z0 := k0.size
  have z6 := b6.lt
  have K0 := Lib.hid k0
  have B6 := Lib.hid b6
  clear k0 b6
  obtain ⟨r6, hr6⟩ : ∃ r6, w.heap.size = r6 := ⟨_, rfl⟩
  have HR6 := Lib.hid hr6
  rw [hr6] at z0 z6 B6 ⊢
  clear hr6
  go_cut [7] (fun s7 wx => ∃ gR gE gB : Nat, s7 = .pointer (some ⟨gR, 0, none⟩) ∧ gR ≠ gE ∧ gR ≠ gB ∧ gE ≠ gB ∧ w0.heap.size ≤ gR ∧ w0.heap.size ≤ gE ∧ w0.heap.size ≤ gB ∧ Hid (Blk wx gR 51 #[rowV gE m, rowV gB (n + 1)] ∧ IntsF wx gE m (fun _ => 0) ∧ IntsF wx gB (n + 1) (fun _ => 0) ∧ Grew w0 wx))
  case first =>
    go_region
    all_goals go_wp2_with fail
    all_goals go_meet
    all_goals first
      | exact ⟨w0.heap.size , w0.heap.size + 1, w0.heap.size + 1 + 1, rfl, by omega, by omega, by omega, by omega, by omega, by omega, (three _ _ _ _).1, made_of (three _ _ _ _).2.1, made_of (three _ _ _ _).2.2.1, (three _ _ _ _).2.2.2⟩
      | exact ⟨w0.heap.size , w0.heap.size + 1 + 1, w0.heap.size + 1, rfl, by omega, by omega, by omega, by omega, by omega, by omega, (three _ _ _ _).1, made_of (three _ _ _ _).2.2.1, made_of (three _ _ _ _).2.1, (three _ _ _ _).2.2.2⟩
      | exact ⟨w0.heap.size + 1, w0.heap.size , w0.heap.size + 1 + 1, rfl, by omega, by omega, by omega, by omega, by omega, by omega, (three _ _ _ _).2.1, made_of (three _ _ _ _).1, made_of (three _ _ _ _).2.2.1, (three _ _ _ _).2.2.2⟩
      | exact ⟨w0.heap.size + 1, w0.heap.size + 1 + 1, w0.heap.size , rfl, by omega, by omega, by omega, by omega, by omega, by omega, (three _ _ _ _).2.1, made_of (three _ _ _ _).2.2.1, made_of (three _ _ _ _).1, (three _ _ _ _).2.2.2⟩
      | exact ⟨w0.heap.size + 1 + 1, w0.heap.size , w0.heap.size + 1, rfl, by omega, by omega, by omega, by omega, by omega, by omega, (three _ _ _ _).2.2.1, made_of (three _ _ _ _).1, made_of (three _ _ _ _).2.1, (three _ _ _ _).2.2.2⟩
      | exact ⟨w0.heap.size + 1 + 1, w0.heap.size + 1, w0.heap.size , rfl, by omega, by omega, by omega, by omega, by omega, by omega, (three _ _ _ _).2.2.1, made_of (three _ _ _ _).2.1, made_of (three _ _ _ _).1, (three _ _ _ _).2.2.2⟩
  case rest =>
    obtain ⟨gR, gE, gB, rfl, n1, n2, n3, g1, g2, g3, HS⟩ := hcut
    clear hmk hmk2
    have n1' : ¬ gE = gR := fun h => n1 h.symm
    have n2' : ¬ gB = gR := fun h => n2 h.symm
    have n3' : ¬ gB = gE := fun h => n3 h.symm
    have e1 : ¬ r6 = gR := by omega
    have e2 : ¬ r6 = gE := by omega
    have e3 : ¬ r6 = gB := by omega
    have hP : Hid (P1 w wc gR gE gB r6 n m (fun _ => 0) (bg1 key 0)) := ⟨HS.out.1, HS.out.2.1, HS.out.2.2.1.congr (fun i _ => by unfold bg1; simp [cnt]), B6.out.grew HS.out.2.2.2, K0.out.trans HS.out.2.2.2⟩
    have gw1 : w.heap.size ≤ gR := by rw [HR6.out]; omega
    have gw2 : w.heap.size ≤ gE := by rw [HR6.out]; omega
    have gw3 : w.heap.size ≤ gB := by rw [HR6.out]; omega
    clear HS K0 B6 z0 g1 g2 g3
    go_wp2_with fail
    go_loopw [9, 24] (fun u9 i wr => ∃ k : Nat, k ≤ m ∧ i = .int .i64 k ∧ Hid (P1 w wr gR gE gB r6 n m (fun _ => 0) (bg1 key k))) (fun _ i _ => m - (intOf i).toNat)
    case atStart => exact ⟨0, by omega, rfl, hP⟩
    case round =>
      clear hP
      obtain ⟨k, hk, rfl, hP⟩ := hrel
      by_cases hlt : k < m
      · obtain ⟨x, hx⟩ : ∃ x, es[k]? = some x := ⟨_, List.getElem?_eq_getElem (by rw [HM.out]; exact hlt)⟩
        obtain ⟨b, off, hAe, hb, c0, c1, c2⟩ := HE.out k x hx
        have hkk := HK.out k x hx
        have hv1 := hkk.2
        obtain ⟨p, q, r⟩ := x
        subst hAe
        replace c0 := hP.out.kept.cell c0
        replace c1 := hP.out.kept.cell c1
        replace c2 := hP.out.kept.cell c2
        dsimp only at c0 c1 c2
        have HC1 := Lib.hid (fun W => HC.out p q r W)
        rw [hkk.1] at HC1
        have hs1 := Lib.hid (bg1_step key k)
        have hbd := bg1_bd key k (key k + 1)
        obtain ⟨v, hv⟩ : ∃ v, key k = v := ⟨_, rfl⟩
        rw [hv] at HC1 hs1 hbd hv1
        obtain ⟨y, hy⟩ : ∃ y, bg1 key k (v + 1) = y := ⟨_, rfl⟩
        rw [hy] at hbd
        have HY := Lib.hid hy
        obtain ⟨y0, y1⟩ := hbd
        have v0 : (0 : Int) ≤ (v : Int) + 1 := by omega
        have v1 : (v : Int) + 1 < (n : Int) + 1 := by omega
        have k0 : (0 : Int) ≤ (k : Int) := by omega
        have k1 : (k : Int) < (m : Int) := by omega
        have wv : IntKind.i64.wrap ((v : Int) + 1) = (v : Int) + 1 := IntWalk.i64_in _ (by omega)
        have wy : IntKind.i64.wrap (y + 1) = y + 1 := IntWalk.i64_in _ (by omega)
        have tv : ((v : Int) + 1).toNat = v + 1 := by omega
        clear hx hkk hv hy
        go_wp2_with fail
        obtain ⟨w2, hw2⟩ : ∃ w2, wr.alloc (.cells #[i64 p, i64 q, .int .u64 r] 36) = w2 := ⟨_, rfl⟩
        have kw2 : Grew wr w2 := by rw [← hw2]; exact (Kept.refl _ _).alloc _
        have bE : Blk w2 wr.heap.size 36 #[i64 p, i64 q, .int .u64 r] := by rw [← hw2]; exact Blk.new wr _ _
        rw [hw2]
        clear hw2
        have bR := hP.out.bR.grew kw2
        have iB := hP.out.iB.grew kw2
        refine wp_region_grow [10] (fun _ => False) (by kernel_rfl) ?_
        simp only [List.size_toArray, List.length_cons, List.length_nil, Nat.reduceAdd]
        refine wpAnyG_pure 0 28 (v := ?_) rfl (by kernel_rfl) rfl (by rfl) (fun w' => ?_) ?_
        rotate_left
        · go_simp <;> with_reducible rfl
        simp only [List.setIfInBounds_toArray, List.set_cons_zero, List.set_cons_succ]
        refine wpAnyG_take 1 29 (v := ?_) rfl (by kernel_rfl) rfl (by rfl) (fun w' hG' => ?_) ?_
        rotate_left
        · have hx0 := (bR.drew.grew hG').cell 1
          have hx1 := (bE.drew.grew hG').cell 0
          have hx2 := (bE.drew.grew hG').cell 1
          have hx3 := (bE.drew.grew hG').cell 2
          simp at hx0 hx1 hx2 hx3
          go_simp <;> with_reducible rfl
        simp only [List.setIfInBounds_toArray, List.set_cons_zero, List.set_cons_succ]
        refine wpAnyG_pure 2 30 (v := ?_) rfl (by kernel_rfl) rfl (by rfl) (fun w' => ?_) ?_
        rotate_left
        · go_simp <;> with_reducible rfl
        simp only [List.setIfInBounds_toArray, List.set_cons_zero, List.set_cons_succ]
        refine wpAnyG_take 3 31 (v := ?_) rfl (by kernel_rfl) rfl (by rfl) (fun w' hG' => ?_) ?_
        rotate_left
        · have hx0 := (bR.drew.grew hG').cell 1
          have hx1 := (bE.drew.grew hG').cell 0
          have hx2 := (bE.drew.grew hG').cell 1
          have hx3 := (bE.drew.grew hG').cell 2
          simp at hx0 hx1 hx2 hx3
          go_simp <;> with_reducible rfl
        simp only [List.setIfInBounds_toArray, List.set_cons_zero, List.set_cons_succ]
        refine wpAnyG_step 4 32 rfl (by kernel_rfl) rfl (by rfl) (fun K hK' => ?_)
        go_simp
        refine (HC1.out _).mono ?_
        rintro e w3 ⟨rfl, k3⟩
        have iB3 := iB.drew.grew k3
        have bR3 := bR.drew.grew k3
        refine hK' _ _ (fun _ => k3) ?_
        clear hK'
        simp only [List.setIfInBounds_toArray, List.set_cons_zero, List.set_cons_succ]
        refine wpAnyG_pure 5 33 (v := ?_) rfl (by kernel_rfl) rfl (by rfl) (fun w' => ?_) ?_
        rotate_left
        · go_simp <;> with_reducible rfl
        simp only [List.setIfInBounds_toArray, List.set_cons_zero, List.set_cons_succ]
        refine wpAnyG_pure 6 34 (v := ?_) rfl (by kernel_rfl) rfl (by rfl) (fun w' => ?_) ?_
        rotate_left
        · go_simp <;> with_reducible rfl
        simp only [List.setIfInBounds_toArray, List.set_cons_zero, List.set_cons_succ]
        refine wpAnyG_take 7 35 (v := ?_) rfl (by kernel_rfl) rfl (by rfl) (fun w' hG' => ?_) ?_
        rotate_left
        · have hx0 := (iB3.grew hG').cell (i := v + 1) (by omega)
          rw [HY.out] at hx0
          go_simp <;> with_reducible rfl
        simp only [List.setIfInBounds_toArray, List.set_cons_zero, List.set_cons_succ]
        refine wpAnyG_pure 8 36 (v := ?_) rfl (by kernel_rfl) rfl (by rfl) (fun w' => ?_) ?_
        rotate_left
        · go_simp <;> with_reducible rfl
        simp only [List.setIfInBounds_toArray, List.set_cons_zero, List.set_cons_succ]
        refine wpAnyG_pure 9 37 (v := ?_) rfl (by kernel_rfl) rfl (by rfl) (fun w' => ?_) ?_
        rotate_left
        · go_simp <;> with_reducible rfl
        simp only [List.setIfInBounds_toArray, List.set_cons_zero, List.set_cons_succ]
        refine wpAnyG_store 10 rfl (by kernel_rfl) rfl (by rfl) (fun K hK' => ?_)
        have hx0 := iB3.cell (i := v + 1) (by omega)
        have hx1 := iB3.frozen (v + 1)
        rw [HY.out] at hx0
        go_simp
        refine hK' _ (fun h => absurd (by simp) h) ?_
        clear hK'
        refine wpAnyG_done (by kernel_rfl) ?_
        have hP3 := Lib.hid (((hP.out.grew kw2).grew ((Kept.refl (fun _ => False) _).drew.trans k3)).setB n2' n3' e3 gw3 (show v + 1 < n + 1 by omega) (y + 1) (by rw [hs1.out.2, HY.out]) hs1.out.1)
        clear hP bE bR iB iB3 bR3 k3 kw2 c0 c1 c2
        go_wp2_with fail
        go_roundw
        case rel => exact ⟨k + 1, by omega, by go_num, hP3⟩
        case measure => simp [intOf]; omega
      · obtain rfl : m = k := by omega
        have hP0 : Hid (P1 w wr gR gE gB r6 n m (fun _ => 0) (bg2 key m 0)) := by
          rw [← bg2_start]; exact hP.out
        clear hP
        go_wp2_with fail
        go_loopw [10, 40] (fun u10 i wr => ∃ v : Nat, v ≤ n ∧ i = .int .i64 v ∧ Hid (P1 w wr gR gE gB r6 n m (fun _ => 0) (bg2 key m v))) (fun _ i _ => n - (intOf i).toNat)
        case atStart => exact ⟨0, by omega, rfl, hP0⟩
        case round =>
          clear hP0
          obtain ⟨v, hv, rfl, hP⟩ := hrel
          by_cases hlt : v < n
          · have bR := hP.out.bR
            have iB := hP.out.iB
            have hs1 := Lib.hid (bg2_step key m v)
            have q1 := bg2_bd key m n v (v + 1) HKN.out (by omega)
            have q2 := bg2_bd key m n v v HKN.out (by omega)
            obtain ⟨y1, hy1⟩ : ∃ y, bg2 key m v (v + 1) = y := ⟨_, rfl⟩
            obtain ⟨y2, hy2⟩ : ∃ y, bg2 key m v v = y := ⟨_, rfl⟩
            rw [hy1] at q1
            rw [hy2] at q2
            have HY1 := Lib.hid hy1
            have HY2 := Lib.hid hy2
            obtain ⟨a0, a1⟩ := q1
            obtain ⟨a2, a3⟩ := q2
            have v0 : (0 : Int) ≤ (v : Int) + 1 := by omega
            have v1 : (v : Int) + 1 < (n : Int) + 1 := by omega
            have v2 : (0 : Int) ≤ (v : Int) := by omega
            have v3 : (v : Int) < (n : Int) + 1 := by omega
            have v4 : (v : Int) < (n : Int) := by omega
            have wv : IntKind.i64.wrap ((v : Int) + 1) = (v : Int) + 1 := IntWalk.i64_in _ (by omega)
            have wy : IntKind.i64.wrap (y1 + y2) = y1 + y2 := IntWalk.i64_in _ (by omega)
            have tv : ((v : Int) + 1).toNat = v + 1 := by omega
            clear hy1 hy2
            go_wp2_with fail
            refine wp_region_grow [13] (fun _ => False) (by kernel_rfl) ?_
            simp only [List.size_toArray, List.length_cons, List.length_nil, Nat.reduceAdd]
            refine wpAnyG_pure 0 43 (v := ?_) rfl (by kernel_rfl) rfl (by rfl) (fun w' => ?_) ?_
            rotate_left
            · go_simp <;> with_reducible rfl
            simp only [List.setIfInBounds_toArray, List.set_cons_zero, List.set_cons_succ]
            refine wpAnyG_take 1 44 (v := ?_) rfl (by kernel_rfl) rfl (by rfl) (fun w' hG' => ?_) ?_
            rotate_left
            · have hx0 := (bR.drew.grew hG').cell 1
              have hx1 := (iB.drew.grew hG').cell (i := v + 1) (by omega)
              have hx2 := (iB.drew.grew hG').cell (i := v) (by omega)
              rw [HY1.out] at hx1
              rw [HY2.out] at hx2
              simp at hx0
              go_simp <;> with_reducible rfl
            simp only [List.setIfInBounds_toArray, List.set_cons_zero, List.set_cons_succ]
            refine wpAnyG_pure 2 45 (v := ?_) rfl (by kernel_rfl) rfl (by rfl) (fun w' => ?_) ?_
            rotate_left
            · go_simp <;> with_reducible rfl
            simp only [List.setIfInBounds_toArray, List.set_cons_zero, List.set_cons_succ]
            refine wpAnyG_pure 3 46 (v := ?_) rfl (by kernel_rfl) rfl (by rfl) (fun w' => ?_) ?_
            rotate_left
            · go_simp <;> with_reducible rfl
            simp only [List.setIfInBounds_toArray, List.set_cons_zero, List.set_cons_succ]
            refine wpAnyG_pure 4 47 (v := ?_) rfl (by kernel_rfl) rfl (by rfl) (fun w' => ?_) ?_
            rotate_left
            · go_simp <;> with_reducible rfl
            simp only [List.setIfInBounds_toArray, List.set_cons_zero, List.set_cons_succ]
            refine wpAnyG_take 5 48 (v := ?_) rfl (by kernel_rfl) rfl (by rfl) (fun w' hG' => ?_) ?_
            rotate_left
            · have hx0 := (bR.drew.grew hG').cell 1
              have hx1 := (iB.drew.grew hG').cell (i := v + 1) (by omega)
              have hx2 := (iB.drew.grew hG').cell (i := v) (by omega)
              rw [HY1.out] at hx1
              rw [HY2.out] at hx2
              simp at hx0
              go_simp <;> with_reducible rfl
            simp only [List.setIfInBounds_toArray, List.set_cons_zero, List.set_cons_succ]
            refine wpAnyG_pure 6 49 (v := ?_) rfl (by kernel_rfl) rfl (by rfl) (fun w' => ?_) ?_
            rotate_left
            · go_simp <;> with_reducible rfl
            simp only [List.setIfInBounds_toArray, List.set_cons_zero, List.set_cons_succ]
            refine wpAnyG_take 7 50 (v := ?_) rfl (by kernel_rfl) rfl (by rfl) (fun w' hG' => ?_) ?_
            rotate_left
            · have hx0 := (bR.drew.grew hG').cell 1
              have hx1 := (iB.drew.grew hG').cell (i := v + 1) (by omega)
              have hx2 := (iB.drew.grew hG').cell (i := v) (by omega)
              rw [HY1.out] at hx1
              rw [HY2.out] at hx2
              simp at hx0
              go_simp <;> with_reducible rfl
            simp only [List.setIfInBounds_toArray, List.set_cons_zero, List.set_cons_succ]
            refine wpAnyG_pure 8 51 (v := ?_) rfl (by kernel_rfl) rfl (by rfl) (fun w' => ?_) ?_
            rotate_left
            · go_simp <;> with_reducible rfl
            simp only [List.setIfInBounds_toArray, List.set_cons_zero, List.set_cons_succ]
            refine wpAnyG_pure 9 52 (v := ?_) rfl (by kernel_rfl) rfl (by rfl) (fun w' => ?_) ?_
            rotate_left
            · go_simp <;> with_reducible rfl
            simp only [List.setIfInBounds_toArray, List.set_cons_zero, List.set_cons_succ]
            refine wpAnyG_take 10 53 (v := ?_) rfl (by kernel_rfl) rfl (by rfl) (fun w' hG' => ?_) ?_
            rotate_left
            · have hx0 := (bR.drew.grew hG').cell 1
              have hx1 := (iB.drew.grew hG').cell (i := v + 1) (by omega)
              have hx2 := (iB.drew.grew hG').cell (i := v) (by omega)
              rw [HY1.out] at hx1
              rw [HY2.out] at hx2
              simp at hx0
              go_simp <;> with_reducible rfl
            simp only [List.setIfInBounds_toArray, List.set_cons_zero, List.set_cons_succ]
            refine wpAnyG_pure 11 54 (v := ?_) rfl (by kernel_rfl) rfl (by rfl) (fun w' => ?_) ?_
            rotate_left
            · go_simp <;> with_reducible rfl
            simp only [List.setIfInBounds_toArray, List.set_cons_zero, List.set_cons_succ]
            refine wpAnyG_pure 12 55 (v := ?_) rfl (by kernel_rfl) rfl (by rfl) (fun w' => ?_) ?_
            rotate_left
            · go_simp <;> with_reducible rfl
            simp only [List.setIfInBounds_toArray, List.set_cons_zero, List.set_cons_succ]
            refine wpAnyG_store 13 rfl (by kernel_rfl) rfl (by rfl) (fun K hK' => ?_)
            have hx1 := iB.drew.frozen (v + 1)
            have hx2 := iB.drew.cell (i := v + 1) (by omega)
            go_simp
            refine hK' _ (fun h => absurd (by simp) h) ?_
            clear hK'
            refine wpAnyG_done (by kernel_rfl) ?_
            have hP3 := Lib.hid ((hP.out.grew ((Kept.refl (fun _ => False) _).drew)).setB n2' n3' e3 gw3 (show v + 1 < n + 1 by omega) (y1 + y2) (by rw [hs1.out.2, HY1.out, HY2.out]) hs1.out.1)
            clear hP bR iB
            go_wp2_with fail
            go_roundw
            case rel => exact ⟨v + 1, by omega, by go_num, hP3⟩
            case measure => simp [intOf]; omega
          · obtain rfl : n = v := by omega
            have c1 := hP.out.bR.cell 1
            simp at c1
            have hPn : Hid (P1 w wr gR gE gB r6 n m (fun _ => 0) (fun v => (pre key m v : Int))) := ⟨hP.out.bR, hP.out.iE, hP.out.iB.congr (fun i hi => by unfold bg2; rw [if_pos (by omega)]), hP.out.b6, hP.out.kept⟩
            have hCl := iclone_any wr (some ⟨gB, 0, none⟩) (n + 1) ((List.range (n + 1)).map (fun v => (pre key m v : Int))) (hPn.out.iB.row _ (fun i z hz => by
              obtain ⟨h1, rfl⟩ := List.getElem?_eq_some_iff.1 hz
              rw [List.length_map, List.length_range] at h1
              rw [List.getElem_map, List.getElem_range, Nat.zero_add]
              exact ⟨h1, rfl⟩)) (fun h => by cases h) (by simp; omega)
            rw [List.length_map, List.length_range] at hCl
            have hCl := Lib.hid hCl
            clear hP
            go_wp2_with fail
            refine hCl.out.mono ?_
            rintro e w5 ⟨u, rfl, o5, k5⟩
            obtain ⟨gA, cA, rfl, hgA, iA⟩ := o5.intsF (by omega)
            have hlt4 := hPn.out.lt
            have hwz := hPn.out.kept.size
            have m1 : gA ≠ gR := by omega
            have m2 : gA ≠ gE := by omega
            have m3 : gA ≠ gB := by omega
            have m4 : gA ≠ r6 := by omega
            have gw4 : w.heap.size ≤ gA := by omega
            have hQ : Hid (∃ f : Nat → Int, P1 w w5 gR gE gB r6 n m f (fun v => (pre key m v : Int)) ∧ IntsF w5 gA (n + 1) (atF key m 0) ∧ ∀ j, j < 0 → f (pre key m (key j) + cnt key (key j) j) = (j : Int)) :=
              ⟨_, hPn.out.grew k5, iA.congr (fun i _ => by unfold atF; simp [cnt]), fun j hj => by omega⟩
            clear hPn hCl o5 iA k5 hgA hlt4 hwz c1
            go_wp2_with fail
            go_loopw [12, 13, 14, 62] (fun u12 u13 u14 i wr => ∃ k : Nat, k ≤ m ∧ i = .int .i64 k ∧ Hid (∃ f : Nat → Int, P1 w wr gR gE gB r6 n m f (fun v => (pre key m v : Int)) ∧ IntsF wr gA (n + 1) (atF key m k) ∧ ∀ j, j < k → f (pre key m (key j) + cnt key (key j) j) = (j : Int))) (fun _ _ _ i _ => m - (intOf i).toNat)
            case atStart => exact ⟨0, by omega, rfl, hQ⟩
            case round =>
              clear hQ
              obtain ⟨k, hk, rfl, hQ⟩ := hrel
              obtain ⟨f, hP, iA, hf⟩ := hQ.out
              have hP := Lib.hid hP
              have hf := Lib.hid hf
              have iA := Lib.hid iA
              clear hQ
              by_cases hlt : k < m
              · obtain ⟨x, hx⟩ : ∃ x, es[k]? = some x := ⟨_, List.getElem?_eq_getElem (by rw [HM.out]; exact hlt)⟩
                obtain ⟨b, off, hAe, hb, c0, c1, c2⟩ := HE.out k x hx
                have hkk := HK.out k x hx
                have hv1 := hkk.2
                obtain ⟨p, q, r⟩ := x
                subst hAe
                replace c0 := hP.out.kept.cell c0
                replace c1 := hP.out.kept.cell c1
                replace c2 := hP.out.kept.cell c2
                dsimp only at c0 c1 c2
                have HC1 := Lib.hid (fun W => HC.out p q r W)
                rw [hkk.1] at HC1
                have hs1 := Lib.hid (atF_step key m k)
                have hpl := place_lt HKN.out hlt
                have hpp := Lib.hid (put_place hlt hf.out)
                obtain ⟨v, hv⟩ : ∃ v, key k = v := ⟨_, rfl⟩
                rw [hv] at HC1 hs1 hpl hpp hv1
                obtain ⟨a, ha⟩ : ∃ a, pre key m v + cnt key v k = a := ⟨_, rfl⟩
                rw [ha] at hpl hpp
                have HAT : Hid (atF key m k v = (a : Int)) := by show _ = _; unfold atF; rw [ha]
                have a0 : (0 : Int) ≤ (a : Int) := by omega
                have a1 : (a : Int) < (m : Int) := by omega
                have v0 : (0 : Int) ≤ (v : Int) := by omega
                have v1 : (v : Int) < (n : Int) + 1 := by omega
                have k0 : (0 : Int) ≤ (k : Int) := by omega
                have k1 : (k : Int) < (m : Int) := by omega
                have wa : IntKind.i64.wrap ((a : Int) + 1) = (a : Int) + 1 := IntWalk.i64_in _ (by omega)
                clear hx hkk hv ha
                have bE := Blk.new wr 36 #[i64 p, i64 q, .int .u64 r]
                have d0 := bE.cell 0
                have d1 := bE.cell 1
                have d2 := bE.cell 2
                simp at d0 d1 d2
                go_wp2_with fail
                refine (HC1.out _).mono ?_
                rintro e w3 ⟨rfl, k3⟩
                have k3 : Grew wr w3 := ((Kept.refl _ _).alloc _).trans k3
                have hP3 := Lib.hid (hP.out.grew k3)
                have iA3 := Lib.hid (iA.out.grew k3)
                have bR := hP3.out.bR
                clear hP iA k3 c0 c1 c2 d0 d1 d2 bE
                go_wp2_with fail
                refine wp_region_grow [8] (fun _ => False) (by kernel_rfl) ?_
                simp only [List.size_toArray, List.length_cons, List.length_nil, Nat.reduceAdd]
                refine wpAnyG_pure 0 70 (v := ?_) rfl (by kernel_rfl) rfl (by rfl) (fun w' => ?_) ?_
                rotate_left
                · go_simp <;> with_reducible rfl
                simp only [List.setIfInBounds_toArray, List.set_cons_zero, List.set_cons_succ]
                refine wpAnyG_take 1 71 (v := ?_) rfl (by kernel_rfl) rfl (by rfl) (fun w' hG' => ?_) ?_
                rotate_left
                · have hx0 := (bR.drew.grew hG').cell 0
                  simp at hx0
                  go_simp <;> with_reducible rfl
                simp only [List.setIfInBounds_toArray, List.set_cons_zero, List.set_cons_succ]
                refine wpAnyG_pure 2 72 (v := ?_) rfl (by kernel_rfl) rfl (by rfl) (fun w' => ?_) ?_
                rotate_left
                · go_simp <;> with_reducible rfl
                simp only [List.setIfInBounds_toArray, List.set_cons_zero, List.set_cons_succ]
                refine wpAnyG_pure 3 73 (v := ?_) rfl (by kernel_rfl) rfl (by rfl) (fun w' => ?_) ?_
                rotate_left
                · go_simp <;> with_reducible rfl
                simp only [List.setIfInBounds_toArray, List.set_cons_zero, List.set_cons_succ]
                refine wpAnyG_pure 4 74 (v := ?_) rfl (by kernel_rfl) rfl (by rfl) (fun w' => ?_) ?_
                rotate_left
                · go_simp <;> with_reducible rfl
                simp only [List.setIfInBounds_toArray, List.set_cons_zero, List.set_cons_succ]
                refine wpAnyG_take 5 75 (v := ?_) rfl (by kernel_rfl) rfl (by rfl) (fun w' hG' => ?_) ?_
                rotate_left
                · have hx1 := (iA3.out.drew.grew hG').cell (i := v) (by omega)
                  rw [HAT.out] at hx1
                  go_simp <;> with_reducible rfl
                simp only [List.setIfInBounds_toArray, List.set_cons_zero, List.set_cons_succ]
                refine wpAnyG_pure 6 76 (v := ?_) rfl (by kernel_rfl) rfl (by rfl) (fun w' => ?_) ?_
                rotate_left
                · go_simp <;> with_reducible rfl
                simp only [List.setIfInBounds_toArray, List.set_cons_zero, List.set_cons_succ]
                refine wpAnyG_pure 7 77 (v := ?_) rfl (by kernel_rfl) rfl (by rfl) (fun w' => ?_) ?_
                rotate_left
                · go_simp <;> with_reducible rfl
                simp only [List.setIfInBounds_toArray, List.set_cons_zero, List.set_cons_succ]
                refine wpAnyG_store 8 rfl (by kernel_rfl) rfl (by rfl) (fun K hK' => ?_)
                have hx1 := hP3.out.iE.drew.frozen a
                have hx2 := hP3.out.iE.drew.cell (i := a) hpl
                go_simp
                refine hK' _ (fun h => absurd (by simp) h) ?_
                clear hK'
                refine wpAnyG_done (by kernel_rfl) ?_
                have hP4 := Lib.hid ((hP3.out.setE n1' n3 e2 gw2 hpl (k : Int) (show (fun i => if i = a then (k : Int) else f i) a = (k : Int) by simp) (fun j hj => if_neg hj)).grew ((Kept.refl (fun _ => False) _).drew))
                have iA4 := Lib.hid ((iA3.out.far (p := ⟨gE, a, none⟩) m2 (i64 (k : Int))).drew)
                have c4 := iA4.out.cell (i := v) (by omega)
                have f4 := iA4.out.frozen v
                rw [HAT.out] at c4
                clear hP3 iA3 bR
                go_wp2_with fail
                go_roundw
                case rel =>
                  refine ⟨k + 1, by omega, by go_num, _, hP4.out.setA m1 m2 m3 m4 gw4 v _, ?_, hpp.out⟩
                  exact iA4.out.set (by omega) _ (by rw [hs1.out.2, HAT.out]) (fun j _ => hs1.out.1 j)
                case measure => simp [intOf]; omega
              · obtain rfl : m = k := by omega
                have hL : Hid (Laid wr gE gB n m key f) := ⟨hP.out.iB, hP.out.iE, hf.out, HKN.out⟩
                have hKw := Lib.hid hP.out.kept
                have hb6 := hP.out.b6
                have hbR := hP.out.bR
                have c0 := hbR.cell 0
                have c1 := hbR.cell 1
                have f0 := hb6.frozen 0
                have f1 := hb6.frozen 1
                have d0 := hb6.cell 0
                have d1 := hb6.cell 1
                simp at c0 c1 d0 d1
                have hw6 : w.heap.size ≤ r6 := by rw [HR6.out]; exact Nat.le_refl _
                clear hP hf iA
                go_wp2_with fail
                have q0 := ((hb6.set 0 (rowV gE m)).set 1 (rowV gB (n + 1))).cell 0
                have q1 := ((hb6.set 0 (rowV gE m)).set 1 (rowV gB (n + 1))).cell 1
                simp at q0 q1
                have hF : Kept (· = r6) wr ((wr.setCell ⟨r6, 0, none⟩ (rowV gE m)).setCell ⟨r6, 1, none⟩ (rowV gB (n + 1))) := ((Kept.refl (· = r6) wr).setCell (p := ⟨r6, 0, none⟩) (.inl rfl) _).setCell (p := ⟨r6, 1, none⟩) (.inl rfl) _
                refine bodyPost_ret (v := .agg #[rowV gE m, rowV gB (n + 1)]) (by simp [results, Try.results23, go_sem, q0, q1]) rfl ⟨gE, gB, f, rfl, ?_, ?_, gw2, gw3⟩
                · exact hL.out.kept hF (fun h => e2 h.symm) (fun h => e3 h.symm)
                · exact hKw.out.then hF (fun i hi h => by have : i = r6 := h; omega)
end Go.Proofs.Ytmpnaleenehkgaa
