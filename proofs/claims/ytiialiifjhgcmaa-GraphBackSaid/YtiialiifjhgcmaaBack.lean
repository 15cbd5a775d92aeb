/- The law GraphBack: the walk. -/
import Derived.Test.YtiialiifjhgcmaaBackPlain
namespace Go.Proofs.Ytiialiifjhgcmaa
open Go.RowKit

theorem info_bool : (Try.prog.info? 4).map (fun i => (i.zero, i.size, i.bytes)) = some (some (.bool false), 1, 1) := by kernel_rfl
theorem rowB_of {w : World} {g n : Nat} {t : TypeId} {cs : Array Value} (h : Blk w g t cs) (hv : ∀ i, i < n → cs[i]? = some (.bool true)) : RowB w (some ⟨g, 0, none⟩) n (fun _ => true) :=
  fun i hi => ⟨g, 0, rfl, h.lt, by rw [Nat.zero_add, h.cell]; exact hv i hi⟩

set_option maxHeartbeats 8000000 in
set_option maxRecDepth 100000 in
theorem back_main (n : Nat) (A : Option Addr) (c : Nat) (es : List Edg) (e x : Int) (w : World) (hRow : RowE w A es) (hl : es.length ≤ 300) (hn : n ≤ 100) (hr : rightF n es = 0) :
    Calls Try.prog 6 #[.agg #[i64 n, .slice A es.length c], i64 e, u64 x] w fun e w' => e = .returned (.bool true) ∧ Grew w w' := by
  have hA := Lib.hid alive_any
  have hLA := Lib.hid (fun W => light_yes n A es.length c W (.inl (by omega)) hl)
  have hR := Lib.hid (fun W h => right_any n A c es W h (by omega))
  rw [hr] at hR
  have hD := Lib.hid (fun W h => deg_turn n A c es W h (by omega) _ _ rfl rfl)
  simp only [hr, if_true, Int.toNat_natCast, degL_length] at hD
  have hW := Lib.hid (with_or n A c es e x (by omega) hr)
  have hWb := Lib.hid (with_back n es)
  have hSu := Lib.hid (fun W K => sub_back n A K c n es (by omega) (by omega) hr W)
  have hV := Lib.hid (fun W => rev_back n es (by omega) hr A c W)
  have hV2 := Lib.hid (rev_again n es (by omega) hr)
  have hT := Lib.hid (fun W h => total_any n A c es W h (by omega))
  have hT2 := Lib.hid (total_again n es (by omega) hr)
  have hG := Lib.hid (gsame_yes n es (by omega))
  obtain ⟨t, ht⟩ : ∃ t, totalF n es = t := ⟨_, rfl⟩
  rw [ht] at hT hT2
  clear ht
  have hS1 := Lib.hid (sumC_all (fun e => e.1) es n (fun e he => by have := (right_mem hr e he).1; simp [nodeOk] at this; omega))
  have hS2 := Lib.hid (sumC_all (fun e => e.2.1) es n (fun e he => by have := (right_mem hr e he).1; simp [nodeOk] at this; omega))
  have hB1 := Lib.hid (sumC_bd (fun e => e.1) es)
  have hB2 := Lib.hid (sumC_bd (fun e => e.2.1) es)
  have hr' := Lib.hid hr
  have hn1 := (right_zero hr).1
  have hl' := Lib.hid hl
  obtain ⟨L, hL⟩ : ∃ L, es.length = L := ⟨_, rfl⟩
  have HL := Lib.hid hL
  rw [hL] at hl hLA hR hD hW hWb hSu hV hV2 hT hT2 hG
  rw [hL]
  clear hr hL
  obtain ⟨i0, hi, hz0, hz1, hz2⟩ := info_parts info_bool
  have hmk := fun W => run_make (P := Try.prog) W 39 4 i0 _ Try.underlying39 hi hz0 .i64 .i64 (n : Int) (n : Int) (by omega) (Int.le_refl _) (by rw [hz2]; omega) (by omega)
  simp only [Int.toNat_natCast, hz1, Nat.mul_one] at hmk
  have bA := Blk.new w 24 #[i64 n, .slice A L c]
  have hK : Grew w (w.alloc (.cells #[i64 n, .slice A L c] 24)) := (Kept.refl _ _).alloc _
  have eA := Lib.hid (hRow.grew hK)
  clear hRow
  have c0 := bA.cell 0
  have c1 := bA.cell 1
  simp at c0 c1
  go_enter Try.func6, Try.ntmps6
  go_wp2_with fail
  refine (hLA.out _).mono ?_
  rintro e wa ⟨rfl, ka⟩
  replace hK := hK.trans ka
  replace bA := bA.grew ka
  replace eA := Lib.hid (eA.out.grew ka)
  replace c0 := bA.cell 0
  replace c1 := bA.cell 1
  simp at c0 c1
  go_wp2_with fail
  refine (hR.out _ eA.out).mono ?_
  rintro e wb ⟨rfl, kb⟩
  replace hK := hK.trans kb
  replace bA := bA.grew kb
  replace eA := Lib.hid (eA.out.grew kb)
  replace c0 := bA.cell 0
  replace c1 := bA.cell 1
  simp at c0 c1
  go_wp2_with fail
  refine (hD.out _ eA.out).mono ?_
  rintro e wc ⟨A1, q1, A2, q2, rfl, r1, r2, kc⟩
  replace hK := hK.trans kc
  replace bA := bA.grew kc
  replace eA := Lib.hid (eA.out.grew kc)
  replace r1 := Lib.hid r1
  replace r2 := Lib.hid r2
  replace c0 := bA.cell 0
  replace c1 := bA.cell 1
  simp at c0 c1
  have bM := Blk.new wc 4 (madeCells #[.bool false] n)
  have kM : Grew wc (wc.alloc (.cells (madeCells #[.bool false] n) 4)) := (Kept.refl _ _).alloc _
  obtain ⟨gM, hgM⟩ : ∃ gM, wc.heap.size = gM := ⟨_, rfl⟩
  rw [hgM] at bM
  have hkp : Hid (∃ cs : Array Value, Blk (wc.alloc (.cells (madeCells #[.bool false] n) 4)) gM 4 cs ∧ cs.size = n ∧ ∀ i, i < 0 → cs[i]? = some (.bool true)) := ⟨_, bM, by rw [size_madeCells], fun i hi => by omega⟩
  have hgM' := Lib.hid hgM
  have cA : ∀ o, (wc.alloc o).cell? ⟨w.heap.size, 0, none⟩ = some (i64 n) := fun o => (bA.alloc o).cell 0
  clear kc kb ka bM hLA hR hD
  go_wp2_with fail
  go_loopw [9, 10, 12] (fun s t i wr => ∃ (k : Nat) (a b : Int), k ≤ n ∧ i = .int .i64 k ∧ s = .int .i64 a ∧ t = .int .i64 b ∧ Hid (a = sumC (fun e => e.1) es k) ∧ Hid (b = sumC (fun e => e.2.1) es k) ∧ Hid (∃ cs : Array Value, Blk wr gM 4 cs ∧ cs.size = n ∧ ∀ i, i < k → cs[i]? = some (.bool true)) ∧ Grew wc wr) (fun s t i _ => n - (intOf i).toNat)
  case atStart => exact ⟨0, 0, 0, by omega, rfl, rfl, rfl, rfl, rfl, hkp, kM⟩
  case round =>
    clear hkp kM c0 c1
    obtain ⟨k, a, b, hk, rfl, rfl, rfl, ha, hb, hkp, kW⟩ := hrel
    have bA' := bA.grew kW
    have c0 := bA'.cell 0
    have c1 := bA'.cell 1
    simp at c0 c1
    have ha1 := hB1.out k
    have hb1 := hB2.out k
    rw [HL.out, ← ha.out] at ha1
    rw [HL.out, ← hb.out] at hb1
    have hkL : (k : Int) * (L : Int) ≤ 30000 := by
      have h1 : (k : Int) * (L : Int) ≤ 100 * (L : Int) := Int.mul_le_mul_of_nonneg_right (by omega) (by omega)
      omega
    have ha2 := ha1.1
    have ha3 : a ≤ 30000 := by omega
    have hb2 := hb1.1
    have hb3 : b ≤ 30000 := by omega
    clear ha1 hb1 hkL
    by_cases hlt : k < n
    · obtain ⟨b1, o1, hA1, hb1, e1⟩ := (r1.out.grew kW) k _ (degL_get (fun e => e.1) es n k hlt)
      obtain ⟨b2, o2, hA2, hb2', e2⟩ := (r2.out.grew kW) k _ (degL_get (fun e => e.2.1) es n k hlt)
      obtain ⟨m1, hm1⟩ : ∃ m, es.countP (fun e => e.1 == (k : Int)) = m := ⟨_, rfl⟩
      obtain ⟨m2, hm2⟩ : ∃ m, es.countP (fun e => e.2.1 == (k : Int)) = m := ⟨_, rfl⟩
      have hx1 : m1 ≤ 300 := by rw [← hm1]; exact Nat.le_trans List.countP_le_length hl'.out
      have hx2 : m2 ≤ 300 := by rw [← hm2]; exact Nat.le_trans List.countP_le_length hl'.out
      rw [hm1] at e1
      rw [hm2] at e2
      have ha4 : Hid (a + (m1 : Int) = sumC (fun e => e.1) es (k + 1)) := by show _ = _; rw [sumC, hm1, ha.out]
      have hb4 : Hid (b + (m2 : Int) = sumC (fun e => e.2.1) es (k + 1)) := by show _ = _; rw [sumC, hm2, hb.out]
      obtain ⟨cs, bM, hcs, hcv⟩ := hkp.out
      obtain ⟨y, hy⟩ : ∃ y, cs[k]? = some y := ⟨_, Array.getElem?_eq_getElem (by omega)⟩
      have a0 := (bM.cell k).trans hy
      have af := bM.frozen k
      have hcs' := Lib.hid hcs
      have hcv' := Lib.hid hcv
      have hk0 : (0 : Int) ≤ (k : Int) := by omega
      have hk1 : (k : Int) < (n : Int) := by omega
      subst hA1
      subst hA2
      clear hcs hcv hy hm1 hm2 hkp
      go_wp2_with fail
      go_roundw
      case rel =>
        refine ⟨k + 1, a + m1, b + m2, by omega, by go_num, rfl, rfl, ha4, hb4, ⟨_, bM.set k (.bool true), by simpa using hcs'.out, fun i hi => ?_⟩, kW.setCell (p := ⟨gM, k, none⟩) (.inr (by rw [hgM'.out]; exact Nat.le_refl _)) _⟩
        rcases Nat.lt_or_ge i k with hik | hik
        · rw [Array.getElem?_setIfInBounds_ne (by omega)]; exact hcv'.out i hik
        · obtain rfl : i = k := by omega
          exact Array.getElem?_setIfInBounds_self_of_lt (by rw [hcs'.out]; omega)
      case measure => simp [intOf]; omega
    · obtain rfl : k = n := by omega
      have haL : a = (L : Int) := by rw [ha.out, hS1.out, HL.out]
      have hbL : b = (L : Int) := by rw [hb.out, hS2.out, HL.out]
      subst haL
      subst hbL
      obtain ⟨cs0, bM0, hcs0, hcv0⟩ := hkp.out
      have rK := Lib.hid (rowB_of bM0 hcv0)
      clear hcs0 hcv0 bM0
      replace eA := Lib.hid (eA.out.grew kW)
      replace hK := hK.trans kW
      replace bA := bA'
      clear hkp hS1 hS2 hB1 hB2 ha hb kW r1 r2 bA' ha2 ha3 hb2 hb3 hgM' hmk hlt
      go_wp2_with fail
      refine (hW.out _ eA.out).mono ?_
      rintro r w1 (⟨q, X1, y1, rfl, hq, hx, rfl, x1, k1⟩ | ⟨V0, v1, f, hf, rfl, k1⟩)
      · skip
        obtain ⟨x0, hx0⟩ : ∃ x0, (es.getD q (0, 0, 0)).2.2 = x0 := ⟨_, rfl⟩
        have hqe : q < es.length := by rw [HL.out]; exact hq
        have hB := Lib.hid (hWb.out q x (by have := hl'.out; omega) hr'.out hq hx)
        rw [hx0] at hB
        obtain ⟨p0, q0, hpq⟩ : ∃ p0 q0, es[q]? = some (p0, q0, x0) := ⟨_, _, by rw [List.getElem?_eq_getElem hqe, ← hx0, List.getD_eq_getElem?_getD, List.getElem?_eq_getElem hqe]; rfl⟩
        have hsw : (setW es q x)[q]? = some (p0, q0, x) := by rw [setW_getD es q x hqe, List.getD_eq_getElem?_getD, hpq]; rfl
        have hq0 : (0 : Int) ≤ (q : Int) := by omega
        have hq1 : (q : Int) < (L : Int) := by omega
        replace hK := (hK.trans k1).alloc (.cells #[i64 k, .slice X1 L y1] 24)
        replace bA := (bA.grew k1).alloc (.cells #[i64 k, .slice X1 L y1] 24)
        replace eA := Lib.hid ((eA.out.grew k1).grew ((Kept.refl _ _).alloc (.cells #[i64 k, .slice X1 L y1] 24)))
        have rK1 : Hid (RowB (w1.alloc (.cells #[i64 k, .slice X1 L y1] 24)) _ _ _) := (rK.out.kept k1 (fun _ _ h => h)).kept (Kept.refl (fun _ => False) _ |>.alloc (.cells #[i64 k, .slice X1 L y1] 24)) (fun _ _ h => h)
        have x1' := Lib.hid (x1.grew ((Kept.refl _ _).alloc (.cells #[i64 k, .slice X1 L y1] 24)))
        have b1 := Blk.new w1 24 #[i64 k, .slice X1 L y1]
        clear hW hWb x1 k1 hx hx0 hqe rK
        replace c0 := bA.cell 0
        replace c1 := bA.cell 1
        simp at c0 c1
        go_upto_region 16 with fail
        go_cut [15, 16] (fun s15 s16 wx => ∃ (gB : Nat) (X : Option Addr) (y : Nat), s15 = .pointer (some ⟨gB, 0, none⟩) ∧ s16 = i64 0 ∧ Blk wx gB 24 #[i64 k, .slice X L y] ∧ Hid (RowE wx X es) ∧ Grew (w1.alloc (.cells #[i64 k, .slice X1 L y1] 24)) wx)
        case first =>
          have xD := Lib.hid (x1'.out.grew (Kept.refl _ _).drew)
          obtain ⟨bo, off, hA0, hbq, _, _, e2⟩ := (eA.out.grew (Kept.refl _ _).drew) q _ hpq
          subst hA0
          refine wp_region_grow [] (fun j => (w1.alloc (.cells #[i64 k, .slice X1 L y1] 24)).heap.size ≤ j) (by kernel_rfl) ?_
          simp only [List.size_toArray, List.length_cons, List.length_nil, Nat.reduceAdd]
          refine wpAnyG_take 0 79 (v := ?_) rfl (by kernel_rfl) rfl (by rfl) (fun w' hG' => ?_) ?_
          rotate_left
          · have hx0 := (b1.drew.kept hG' (fun h => absurd b1.lt (Nat.not_lt.2 h))).cell 0
            have hx1 := (b1.drew.kept hG' (fun h => absurd b1.lt (Nat.not_lt.2 h))).cell 1
            simp at hx0 hx1
            go_simp <;> with_reducible rfl
          simp only [List.setIfInBounds_toArray, List.set_cons_zero, List.set_cons_succ]
          refine wpAnyG_pure 1 80 (v := ?_) rfl (by kernel_rfl) rfl (by rfl) (fun w' => ?_) ?_
          rotate_left
          · go_simp <;> with_reducible rfl
          simp only [List.setIfInBounds_toArray, List.set_cons_zero, List.set_cons_succ]
          refine wpAnyG_pure 2 81 (v := ?_) rfl (by kernel_rfl) rfl (by rfl) (fun w' => ?_) ?_
          rotate_left
          · go_simp <;> with_reducible rfl
          simp only [List.setIfInBounds_toArray, List.set_cons_zero, List.set_cons_succ]
          refine wpAnyG_take 3 82 (v := ?_) rfl (by kernel_rfl) rfl (by rfl) (fun w' hG' => ?_) ?_
          rotate_left
          · have hx0 := (bA.drew.kept hG' (fun h => absurd bA.lt (Nat.not_lt.2 h))).cell 0
            have hx1 := (bA.drew.kept hG' (fun h => absurd bA.lt (Nat.not_lt.2 h))).cell 1
            simp at hx0 hx1
            go_simp <;> with_reducible rfl
          simp only [List.setIfInBounds_toArray, List.set_cons_zero, List.set_cons_succ]
          refine wpAnyG_pure 4 83 (v := ?_) rfl (by kernel_rfl) rfl (by rfl) (fun w' => ?_) ?_
          rotate_left
          · go_simp <;> with_reducible rfl
          simp only [List.setIfInBounds_toArray, List.set_cons_zero, List.set_cons_succ]
          refine wpAnyG_pure 5 84 (v := ?_) rfl (by kernel_rfl) rfl (by rfl) (fun w' => ?_) ?_
          rotate_left
          · go_simp <;> with_reducible rfl
          simp only [List.setIfInBounds_toArray, List.set_cons_zero, List.set_cons_succ]
          refine wpAnyG_pure 6 85 (v := ?_) rfl (by kernel_rfl) rfl (by rfl) (fun w' => ?_) ?_
          rotate_left
          · go_simp <;> with_reducible rfl
          simp only [List.setIfInBounds_toArray, List.set_cons_zero, List.set_cons_succ]
          refine wpAnyG_take 7 86 (v := ?_) rfl (by kernel_rfl) rfl (by rfl) (fun w' hG' => ?_) ?_
          rotate_left
          · have hx2 := hG'.cell e2 (fun h => absurd hbq (Nat.not_lt.2 h))
            go_simp <;> with_reducible rfl
          simp only [List.setIfInBounds_toArray, List.set_cons_zero, List.set_cons_succ]
          refine wpAnyG_two 8 87 12 15 rfl rfl (by kernel_rfl) rfl rfl (by rfl) (by rfl) (fun K hK' => ?_) (fun K hK' => ?_)
          · skip
            go_simp
            refine (hB.out _ _ _ xD.out).mono ?_
            rintro r z1 ⟨X2, y2, rfl, x2, hn2, kz⟩
            refine hK' _ _ (fun _ => kz.kept) ?_
            clear hK'
            simp only [List.setIfInBounds_toArray, List.set_cons_zero, List.set_cons_succ]
            refine wpAnyG_pure 9 78 (v := ?_) rfl (by kernel_rfl) rfl (by rfl) (fun w' => ?_) ?_
            rotate_left
            · go_simp <;> with_reducible rfl
            simp only [List.setIfInBounds_toArray, List.set_cons_zero, List.set_cons_succ]
            refine wpAnyG_pure 10 88 (v := ?_) rfl (by kernel_rfl) rfl (by rfl) (fun w' => ?_) ?_
            rotate_left
            · go_simp <;> with_reducible rfl
            simp only [List.setIfInBounds_toArray, List.set_cons_zero, List.set_cons_succ]
            refine wpAnyG_pure 11 89 (v := ?_) rfl (by kernel_rfl) rfl (by rfl) (fun w' => ?_) ?_
            rotate_left
            · go_simp <;> with_reducible rfl
            simp only [List.setIfInBounds_toArray, List.set_cons_zero, List.set_cons_succ]
            refine wpAnyG_step 12 15 rfl (by kernel_rfl) rfl (by rfl) (fun K hK' => ?_)
            go_simp
            refine hK' _ _ (fun _ => (Kept.refl _ _).alloc _) ?_
            clear hK'
            simp only [List.setIfInBounds_toArray, List.set_cons_zero, List.set_cons_succ]
            refine wpAnyG_store 13 rfl (by kernel_rfl) rfl (by rfl) (fun K hK' => ?_)
            go_simp
            have hkz := kz.size
            refine hK' _ (fun _ => Kept.realloc (by show _ ≤ z1.heap.size; simpa using hkz)) ?_
            clear hK'
            refine wpAnyG_pure 14 16 (v := ?_) rfl (by kernel_rfl) rfl (by rfl) (fun w' => ?_) ?_
            rotate_left
            · go_simp <;> with_reducible rfl
            simp only [List.setIfInBounds_toArray, List.set_cons_zero, List.set_cons_succ]
            refine wpAnyG_done (by kernel_rfl) ?_
            go_wp2_with fail
            go_meet
            exact ⟨z1.heap.size, X2, y2, rfl, rfl, Blk.new _ _ _, x2.grew ((Kept.refl _ _).alloc _), ((Kept.refl _ _).drew.trans kz).alloc _⟩
          · skip
            go_simp
            refine hK' _ _ (fun _ => (Kept.refl _ _).alloc _) ?_
            clear hK'
            simp only [List.setIfInBounds_toArray, List.set_cons_zero, List.set_cons_succ]
            refine wpAnyG_step 8 87 rfl (by kernel_rfl) rfl (by rfl) (fun K hK' => ?_)
            go_simp
            refine (hB.out _ _ _ (xD.out.grew ((Kept.refl _ _).alloc _))).mono ?_
            rintro r z1 ⟨X2, y2, rfl, x2, hn2, kz⟩
            have bW := (Blk.new (w1.alloc (.cells #[i64 k, .slice X1 L y1] 24)).drew 24 #[i64 0, .slice none 0 0]).grew kz
            simp only [World.size_drew, World.size_alloc] at bW hn2
            have v0 := bW.cell 0
            have v1 := bW.cell 1
            have u0 := bW.frozen 0
            have u1 := bW.frozen 1
            simp at v0 v1
            refine hK' _ _ (fun _ => kz.kept) ?_
            clear hK'
            simp only [List.setIfInBounds_toArray, List.set_cons_zero, List.set_cons_succ]
            refine wpAnyG_pure 9 78 (v := ?_) rfl (by kernel_rfl) rfl (by rfl) (fun w' => ?_) ?_
            rotate_left
            · go_simp <;> with_reducible rfl
            simp only [List.setIfInBounds_toArray, List.set_cons_zero, List.set_cons_succ]
            refine wpAnyG_pure 10 88 (v := ?_) rfl (by kernel_rfl) rfl (by rfl) (fun w' => ?_) ?_
            rotate_left
            · go_simp <;> with_reducible rfl
            simp only [List.setIfInBounds_toArray, List.set_cons_zero, List.set_cons_succ]
            refine wpAnyG_pure 11 89 (v := ?_) rfl (by kernel_rfl) rfl (by rfl) (fun w' => ?_) ?_
            rotate_left
            · go_simp <;> with_reducible rfl
            simp only [List.setIfInBounds_toArray, List.set_cons_zero, List.set_cons_succ]
            refine wpAnyG_store 13 rfl (by kernel_rfl) rfl (by rfl) (fun K hK' => ?_)
            go_simp
            refine hK' _ (fun _ => ((Kept.refl _ _).setCell (p := ⟨(w1.heap.size + 1), 0, none⟩) (.inl (by show (w1.alloc (.cells #[i64 k, .slice X1 L y1] 24)).heap.size ≤ _; simp)) _).setCell (p := ⟨(w1.heap.size + 1), 1, none⟩) (.inl (by show (w1.alloc (.cells #[i64 k, .slice X1 L y1] 24)).heap.size ≤ _; simp)) _) ?_
            clear hK'
            refine wpAnyG_pure 14 16 (v := ?_) rfl (by kernel_rfl) rfl (by rfl) (fun w' => ?_) ?_
            rotate_left
            · go_simp <;> with_reducible rfl
            simp only [List.setIfInBounds_toArray, List.set_cons_zero, List.set_cons_succ]
            refine wpAnyG_done (by kernel_rfl) ?_
            go_wp2_with fail
            go_meet
            have hkb : Grew (w1.alloc (.cells #[i64 k, .slice X1 L y1] 24)) z1 := ((Kept.refl _ _).drew.alloc _).trans kz
            refine ⟨w1.heap.size + 1, X2, y2, rfl, rfl, (bW.set 0 (i64 k)).set 1 _, ?_, (hkb.setCell (p := ⟨(w1.heap.size + 1), 0, none⟩) (.inr (by show (w1.alloc (.cells #[i64 k, .slice X1 L y1] 24)).heap.size ≤ _; simp)) _).setCell (p := ⟨(w1.heap.size + 1), 1, none⟩) (.inr (by show (w1.alloc (.cells #[i64 k, .slice X1 L y1] 24)).heap.size ≤ _; simp)) _⟩
            exact x2.kept (((Kept.refl (· = (w1.heap.size + 1)) z1).setCell (p := ⟨(w1.heap.size + 1), 0, none⟩) (.inl rfl) _).setCell (p := ⟨(w1.heap.size + 1), 1, none⟩) (.inl rfl) _) (fun a ha h => by have := hn2 a ha; have h' : a.block = w1.heap.size + 1 := h; omega)
        case rest =>
          obtain ⟨gB, X2, y2, rfl, rfl, bB, x2, k2⟩ := hcut
          replace hK := hK.trans k2
          replace bA := bA.grew k2
          replace eA := Lib.hid (eA.out.grew k2)
          replace b1 := b1.grew k2
          replace x1' := Lib.hid (x1'.out.grew k2)
          replace rK1 := Lib.hid (rK1.out.kept k2 (fun _ _ h => h))
          replace c0 := bA.cell 0
          replace c1 := bA.cell 1
          simp at c0 c1
          have d0 := bB.cell 0
          have d1 := bB.cell 1
          simp at d0 d1
          clear hB k2
          go_wp2_with fail
          refine (hG.out _ _ _ _ _ x2.out eA.out).mono ?_
          rintro r w2 ⟨rfl, k3⟩
          replace hK := hK.trans k3
          replace bA := bA.grew k3
          replace eA := Lib.hid (eA.out.grew k3)
          replace b1 := b1.grew k3
          replace rK1 := Lib.hid (rK1.out.kept k3 (fun _ _ h => h))
          obtain ⟨bo, off, hA0, hbq, f0, f1, f2⟩ := (x1'.out.grew k3) q _ hsw
          subst hA0
          replace c0 := bA.cell 0
          replace c1 := bA.cell 1
          simp at c0 c1
          have g0 := b1.cell 0
          have g1 := b1.cell 1
          simp at g0 g1
          clear k3 d0 d1 x2 bB x1' b1 hsw hpq
          go_wp2_with fail
          refine (hSu.out _ _ eA.out rK1.out).mono ?_
          rintro r w5 ⟨X5, y5, U, z, rfl, x5, k5⟩
          have hKb := ((hK.trans k5).alloc (.cells #[i64 k, .slice X5 L y5] 24)).drew
          have bA0 := ((bA.grew k5).alloc (.cells #[i64 k, .slice X5 L y5] 24)).drew
          have eA0 := Lib.hid ((((eA.out.grew k5).grew ((Kept.refl _ _).alloc (.cells #[i64 k, .slice X5 L y5] 24)))).grew (Kept.refl _ _).drew)
          have s5 := Lib.hid ((x5.grew ((Kept.refl _ _).alloc (.cells #[i64 k, .slice X5 L y5] 24))).grew (Kept.refl _ _).drew)
          have bS0 := (Blk.new w5 24 #[i64 k, .slice X5 L y5]).drew
          clear c0 c1 bA eA hK k5 x5 rK1
          go_wp2_with fail
          refine wp_region_grow [] (fun _ => False) (by kernel_rfl) ?_
          simp only [List.size_toArray, List.length_cons, List.length_nil, Nat.reduceAdd]
          refine wpAnyG_take 0 114 (v := ?_) rfl (by kernel_rfl) rfl (by rfl) (fun w' hG' => ?_) ?_
          rotate_left
          · have hx0 := (bA0.grew hG').cell 0
            have hx1 := (bA0.grew hG').cell 1
            simp at hx0 hx1
            go_simp <;> with_reducible rfl
          simp only [List.setIfInBounds_toArray, List.set_cons_zero, List.set_cons_succ]
          refine wpAnyG_take 3 117 (v := ?_) rfl (by kernel_rfl) rfl (by rfl) (fun w' hG' => ?_) ?_
          rotate_left
          · have hx0 := (bA0.grew hG').cell 0
            have hx1 := (bA0.grew hG').cell 1
            simp at hx0 hx1
            go_simp <;> with_reducible rfl
          simp only [List.setIfInBounds_toArray, List.set_cons_zero, List.set_cons_succ]
          refine wpAnyG_step 1 115 rfl (by kernel_rfl) rfl (by rfl) (fun K hK' => ?_)
          go_simp
          refine (hV.out _ eA0.out).mono ?_
          rintro e z1 ⟨V1, y1, rfl, o1, k1⟩
          have bA1 := bA0.grew k1
          have bS1 := bS0.grew k1
          have eA1 := Lib.hid (eA0.out.grew k1)
          replace s5 := Lib.hid (s5.out.grew k1)
          replace o1 := Lib.hid o1
          refine hK' _ _ (fun _ => k1) ?_
          clear hK'
          simp only [List.setIfInBounds_toArray, List.set_cons_zero, List.set_cons_succ]
          refine wpAnyG_step 2 116 rfl (by kernel_rfl) rfl (by rfl) (fun K hK' => ?_)
          go_simp
          refine (hV2.out _ _ _ o1.out).mono ?_
          rintro e z2 ⟨V2, y2, rfl, o2, k2⟩
          have bA2 := bA1.grew k2
          have bS2 := bS1.grew k2
          have eA2 := Lib.hid (eA1.out.grew k2)
          replace s5 := Lib.hid (s5.out.grew k2)
          replace o2 := Lib.hid o2
          refine hK' _ _ (fun _ => k2) ?_
          clear hK'
          simp only [List.setIfInBounds_toArray, List.set_cons_zero, List.set_cons_succ]
          refine wpAnyG_step 4 118 rfl (by kernel_rfl) rfl (by rfl) (fun K hK' => ?_)
          go_simp
          refine (hG.out _ _ _ _ _ o2.out eA2.out).mono ?_
          rintro e z3 ⟨rfl, k3⟩
          have bA3 := bA2.grew k3
          have bS3 := bS2.grew k3
          have eA3 := Lib.hid (eA2.out.grew k3)
          replace s5 := Lib.hid (s5.out.grew k3)
          refine hK' _ _ (fun _ => k3) ?_
          clear hK'
          simp only [List.setIfInBounds_toArray, List.set_cons_zero, List.set_cons_succ]
          refine wpAnyG_pure 5 119 (v := ?_) rfl (by kernel_rfl) rfl (by rfl) (fun w' => ?_) ?_
          rotate_left
          · go_simp <;> with_reducible rfl
          simp only [List.setIfInBounds_toArray, List.set_cons_zero, List.set_cons_succ]
          refine wpAnyG_pure 6 120 (v := ?_) rfl (by kernel_rfl) rfl (by rfl) (fun w' => ?_) ?_
          rotate_left
          · go_simp <;> with_reducible rfl
          simp only [List.setIfInBounds_toArray, List.set_cons_zero, List.set_cons_succ]
          refine wpAnyG_pure 7 121 (v := ?_) rfl (by kernel_rfl) rfl (by rfl) (fun w' => ?_) ?_
          rotate_left
          · go_simp <;> with_reducible rfl
          simp only [List.setIfInBounds_toArray, List.set_cons_zero, List.set_cons_succ]
          refine wpAnyG_take 8 122 (v := ?_) rfl (by kernel_rfl) rfl (by rfl) (fun w' hG' => ?_) ?_
          rotate_left
          · have hx0 := (bA3.grew hG').cell 0
            have hx1 := (bA3.grew hG').cell 1
            simp at hx0 hx1
            go_simp <;> with_reducible rfl
          simp only [List.setIfInBounds_toArray, List.set_cons_zero, List.set_cons_succ]
          refine wpAnyG_pure 9 123 (v := ?_) rfl (by kernel_rfl) rfl (by rfl) (fun w' => ?_) ?_
          rotate_left
          · go_simp <;> with_reducible rfl
          simp only [List.setIfInBounds_toArray, List.set_cons_zero, List.set_cons_succ]
          refine wpAnyG_pure 10 124 (v := ?_) rfl (by kernel_rfl) rfl (by rfl) (fun w' => ?_) ?_
          rotate_left
          · go_simp <;> with_reducible rfl
          simp only [List.setIfInBounds_toArray, List.set_cons_zero, List.set_cons_succ]
          refine wpAnyG_pure 11 125 (v := ?_) rfl (by kernel_rfl) rfl (by rfl) (fun w' => ?_) ?_
          rotate_left
          · go_simp <;> with_reducible rfl
          simp only [List.setIfInBounds_toArray, List.set_cons_zero, List.set_cons_succ]
          refine wpAnyG_pure 12 126 (v := ?_) rfl (by kernel_rfl) rfl (by rfl) (fun w' => ?_) ?_
          rotate_left
          · go_simp <;> with_reducible rfl
          simp only [List.setIfInBounds_toArray, List.set_cons_zero, List.set_cons_succ]
          refine wpAnyG_pure 13 127 (v := ?_) rfl (by kernel_rfl) rfl (by rfl) (fun w' => ?_) ?_
          rotate_left
          · go_simp <;> with_reducible rfl
          simp only [List.setIfInBounds_toArray, List.set_cons_zero, List.set_cons_succ]
          refine wpAnyG_pure 14 128 (v := ?_) rfl (by kernel_rfl) rfl (by rfl) (fun w' => ?_) ?_
          rotate_left
          · go_simp <;> with_reducible rfl
          simp only [List.setIfInBounds_toArray, List.set_cons_zero, List.set_cons_succ]
          refine wpAnyG_take 15 129 (v := ?_) rfl (by kernel_rfl) rfl (by rfl) (fun w' hG' => ?_) ?_
          rotate_left
          · have hx0 := (bA3.grew hG').cell 0
            have hx1 := (bA3.grew hG').cell 1
            simp at hx0 hx1
            go_simp <;> with_reducible rfl
          simp only [List.setIfInBounds_toArray, List.set_cons_zero, List.set_cons_succ]
          refine wpAnyG_pure 16 130 (v := ?_) rfl (by kernel_rfl) rfl (by rfl) (fun w' => ?_) ?_
          rotate_left
          · go_simp <;> with_reducible rfl
          simp only [List.setIfInBounds_toArray, List.set_cons_zero, List.set_cons_succ]
          refine wpAnyG_pure 17 131 (v := ?_) rfl (by kernel_rfl) rfl (by rfl) (fun w' => ?_) ?_
          rotate_left
          · go_simp <;> with_reducible rfl
          simp only [List.setIfInBounds_toArray, List.set_cons_zero, List.set_cons_succ]
          refine wpAnyG_pure 18 132 (v := ?_) rfl (by kernel_rfl) rfl (by rfl) (fun w' => ?_) ?_
          rotate_left
          · go_simp <;> with_reducible rfl
          simp only [List.setIfInBounds_toArray, List.set_cons_zero, List.set_cons_succ]
          refine wpAnyG_pure 19 133 (v := ?_) rfl (by kernel_rfl) rfl (by rfl) (fun w' => ?_) ?_
          rotate_left
          · go_simp <;> with_reducible rfl
          simp only [List.setIfInBounds_toArray, List.set_cons_zero, List.set_cons_succ]
          refine wpAnyG_take 20 134 (v := ?_) rfl (by kernel_rfl) rfl (by rfl) (fun w' hG' => ?_) ?_
          rotate_left
          · have hx0 := (bS3.grew hG').cell 0
            have hx1 := (bS3.grew hG').cell 1
            simp at hx0 hx1
            go_simp <;> with_reducible rfl
          simp only [List.setIfInBounds_toArray, List.set_cons_zero, List.set_cons_succ]
          refine wpAnyG_take 21 135 (v := ?_) rfl (by kernel_rfl) rfl (by rfl) (fun w' hG' => ?_) ?_
          rotate_left
          · have hx0 := (bA3.grew hG').cell 0
            have hx1 := (bA3.grew hG').cell 1
            simp at hx0 hx1
            go_simp <;> with_reducible rfl
          simp only [List.setIfInBounds_toArray, List.set_cons_zero, List.set_cons_succ]
          refine wpAnyG_step 22 136 rfl (by kernel_rfl) rfl (by rfl) (fun K hK' => ?_)
          go_simp
          refine (hG.out _ _ _ _ _ s5.out eA3.out).mono ?_
          rintro e z4 ⟨rfl, k4⟩
          have bA4 := bA3.grew k4
          have bS4 := bS3.grew k4
          have eA4 := Lib.hid (eA3.out.grew k4)
          replace s5 := Lib.hid (s5.out.grew k4)
          refine hK' _ _ (fun _ => k4) ?_
          clear hK'
          simp only [List.setIfInBounds_toArray, List.set_cons_zero, List.set_cons_succ]
          refine wpAnyG_pure 23 137 (v := ?_) rfl (by kernel_rfl) rfl (by rfl) (fun w' => ?_) ?_
          rotate_left
          · go_simp <;> with_reducible rfl
          simp only [List.setIfInBounds_toArray, List.set_cons_zero, List.set_cons_succ]
          refine wpAnyG_pure 24 138 (v := ?_) rfl (by kernel_rfl) rfl (by rfl) (fun w' => ?_) ?_
          rotate_left
          · go_simp <;> with_reducible rfl
          simp only [List.setIfInBounds_toArray, List.set_cons_zero, List.set_cons_succ]
          refine wpAnyG_pure 25 139 (v := ?_) rfl (by kernel_rfl) rfl (by rfl) (fun w' => ?_) ?_
          rotate_left
          · go_simp <;> with_reducible rfl
          simp only [List.setIfInBounds_toArray, List.set_cons_zero, List.set_cons_succ]
          refine wpAnyG_pure 26 140 (v := ?_) rfl (by kernel_rfl) rfl (by rfl) (fun w' => ?_) ?_
          rotate_left
          · go_simp <;> with_reducible rfl
          simp only [List.setIfInBounds_toArray, List.set_cons_zero, List.set_cons_succ]
          refine wpAnyG_pure 27 141 (v := ?_) rfl (by kernel_rfl) rfl (by rfl) (fun w' => ?_) ?_
          rotate_left
          · go_simp <;> with_reducible rfl
          simp only [List.setIfInBounds_toArray, List.set_cons_zero, List.set_cons_succ]
          refine wpAnyG_take 28 142 (v := ?_) rfl (by kernel_rfl) rfl (by rfl) (fun w' hG' => ?_) ?_
          rotate_left
          · have hx0 := (bA4.grew hG').cell 0
            have hx1 := (bA4.grew hG').cell 1
            simp at hx0 hx1
            go_simp <;> with_reducible rfl
          simp only [List.setIfInBounds_toArray, List.set_cons_zero, List.set_cons_succ]
          refine wpAnyG_pure 29 143 (v := ?_) rfl (by kernel_rfl) rfl (by rfl) (fun w' => ?_) ?_
          rotate_left
          · go_simp <;> with_reducible rfl
          simp only [List.setIfInBounds_toArray, List.set_cons_zero, List.set_cons_succ]
          refine wpAnyG_pure 30 144 (v := ?_) rfl (by kernel_rfl) rfl (by rfl) (fun w' => ?_) ?_
          rotate_left
          · go_simp <;> with_reducible rfl
          simp only [List.setIfInBounds_toArray, List.set_cons_zero, List.set_cons_succ]
          refine wpAnyG_pure 31 145 (v := ?_) rfl (by kernel_rfl) rfl (by rfl) (fun w' => ?_) ?_
          rotate_left
          · go_simp <;> with_reducible rfl
          simp only [List.setIfInBounds_toArray, List.set_cons_zero, List.set_cons_succ]
          refine wpAnyG_take 32 146 (v := ?_) rfl (by kernel_rfl) rfl (by rfl) (fun w' hG' => ?_) ?_
          rotate_left
          · have hx0 := (bA4.grew hG').cell 0
            have hx1 := (bA4.grew hG').cell 1
            simp at hx0 hx1
            go_simp <;> with_reducible rfl
          simp only [List.setIfInBounds_toArray, List.set_cons_zero, List.set_cons_succ]
          refine wpAnyG_take 35 149 (v := ?_) rfl (by kernel_rfl) rfl (by rfl) (fun w' hG' => ?_) ?_
          rotate_left
          · have hx0 := (bA4.grew hG').cell 0
            have hx1 := (bA4.grew hG').cell 1
            simp at hx0 hx1
            go_simp <;> with_reducible rfl
          simp only [List.setIfInBounds_toArray, List.set_cons_zero, List.set_cons_succ]
          refine wpAnyG_step 33 147 rfl (by kernel_rfl) rfl (by rfl) (fun K hK' => ?_)
          go_simp
          refine (hV.out _ eA4.out).mono ?_
          rintro e z5 ⟨V3, y3, rfl, o3, k5⟩
          have bA5 := bA4.grew k5
          have bS5 := bS4.grew k5
          have eA5 := Lib.hid (eA4.out.grew k5)
          replace s5 := Lib.hid (s5.out.grew k5)
          replace o3 := Lib.hid o3
          refine hK' _ _ (fun _ => k5) ?_
          clear hK'
          simp only [List.setIfInBounds_toArray, List.set_cons_zero, List.set_cons_succ]
          refine wpAnyG_step 34 148 rfl (by kernel_rfl) rfl (by rfl) (fun K hK' => ?_)
          go_simp
          refine (hT2.out _ _ _ o3.out).mono ?_
          rintro e z6 ⟨rfl, k6⟩
          have bA6 := bA5.grew k6
          have bS6 := bS5.grew k6
          have eA6 := Lib.hid (eA5.out.grew k6)
          replace s5 := Lib.hid (s5.out.grew k6)
          refine hK' _ _ (fun _ => k6) ?_
          clear hK'
          simp only [List.setIfInBounds_toArray, List.set_cons_zero, List.set_cons_succ]
          refine wpAnyG_step 36 150 rfl (by kernel_rfl) rfl (by rfl) (fun K hK' => ?_)
          go_simp
          refine (hT.out _ eA6.out).mono ?_
          rintro e z7 ⟨rfl, k7⟩
          have bA7 := bA6.grew k7
          have bS7 := bS6.grew k7
          have eA7 := Lib.hid (eA6.out.grew k7)
          replace s5 := Lib.hid (s5.out.grew k7)
          refine hK' _ _ (fun _ => k7) ?_
          clear hK'
          simp only [List.setIfInBounds_toArray, List.set_cons_zero, List.set_cons_succ]
          refine wpAnyG_pure 37 151 (v := ?_) rfl (by kernel_rfl) rfl (by rfl) (fun w' => ?_) ?_
          rotate_left
          · go_simp <;> with_reducible rfl
          simp only [List.setIfInBounds_toArray, List.set_cons_zero, List.set_cons_succ]
          refine wpAnyG_pure 38 152 (v := ?_) rfl (by kernel_rfl) rfl (by rfl) (fun w' => ?_) ?_
          rotate_left
          · go_simp <;> with_reducible rfl
          simp only [List.setIfInBounds_toArray, List.set_cons_zero, List.set_cons_succ]
          refine wpAnyG_pure 39 153 (v := ?_) rfl (by kernel_rfl) rfl (by rfl) (fun w' => ?_) ?_
          rotate_left
          · go_simp <;> with_reducible rfl
          simp only [List.setIfInBounds_toArray, List.set_cons_zero, List.set_cons_succ]
          refine wpAnyG_step 40 154 rfl (by kernel_rfl) rfl (by rfl) (fun K hK' => ?_)
          go_simp
          refine (hA.out _).mono ?_
          rintro e z8 ⟨rfl, k8⟩
          have bA8 := bA7.grew k8
          have bS8 := bS7.grew k8
          have eA8 := Lib.hid (eA7.out.grew k8)
          replace s5 := Lib.hid (s5.out.grew k8)
          refine hK' _ _ (fun _ => k8) ?_
          clear hK'
          simp only [List.setIfInBounds_toArray, List.set_cons_zero, List.set_cons_succ]
          refine wpAnyG_pure 41 155 (v := ?_) rfl (by kernel_rfl) rfl (by rfl) (fun w' => ?_) ?_
          rotate_left
          · go_simp <;> with_reducible rfl
          simp only [List.setIfInBounds_toArray, List.set_cons_zero, List.set_cons_succ]
          refine wpAnyG_pure 42 6 (v := ?_) rfl (by kernel_rfl) rfl (by rfl) (fun w' => ?_) ?_
          rotate_left
          · go_simp <;> with_reducible rfl
          simp only [List.setIfInBounds_toArray, List.set_cons_zero, List.set_cons_succ]
          refine wpAnyG_done (by kernel_rfl) ?_
          go_wp2_with fail
          go_ret
          exact ⟨rfl, (((((((hKb.trans k1).trans k2).trans k3).trans k4).trans k5).trans k6).trans k7).trans k8⟩
      · skip
        replace hK := (hK.trans k1).alloc (.cells #[i64 0, .slice V0 0 v1] 24)
        replace bA := (bA.grew k1).alloc (.cells #[i64 0, .slice V0 0 v1] 24)
        replace eA := Lib.hid ((eA.out.grew k1).grew ((Kept.refl _ _).alloc (.cells #[i64 0, .slice V0 0 v1] 24)))
        replace rK := Lib.hid ((rK.out.kept k1 (fun _ _ h => h)).kept (Kept.refl (fun _ => False) _ |>.alloc (.cells #[i64 0, .slice V0 0 v1] 24)) (fun _ _ h => h))
        clear hW hWb k1
        replace c0 := bA.cell 0
        replace c1 := bA.cell 1
        simp at c0 c1
        go_wp2_with fail
        refine (hSu.out _ _ eA.out rK.out).mono ?_
        rintro r w5 ⟨X5, y5, U, z, rfl, x5, k5⟩
        have hKb := ((hK.trans k5).alloc (.cells #[i64 k, .slice X5 L y5] 24)).drew
        have bA0 := ((bA.grew k5).alloc (.cells #[i64 k, .slice X5 L y5] 24)).drew
        have eA0 := Lib.hid ((((eA.out.grew k5).grew ((Kept.refl _ _).alloc (.cells #[i64 k, .slice X5 L y5] 24)))).grew (Kept.refl _ _).drew)
        have s5 := Lib.hid ((x5.grew ((Kept.refl _ _).alloc (.cells #[i64 k, .slice X5 L y5] 24))).grew (Kept.refl _ _).drew)
        have bS0 := (Blk.new w5 24 #[i64 k, .slice X5 L y5]).drew
        clear c0 c1 bA eA hK k5 x5 rK
        go_wp2_with fail
        refine wp_region_grow [] (fun _ => False) (by kernel_rfl) ?_
        simp only [List.size_toArray, List.length_cons, List.length_nil, Nat.reduceAdd]
        refine wpAnyG_take 0 114 (v := ?_) rfl (by kernel_rfl) rfl (by rfl) (fun w' hG' => ?_) ?_
        rotate_left
        · have hx0 := (bA0.grew hG').cell 0
          have hx1 := (bA0.grew hG').cell 1
          simp at hx0 hx1
          go_simp <;> with_reducible rfl
        simp only [List.setIfInBounds_toArray, List.set_cons_zero, List.set_cons_succ]
        refine wpAnyG_take 3 117 (v := ?_) rfl (by kernel_rfl) rfl (by rfl) (fun w' hG' => ?_) ?_
        rotate_left
        · have hx0 := (bA0.grew hG').cell 0
          have hx1 := (bA0.grew hG').cell 1
          simp at hx0 hx1
          go_simp <;> with_reducible rfl
        simp only [List.setIfInBounds_toArray, List.set_cons_zero, List.set_cons_succ]
        refine wpAnyG_step 1 115 rfl (by kernel_rfl) rfl (by rfl) (fun K hK' => ?_)
        go_simp
        refine (hV.out _ eA0.out).mono ?_
        rintro e z1 ⟨V1, y1, rfl, o1, k1⟩
        have bA1 := bA0.grew k1
        have bS1 := bS0.grew k1
        have eA1 := Lib.hid (eA0.out.grew k1)
        replace s5 := Lib.hid (s5.out.grew k1)
        replace o1 := Lib.hid o1
        refine hK' _ _ (fun _ => k1) ?_
        clear hK'
        simp only [List.setIfInBounds_toArray, List.set_cons_zero, List.set_cons_succ]
        refine wpAnyG_step 2 116 rfl (by kernel_rfl) rfl (by rfl) (fun K hK' => ?_)
        go_simp
        refine (hV2.out _ _ _ o1.out).mono ?_
        rintro e z2 ⟨V2, y2, rfl, o2, k2⟩
        have bA2 := bA1.grew k2
        have bS2 := bS1.grew k2
        have eA2 := Lib.hid (eA1.out.grew k2)
        replace s5 := Lib.hid (s5.out.grew k2)
        replace o2 := Lib.hid o2
        refine hK' _ _ (fun _ => k2) ?_
        clear hK'
        simp only [List.setIfInBounds_toArray, List.set_cons_zero, List.set_cons_succ]
        refine wpAnyG_step 4 118 rfl (by kernel_rfl) rfl (by rfl) (fun K hK' => ?_)
        go_simp
        refine (hG.out _ _ _ _ _ o2.out eA2.out).mono ?_
        rintro e z3 ⟨rfl, k3⟩
        have bA3 := bA2.grew k3
        have bS3 := bS2.grew k3
        have eA3 := Lib.hid (eA2.out.grew k3)
        replace s5 := Lib.hid (s5.out.grew k3)
        refine hK' _ _ (fun _ => k3) ?_
        clear hK'
        simp only [List.setIfInBounds_toArray, List.set_cons_zero, List.set_cons_succ]
        refine wpAnyG_pure 5 119 (v := ?_) rfl (by kernel_rfl) rfl (by rfl) (fun w' => ?_) ?_
        rotate_left
        · go_simp <;> with_reducible rfl
        simp only [List.setIfInBounds_toArray, List.set_cons_zero, List.set_cons_succ]
        refine wpAnyG_pure 6 120 (v := ?_) rfl (by kernel_rfl) rfl (by rfl) (fun w' => ?_) ?_
        rotate_left
        · go_simp <;> with_reducible rfl
        simp only [List.setIfInBounds_toArray, List.set_cons_zero, List.set_cons_succ]
        refine wpAnyG_pure 7 121 (v := ?_) rfl (by kernel_rfl) rfl (by rfl) (fun w' => ?_) ?_
        rotate_left
        · go_simp <;> with_reducible rfl
        simp only [List.setIfInBounds_toArray, List.set_cons_zero, List.set_cons_succ]
        refine wpAnyG_take 8 122 (v := ?_) rfl (by kernel_rfl) rfl (by rfl) (fun w' hG' => ?_) ?_
        rotate_left
        · have hx0 := (bA3.grew hG').cell 0
          have hx1 := (bA3.grew hG').cell 1
          simp at hx0 hx1
          go_simp <;> with_reducible rfl
        simp only [List.setIfInBounds_toArray, List.set_cons_zero, List.set_cons_succ]
        refine wpAnyG_pure 9 123 (v := ?_) rfl (by kernel_rfl) rfl (by rfl) (fun w' => ?_) ?_
        rotate_left
        · go_simp <;> with_reducible rfl
        simp only [List.setIfInBounds_toArray, List.set_cons_zero, List.set_cons_succ]
        refine wpAnyG_pure 10 124 (v := ?_) rfl (by kernel_rfl) rfl (by rfl) (fun w' => ?_) ?_
        rotate_left
        · go_simp <;> with_reducible rfl
        simp only [List.setIfInBounds_toArray, List.set_cons_zero, List.set_cons_succ]
        refine wpAnyG_pure 11 125 (v := ?_) rfl (by kernel_rfl) rfl (by rfl) (fun w' => ?_) ?_
        rotate_left
        · go_simp <;> with_reducible rfl
        simp only [List.setIfInBounds_toArray, List.set_cons_zero, List.set_cons_succ]
        refine wpAnyG_pure 12 126 (v := ?_) rfl (by kernel_rfl) rfl (by rfl) (fun w' => ?_) ?_
        rotate_left
        · go_simp <;> with_reducible rfl
        simp only [List.setIfInBounds_toArray, List.set_cons_zero, List.set_cons_succ]
        refine wpAnyG_pure 13 127 (v := ?_) rfl (by kernel_rfl) rfl (by rfl) (fun w' => ?_) ?_
        rotate_left
        · go_simp <;> with_reducible rfl
        simp only [List.setIfInBounds_toArray, List.set_cons_zero, List.set_cons_succ]
        refine wpAnyG_pure 14 128 (v := ?_) rfl (by kernel_rfl) rfl (by rfl) (fun w' => ?_) ?_
        rotate_left
        · go_simp <;> with_reducible rfl
        simp only [List.setIfInBounds_toArray, List.set_cons_zero, List.set_cons_succ]
        refine wpAnyG_take 15 129 (v := ?_) rfl (by kernel_rfl) rfl (by rfl) (fun w' hG' => ?_) ?_
        rotate_left
        · have hx0 := (bA3.grew hG').cell 0
          have hx1 := (bA3.grew hG').cell 1
          simp at hx0 hx1
          go_simp <;> with_reducible rfl
        simp only [List.setIfInBounds_toArray, List.set_cons_zero, List.set_cons_succ]
        refine wpAnyG_pure 16 130 (v := ?_) rfl (by kernel_rfl) rfl (by rfl) (fun w' => ?_) ?_
        rotate_left
        · go_simp <;> with_reducible rfl
        simp only [List.setIfInBounds_toArray, List.set_cons_zero, List.set_cons_succ]
        refine wpAnyG_pure 17 131 (v := ?_) rfl (by kernel_rfl) rfl (by rfl) (fun w' => ?_) ?_
        rotate_left
        · go_simp <;> with_reducible rfl
        simp only [List.setIfInBounds_toArray, List.set_cons_zero, List.set_cons_succ]
        refine wpAnyG_pure 18 132 (v := ?_) rfl (by kernel_rfl) rfl (by rfl) (fun w' => ?_) ?_
        rotate_left
        · go_simp <;> with_reducible rfl
        simp only [List.setIfInBounds_toArray, List.set_cons_zero, List.set_cons_succ]
        refine wpAnyG_pure 19 133 (v := ?_) rfl (by kernel_rfl) rfl (by rfl) (fun w' => ?_) ?_
        rotate_left
        · go_simp <;> with_reducible rfl
        simp only [List.setIfInBounds_toArray, List.set_cons_zero, List.set_cons_succ]
        refine wpAnyG_take 20 134 (v := ?_) rfl (by kernel_rfl) rfl (by rfl) (fun w' hG' => ?_) ?_
        rotate_left
        · have hx0 := (bS3.grew hG').cell 0
          have hx1 := (bS3.grew hG').cell 1
          simp at hx0 hx1
          go_simp <;> with_reducible rfl
        simp only [List.setIfInBounds_toArray, List.set_cons_zero, List.set_cons_succ]
        refine wpAnyG_take 21 135 (v := ?_) rfl (by kernel_rfl) rfl (by rfl) (fun w' hG' => ?_) ?_
        rotate_left
        · have hx0 := (bA3.grew hG').cell 0
          have hx1 := (bA3.grew hG').cell 1
          simp at hx0 hx1
          go_simp <;> with_reducible rfl
        simp only [List.setIfInBounds_toArray, List.set_cons_zero, List.set_cons_succ]
        refine wpAnyG_step 22 136 rfl (by kernel_rfl) rfl (by rfl) (fun K hK' => ?_)
        go_simp
        refine (hG.out _ _ _ _ _ s5.out eA3.out).mono ?_
        rintro e z4 ⟨rfl, k4⟩
        have bA4 := bA3.grew k4
        have bS4 := bS3.grew k4
        have eA4 := Lib.hid (eA3.out.grew k4)
        replace s5 := Lib.hid (s5.out.grew k4)
        refine hK' _ _ (fun _ => k4) ?_
        clear hK'
        simp only [List.setIfInBounds_toArray, List.set_cons_zero, List.set_cons_succ]
        refine wpAnyG_pure 23 137 (v := ?_) rfl (by kernel_rfl) rfl (by rfl) (fun w' => ?_) ?_
        rotate_left
        · go_simp <;> with_reducible rfl
        simp only [List.setIfInBounds_toArray, List.set_cons_zero, List.set_cons_succ]
        refine wpAnyG_pure 24 138 (v := ?_) rfl (by kernel_rfl) rfl (by rfl) (fun w' => ?_) ?_
        rotate_left
        · go_simp <;> with_reducible rfl
        simp only [List.setIfInBounds_toArray, List.set_cons_zero, List.set_cons_succ]
        refine wpAnyG_pure 25 139 (v := ?_) rfl (by kernel_rfl) rfl (by rfl) (fun w' => ?_) ?_
        rotate_left
        · go_simp <;> with_reducible rfl
        simp only [List.setIfInBounds_toArray, List.set_cons_zero, List.set_cons_succ]
        refine wpAnyG_pure 26 140 (v := ?_) rfl (by kernel_rfl) rfl (by rfl) (fun w' => ?_) ?_
        rotate_left
        · go_simp <;> with_reducible rfl
        simp only [List.setIfInBounds_toArray, List.set_cons_zero, List.set_cons_succ]
        refine wpAnyG_pure 27 141 (v := ?_) rfl (by kernel_rfl) rfl (by rfl) (fun w' => ?_) ?_
        rotate_left
        · go_simp <;> with_reducible rfl
        simp only [List.setIfInBounds_toArray, List.set_cons_zero, List.set_cons_succ]
        refine wpAnyG_take 28 142 (v := ?_) rfl (by kernel_rfl) rfl (by rfl) (fun w' hG' => ?_) ?_
        rotate_left
        · have hx0 := (bA4.grew hG').cell 0
          have hx1 := (bA4.grew hG').cell 1
          simp at hx0 hx1
          go_simp <;> with_reducible rfl
        simp only [List.setIfInBounds_toArray, List.set_cons_zero, List.set_cons_succ]
        refine wpAnyG_pure 29 143 (v := ?_) rfl (by kernel_rfl) rfl (by rfl) (fun w' => ?_) ?_
        rotate_left
        · go_simp <;> with_reducible rfl
        simp only [List.setIfInBounds_toArray, List.set_cons_zero, List.set_cons_succ]
        refine wpAnyG_pure 30 144 (v := ?_) rfl (by kernel_rfl) rfl (by rfl) (fun w' => ?_) ?_
        rotate_left
        · go_simp <;> with_reducible rfl
        simp only [List.setIfInBounds_toArray, List.set_cons_zero, List.set_cons_succ]
        refine wpAnyG_pure 31 145 (v := ?_) rfl (by kernel_rfl) rfl (by rfl) (fun w' => ?_) ?_
        rotate_left
        · go_simp <;> with_reducible rfl
        simp only [List.setIfInBounds_toArray, List.set_cons_zero, List.set_cons_succ]
        refine wpAnyG_take 32 146 (v := ?_) rfl (by kernel_rfl) rfl (by rfl) (fun w' hG' => ?_) ?_
        rotate_left
        · have hx0 := (bA4.grew hG').cell 0
          have hx1 := (bA4.grew hG').cell 1
          simp at hx0 hx1
          go_simp <;> with_reducible rfl
        simp only [List.setIfInBounds_toArray, List.set_cons_zero, List.set_cons_succ]
        refine wpAnyG_take 35 149 (v := ?_) rfl (by kernel_rfl) rfl (by rfl) (fun w' hG' => ?_) ?_
        rotate_left
        · have hx0 := (bA4.grew hG').cell 0
          have hx1 := (bA4.grew hG').cell 1
          simp at hx0 hx1
          go_simp <;> with_reducible rfl
        simp only [List.setIfInBounds_toArray, List.set_cons_zero, List.set_cons_succ]
        refine wpAnyG_step 33 147 rfl (by kernel_rfl) rfl (by rfl) (fun K hK' => ?_)
        go_simp
        refine (hV.out _ eA4.out).mono ?_
        rintro e z5 ⟨V3, y3, rfl, o3, k5⟩
        have bA5 := bA4.grew k5
        have bS5 := bS4.grew k5
        have eA5 := Lib.hid (eA4.out.grew k5)
        replace s5 := Lib.hid (s5.out.grew k5)
        replace o3 := Lib.hid o3
        refine hK' _ _ (fun _ => k5) ?_
        clear hK'
        simp only [List.setIfInBounds_toArray, List.set_cons_zero, List.set_cons_succ]
        refine wpAnyG_step 34 148 rfl (by kernel_rfl) rfl (by rfl) (fun K hK' => ?_)
        go_simp
        refine (hT2.out _ _ _ o3.out).mono ?_
        rintro e z6 ⟨rfl, k6⟩
        have bA6 := bA5.grew k6
        have bS6 := bS5.grew k6
        have eA6 := Lib.hid (eA5.out.grew k6)
        replace s5 := Lib.hid (s5.out.grew k6)
        refine hK' _ _ (fun _ => k6) ?_
        clear hK'
        simp only [List.setIfInBounds_toArray, List.set_cons_zero, List.set_cons_succ]
        refine wpAnyG_step 36 150 rfl (by kernel_rfl) rfl (by rfl) (fun K hK' => ?_)
        go_simp
        refine (hT.out _ eA6.out).mono ?_
        rintro e z7 ⟨rfl, k7⟩
        have bA7 := bA6.grew k7
        have bS7 := bS6.grew k7
        have eA7 := Lib.hid (eA6.out.grew k7)
        replace s5 := Lib.hid (s5.out.grew k7)
        refine hK' _ _ (fun _ => k7) ?_
        clear hK'
        simp only [List.setIfInBounds_toArray, List.set_cons_zero, List.set_cons_succ]
        refine wpAnyG_pure 37 151 (v := ?_) rfl (by kernel_rfl) rfl (by rfl) (fun w' => ?_) ?_
        rotate_left
        · go_simp <;> with_reducible rfl
        simp only [List.setIfInBounds_toArray, List.set_cons_zero, List.set_cons_succ]
        refine wpAnyG_pure 38 152 (v := ?_) rfl (by kernel_rfl) rfl (by rfl) (fun w' => ?_) ?_
        rotate_left
        · go_simp <;> with_reducible rfl
        simp only [List.setIfInBounds_toArray, List.set_cons_zero, List.set_cons_succ]
        refine wpAnyG_pure 39 153 (v := ?_) rfl (by kernel_rfl) rfl (by rfl) (fun w' => ?_) ?_
        rotate_left
        · go_simp <;> with_reducible rfl
        simp only [List.setIfInBounds_toArray, List.set_cons_zero, List.set_cons_succ]
        refine wpAnyG_step 40 154 rfl (by kernel_rfl) rfl (by rfl) (fun K hK' => ?_)
        go_simp
        refine (hA.out _).mono ?_
        rintro e z8 ⟨rfl, k8⟩
        have bA8 := bA7.grew k8
        have bS8 := bS7.grew k8
        have eA8 := Lib.hid (eA7.out.grew k8)
        replace s5 := Lib.hid (s5.out.grew k8)
        refine hK' _ _ (fun _ => k8) ?_
        clear hK'
        simp only [List.setIfInBounds_toArray, List.set_cons_zero, List.set_cons_succ]
        refine wpAnyG_pure 41 155 (v := ?_) rfl (by kernel_rfl) rfl (by rfl) (fun w' => ?_) ?_
        rotate_left
        · go_simp <;> with_reducible rfl
        simp only [List.setIfInBounds_toArray, List.set_cons_zero, List.set_cons_succ]
        refine wpAnyG_pure 42 6 (v := ?_) rfl (by kernel_rfl) rfl (by rfl) (fun w' => ?_) ?_
        rotate_left
        · go_simp <;> with_reducible rfl
        simp only [List.setIfInBounds_toArray, List.set_cons_zero, List.set_cons_succ]
        refine wpAnyG_done (by kernel_rfl) ?_
        go_wp2_with fail
        go_ret
        exact ⟨rfl, (((((((hKb.trans k1).trans k2).trans k3).trans k4).trans k5).trans k6).trans k7).trans k8⟩

end Go.Proofs.Ytiialiifjhgcmaa
