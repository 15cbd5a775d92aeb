/- The law WitnessTrue. -/
import Derived.Test.YthbcgdogmkgebaaFindF
import Derived.Test.YthbcgdogmkgebaaFar
namespace Go.Proofs.Ythbcgdogmkgebaa
open Go.RowKit

def FarF (N : Nat) (arcs : Arcs) (gone : Int → Bool) (s t d : Int) : Prop :=
  0 ≤ d ∧ d ≤ 4611686018427387904 ∧ (gone s = true → d = 4611686018427387904) ∧
    (gone s = false → (d < 4611686018427387904 → ∃ k : Nat, Reach arcs gone s k t d) ∧ ∀ (k : Nat) (y : Int), k ≤ N → Reach arcs gone s k t y → d ≤ y)
theorem true_plain {N G : Nat} {ls : List (List Ar)} {gs : List Bool} {s t below hops settles x d : Int} {is : Bool} (hok : okF ls G s t) (hN : ls.length = N) (hN30 : N ≤ 30) (h1 : FindF N G ls gs s t below hops settles x is) (h2 : FarF N (arcsL ls) (goneL gs) s t d) :
    0 ≤ x ∧ (is = true → d ≤ x ∧ x < below ∧ ((N : Int) ≤ hops → (N : Int) ≤ settles → x = d ∧ d < 4611686018427387904)) ∧
    (is = false → x = 0 ∧ ((N : Int) ≤ hops → (N : Int) ≤ settles → d < below → 4611686018427387904 ≤ d)) := by
  obtain ⟨x0, xz, a, b, c⟩ := h1.1 hok
  obtain ⟨d0, d1, dg, dn⟩ := h2
  have nok := (ok_right hok.1).2
  rw [hN] at nok
  refine ⟨x0, fun hi => ?_, fun hi => ?_⟩
  · obtain ⟨g1, _, g3, k, hk, hr⟩ := a hi
    obtain ⟨e1, e2⟩ := dn g1
    have e3 := e2 k x hk hr
    refine ⟨e3, g3, fun p q => ?_⟩
    have bd := (hr.bd nok).2
    have hlt : x < 4611686018427387904 := by
      have : (k : Int) * 1125899906842624 ≤ 30 * 1125899906842624 := Int.mul_le_mul_of_nonneg_right (by omega) (by omega)
      omega
    have hd : d < 4611686018427387904 := by omega
    obtain ⟨k', hr'⟩ := e1 hd
    have e4 := b hi (decide_eq_true ⟨p, q⟩) k' d hr'
    exact ⟨by omega, hd⟩
  · refine ⟨xz hi, fun p q hdb => ?_⟩
    rcases Int.lt_or_le d 4611686018427387904 with hd | hd
    · cases hg : goneL gs s with
      | true => exact Int.le_of_eq (dg hg).symm
      | false =>
        obtain ⟨e1, _⟩ := dn hg
        obtain ⟨k', hr'⟩ := e1 hd
        rcases c hi (decide_eq_true ⟨p, q⟩) with h | h
        · rw [hg] at h; cases h
        · have := h k' d hr'
          omega
    · exact hd
set_option maxHeartbeats 40000000 in
set_option maxRecDepth 100000 in
theorem true_law (A V : Option Addr) (c cG : Nat) (ls : List (List Ar)) (gs : List Bool) (s t below hops settles : Int) (w : World) (h : RowN w A ls) (hG : RowB w V gs) (hl : ls.length ≤ 9223372036854775807) (hls : ∀ l ∈ ls, l.length ≤ 9223372036854775807) (hgs : gs.length ≤ 9223372036854775807) (hb : 0 ≤ below) :
    Calls Try.prog 3 #[.agg #[.slice A ls.length c, .slice V gs.length cG], i64 s, i64 t, u64 below, i64 hops, i64 settles] w fun e w' => e = .returned (.bool true) ∧ Grew w w' := by
  obtain ⟨N, hN⟩ : ∃ N, ls.length = N := ⟨_, rfl⟩
  obtain ⟨G, hGn⟩ : ∃ G, gs.length = G := ⟨_, rfl⟩
  have b0 := Blk.new w 25 #[.slice A N c, .slice V G cG]
  have k0 : Grew w (w.alloc (.cells #[.slice A N c, .slice V G cG] 25)) := (Kept.refl _ _).alloc _
  obtain ⟨wb, hwb⟩ : ∃ W, w.alloc (.cells #[.slice A N c, .slice V G cG] 25) = W := ⟨_, rfl⟩
  rw [hwb] at b0 k0
  have HL := Lib.hid (light_any A V c cG G ls wb (h.grew k0) hl (by omega) hls)
  rw [hN] at HL
  have HA := Lib.hid alive_any
  have HR : Hid (lightN ls G → ∀ W, Grew w W → Calls Try.prog 10 #[.agg #[.slice A N c, .slice V G cG]] W fun e w' => e = .returned (.bool (rightN ls G)) ∧ Grew W w') := fun hli W k => by
    have := refRight_any A V c G cG ls W (h.grew k) hl (by omega) (fun _ l hm => by have := hli.2.2 l hm; omega)
    rw [hN] at this
    exact this
  have HW : Hid (lightN ls G → ∀ W A' c', RowN W A' ls → Calls Try.prog 11 #[.agg #[.slice A' N c', .slice V G cG]] W fun e w' => e = .returned (.bool (rightN ls G)) ∧ Grew W w') := fun hli W A' c' hr => by
    have := right_any A' V c' G cG ls W hr hl (by omega) (fun _ l hm => by have := hli.2.2 l hm; omega)
    rw [hN] at this
    exact this
  have HO : Hid (lightN ls G → ∀ W, Grew w W → Calls Try.prog 9 #[.agg #[.slice A N c, .slice V G cG]] W fun e w' => ∃ A' c', e = .returned (.agg #[.slice A' N c', .slice V G cG]) ∧ RowN w' A' ls ∧ Grew W w') := fun hli W k => by
    have := of_any A V c G cG ls W (h.grew k) (by have := hli.1; omega) (fun l hm => by have := hli.2.2 l hm; omega)
    rw [hN] at this
    exact this
  have HF : Hid (lightN ls G → ∀ W A' c', Grew w W → RowN W A' ls → Calls Try.prog 8 #[.agg #[.slice A' N c', .slice V G cG], i64 s, i64 t, u64 below, i64 hops, i64 settles] W fun e w' => FindX N G ls gs s t below hops settles W e w') := fun hli W A' c' k hr =>
    (find_any A' V c' cG N G ls gs s t below hops settles W hr (hG.grew k) hN hGn (by rw [← hN]; exact hli.1) (by have := hli.2.1; omega) hli.2.2 hb).mono fun e w' hx => find_form hx
  have HD : Hid (lightN ls G → okF ls G s t → ∀ W, Grew w W → Calls Try.prog 12 #[.agg #[.slice A N c, .slice V G cG], i64 s, i64 t] W fun e w' => ∃ d, e = .returned (u64 d) ∧ Grew W w' ∧ FarF N (arcsL ls) (goneL gs) s t d) := fun hli hok W k => by
    obtain ⟨hr, ⟨s0, s1⟩, ⟨t0, t1⟩, _⟩ := hok
    obtain ⟨hGN, nok⟩ := ok_right hr
    rw [hN] at s1 t1 hGN nok
    obtain ⟨sn, rfl⟩ := Int.eq_ofNat_of_zero_le s0
    obtain ⟨tn, rfl⟩ := Int.eq_ofNat_of_zero_le t0
    have := far_any A V c cG N sn tn ls gs W (h.grew k) (hG.grew k) hN (by omega) (by omega) (by omega) (by rw [← hN]; exact hli.1) hli.2.2 nok
    rw [hGN]
    exact this.mono fun e w' ⟨d, he, hg, h0, h1, h2, h3⟩ => ⟨d, he, hg, h0, h1, h2, h3⟩
  rw [hN, hGn]
  have HN := Lib.hid hN
  have c1 := b0.cell 1
  have c0 := b0.cell 0
  simp at c0 c1
  have hN9 : N ≤ 9223372036854775807 := by omega
  clear h hG hl hls hgs hN hGn
  by_cases hli : lightN ls G
  rotate_left
  · rw [lightB_no hli] at HL
    have hli' := Lib.hid hli
    clear hli HR HO HF HW HD
    go_enter Try.func3, Try.ntmps3
    go_wp2_with fail
    refine HL.out.mono ?_
    rintro e w2 ⟨rfl, k2⟩
    go_wp2_with fail
    refine (HA.out _).mono ?_
    rintro e w9 ⟨rfl, k9⟩
    go_wp2_with fail
    go_ret
    exact ⟨rfl, (k0.trans k2).trans k9⟩
  rw [lightB_yes hli] at HL
  have HLI := Lib.hid hli
  replace HR := Lib.hid (HR.out hli)
  replace HO := Lib.hid (HO.out hli)
  replace HF := Lib.hid (HF.out hli)
  replace HW := Lib.hid (HW.out hli)
  replace HD := Lib.hid (HD.out hli)
  have hN30 : N ≤ 30 := by have := hli.1; rw [HN.out] at this; exact this
  clear hli
  obtain ⟨r, hr⟩ : ∃ r, rightN ls G = r := ⟨_, rfl⟩
  rw [hr] at HR HW
  have HRR := Lib.hid hr
  clear hr
  cases r with
  | false =>
    have hbad : ¬ okF ls G s t := fun hk => absurd (hk.1.symm.trans HRR.out) (by decide)
    have HB := Lib.hid hbad
    clear hbad HD
    go_enter Try.func3, Try.ntmps3
    go_wp2_with fail
    refine HL.out.mono ?_
    rintro e w2 ⟨rfl, k2⟩
    have d0 := k2.cell c0
    have d1 := k2.cell c1
    go_wp2_with fail
    refine (HO.out _ (k0.trans k2)).mono ?_
    rintro e w3 ⟨A1, c1', rfl, r3, k3⟩
    have K3 := k2.trans k3
    have hC := Lib.hid (HF.out w3 A1 c1' (k0.trans K3) r3)
    clear k2 r3 k3 d0 d1
    go_wp2_with fail
    refine hC.out.mono ?_
    rintro e w4 ⟨x, is, rfl, k4, f4⟩
    obtain ⟨rfl, rfl⟩ := f4.2 HB.out
    have K4 := K3.trans k4
    have d0 := K4.cell c0
    have d1 := K4.cell c1
    clear f4 k4 hC K3
    go_wp2_with fail
    refine (HR.out _ (k0.trans K4)).mono ?_
    rintro e w6 ⟨rfl, k6⟩
    have K6 := K4.trans k6
    clear k6 d0 d1 K4
    have d0 := K6.cell c0
    have d1 := K6.cell c1
    go_upto_region 5 with fail
    refine wp_region_grow [] (fun _ => False) (by kernel_rfl) ?_
    simp only [List.size_toArray, List.length_cons, List.length_nil, Nat.reduceAdd]
    refine wpAnyG_pure 0 61 (v := ?_) rfl (by kernel_rfl) rfl (by rfl) (fun w' => ?_) ?_
    rotate_left
    · go_simp <;> with_reducible rfl
    simp only [List.setIfInBounds_toArray, List.set_cons_zero, List.set_cons_succ]
    refine wpAnyG_pure 1 62 (v := ?_) rfl (by kernel_rfl) rfl (by rfl) (fun w' => ?_) ?_
    rotate_left
    · go_simp <;> with_reducible rfl
    simp only [List.setIfInBounds_toArray, List.set_cons_zero, List.set_cons_succ]
    refine wpAnyG_pure 2 63 (v := ?_) rfl (by kernel_rfl) rfl (by rfl) (fun w' => ?_) ?_
    rotate_left
    · go_simp <;> with_reducible rfl
    simp only [List.setIfInBounds_toArray, List.set_cons_zero, List.set_cons_succ]
    refine wpAnyG_pure 3 64 (v := ?_) rfl (by kernel_rfl) rfl (by rfl) (fun w' => ?_) ?_
    rotate_left
    · go_simp <;> with_reducible rfl
    simp only [List.setIfInBounds_toArray, List.set_cons_zero, List.set_cons_succ]
    refine wpAnyG_pure 4 65 (v := ?_) rfl (by kernel_rfl) rfl (by rfl) (fun w' => ?_) ?_
    rotate_left
    · go_simp <;> with_reducible rfl
    simp only [List.setIfInBounds_toArray, List.set_cons_zero, List.set_cons_succ]
    refine wpAnyG_pure 5 66 (v := ?_) rfl (by kernel_rfl) rfl (by rfl) (fun w' => ?_) ?_
    rotate_left
    · go_simp <;> with_reducible rfl
    simp only [List.setIfInBounds_toArray, List.set_cons_zero, List.set_cons_succ]
    refine wpAnyG_pure 6 67 (v := ?_) rfl (by kernel_rfl) rfl (by rfl) (fun w' => ?_) ?_
    rotate_left
    · go_simp <;> with_reducible rfl
    simp only [List.setIfInBounds_toArray, List.set_cons_zero, List.set_cons_succ]
    refine wpAnyG_take 7 68 (v := ?_) rfl (by kernel_rfl) rfl (by rfl) (fun w' hG' => ?_) ?_
    rotate_left
    · have hx0 := (K6.drew.trans hG').cell c0
      have hx1 := (K6.drew.trans hG').cell c1
      go_simp <;> with_reducible rfl
    simp only [List.setIfInBounds_toArray, List.set_cons_zero, List.set_cons_succ]
    refine wpAnyG_take 10 71 (v := ?_) rfl (by kernel_rfl) rfl (by rfl) (fun w' hG' => ?_) ?_
    rotate_left
    · have hx0 := (K6.drew.trans hG').cell c0
      have hx1 := (K6.drew.trans hG').cell c1
      go_simp <;> with_reducible rfl
    simp only [List.setIfInBounds_toArray, List.set_cons_zero, List.set_cons_succ]
    refine wpAnyG_step 8 69 rfl (by kernel_rfl) rfl (by rfl) (fun K hK' => ?_)
    go_simp
    refine (HO.out _ (k0.trans K6.drew)).mono ?_
    rintro e w7 ⟨A2, c2, rfl, r7, k7⟩
    refine hK' _ _ (fun _ => k7) ?_
    clear hK'
    simp only [List.setIfInBounds_toArray, List.set_cons_zero, List.set_cons_succ]
    refine wpAnyG_step 9 70 rfl (by kernel_rfl) rfl (by rfl) (fun K hK' => ?_)
    go_simp
    refine (HW.out _ A2 c2 r7).mono ?_
    rintro e w8 ⟨rfl, k8⟩
    refine hK' _ _ (fun _ => k8) ?_
    clear hK'
    simp only [List.setIfInBounds_toArray, List.set_cons_zero, List.set_cons_succ]
    refine wpAnyG_step 11 72 rfl (by kernel_rfl) rfl (by rfl) (fun K hK' => ?_)
    go_simp
    refine (HR.out _ ((k0.trans K6.drew).trans (k7.trans k8))).mono ?_
    rintro e w9 ⟨rfl, k9⟩
    refine hK' _ _ (fun _ => k9) ?_
    clear hK'
    simp only [List.setIfInBounds_toArray, List.set_cons_zero, List.set_cons_succ]
    refine wpAnyG_pure 12 73 (v := ?_) rfl (by kernel_rfl) rfl (by rfl) (fun w' => ?_) ?_
    rotate_left
    · go_simp <;> with_reducible rfl
    simp only [List.setIfInBounds_toArray, List.set_cons_zero, List.set_cons_succ]
    refine wpAnyG_pure 13 74 (v := ?_) rfl (by kernel_rfl) rfl (by rfl) (fun w' => ?_) ?_
    rotate_left
    · go_simp <;> with_reducible rfl
    simp only [List.setIfInBounds_toArray, List.set_cons_zero, List.set_cons_succ]
    refine wpAnyG_pure 14 75 (v := ?_) rfl (by kernel_rfl) rfl (by rfl) (fun w' => ?_) ?_
    rotate_left
    · go_simp <;> with_reducible rfl
    simp only [List.setIfInBounds_toArray, List.set_cons_zero, List.set_cons_succ]
    refine wpAnyG_step 15 76 rfl (by kernel_rfl) rfl (by rfl) (fun K hK' => ?_)
    go_simp
    refine (HA.out _).mono ?_
    rintro e w10 ⟨rfl, k10⟩
    refine hK' _ _ (fun _ => k10) ?_
    clear hK'
    simp only [List.setIfInBounds_toArray, List.set_cons_zero, List.set_cons_succ]
    refine wpAnyG_pure 16 77 (v := ?_) rfl (by kernel_rfl) rfl (by rfl) (fun w' => ?_) ?_
    rotate_left
    · go_simp <;> with_reducible rfl
    simp only [List.setIfInBounds_toArray, List.set_cons_zero, List.set_cons_succ]
    refine wpAnyG_pure 17 12 (v := ?_) rfl (by kernel_rfl) rfl (by rfl) (fun w' => ?_) ?_
    rotate_left
    · go_simp <;> with_reducible rfl
    simp only [List.setIfInBounds_toArray, List.set_cons_zero, List.set_cons_succ]
    refine wpAnyG_done (by kernel_rfl) ?_
    go_wp2_with fail
    go_ret
    exact ⟨rfl, (((k0.trans K6.drew).trans (k7.trans k8)).trans k9).trans k10⟩
  | true =>
    rcases Int.lt_or_le s 0 with s0 | s0
    · have hbad : ¬ okF ls G s t := fun hk => by have e1 := HN.out; have e2 := hk.2.1; have e3 := hk.2.2.1; omega
      have HB := Lib.hid hbad
      clear hbad HD
      go_enter Try.func3, Try.ntmps3
      go_wp2_with fail
      refine HL.out.mono ?_
      rintro e w2 ⟨rfl, k2⟩
      have d0 := k2.cell c0
      have d1 := k2.cell c1
      go_wp2_with fail
      refine (HO.out _ (k0.trans k2)).mono ?_
      rintro e w3 ⟨A1, c1', rfl, r3, k3⟩
      have K3 := k2.trans k3
      have hC := Lib.hid (HF.out w3 A1 c1' (k0.trans K3) r3)
      clear k2 r3 k3 d0 d1
      go_wp2_with fail
      refine hC.out.mono ?_
      rintro e w4 ⟨x, is, rfl, k4, f4⟩
      obtain ⟨rfl, rfl⟩ := f4.2 HB.out
      have K4 := K3.trans k4
      have d0 := K4.cell c0
      have d1 := K4.cell c1
      clear f4 k4 hC K3
      go_wp2_with fail
      refine (HR.out _ (k0.trans K4)).mono ?_
      rintro e w6 ⟨rfl, k6⟩
      have K6 := K4.trans k6
      clear k6 d0 d1 K4
      have d0 := K6.cell c0
      have d1 := K6.cell c1
      go_upto_region 5 with fail
      refine wp_region_grow [] (fun _ => False) (by kernel_rfl) ?_
      simp only [List.size_toArray, List.length_cons, List.length_nil, Nat.reduceAdd]
      refine wpAnyG_pure 0 61 (v := ?_) rfl (by kernel_rfl) rfl (by rfl) (fun w' => ?_) ?_
      rotate_left
      · go_simp <;> with_reducible rfl
      simp only [List.setIfInBounds_toArray, List.set_cons_zero, List.set_cons_succ]
      refine wpAnyG_pure 1 62 (v := ?_) rfl (by kernel_rfl) rfl (by rfl) (fun w' => ?_) ?_
      rotate_left
      · go_simp <;> with_reducible rfl
      simp only [List.setIfInBounds_toArray, List.set_cons_zero, List.set_cons_succ]
      refine wpAnyG_pure 2 63 (v := ?_) rfl (by kernel_rfl) rfl (by rfl) (fun w' => ?_) ?_
      rotate_left
      · go_simp <;> with_reducible rfl
      simp only [List.setIfInBounds_toArray, List.set_cons_zero, List.set_cons_succ]
      refine wpAnyG_pure 3 64 (v := ?_) rfl (by kernel_rfl) rfl (by rfl) (fun w' => ?_) ?_
      rotate_left
      · go_simp <;> with_reducible rfl
      simp only [List.setIfInBounds_toArray, List.set_cons_zero, List.set_cons_succ]
      refine wpAnyG_pure 4 65 (v := ?_) rfl (by kernel_rfl) rfl (by rfl) (fun w' => ?_) ?_
      rotate_left
      · go_simp <;> with_reducible rfl
      simp only [List.setIfInBounds_toArray, List.set_cons_zero, List.set_cons_succ]
      refine wpAnyG_pure 5 66 (v := ?_) rfl (by kernel_rfl) rfl (by rfl) (fun w' => ?_) ?_
      rotate_left
      · go_simp <;> with_reducible rfl
      simp only [List.setIfInBounds_toArray, List.set_cons_zero, List.set_cons_succ]
      refine wpAnyG_pure 6 67 (v := ?_) rfl (by kernel_rfl) rfl (by rfl) (fun w' => ?_) ?_
      rotate_left
      · go_simp <;> with_reducible rfl
      simp only [List.setIfInBounds_toArray, List.set_cons_zero, List.set_cons_succ]
      refine wpAnyG_take 7 68 (v := ?_) rfl (by kernel_rfl) rfl (by rfl) (fun w' hG' => ?_) ?_
      rotate_left
      · have hx0 := (K6.drew.trans hG').cell c0
        have hx1 := (K6.drew.trans hG').cell c1
        go_simp <;> with_reducible rfl
      simp only [List.setIfInBounds_toArray, List.set_cons_zero, List.set_cons_succ]
      refine wpAnyG_take 10 71 (v := ?_) rfl (by kernel_rfl) rfl (by rfl) (fun w' hG' => ?_) ?_
      rotate_left
      · have hx0 := (K6.drew.trans hG').cell c0
        have hx1 := (K6.drew.trans hG').cell c1
        go_simp <;> with_reducible rfl
      simp only [List.setIfInBounds_toArray, List.set_cons_zero, List.set_cons_succ]
      refine wpAnyG_step 8 69 rfl (by kernel_rfl) rfl (by rfl) (fun K hK' => ?_)
      go_simp
      refine (HO.out _ (k0.trans K6.drew)).mono ?_
      rintro e w7 ⟨A2, c2, rfl, r7, k7⟩
      refine hK' _ _ (fun _ => k7) ?_
      clear hK'
      simp only [List.setIfInBounds_toArray, List.set_cons_zero, List.set_cons_succ]
      refine wpAnyG_step 9 70 rfl (by kernel_rfl) rfl (by rfl) (fun K hK' => ?_)
      go_simp
      refine (HW.out _ A2 c2 r7).mono ?_
      rintro e w8 ⟨rfl, k8⟩
      refine hK' _ _ (fun _ => k8) ?_
      clear hK'
      simp only [List.setIfInBounds_toArray, List.set_cons_zero, List.set_cons_succ]
      refine wpAnyG_step 11 72 rfl (by kernel_rfl) rfl (by rfl) (fun K hK' => ?_)
      go_simp
      refine (HR.out _ ((k0.trans K6.drew).trans (k7.trans k8))).mono ?_
      rintro e w9 ⟨rfl, k9⟩
      refine hK' _ _ (fun _ => k9) ?_
      clear hK'
      simp only [List.setIfInBounds_toArray, List.set_cons_zero, List.set_cons_succ]
      refine wpAnyG_pure 12 73 (v := ?_) rfl (by kernel_rfl) rfl (by rfl) (fun w' => ?_) ?_
      rotate_left
      · go_simp <;> with_reducible rfl
      simp only [List.setIfInBounds_toArray, List.set_cons_zero, List.set_cons_succ]
      refine wpAnyG_pure 13 74 (v := ?_) rfl (by kernel_rfl) rfl (by rfl) (fun w' => ?_) ?_
      rotate_left
      · go_simp <;> with_reducible rfl
      simp only [List.setIfInBounds_toArray, List.set_cons_zero, List.set_cons_succ]
      refine wpAnyG_pure 14 75 (v := ?_) rfl (by kernel_rfl) rfl (by rfl) (fun w' => ?_) ?_
      rotate_left
      · go_simp <;> with_reducible rfl
      simp only [List.setIfInBounds_toArray, List.set_cons_zero, List.set_cons_succ]
      refine wpAnyG_step 15 76 rfl (by kernel_rfl) rfl (by rfl) (fun K hK' => ?_)
      go_simp
      refine (HA.out _).mono ?_
      rintro e w10 ⟨rfl, k10⟩
      refine hK' _ _ (fun _ => k10) ?_
      clear hK'
      simp only [List.setIfInBounds_toArray, List.set_cons_zero, List.set_cons_succ]
      refine wpAnyG_pure 16 77 (v := ?_) rfl (by kernel_rfl) rfl (by rfl) (fun w' => ?_) ?_
      rotate_left
      · go_simp <;> with_reducible rfl
      simp only [List.setIfInBounds_toArray, List.set_cons_zero, List.set_cons_succ]
      refine wpAnyG_pure 17 12 (v := ?_) rfl (by kernel_rfl) rfl (by rfl) (fun w' => ?_) ?_
      rotate_left
      · go_simp <;> with_reducible rfl
      simp only [List.setIfInBounds_toArray, List.set_cons_zero, List.set_cons_succ]
      refine wpAnyG_done (by kernel_rfl) ?_
      go_wp2_with fail
      go_ret
      exact ⟨rfl, (((k0.trans K6.drew).trans (k7.trans k8)).trans k9).trans k10⟩
    rcases Int.lt_or_le s (N : Int) with s1 | s1
    rotate_left
    · have hbad : ¬ okF ls G s t := fun hk => by have e1 := HN.out; have e2 := hk.2.1; have e3 := hk.2.2.1; omega
      have HB := Lib.hid hbad
      clear hbad HD
      go_enter Try.func3, Try.ntmps3
      go_wp2_with fail
      refine HL.out.mono ?_
      rintro e w2 ⟨rfl, k2⟩
      have d0 := k2.cell c0
      have d1 := k2.cell c1
      go_wp2_with fail
      refine (HO.out _ (k0.trans k2)).mono ?_
      rintro e w3 ⟨A1, c1', rfl, r3, k3⟩
      have K3 := k2.trans k3
      have hC := Lib.hid (HF.out w3 A1 c1' (k0.trans K3) r3)
      clear k2 r3 k3 d0 d1
      go_wp2_with fail
      refine hC.out.mono ?_
      rintro e w4 ⟨x, is, rfl, k4, f4⟩
      obtain ⟨rfl, rfl⟩ := f4.2 HB.out
      have K4 := K3.trans k4
      have d0 := K4.cell c0
      have d1 := K4.cell c1
      clear f4 k4 hC K3
      go_wp2_with fail
      refine (HR.out _ (k0.trans K4)).mono ?_
      rintro e w6 ⟨rfl, k6⟩
      have K6 := K4.trans k6
      clear k6 d0 d1 K4
      have d0 := K6.cell c0
      have d1 := K6.cell c1
      go_upto_region 5 with fail
      refine wp_region_grow [] (fun _ => False) (by kernel_rfl) ?_
      simp only [List.size_toArray, List.length_cons, List.length_nil, Nat.reduceAdd]
      refine wpAnyG_pure 0 61 (v := ?_) rfl (by kernel_rfl) rfl (by rfl) (fun w' => ?_) ?_
      rotate_left
      · go_simp <;> with_reducible rfl
      simp only [List.setIfInBounds_toArray, List.set_cons_zero, List.set_cons_succ]
      refine wpAnyG_pure 1 62 (v := ?_) rfl (by kernel_rfl) rfl (by rfl) (fun w' => ?_) ?_
      rotate_left
      · go_simp <;> with_reducible rfl
      simp only [List.setIfInBounds_toArray, List.set_cons_zero, List.set_cons_succ]
      refine wpAnyG_pure 2 63 (v := ?_) rfl (by kernel_rfl) rfl (by rfl) (fun w' => ?_) ?_
      rotate_left
      · go_simp <;> with_reducible rfl
      simp only [List.setIfInBounds_toArray, List.set_cons_zero, List.set_cons_succ]
      refine wpAnyG_pure 3 64 (v := ?_) rfl (by kernel_rfl) rfl (by rfl) (fun w' => ?_) ?_
      rotate_left
      · go_simp <;> with_reducible rfl
      simp only [List.setIfInBounds_toArray, List.set_cons_zero, List.set_cons_succ]
      refine wpAnyG_pure 4 65 (v := ?_) rfl (by kernel_rfl) rfl (by rfl) (fun w' => ?_) ?_
      rotate_left
      · go_simp <;> with_reducible rfl
      simp only [List.setIfInBounds_toArray, List.set_cons_zero, List.set_cons_succ]
      refine wpAnyG_pure 5 66 (v := ?_) rfl (by kernel_rfl) rfl (by rfl) (fun w' => ?_) ?_
      rotate_left
      · go_simp <;> with_reducible rfl
      simp only [List.setIfInBounds_toArray, List.set_cons_zero, List.set_cons_succ]
      refine wpAnyG_pure 6 67 (v := ?_) rfl (by kernel_rfl) rfl (by rfl) (fun w' => ?_) ?_
      rotate_left
      · go_simp <;> with_reducible rfl
      simp only [List.setIfInBounds_toArray, List.set_cons_zero, List.set_cons_succ]
      refine wpAnyG_take 7 68 (v := ?_) rfl (by kernel_rfl) rfl (by rfl) (fun w' hG' => ?_) ?_
      rotate_left
      · have hx0 := (K6.drew.trans hG').cell c0
        have hx1 := (K6.drew.trans hG').cell c1
        go_simp <;> with_reducible rfl
      simp only [List.setIfInBounds_toArray, List.set_cons_zero, List.set_cons_succ]
      refine wpAnyG_take 10 71 (v := ?_) rfl (by kernel_rfl) rfl (by rfl) (fun w' hG' => ?_) ?_
      rotate_left
      · have hx0 := (K6.drew.trans hG').cell c0
        have hx1 := (K6.drew.trans hG').cell c1
        go_simp <;> with_reducible rfl
      simp only [List.setIfInBounds_toArray, List.set_cons_zero, List.set_cons_succ]
      refine wpAnyG_step 8 69 rfl (by kernel_rfl) rfl (by rfl) (fun K hK' => ?_)
      go_simp
      refine (HO.out _ (k0.trans K6.drew)).mono ?_
      rintro e w7 ⟨A2, c2, rfl, r7, k7⟩
      refine hK' _ _ (fun _ => k7) ?_
      clear hK'
      simp only [List.setIfInBounds_toArray, List.set_cons_zero, List.set_cons_succ]
      refine wpAnyG_step 9 70 rfl (by kernel_rfl) rfl (by rfl) (fun K hK' => ?_)
      go_simp
      refine (HW.out _ A2 c2 r7).mono ?_
      rintro e w8 ⟨rfl, k8⟩
      refine hK' _ _ (fun _ => k8) ?_
      clear hK'
      simp only [List.setIfInBounds_toArray, List.set_cons_zero, List.set_cons_succ]
      refine wpAnyG_step 11 72 rfl (by kernel_rfl) rfl (by rfl) (fun K hK' => ?_)
      go_simp
      refine (HR.out _ ((k0.trans K6.drew).trans (k7.trans k8))).mono ?_
      rintro e w9 ⟨rfl, k9⟩
      refine hK' _ _ (fun _ => k9) ?_
      clear hK'
      simp only [List.setIfInBounds_toArray, List.set_cons_zero, List.set_cons_succ]
      refine wpAnyG_pure 12 73 (v := ?_) rfl (by kernel_rfl) rfl (by rfl) (fun w' => ?_) ?_
      rotate_left
      · go_simp <;> with_reducible rfl
      simp only [List.setIfInBounds_toArray, List.set_cons_zero, List.set_cons_succ]
      refine wpAnyG_pure 13 74 (v := ?_) rfl (by kernel_rfl) rfl (by rfl) (fun w' => ?_) ?_
      rotate_left
      · go_simp <;> with_reducible rfl
      simp only [List.setIfInBounds_toArray, List.set_cons_zero, List.set_cons_succ]
      refine wpAnyG_pure 14 75 (v := ?_) rfl (by kernel_rfl) rfl (by rfl) (fun w' => ?_) ?_
      rotate_left
      · go_simp <;> with_reducible rfl
      simp only [List.setIfInBounds_toArray, List.set_cons_zero, List.set_cons_succ]
      refine wpAnyG_step 15 76 rfl (by kernel_rfl) rfl (by rfl) (fun K hK' => ?_)
      go_simp
      refine (HA.out _).mono ?_
      rintro e w10 ⟨rfl, k10⟩
      refine hK' _ _ (fun _ => k10) ?_
      clear hK'
      simp only [List.setIfInBounds_toArray, List.set_cons_zero, List.set_cons_succ]
      refine wpAnyG_pure 16 77 (v := ?_) rfl (by kernel_rfl) rfl (by rfl) (fun w' => ?_) ?_
      rotate_left
      · go_simp <;> with_reducible rfl
      simp only [List.setIfInBounds_toArray, List.set_cons_zero, List.set_cons_succ]
      refine wpAnyG_pure 17 12 (v := ?_) rfl (by kernel_rfl) rfl (by rfl) (fun w' => ?_) ?_
      rotate_left
      · go_simp <;> with_reducible rfl
      simp only [List.setIfInBounds_toArray, List.set_cons_zero, List.set_cons_succ]
      refine wpAnyG_done (by kernel_rfl) ?_
      go_wp2_with fail
      go_ret
      exact ⟨rfl, (((k0.trans K6.drew).trans (k7.trans k8)).trans k9).trans k10⟩
    rcases Int.lt_or_le t 0 with t0 | t0
    · have hbad : ¬ okF ls G s t := fun hk => by have e1 := HN.out; have e2 := hk.2.1; have e3 := hk.2.2.1; omega
      have HB := Lib.hid hbad
      clear hbad HD
      go_enter Try.func3, Try.ntmps3
      go_wp2_with fail
      refine HL.out.mono ?_
      rintro e w2 ⟨rfl, k2⟩
      have d0 := k2.cell c0
      have d1 := k2.cell c1
      go_wp2_with fail
      refine (HO.out _ (k0.trans k2)).mono ?_
      rintro e w3 ⟨A1, c1', rfl, r3, k3⟩
      have K3 := k2.trans k3
      have hC := Lib.hid (HF.out w3 A1 c1' (k0.trans K3) r3)
      clear k2 r3 k3 d0 d1
      go_wp2_with fail
      refine hC.out.mono ?_
      rintro e w4 ⟨x, is, rfl, k4, f4⟩
      obtain ⟨rfl, rfl⟩ := f4.2 HB.out
      have K4 := K3.trans k4
      have d0 := K4.cell c0
      have d1 := K4.cell c1
      clear f4 k4 hC K3
      go_wp2_with fail
      refine (HR.out _ (k0.trans K4)).mono ?_
      rintro e w6 ⟨rfl, k6⟩
      have K6 := K4.trans k6
      clear k6 d0 d1 K4
      have d0 := K6.cell c0
      have d1 := K6.cell c1
      go_upto_region 5 with fail
      refine wp_region_grow [] (fun _ => False) (by kernel_rfl) ?_
      simp only [List.size_toArray, List.length_cons, List.length_nil, Nat.reduceAdd]
      refine wpAnyG_pure 0 61 (v := ?_) rfl (by kernel_rfl) rfl (by rfl) (fun w' => ?_) ?_
      rotate_left
      · go_simp <;> with_reducible rfl
      simp only [List.setIfInBounds_toArray, List.set_cons_zero, List.set_cons_succ]
      refine wpAnyG_pure 1 62 (v := ?_) rfl (by kernel_rfl) rfl (by rfl) (fun w' => ?_) ?_
      rotate_left
      · go_simp <;> with_reducible rfl
      simp only [List.setIfInBounds_toArray, List.set_cons_zero, List.set_cons_succ]
      refine wpAnyG_pure 2 63 (v := ?_) rfl (by kernel_rfl) rfl (by rfl) (fun w' => ?_) ?_
      rotate_left
      · go_simp <;> with_reducible rfl
      simp only [List.setIfInBounds_toArray, List.set_cons_zero, List.set_cons_succ]
      refine wpAnyG_pure 3 64 (v := ?_) rfl (by kernel_rfl) rfl (by rfl) (fun w' => ?_) ?_
      rotate_left
      · go_simp <;> with_reducible rfl
      simp only [List.setIfInBounds_toArray, List.set_cons_zero, List.set_cons_succ]
      refine wpAnyG_pure 4 65 (v := ?_) rfl (by kernel_rfl) rfl (by rfl) (fun w' => ?_) ?_
      rotate_left
      · go_simp <;> with_reducible rfl
      simp only [List.setIfInBounds_toArray, List.set_cons_zero, List.set_cons_succ]
      refine wpAnyG_pure 5 66 (v := ?_) rfl (by kernel_rfl) rfl (by rfl) (fun w' => ?_) ?_
      rotate_left
      · go_simp <;> with_reducible rfl
      simp only [List.setIfInBounds_toArray, List.set_cons_zero, List.set_cons_succ]
      refine wpAnyG_pure 6 67 (v := ?_) rfl (by kernel_rfl) rfl (by rfl) (fun w' => ?_) ?_
      rotate_left
      · go_simp <;> with_reducible rfl
      simp only [List.setIfInBounds_toArray, List.set_cons_zero, List.set_cons_succ]
      refine wpAnyG_take 7 68 (v := ?_) rfl (by kernel_rfl) rfl (by rfl) (fun w' hG' => ?_) ?_
      rotate_left
      · have hx0 := (K6.drew.trans hG').cell c0
        have hx1 := (K6.drew.trans hG').cell c1
        go_simp <;> with_reducible rfl
      simp only [List.setIfInBounds_toArray, List.set_cons_zero, List.set_cons_succ]
      refine wpAnyG_take 10 71 (v := ?_) rfl (by kernel_rfl) rfl (by rfl) (fun w' hG' => ?_) ?_
      rotate_left
      · have hx0 := (K6.drew.trans hG').cell c0
        have hx1 := (K6.drew.trans hG').cell c1
        go_simp <;> with_reducible rfl
      simp only [List.setIfInBounds_toArray, List.set_cons_zero, List.set_cons_succ]
      refine wpAnyG_step 8 69 rfl (by kernel_rfl) rfl (by rfl) (fun K hK' => ?_)
      go_simp
      refine (HO.out _ (k0.trans K6.drew)).mono ?_
      rintro e w7 ⟨A2, c2, rfl, r7, k7⟩
      refine hK' _ _ (fun _ => k7) ?_
      clear hK'
      simp only [List.setIfInBounds_toArray, List.set_cons_zero, List.set_cons_succ]
      refine wpAnyG_step 9 70 rfl (by kernel_rfl) rfl (by rfl) (fun K hK' => ?_)
      go_simp
      refine (HW.out _ A2 c2 r7).mono ?_
      rintro e w8 ⟨rfl, k8⟩
      refine hK' _ _ (fun _ => k8) ?_
      clear hK'
      simp only [List.setIfInBounds_toArray, List.set_cons_zero, List.set_cons_succ]
      refine wpAnyG_step 11 72 rfl (by kernel_rfl) rfl (by rfl) (fun K hK' => ?_)
      go_simp
      refine (HR.out _ ((k0.trans K6.drew).trans (k7.trans k8))).mono ?_
      rintro e w9 ⟨rfl, k9⟩
      refine hK' _ _ (fun _ => k9) ?_
      clear hK'
      simp only [List.setIfInBounds_toArray, List.set_cons_zero, List.set_cons_succ]
      refine wpAnyG_pure 12 73 (v := ?_) rfl (by kernel_rfl) rfl (by rfl) (fun w' => ?_) ?_
      rotate_left
      · go_simp <;> with_reducible rfl
      simp only [List.setIfInBounds_toArray, List.set_cons_zero, List.set_cons_succ]
      refine wpAnyG_pure 13 74 (v := ?_) rfl (by kernel_rfl) rfl (by rfl) (fun w' => ?_) ?_
      rotate_left
      · go_simp <;> with_reducible rfl
      simp only [List.setIfInBounds_toArray, List.set_cons_zero, List.set_cons_succ]
      refine wpAnyG_pure 14 75 (v := ?_) rfl (by kernel_rfl) rfl (by rfl) (fun w' => ?_) ?_
      rotate_left
      · go_simp <;> with_reducible rfl
      simp only [List.setIfInBounds_toArray, List.set_cons_zero, List.set_cons_succ]
      refine wpAnyG_step 15 76 rfl (by kernel_rfl) rfl (by rfl) (fun K hK' => ?_)
      go_simp
      refine (HA.out _).mono ?_
      rintro e w10 ⟨rfl, k10⟩
      refine hK' _ _ (fun _ => k10) ?_
      clear hK'
      simp only [List.setIfInBounds_toArray, List.set_cons_zero, List.set_cons_succ]
      refine wpAnyG_pure 16 77 (v := ?_) rfl (by kernel_rfl) rfl (by rfl) (fun w' => ?_) ?_
      rotate_left
      · go_simp <;> with_reducible rfl
      simp only [List.setIfInBounds_toArray, List.set_cons_zero, List.set_cons_succ]
      refine wpAnyG_pure 17 12 (v := ?_) rfl (by kernel_rfl) rfl (by rfl) (fun w' => ?_) ?_
      rotate_left
      · go_simp <;> with_reducible rfl
      simp only [List.setIfInBounds_toArray, List.set_cons_zero, List.set_cons_succ]
      refine wpAnyG_done (by kernel_rfl) ?_
      go_wp2_with fail
      go_ret
      exact ⟨rfl, (((k0.trans K6.drew).trans (k7.trans k8)).trans k9).trans k10⟩
    rcases Int.lt_or_le t (N : Int) with t1 | t1
    rotate_left
    · have hbad : ¬ okF ls G s t := fun hk => by have e1 := HN.out; have e2 := hk.2.1; have e3 := hk.2.2.1; omega
      have HB := Lib.hid hbad
      clear hbad HD
      go_enter Try.func3, Try.ntmps3
      go_wp2_with fail
      refine HL.out.mono ?_
      rintro e w2 ⟨rfl, k2⟩
      have d0 := k2.cell c0
      have d1 := k2.cell c1
      go_wp2_with fail
      refine (HO.out _ (k0.trans k2)).mono ?_
      rintro e w3 ⟨A1, c1', rfl, r3, k3⟩
      have K3 := k2.trans k3
      have hC := Lib.hid (HF.out w3 A1 c1' (k0.trans K3) r3)
      clear k2 r3 k3 d0 d1
      go_wp2_with fail
      refine hC.out.mono ?_
      rintro e w4 ⟨x, is, rfl, k4, f4⟩
      obtain ⟨rfl, rfl⟩ := f4.2 HB.out
      have K4 := K3.trans k4
      have d0 := K4.cell c0
      have d1 := K4.cell c1
      clear f4 k4 hC K3
      go_wp2_with fail
      refine (HR.out _ (k0.trans K4)).mono ?_
      rintro e w6 ⟨rfl, k6⟩
      have K6 := K4.trans k6
      clear k6 d0 d1 K4
      have d0 := K6.cell c0
      have d1 := K6.cell c1
      go_upto_region 5 with fail
      refine wp_region_grow [] (fun _ => False) (by kernel_rfl) ?_
      simp only [List.size_toArray, List.length_cons, List.length_nil, Nat.reduceAdd]
      refine wpAnyG_pure 0 61 (v := ?_) rfl (by kernel_rfl) rfl (by rfl) (fun w' => ?_) ?_
      rotate_left
      · go_simp <;> with_reducible rfl
      simp only [List.setIfInBounds_toArray, List.set_cons_zero, List.set_cons_succ]
      refine wpAnyG_pure 1 62 (v := ?_) rfl (by kernel_rfl) rfl (by rfl) (fun w' => ?_) ?_
      rotate_left
      · go_simp <;> with_reducible rfl
      simp only [List.setIfInBounds_toArray, List.set_cons_zero, List.set_cons_succ]
      refine wpAnyG_pure 2 63 (v := ?_) rfl (by kernel_rfl) rfl (by rfl) (fun w' => ?_) ?_
      rotate_left
      · go_simp <;> with_reducible rfl
      simp only [List.setIfInBounds_toArray, List.set_cons_zero, List.set_cons_succ]
      refine wpAnyG_pure 3 64 (v := ?_) rfl (by kernel_rfl) rfl (by rfl) (fun w' => ?_) ?_
      rotate_left
      · go_simp <;> with_reducible rfl
      simp only [List.setIfInBounds_toArray, List.set_cons_zero, List.set_cons_succ]
      refine wpAnyG_pure 4 65 (v := ?_) rfl (by kernel_rfl) rfl (by rfl) (fun w' => ?_) ?_
      rotate_left
      · go_simp <;> with_reducible rfl
      simp only [List.setIfInBounds_toArray, List.set_cons_zero, List.set_cons_succ]
      refine wpAnyG_pure 5 66 (v := ?_) rfl (by kernel_rfl) rfl (by rfl) (fun w' => ?_) ?_
      rotate_left
      · go_simp <;> with_reducible rfl
      simp only [List.setIfInBounds_toArray, List.set_cons_zero, List.set_cons_succ]
      refine wpAnyG_pure 6 67 (v := ?_) rfl (by kernel_rfl) rfl (by rfl) (fun w' => ?_) ?_
      rotate_left
      · go_simp <;> with_reducible rfl
      simp only [List.setIfInBounds_toArray, List.set_cons_zero, List.set_cons_succ]
      refine wpAnyG_take 7 68 (v := ?_) rfl (by kernel_rfl) rfl (by rfl) (fun w' hG' => ?_) ?_
      rotate_left
      · have hx0 := (K6.drew.trans hG').cell c0
        have hx1 := (K6.drew.trans hG').cell c1
        go_simp <;> with_reducible rfl
      simp only [List.setIfInBounds_toArray, List.set_cons_zero, List.set_cons_succ]
      refine wpAnyG_take 10 71 (v := ?_) rfl (by kernel_rfl) rfl (by rfl) (fun w' hG' => ?_) ?_
      rotate_left
      · have hx0 := (K6.drew.trans hG').cell c0
        have hx1 := (K6.drew.trans hG').cell c1
        go_simp <;> with_reducible rfl
      simp only [List.setIfInBounds_toArray, List.set_cons_zero, List.set_cons_succ]
      refine wpAnyG_step 8 69 rfl (by kernel_rfl) rfl (by rfl) (fun K hK' => ?_)
      go_simp
      refine (HO.out _ (k0.trans K6.drew)).mono ?_
      rintro e w7 ⟨A2, c2, rfl, r7, k7⟩
      refine hK' _ _ (fun _ => k7) ?_
      clear hK'
      simp only [List.setIfInBounds_toArray, List.set_cons_zero, List.set_cons_succ]
      refine wpAnyG_step 9 70 rfl (by kernel_rfl) rfl (by rfl) (fun K hK' => ?_)
      go_simp
      refine (HW.out _ A2 c2 r7).mono ?_
      rintro e w8 ⟨rfl, k8⟩
      refine hK' _ _ (fun _ => k8) ?_
      clear hK'
      simp only [List.setIfInBounds_toArray, List.set_cons_zero, List.set_cons_succ]
      refine wpAnyG_step 11 72 rfl (by kernel_rfl) rfl (by rfl) (fun K hK' => ?_)
      go_simp
      refine (HR.out _ ((k0.trans K6.drew).trans (k7.trans k8))).mono ?_
      rintro e w9 ⟨rfl, k9⟩
      refine hK' _ _ (fun _ => k9) ?_
      clear hK'
      simp only [List.setIfInBounds_toArray, List.set_cons_zero, List.set_cons_succ]
      refine wpAnyG_pure 12 73 (v := ?_) rfl (by kernel_rfl) rfl (by rfl) (fun w' => ?_) ?_
      rotate_left
      · go_simp <;> with_reducible rfl
      simp only [List.setIfInBounds_toArray, List.set_cons_zero, List.set_cons_succ]
      refine wpAnyG_pure 13 74 (v := ?_) rfl (by kernel_rfl) rfl (by rfl) (fun w' => ?_) ?_
      rotate_left
      · go_simp <;> with_reducible rfl
      simp only [List.setIfInBounds_toArray, List.set_cons_zero, List.set_cons_succ]
      refine wpAnyG_pure 14 75 (v := ?_) rfl (by kernel_rfl) rfl (by rfl) (fun w' => ?_) ?_
      rotate_left
      · go_simp <;> with_reducible rfl
      simp only [List.setIfInBounds_toArray, List.set_cons_zero, List.set_cons_succ]
      refine wpAnyG_step 15 76 rfl (by kernel_rfl) rfl (by rfl) (fun K hK' => ?_)
      go_simp
      refine (HA.out _).mono ?_
      rintro e w10 ⟨rfl, k10⟩
      refine hK' _ _ (fun _ => k10) ?_
      clear hK'
      simp only [List.setIfInBounds_toArray, List.set_cons_zero, List.set_cons_succ]
      refine wpAnyG_pure 16 77 (v := ?_) rfl (by kernel_rfl) rfl (by rfl) (fun w' => ?_) ?_
      rotate_left
      · go_simp <;> with_reducible rfl
      simp only [List.setIfInBounds_toArray, List.set_cons_zero, List.set_cons_succ]
      refine wpAnyG_pure 17 12 (v := ?_) rfl (by kernel_rfl) rfl (by rfl) (fun w' => ?_) ?_
      rotate_left
      · go_simp <;> with_reducible rfl
      simp only [List.setIfInBounds_toArray, List.set_cons_zero, List.set_cons_succ]
      refine wpAnyG_done (by kernel_rfl) ?_
      go_wp2_with fail
      go_ret
      exact ⟨rfl, (((k0.trans K6.drew).trans (k7.trans k8)).trans k9).trans k10⟩
    by_cases hst : s = t
    · subst hst
      have hbad : ¬ okF ls G s s := fun hk => hk.2.2.2 rfl
      have HB := Lib.hid hbad
      clear hbad HD
      go_enter Try.func3, Try.ntmps3
      go_wp2_with fail
      refine HL.out.mono ?_
      rintro e w2 ⟨rfl, k2⟩
      have d0 := k2.cell c0
      have d1 := k2.cell c1
      go_wp2_with fail
      refine (HO.out _ (k0.trans k2)).mono ?_
      rintro e w3 ⟨A1, c1', rfl, r3, k3⟩
      have K3 := k2.trans k3
      have hC := Lib.hid (HF.out w3 A1 c1' (k0.trans K3) r3)
      clear k2 r3 k3 d0 d1
      go_wp2_with fail
      refine hC.out.mono ?_
      rintro e w4 ⟨x, is, rfl, k4, f4⟩
      obtain ⟨rfl, rfl⟩ := f4.2 HB.out
      have K4 := K3.trans k4
      have d0 := K4.cell c0
      have d1 := K4.cell c1
      clear f4 k4 hC K3
      go_wp2_with fail
      refine (HR.out _ (k0.trans K4)).mono ?_
      rintro e w6 ⟨rfl, k6⟩
      have K6 := K4.trans k6
      clear k6 d0 d1 K4
      have d0 := K6.cell c0
      have d1 := K6.cell c1
      go_upto_region 5 with fail
      refine wp_region_grow [] (fun _ => False) (by kernel_rfl) ?_
      simp only [List.size_toArray, List.length_cons, List.length_nil, Nat.reduceAdd]
      refine wpAnyG_pure 0 61 (v := ?_) rfl (by kernel_rfl) rfl (by rfl) (fun w' => ?_) ?_
      rotate_left
      · go_simp <;> with_reducible rfl
      simp only [List.setIfInBounds_toArray, List.set_cons_zero, List.set_cons_succ]
      refine wpAnyG_pure 1 62 (v := ?_) rfl (by kernel_rfl) rfl (by rfl) (fun w' => ?_) ?_
      rotate_left
      · go_simp <;> with_reducible rfl
      simp only [List.setIfInBounds_toArray, List.set_cons_zero, List.set_cons_succ]
      refine wpAnyG_pure 2 63 (v := ?_) rfl (by kernel_rfl) rfl (by rfl) (fun w' => ?_) ?_
      rotate_left
      · go_simp <;> with_reducible rfl
      simp only [List.setIfInBounds_toArray, List.set_cons_zero, List.set_cons_succ]
      refine wpAnyG_pure 3 64 (v := ?_) rfl (by kernel_rfl) rfl (by rfl) (fun w' => ?_) ?_
      rotate_left
      · go_simp <;> with_reducible rfl
      simp only [List.setIfInBounds_toArray, List.set_cons_zero, List.set_cons_succ]
      refine wpAnyG_pure 4 65 (v := ?_) rfl (by kernel_rfl) rfl (by rfl) (fun w' => ?_) ?_
      rotate_left
      · go_simp <;> with_reducible rfl
      simp only [List.setIfInBounds_toArray, List.set_cons_zero, List.set_cons_succ]
      refine wpAnyG_pure 5 66 (v := ?_) rfl (by kernel_rfl) rfl (by rfl) (fun w' => ?_) ?_
      rotate_left
      · go_simp <;> with_reducible rfl
      simp only [List.setIfInBounds_toArray, List.set_cons_zero, List.set_cons_succ]
      refine wpAnyG_pure 6 67 (v := ?_) rfl (by kernel_rfl) rfl (by rfl) (fun w' => ?_) ?_
      rotate_left
      · go_simp <;> with_reducible rfl
      simp only [List.setIfInBounds_toArray, List.set_cons_zero, List.set_cons_succ]
      refine wpAnyG_take 7 68 (v := ?_) rfl (by kernel_rfl) rfl (by rfl) (fun w' hG' => ?_) ?_
      rotate_left
      · have hx0 := (K6.drew.trans hG').cell c0
        have hx1 := (K6.drew.trans hG').cell c1
        go_simp <;> with_reducible rfl
      simp only [List.setIfInBounds_toArray, List.set_cons_zero, List.set_cons_succ]
      refine wpAnyG_take 10 71 (v := ?_) rfl (by kernel_rfl) rfl (by rfl) (fun w' hG' => ?_) ?_
      rotate_left
      · have hx0 := (K6.drew.trans hG').cell c0
        have hx1 := (K6.drew.trans hG').cell c1
        go_simp <;> with_reducible rfl
      simp only [List.setIfInBounds_toArray, List.set_cons_zero, List.set_cons_succ]
      refine wpAnyG_step 8 69 rfl (by kernel_rfl) rfl (by rfl) (fun K hK' => ?_)
      go_simp
      refine (HO.out _ (k0.trans K6.drew)).mono ?_
      rintro e w7 ⟨A2, c2, rfl, r7, k7⟩
      refine hK' _ _ (fun _ => k7) ?_
      clear hK'
      simp only [List.setIfInBounds_toArray, List.set_cons_zero, List.set_cons_succ]
      refine wpAnyG_step 9 70 rfl (by kernel_rfl) rfl (by rfl) (fun K hK' => ?_)
      go_simp
      refine (HW.out _ A2 c2 r7).mono ?_
      rintro e w8 ⟨rfl, k8⟩
      refine hK' _ _ (fun _ => k8) ?_
      clear hK'
      simp only [List.setIfInBounds_toArray, List.set_cons_zero, List.set_cons_succ]
      refine wpAnyG_step 11 72 rfl (by kernel_rfl) rfl (by rfl) (fun K hK' => ?_)
      go_simp
      refine (HR.out _ ((k0.trans K6.drew).trans (k7.trans k8))).mono ?_
      rintro e w9 ⟨rfl, k9⟩
      refine hK' _ _ (fun _ => k9) ?_
      clear hK'
      simp only [List.setIfInBounds_toArray, List.set_cons_zero, List.set_cons_succ]
      refine wpAnyG_pure 12 73 (v := ?_) rfl (by kernel_rfl) rfl (by rfl) (fun w' => ?_) ?_
      rotate_left
      · go_simp <;> with_reducible rfl
      simp only [List.setIfInBounds_toArray, List.set_cons_zero, List.set_cons_succ]
      refine wpAnyG_pure 13 74 (v := ?_) rfl (by kernel_rfl) rfl (by rfl) (fun w' => ?_) ?_
      rotate_left
      · go_simp <;> with_reducible rfl
      simp only [List.setIfInBounds_toArray, List.set_cons_zero, List.set_cons_succ]
      refine wpAnyG_pure 14 75 (v := ?_) rfl (by kernel_rfl) rfl (by rfl) (fun w' => ?_) ?_
      rotate_left
      · go_simp <;> with_reducible rfl
      simp only [List.setIfInBounds_toArray, List.set_cons_zero, List.set_cons_succ]
      refine wpAnyG_step 15 76 rfl (by kernel_rfl) rfl (by rfl) (fun K hK' => ?_)
      go_simp
      refine (HA.out _).mono ?_
      rintro e w10 ⟨rfl, k10⟩
      refine hK' _ _ (fun _ => k10) ?_
      clear hK'
      simp only [List.setIfInBounds_toArray, List.set_cons_zero, List.set_cons_succ]
      refine wpAnyG_pure 16 77 (v := ?_) rfl (by kernel_rfl) rfl (by rfl) (fun w' => ?_) ?_
      rotate_left
      · go_simp <;> with_reducible rfl
      simp only [List.setIfInBounds_toArray, List.set_cons_zero, List.set_cons_succ]
      refine wpAnyG_pure 17 12 (v := ?_) rfl (by kernel_rfl) rfl (by rfl) (fun w' => ?_) ?_
      rotate_left
      · go_simp <;> with_reducible rfl
      simp only [List.setIfInBounds_toArray, List.set_cons_zero, List.set_cons_succ]
      refine wpAnyG_done (by kernel_rfl) ?_
      go_wp2_with fail
      go_ret
      exact ⟨rfl, (((k0.trans K6.drew).trans (k7.trans k8)).trans k9).trans k10⟩
    have hok : okF ls G s t := ⟨HRR.out, ⟨s0, by rw [HN.out]; exact s1⟩, ⟨t0, by rw [HN.out]; exact t1⟩, hst⟩
    have HOK := Lib.hid hok
    replace HD := Lib.hid (HD.out hok)
    have hse : (s == t) = false := by simp [hst]
    clear hok
    go_enter Try.func3, Try.ntmps3
    go_wp2_with fail
    refine HL.out.mono ?_
    rintro e w2 ⟨rfl, k2⟩
    have d0 := k2.cell c0
    have d1 := k2.cell c1
    go_wp2_with fail
    refine (HO.out _ (k0.trans k2)).mono ?_
    rintro e w3 ⟨A1, c1', rfl, r3, k3⟩
    have K3 := k2.trans k3
    have hC := Lib.hid (HF.out w3 A1 c1' (k0.trans K3) r3)
    clear k2 r3 k3 d0 d1
    go_wp2_with fail
    refine hC.out.mono ?_
    rintro e w4 ⟨x, is, rfl, k4, f4⟩
    have F4 := Lib.hid f4
    have K4 := K3.trans k4
    have d0 := K4.cell c0
    have d1 := K4.cell c1
    clear f4 k4 hC K3
    go_wp2_with fail
    refine (HR.out _ (k0.trans K4)).mono ?_
    rintro e w5 ⟨rfl, k5⟩
    have K5 := K4.trans k5
    clear k5 d0 d1 K4
    have d0 := K5.cell c0
    have d1 := K5.cell c1
    have hC := Lib.hid (HD.out w5 (k0.trans K5))
    go_wp2_with fail
    refine hC.out.mono ?_
    rintro e w6 ⟨d, rfl, k6, f6⟩
    have K6 := K5.trans k6
    have fd0 := f6.1
    have fd1 := f6.2.1
    obtain ⟨x0, hT, hF⟩ := true_plain HOK.out HN.out hN30 F4.out f6
    clear hC f6 k6 F4 K5 d0 d1
    have d0 := K6.cell c0
    have d1 := K6.cell c1
    have hO2 := Lib.hid (HO.out w6 (k0.trans K6))
    cases is with
    | true =>
      obtain ⟨hd, hxb, hgr⟩ := hT rfl
      clear hT hF
      rcases Int.lt_or_le hops (N : Int) with hh | hh
      · clear hgr
        go_wp2_with fail
        refine hO2.out.mono ?_
        rintro e w7 ⟨A2, c2, rfl, r7, k7⟩
        have hC := Lib.hid (HW.out w7 A2 c2 r7)
        go_wp2_with fail
        refine hC.out.mono ?_
        rintro e w8 ⟨rfl, k8⟩
        go_wp2_with fail
        refine (HA.out _).mono ?_
        rintro e w9 ⟨rfl, k9⟩
        go_wp2_with fail
        go_ret
        exact ⟨rfl, (((k0.trans K6).trans k7).trans k8).trans k9⟩
      rcases Int.lt_or_le settles (N : Int) with hs | hs
      · clear hgr
        go_wp2_with fail
        refine hO2.out.mono ?_
        rintro e w7 ⟨A2, c2, rfl, r7, k7⟩
        have hC := Lib.hid (HW.out w7 A2 c2 r7)
        go_wp2_with fail
        refine hC.out.mono ?_
        rintro e w8 ⟨rfl, k8⟩
        go_wp2_with fail
        refine (HA.out _).mono ?_
        rintro e w9 ⟨rfl, k9⟩
        go_wp2_with fail
        go_ret
        exact ⟨rfl, (((k0.trans K6).trans k7).trans k8).trans k9⟩
      obtain ⟨rfl, hfar⟩ := hgr hh hs
      go_wp2_with fail
      refine hO2.out.mono ?_
      rintro e w7 ⟨A2, c2, rfl, r7, k7⟩
      have hC := Lib.hid (HW.out w7 A2 c2 r7)
      go_wp2_with fail
      refine hC.out.mono ?_
      rintro e w8 ⟨rfl, k8⟩
      go_wp2_with fail
      refine (HA.out _).mono ?_
      rintro e w9 ⟨rfl, k9⟩
      go_wp2_with fail
      go_ret
      exact ⟨rfl, (((k0.trans K6).trans k7).trans k8).trans k9⟩
    | false =>
      obtain ⟨rfl, hgr⟩ := hF rfl
      clear hT hF
      rcases Int.lt_or_le hops (N : Int) with hh | hh
      · clear hgr
        go_wp2_with fail
        refine hO2.out.mono ?_
        rintro e w7 ⟨A2, c2, rfl, r7, k7⟩
        have hC := Lib.hid (HW.out w7 A2 c2 r7)
        go_wp2_with fail
        refine hC.out.mono ?_
        rintro e w8 ⟨rfl, k8⟩
        go_wp2_with fail
        refine (HA.out _).mono ?_
        rintro e w9 ⟨rfl, k9⟩
        go_wp2_with fail
        go_ret
        exact ⟨rfl, (((k0.trans K6).trans k7).trans k8).trans k9⟩
      rcases Int.lt_or_le settles (N : Int) with hs | hs
      · clear hgr
        go_wp2_with fail
        refine hO2.out.mono ?_
        rintro e w7 ⟨A2, c2, rfl, r7, k7⟩
        have hC := Lib.hid (HW.out w7 A2 c2 r7)
        go_wp2_with fail
        refine hC.out.mono ?_
        rintro e w8 ⟨rfl, k8⟩
        go_wp2_with fail
        refine (HA.out _).mono ?_
        rintro e w9 ⟨rfl, k9⟩
        go_wp2_with fail
        go_ret
        exact ⟨rfl, (((k0.trans K6).trans k7).trans k8).trans k9⟩
      rcases Int.lt_or_le d below with hdb | hdb
      · have hfar := hgr hh hs hdb
        clear hgr
        go_wp2_with fail
        refine hO2.out.mono ?_
        rintro e w7 ⟨A2, c2, rfl, r7, k7⟩
        have hC := Lib.hid (HW.out w7 A2 c2 r7)
        go_wp2_with fail
        refine hC.out.mono ?_
        rintro e w8 ⟨rfl, k8⟩
        go_wp2_with fail
        refine (HA.out _).mono ?_
        rintro e w9 ⟨rfl, k9⟩
        go_wp2_with fail
        go_ret
        exact ⟨rfl, (((k0.trans K6).trans k7).trans k8).trans k9⟩
      · clear hgr
        go_wp2_with fail
        refine hO2.out.mono ?_
        rintro e w7 ⟨A2, c2, rfl, r7, k7⟩
        have hC := Lib.hid (HW.out w7 A2 c2 r7)
        go_wp2_with fail
        refine hC.out.mono ?_
        rintro e w8 ⟨rfl, k8⟩
        go_wp2_with fail
        refine (HA.out _).mono ?_
        rintro e w9 ⟨rfl, k9⟩
        go_wp2_with fail
        go_ret
        exact ⟨rfl, (((k0.trans K6).trans k7).trans k8).trans k9⟩
end Go.Proofs.Ythbcgdogmkgebaa
