/- The law WitnessMore. -/
import Derived.Test.YthbcgdogmkgebaaFindF
namespace Go.Proofs.Ythbcgdogmkgebaa
open Go.RowKit

set_option maxHeartbeats 40000000 in
set_option maxRecDepth 100000 in
theorem more_law (A V : Option Addr) (c cG : Nat) (ls : List (List Ar)) (gs : List Bool) (s t below more : Int) (w : World) (h : RowN w A ls) (hG : RowB w V gs) (hl : ls.length ≤ 9223372036854775807) (hls : ∀ l ∈ ls, l.length ≤ 9223372036854775807) (hgs : gs.length ≤ 9223372036854775807) (hb : 0 ≤ below) (hm : 0 ≤ more) :
    Calls Try.prog 4 #[.agg #[.slice A ls.length c, .slice V gs.length cG], i64 s, i64 t, u64 below, u64 more] w fun e w' => e = .returned (.bool true) ∧ Grew w w' := by
  obtain ⟨N, hN⟩ : ∃ N, ls.length = N := ⟨_, rfl⟩
  obtain ⟨G, hGn⟩ : ∃ G, gs.length = G := ⟨_, rfl⟩
  have b0 := Blk.new w 25 #[.slice A N c, .slice V G cG]
  have k0 : Grew w (w.alloc (.cells #[.slice A N c, .slice V G cG] 25)) := (Kept.refl _ _).alloc _
  obtain ⟨wb, hwb⟩ : ∃ W, w.alloc (.cells #[.slice A N c, .slice V G cG] 25) = W := ⟨_, rfl⟩
  rw [hwb] at b0 k0
  have HL := Lib.hid (light_any A V c cG G ls wb (h.grew k0) hl (by omega) hls)
  rw [hN] at HL
  have HA := Lib.hid alive_any
  have HR : Hid (lightN ls G → ∀ W, Grew w W → Calls Try.prog 10 #[.agg #[.slice A N c, .slice V G cG]] W fun e w' => e = .returned (.bool (rightN ls G)) ∧ Grew W w') := fun hli W k => by
    have := refRight_any A V c G cG ls W (h.grew k) hl (by omega) (fun _ l hm => by have := hli.2.2 l hm; omega)
    rw [hN] at this
    exact this
  have HO : Hid (lightN ls G → ∀ W, Grew w W → Calls Try.prog 9 #[.agg #[.slice A N c, .slice V G cG]] W fun e w' => ∃ A' c', e = .returned (.agg #[.slice A' N c', .slice V G cG]) ∧ RowN w' A' ls ∧ Grew W w') := fun hli W k => by
    have := of_any A V c G cG ls W (h.grew k) (by have := hli.1; omega) (fun l hm => by have := hli.2.2 l hm; omega)
    rw [hN] at this
    exact this
  have HF : Hid (lightN ls G → ∀ W A' c' b, Grew w W → RowN W A' ls → 0 ≤ b → Calls Try.prog 8 #[.agg #[.slice A' N c', .slice V G cG], i64 s, i64 t, u64 b, i64 N, i64 N] W fun e w' => FindX N G ls gs s t b N N W e w') := fun hli W A' c' b k hr hb =>
    (find_any A' V c' cG N G ls gs s t b N N W hr (hG.grew k) hN hGn (by rw [← hN]; exact hli.1) (by have := hli.2.1; omega) hli.2.2 hb).mono fun e w' hx => find_form hx
  rw [hN, hGn]
  have HG := Lib.hid hG
  have HN := Lib.hid hN
  have HGN := Lib.hid hGn
  have c1 := b0.cell 1
  have c0 := b0.cell 0
  simp at c0 c1
  have hN9 : N ≤ 9223372036854775807 := by omega
  clear h hG hl hls hgs hN hGn
  by_cases hli : lightN ls G
  rotate_left
  · rw [lightB_no hli] at HL
    have hli' := Lib.hid hli
    clear hli HR HO HF HG
    go_enter Try.func4, Try.ntmps4
    go_wp2_with fail
    refine HL.out.mono ?_
    rintro e w2 ⟨rfl, k2⟩
    go_wp2_with fail
    refine (HA.out _).mono ?_
    rintro e w9 ⟨rfl, k9⟩
    go_wp2_with fail
    go_ret
    exact ⟨rfl, (k0.trans k2).trans k9⟩
  rw [lightB_yes hli] at HL
  have HLI := Lib.hid hli
  replace HR := Lib.hid (HR.out hli)
  replace HO := Lib.hid (HO.out hli)
  replace HF := Lib.hid (HF.out hli)
  clear hli
  obtain ⟨r, hr⟩ : ∃ r, rightN ls G = r := ⟨_, rfl⟩
  rw [hr] at HR
  have HRR := Lib.hid hr
  clear hr
  cases r with
  | false =>
    clear HO HF HG
    go_enter Try.func4, Try.ntmps4
    go_wp2_with fail
    refine HL.out.mono ?_
    rintro e w2 ⟨rfl, k2⟩
    have d0 := k2.cell c0
    have d1 := k2.cell c1
    go_wp2_with fail
    refine (HR.out _ (k0.trans k2)).mono ?_
    rintro e w3 ⟨rfl, k3⟩
    go_wp2_with fail
    refine (HA.out _).mono ?_
    rintro e w9 ⟨rfl, k9⟩
    go_wp2_with fail
    go_ret
    exact ⟨rfl, ((k0.trans k2).trans k3).trans k9⟩
  | true =>
    rcases Int.lt_or_le 1152921504606846976 below with hb2 | hb2
    · clear HO HF HG
      go_enter Try.func4, Try.ntmps4
      go_wp2_with fail
      refine HL.out.mono ?_
      rintro e w2 ⟨rfl, k2⟩
      have d0 := k2.cell c0
      have d1 := k2.cell c1
      go_wp2_with fail
      refine (HR.out _ (k0.trans k2)).mono ?_
      rintro e w3 ⟨rfl, k3⟩
      go_wp2_with fail
      refine (HA.out _).mono ?_
      rintro e w9 ⟨rfl, k9⟩
      go_wp2_with fail
      go_ret
      exact ⟨rfl, ((k0.trans k2).trans k3).trans k9⟩
    rcases Int.lt_or_le 1152921504606846976 more with hm2 | hm2
    · clear HO HF HG
      go_enter Try.func4, Try.ntmps4
      go_wp2_with fail
      refine HL.out.mono ?_
      rintro e w2 ⟨rfl, k2⟩
      have d0 := k2.cell c0
      have d1 := k2.cell c1
      go_wp2_with fail
      refine (HR.out _ (k0.trans k2)).mono ?_
      rintro e w3 ⟨rfl, k3⟩
      go_wp2_with fail
      refine (HA.out _).mono ?_
      rintro e w9 ⟨rfl, k9⟩
      go_wp2_with fail
      go_ret
      exact ⟨rfl, ((k0.trans k2).trans k3).trans k9⟩
    go_enter Try.func4, Try.ntmps4
    go_wp2_with fail
    refine HL.out.mono ?_
    rintro e w2 ⟨rfl, k2⟩
    have d0 := k2.cell c0
    have d1 := k2.cell c1
    go_wp2_with fail
    refine (HR.out _ (k0.trans k2)).mono ?_
    rintro e w3 ⟨rfl, k3⟩
    have K3 := (k2.trans k3)
    clear d0 d1
    have d0 := K3.cell c0
    have d1 := K3.cell c1
    go_wp2_with fail
    refine (HO.out _ (k0.trans K3)).mono ?_
    rintro e w4 ⟨A1, c1', rfl, r4, k4⟩
    have K4 := K3.trans k4
    have hC1 := Lib.hid (HF.out w4 A1 c1' below (k0.trans K4) r4 hb)
    have d0 := K4.cell c0
    have d1 := K4.cell c1
    clear k2 k3 r4 k4
    go_wp2_with fail
    refine hC1.out.mono ?_
    rintro e w5 ⟨x, is, rfl, k5, f5⟩
    have F5 := Lib.hid f5
    have K5 := K4.trans k5
    clear d0 d1
    have d0 := K5.cell c0
    have d1 := K5.cell c1
    clear hC1 f5 k5
    go_wp2_with fail
    refine (HO.out _ (k0.trans K5)).mono ?_
    rintro e w6 ⟨A2, c2', rfl, r6, k6⟩
    have K6 := K5.trans k6
    have hwr : IntKind.u64.wrap (below + more) = below + more := Go.IntWalk.u64_in _ (by omega)
    have hC2 := Lib.hid (HF.out w6 A2 c2' (below + more) (k0.trans K6) r6 (by omega))
    clear r6 k6 d0 d1
    go_wp2_with fail
    refine hC2.out.mono ?_
    rintro e w7 ⟨y, there, rfl, k7, f7⟩
    have K7 := K6.trans k7
    have hP := Lib.hid (more_plain F5.out f7 hm)
    have d0 := K7.cell c0
    have d1 := K7.cell c1
    clear hC2 f7 k7 F5
    have hFIN : ∀ W, Grew w W → Hid (Calls Try.prog 7 #[] W fun e w' => e = .returned (.bool true) ∧ Grew w w') := fun W k => (HA.out W).mono fun e w' ⟨h1, h2⟩ => ⟨h1, k.trans h2⟩
    have hFin := hFIN w7 (k0.trans K7)
    clear hFIN
    cases there with
    | true =>
      obtain ⟨⟨hok, ⟨s0, s1⟩, ⟨t0, t1⟩, _⟩, gs0, gt0⟩ := hP.out.2 rfl
      have hGN := (ok_right hok).1
      rw [HN.out] at s1 t1 hGN
      obtain ⟨sn, rfl⟩ := Int.eq_ofNat_of_zero_le s0
      obtain ⟨tn, rfl⟩ := Int.eq_ofNat_of_zero_le t0
      obtain ⟨g1, hg1⟩ : ∃ g, gs[sn]? = some g := ⟨_, List.getElem?_eq_getElem (by rw [HGN.out]; omega)⟩
      obtain ⟨g2, hg2⟩ : ∃ g, gs[tn]? = some g := ⟨_, List.getElem?_eq_getElem (by rw [HGN.out]; omega)⟩
      obtain rfl : g1 = false := by rw [← gs0]; unfold goneL; rw [Int.toNat_natCast, List.getD_eq_getElem?_getD, hg1]; rfl
      obtain rfl : g2 = false := by rw [← gt0]; unfold goneL; rw [Int.toNat_natCast, List.getD_eq_getElem?_getD, hg2]; rfl
      obtain ⟨bv, ov, hV, hbv, cs⟩ := HG.out sn _ hg1
      obtain ⟨bv', ov', hV', hbv', ct⟩ := HG.out tn _ hg2
      subst hV
      cases hV'
      have ds := (k0.trans K7).cell cs
      have dt := (k0.trans K7).cell ct
      have s2 : (sn : Int) < (G : Int) := by omega
      have t2 : (tn : Int) < (G : Int) := by omega
      clear hok gs0 gt0 hg1 hg2 cs ct HG
      cases is with
      | true =>
        obtain rfl : y = x := (hP.out.1 rfl).2
        clear hP
        go_wp2_with fail
        refine hFin.out.mono ?_
        rintro e w9 ⟨rfl, k9⟩
        go_wp2_with fail
        go_ret
        exact ⟨rfl, k9⟩
      | false =>
        clear hP
        go_wp2_with fail
        refine hFin.out.mono ?_
        rintro e w9 ⟨rfl, k9⟩
        go_wp2_with fail
        go_ret
        exact ⟨rfl, k9⟩
    | false =>
      obtain rfl : is = false := by
        cases is with
        | false => rfl
        | true => exact absurd (hP.out.1 rfl).1 (by decide)
      clear hP
      have hGN := (ok_right HRR.out).1
      rw [HN.out] at hGN
      rcases Int.lt_or_le s 0 with s0 | s0
      · rcases Int.lt_or_le t 0 with t0 | t0
        · go_wp2_with fail
          refine hFin.out.mono ?_
          rintro e w9 ⟨rfl, k9⟩
          go_wp2_with fail
          go_ret
          exact ⟨rfl, k9⟩
        · rcases Int.lt_or_le t (N : Int) with t1 | t1
          · obtain ⟨tn, rfl⟩ := Int.eq_ofNat_of_zero_le t0
            obtain ⟨gt, hgt⟩ : ∃ g, gs[tn]? = some g := ⟨_, List.getElem?_eq_getElem (by rw [HGN.out]; omega)⟩
            obtain ⟨bvt, ovt, hVt, hbvt, ct⟩ := HG.out tn _ hgt
            cases hVt
            have dt := (k0.trans K7).cell ct
            have t2 : (tn : Int) < (G : Int) := by omega
            clear ct hgt
            cases gt with
            | false =>
              go_wp2_with fail
              refine hFin.out.mono ?_
              rintro e w9 ⟨rfl, k9⟩
              go_wp2_with fail
              go_ret
              exact ⟨rfl, k9⟩
            | true =>
              go_wp2_with fail
              refine hFin.out.mono ?_
              rintro e w9 ⟨rfl, k9⟩
              go_wp2_with fail
              go_ret
              exact ⟨rfl, k9⟩
          · go_wp2_with fail
            refine hFin.out.mono ?_
            rintro e w9 ⟨rfl, k9⟩
            go_wp2_with fail
            go_ret
            exact ⟨rfl, k9⟩
      · rcases Int.lt_or_le s (N : Int) with s1 | s1
        · obtain ⟨sn, rfl⟩ := Int.eq_ofNat_of_zero_le s0
          obtain ⟨gs, hgs⟩ : ∃ g, gs[sn]? = some g := ⟨_, List.getElem?_eq_getElem (by rw [HGN.out]; omega)⟩
          obtain ⟨bvs, ovs, hVs, hbvs, cs⟩ := HG.out sn _ hgs
          cases hVs
          have ds := (k0.trans K7).cell cs
          have s2 : (sn : Int) < (G : Int) := by omega
          clear cs hgs
          cases gs with
          | false =>
            rcases Int.lt_or_le t 0 with t0 | t0
            · go_wp2_with fail
              refine hFin.out.mono ?_
              rintro e w9 ⟨rfl, k9⟩
              go_wp2_with fail
              go_ret
              exact ⟨rfl, k9⟩
            · rcases Int.lt_or_le t (N : Int) with t1 | t1
              · obtain ⟨tn, rfl⟩ := Int.eq_ofNat_of_zero_le t0
                obtain ⟨gt, hgt⟩ : ∃ g, gs[tn]? = some g := ⟨_, List.getElem?_eq_getElem (by rw [HGN.out]; omega)⟩
                obtain ⟨bvt, ovt, hVt, hbvt, ct⟩ := HG.out tn _ hgt
                cases hVt
                have dt := (k0.trans K7).cell ct
                have t2 : (tn : Int) < (G : Int) := by omega
                clear ct hgt
                cases gt with
                | false =>
                  go_wp2_with fail
                  refine hFin.out.mono ?_
                  rintro e w9 ⟨rfl, k9⟩
                  go_wp2_with fail
                  go_ret
                  exact ⟨rfl, k9⟩
                | true =>
                  go_wp2_with fail
                  refine hFin.out.mono ?_
                  rintro e w9 ⟨rfl, k9⟩
                  go_wp2_with fail
                  go_ret
                  exact ⟨rfl, k9⟩
              · go_wp2_with fail
                refine hFin.out.mono ?_
                rintro e w9 ⟨rfl, k9⟩
                go_wp2_with fail
                go_ret
                exact ⟨rfl, k9⟩
          | true =>
            rcases Int.lt_or_le t 0 with t0 | t0
            · go_wp2_with fail
              refine hFin.out.mono ?_
              rintro e w9 ⟨rfl, k9⟩
              go_wp2_with fail
              go_ret
              exact ⟨rfl, k9⟩
            · rcases Int.lt_or_le t (N : Int) with t1 | t1
              · obtain ⟨tn, rfl⟩ := Int.eq_ofNat_of_zero_le t0
                obtain ⟨gt, hgt⟩ : ∃ g, gs[tn]? = some g := ⟨_, List.getElem?_eq_getElem (by rw [HGN.out]; omega)⟩
                obtain ⟨bvt, ovt, hVt, hbvt, ct⟩ := HG.out tn _ hgt
                cases hVt
                have dt := (k0.trans K7).cell ct
                have t2 : (tn : Int) < (G : Int) := by omega
                clear ct hgt
                cases gt with
                | false =>
                  go_wp2_with fail
                  refine hFin.out.mono ?_
                  rintro e w9 ⟨rfl, k9⟩
                  go_wp2_with fail
                  go_ret
                  exact ⟨rfl, k9⟩
                | true =>
                  go_wp2_with fail
                  refine hFin.out.mono ?_
                  rintro e w9 ⟨rfl, k9⟩
                  go_wp2_with fail
                  go_ret
                  exact ⟨rfl, k9⟩
              · go_wp2_with fail
                refine hFin.out.mono ?_
                rintro e w9 ⟨rfl, k9⟩
                go_wp2_with fail
                go_ret
                exact ⟨rfl, k9⟩
        · rcases Int.lt_or_le t 0 with t0 | t0
          · go_wp2_with fail
            refine hFin.out.mono ?_
            rintro e w9 ⟨rfl, k9⟩
            go_wp2_with fail
            go_ret
            exact ⟨rfl, k9⟩
          · rcases Int.lt_or_le t (N : Int) with t1 | t1
            · obtain ⟨tn, rfl⟩ := Int.eq_ofNat_of_zero_le t0
              obtain ⟨gt, hgt⟩ : ∃ g, gs[tn]? = some g := ⟨_, List.getElem?_eq_getElem (by rw [HGN.out]; omega)⟩
              obtain ⟨bvt, ovt, hVt, hbvt, ct⟩ := HG.out tn _ hgt
              cases hVt
              have dt := (k0.trans K7).cell ct
              have t2 : (tn : Int) < (G : Int) := by omega
              clear ct hgt
              cases gt with
              | false =>
                go_wp2_with fail
                refine hFin.out.mono ?_
                rintro e w9 ⟨rfl, k9⟩
                go_wp2_with fail
                go_ret
                exact ⟨rfl, k9⟩
              | true =>
                go_wp2_with fail
                refine hFin.out.mono ?_
                rintro e w9 ⟨rfl, k9⟩
                go_wp2_with fail
                go_ret
                exact ⟨rfl, k9⟩
            · go_wp2_with fail
              refine hFin.out.mono ?_
              rintro e w9 ⟨rfl, k9⟩
              go_wp2_with fail
              go_ret
              exact ⟨rfl, k9⟩
end Go.Proofs.Ythbcgdogmkgebaa
