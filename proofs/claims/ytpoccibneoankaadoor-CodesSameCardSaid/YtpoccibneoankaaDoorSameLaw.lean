/- Errors are the same just where their faults are. -/
import Derived.Test.YtpoccibneoankaaDoorTold
namespace Go.Proofs.YtpoccibneoankaaDoor
open Go.RowKit

set_option maxHeartbeats 2000000 in
set_option maxRecDepth 100000 in
theorem same_main (f g : Int) (n : Nat) (w : World) (hn : n ≤ 20) (hd : Door w) (f0 : f ≠ 0) (g0 : g ≠ 0) (hF : isF f = true) (hG : isF g = true) : Calls Tryd.prog 5 #[i64 f, i64 g, i64 (n : Int)] w fun e w' => e = .returned (.bool true) ∧ Grew w w' := by
  have d1 : decide ((n : Int) < 0) = false := decide_eq_false (by omega)
  have d2 : decide (20 < n) = false := decide_eq_false (by omega)
  have h1 : (f == 0) = false := by simpa using f0
  have h2 : (g == 0) = false := by simpa using g0
  have hI := Lib.hid (fun W => ris_any f W)
  have hJ := Lib.hid (fun W => ris_any g W)
  have hA1 := Lib.hid (fun W => new_yes f ⟨#[97]⟩ W f0 hF)
  have hB1 := Lib.hid (fun W => new_yes g ⟨#[98]⟩ W g0 hG)
  rw [hF] at hI
  rw [hG] at hJ
  obtain ⟨bb, hb1, hb2⟩ : ∃ bb, (g == f) = bb ∧ (f == g) = bb := by
    by_cases h : f = g
    · subst h; exact ⟨true, by simp, by simp⟩
    · exact ⟨false, by simpa using fun e => h e.symm, by simpa using h⟩
  have HB := Lib.hid hb1
  have hN := Lib.hid (fun W => enew_any ⟨#[111, 116, 104, 101, 114]⟩ W)
  have D := Lib.hid hd
  have hbb : (bb == bb) = true := by simp
  clear hd f0 g0 hF hG hb1
  go_enter Tryd.func5, Tryd.ntmps5
  go_wp2_with fail
  refine (hI.out _).mono ?_
  rintro r w1 ⟨rfl, k1⟩
  go_wp2_with fail
  refine (hJ.out _).mono ?_
  rintro r w2 ⟨rfl, k2⟩
  go_wp2_with fail
  refine (hA1.out _).mono ?_
  rintro r w3 ⟨a, rfl, ba, k3, ha⟩
  go_wp2_with fail
  refine (hB1.out _).mono ?_
  rintro r w4 ⟨b, rfl, bb4, k4, hab⟩
  have hne : Hid (a ≠ b) := by have := ba.lt; show a ≠ b; omega
  have k14 := ((k1.trans k2).trans k3).trans k4
  have BA := Lib.hid (ba.grew k4)
  have BB := Lib.hid bb4
  clear ba bb4 ha hab k1 k2 k3 k4 hI hJ hA1 hB1
  go_wp2_with fail
  refine (hN.out _).mono ?_
  rintro r w5 ⟨o, rfl, bo, k5⟩
  have hW5 := Lib.hid (fun W => wrapped_any 30 (.pointer (some ⟨a, 0, none⟩)) n W hn)
  have hO5 := Lib.hid (fun W => wrapped_any 68 (.pointer (some ⟨o, 0, none⟩)) n W hn)
  clear hN bo hn
  go_wp2_with fail
  refine (hW5.out _).mono ?_
  rintro r w6 ⟨v6, rfl, hv6, k6⟩
  have k56 := k5.trans k6
  have hIs0 := Is_hit w6 n v6 a b f g _ _ (D.out.grew (k14.trans k56)) hv6 (BA.out.grew k56) (BB.out.grew k56) hne.out
  rw [HB.out] at hIs0
  obtain ⟨t6, x6, rfl⟩ := hv6.iface
  have hIs := Lib.hid hIs0
  clear hIs0 hv6 k5 k6
  go_wp2_with fail
  refine hIs.out.mono ?_
  rintro r w7 ⟨rfl, k7⟩
  have k17 := k14.trans (k56.trans k7)
  have hFa := Lib.hid (fault_miss w7 0 (sV o) o (D.out.grew k17) rfl)
  clear hIs k7 k56
  go_wp2_with fail
  refine hFa.out.mono ?_
  rintro r w8 ⟨rfl, k8⟩
  have k18 := k17.trans k8
  have hAb := Lib.hid (about_miss w8 0 (sV o) o (D.out.grew k18) rfl)
  clear hFa k8 k17
  go_wp2_with fail
  refine hAb.out.mono ?_
  rintro r w9 ⟨rfl, k9⟩
  clear hAb
  go_wp2_with fail
  refine (hO5.out _).mono ?_
  rintro r w10 ⟨v10, rfl, hv10, k10⟩
  have k110 := k18.trans (k9.trans k10)
  have hF2 := Lib.hid (fault_miss w10 n v10 o (D.out.grew k110) hv10)
  obtain ⟨t10, x10, rfl⟩ := hv10.iface
  clear hv10 k9 k10 k18
  go_wp2_with fail
  refine hF2.out.mono ?_
  rintro r w11 ⟨rfl, k11⟩
  clear hF2
  go_wp2_with fail
  refine (hW5.out _).mono ?_
  rintro r w12 ⟨v12, rfl, hv12, k12⟩
  have k112 := k110.trans (k11.trans k12)
  have hI2 := Lib.hid (Is_miss w12 n v12 a o (D.out.grew k112) hv12)
  obtain ⟨t12, x12, rfl⟩ := hv12.iface
  clear hv12 k11 k12 k110
  go_wp2_with fail
  refine hI2.out.mono ?_
  rintro r w13 ⟨rfl, k13⟩
  have k113 := k112.trans k13
  have hAl := Lib.hid (alive_any w13 (D.out.grew k113))
  clear hI2 k13 k112
  go_wp2_with fail
  refine hAl.out.mono ?_
  rintro r w14 ⟨rfl, k15⟩
  go_wp2_with fail
  go_ret
  exact ⟨rfl, k113.trans k15⟩

theorem same_law (f g n : Int) (w : World) (hd : Door w) : Calls Tryd.prog 5 #[i64 f, i64 g, i64 n] w fun e w' => e = .returned (.bool true) ∧ Grew w w' := by
  rcases Int.lt_or_le n 0 with h2 | h2
  · have d1 : decide (n < 0) = true := decide_eq_true h2
    have hA := fun W h => alive_any W h
    replace hA := Lib.hid hA
    have D := Lib.hid hd
    clear hd
    go_enter Tryd.func5, Tryd.ntmps5
    go_wp2_with fail
    refine (hA.out _ (D.out.grew (Kept.refl _ _))).mono ?_
    rintro r y ⟨rfl, ky⟩
    go_wp2_with fail
    go_ret
    exact ⟨rfl, (Kept.refl _ _).trans ky⟩
  obtain ⟨m, rfl⟩ := Int.eq_ofNat_of_zero_le h2
  have d1 : decide ((m : Int) < 0) = false := decide_eq_false (by omega)
  rcases Nat.lt_or_ge 20 m with h3 | h3
  · have d2 : decide (20 < m) = true := decide_eq_true h3
    have hA := fun W h => alive_any W h
    replace hA := Lib.hid hA
    have D := Lib.hid hd
    clear hd
    go_enter Tryd.func5, Tryd.ntmps5
    go_wp2_with fail
    refine (hA.out _ (D.out.grew (Kept.refl _ _))).mono ?_
    rintro r y ⟨rfl, ky⟩
    go_wp2_with fail
    go_ret
    exact ⟨rfl, (Kept.refl _ _).trans ky⟩
  have d2 : decide (20 < m) = false := decide_eq_false (by omega)
  by_cases h4 : f = 0
  · subst h4
    have hA := fun W h => alive_any W h
    replace hA := Lib.hid hA
    have D := Lib.hid hd
    clear hd
    go_enter Tryd.func5, Tryd.ntmps5
    go_wp2_with fail
    refine (hA.out _ (D.out.grew (Kept.refl _ _))).mono ?_
    rintro r y ⟨rfl, ky⟩
    go_wp2_with fail
    go_ret
    exact ⟨rfl, (Kept.refl _ _).trans ky⟩
  have h5 : (f == 0) = false := by simpa using h4
  by_cases h6 : g = 0
  · subst h6
    have hA := fun W h => alive_any W h
    replace hA := Lib.hid hA
    have D := Lib.hid hd
    clear hd
    go_enter Tryd.func5, Tryd.ntmps5
    go_wp2_with fail
    refine (hA.out _ (D.out.grew (Kept.refl _ _))).mono ?_
    rintro r y ⟨rfl, ky⟩
    go_wp2_with fail
    go_ret
    exact ⟨rfl, (Kept.refl _ _).trans ky⟩
  have h7 : (g == 0) = false := by simpa using h6
  cases hF : isF f
  · have hI := Lib.hid (fun W => ris_any f W)
    rw [hF] at hI
    clear hF h4 h6
    have hA := fun W h => alive_any W h
    replace hA := Lib.hid hA
    have D := Lib.hid hd
    clear hd
    go_enter Tryd.func5, Tryd.ntmps5
    go_wp2_with fail
    refine (hI.out _).mono ?_
    rintro r x0 ⟨rfl, k0⟩
    go_wp2_with fail
    refine (hA.out _ (D.out.grew ((Kept.refl _ _).trans k0))).mono ?_
    rintro r y ⟨rfl, ky⟩
    go_wp2_with fail
    go_ret
    exact ⟨rfl, ((Kept.refl _ _).trans k0).trans ky⟩
  · cases hG : isF g
    · have hI := Lib.hid (fun W => ris_any f W)
      have hJ := Lib.hid (fun W => ris_any g W)
      rw [hF] at hI
      rw [hG] at hJ
      clear hF hG h4 h6
      have hA := fun W h => alive_any W h
      replace hA := Lib.hid hA
      have D := Lib.hid hd
      clear hd
      go_enter Tryd.func5, Tryd.ntmps5
      go_wp2_with fail
      refine (hI.out _).mono ?_
      rintro r x0 ⟨rfl, k0⟩
      go_wp2_with fail
      refine (hJ.out _).mono ?_
      rintro r x1 ⟨rfl, k1⟩
      go_wp2_with fail
      refine (hA.out _ (D.out.grew (((Kept.refl _ _).trans k0).trans k1))).mono ?_
      rintro r y ⟨rfl, ky⟩
      go_wp2_with fail
      go_ret
      exact ⟨rfl, (((Kept.refl _ _).trans k0).trans k1).trans ky⟩
    · exact same_main f g m w h3 hd h4 h6 hF hG
end Go.Proofs.YtpoccibneoankaaDoor
