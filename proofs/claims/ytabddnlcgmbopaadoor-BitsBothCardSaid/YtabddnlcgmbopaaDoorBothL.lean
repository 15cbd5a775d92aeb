/- The law BitsBoth. -/
import Derived.Test.YtabddnlcgmbopaaDoorPlays
import Derived.Test.YtabddnlcgmbopaaDoorBoth
namespace Go.Proofs.YtabddnlcgmbopaaDoor
open Go.RowKit

theorem bothF_true (f h : Nat → Bool) (n : Nat) : insI (bothF true f h) n = insI (fun i => f i || h i) n := by
  unfold insI
  rw [ins_congr (bothF true f h) (fun i => f i || h i) n (fun i _ => by unfold bothF; cases f i <;> cases h i <;> rfl)]
theorem bothF_false (f h : Nat → Bool) (n : Nat) : insI (bothF false f h) n = insI (fun i => f i && h i) n := by
  unfold insI
  rw [ins_congr (bothF false f h) (fun i => f i && h i) n (fun i _ => by unfold bothF; cases f i <;> cases h i <;> rfl)]

set_option maxRecDepth 100000 in
set_option maxHeartbeats 8000000 in
theorem both_no (n m : Nat) (A : Option Addr) (c : Nat) (l : List Int) (A2 : Option Addr) (c2 : Nat) (l2 : List Int) (w : World) (rI : RowI w A l) (rI2 : RowI w A2 l2) (hl : l.length ≤ 100) (hl2 : l2.length ≤ 100) (hn : n ≤ 300) (hm : m ≤ 300) (hnm : n ≠ m) (hT : TabB w) :
    Calls Tryd.prog 4 #[i64 n, i64 m, .slice A l.length c, .slice A2 l2.length c2] w fun e w' => e = .returned (.bool true) ∧ Grew w w' := by
  obtain ⟨L, hL⟩ : ∃ L, l.length = L := ⟨_, rfl⟩
  obtain ⟨L2, hL2⟩ : ∃ L, l2.length = L := ⟨_, rfl⟩
  have hO := Lib.hid (fun (W : World) (k : Grew w W) => of_yes n A c l W (by omega) (by omega) (rI.grew k))
  have hO2 := Lib.hid (fun (W : World) (k : Grew w W) => of_yes m A2 c2 l2 W (by omega) (by omega) (rI2.grew k))
  have hR := Lib.hid (fun (W : World) (k : Grew w W) => refOf_any n A c l W (by omega) (by omega) (rI.grew k))
  have hR2 := Lib.hid (fun (W : World) (k : Grew w W) => refOf_any m A2 c2 l2 W (by omega) (by omega) (rI2.grew k))
  rw [hL] at hO hR hl ⊢
  rw [hL2] at hO2 hR2 hl2 ⊢
  have HT := Lib.hid hT
  clear rI rI2 hT hL hL2
  obtain ⟨f, hf⟩ : ∃ f, ofL n l (fun _ => false) = f := ⟨_, rfl⟩
  obtain ⟨h, hh⟩ : ∃ h, ofL m l2 (fun _ => false) = h := ⟨_, rfl⟩
  rw [hf] at hO hR
  rw [hh] at hO2 hR2
  clear hf hh
  have n0 : (0 : Int) ≤ (n : Int) := by omega
  have m0 : (0 : Int) ≤ (m : Int) := by omega
  have hnm2 : ((n : Int) == (m : Int)) = false := by simp; omega
  go_enter Tryd.func4, Tryd.ntmps4
  go_wp2_with fail
  refine (hO.out w (Kept.refl _ _)).mono ?_
  rintro e w1 ⟨S, v, rfl, s1, k1, b1⟩
  have b1' := Lib.hid s1.lt
  have b1 := Lib.hid b1
  go_wp2_with fail
  refine (hO2.out w1 k1).mono ?_
  rintro e w2 ⟨T, u, rfl, t2, k2, b2⟩
  replace s1 := s1.grew k2
  have b2' := Lib.hid t2.lt
  have b2 := Lib.hid b2
  have z1 := k1.size
  have z2 := k2.size
  have kw : Grew w w2 := k1.trans k2
  have C1 := Lib.hid (clone_F w2 S n v f s1)
  go_wp2_with fail
  refine C1.out.mono ?_
  rintro e w3 ⟨X, x, rfl, x3, k3, b3⟩
  replace s1 := s1.grew k3
  replace t2 := t2.grew k3
  have b3' := Lib.hid x3.lt
  have b3 := Lib.hid b3
  have z3 := k3.size
  replace kw := kw.trans k3
  have C2 := Lib.hid (clone_F w3 S n v f s1)
  go_wp2_with fail
  refine C2.out.mono ?_
  rintro e w4 ⟨Y, y, rfl, y4, k4, b4⟩
  replace s1 := s1.grew k4
  replace t2 := t2.grew k4
  replace x3 := x3.grew k4
  have b4' := Lib.hid y4.lt
  have b4 := Lib.hid b4
  have z4 := k4.size
  replace kw := kw.trans k4
  have aT : Hid (∀ j, SB T u j → ¬ SB X x j) := fun j h1 h2 => by have a := b2'.out j h1; have b := b3.out j h2; omega
  have aT2 : Hid (∀ j, SB T u j → ¬ SB Y y j) := fun j h1 h2 => by have a := b2'.out j h1; have b := b4.out j h2; omega
  have aS : Hid (∀ j, SB S v j → ¬ SB X x j) := fun j h1 h2 => by have a := b1'.out j h1; have b := b3.out j h2; omega
  have aS2 : Hid (∀ j, SB S v j → ¬ SB Y y j) := fun j h1 h2 => by have a := b1'.out j h1; have b := b4.out j h2; omega
  have aX : Hid (∀ j, SB X x j → ¬ SB Y y j) := fun j h1 h2 => by have a := b3'.out j h1; have b := b4.out j h2; omega
  have aY : Hid (∀ j, SB Y y j → ¬ SB X x j) := fun j h1 h2 => aX.out j h2 h1
  have nX : Hid (∀ j, SB X x j → w.heap.size ≤ j) := fun j h1 => by have b := b3.out j h1; omega
  have nY : Hid (∀ j, SB Y y j → w.heap.size ≤ j) := fun j h1 => by have b := b4.out j h1; omega
  clear C1 C2 b1 b2 b3 b4 b1' b2' b3' b4' k1 k2 k3 k4 z1 z2 z3 z4 hO hO2
  have CO := Lib.hid (or_F_no w4 X T n m x u f h x3 t2 hnm)
  go_wp2_with fail
  refine CO.out.mono ?_
  rintro e w5 ⟨rfl, k5⟩
  replace s1 := s1.grew k5
  replace t2 := t2.grew k5
  replace y4 := y4.grew k5
  have x5 := x3.grew k5
  replace kw := kw.trans k5
  have CA := Lib.hid (and_F_no w5 Y T n m y u f h y4 t2 hnm)
  go_wp2_with fail
  refine CA.out.mono ?_
  rintro e w6 ⟨rfl, k6⟩
  replace s1 := s1.grew k6
  replace t2 := t2.grew k6
  have y6 := y4.grew k6
  replace x5 := x5.grew k6
  replace kw := kw.trans k6
  clear CO CA
  have s1 := Lib.hid s1
  have t2 := Lib.hid t2
  have x5 := Lib.hid x5
  have y6 := Lib.hid y6
  have kw := Lib.hid kw
  have aS1 := Lib.hid (fun W (kk : Grew w6 W) => all_any W S n v f (s1.out.grew kk) (HT.out.grew (kw.out.trans kk)))
  have aT1 := Lib.hid (fun W (kk : Grew w6 W) => all_any W T m u h (t2.out.grew kk) (HT.out.grew (kw.out.trans kk)))
  have aX1 := Lib.hid (fun W (kk : Grew w6 W) => all_any W X n x _ (x5.out.grew kk) (HT.out.grew (kw.out.trans kk)))
  have aY1 := Lib.hid (fun W (kk : Grew w6 W) => all_any W Y n y _ (y6.out.grew kk) (HT.out.grew (kw.out.trans kk)))
  have oN := Lib.hid (fun W (kk : Grew w6 W) => or_F_nil W S n v f (s1.out.grew kk))
  have aN := Lib.hid (fun W (kk : Grew w6 W) => and_F_nil W S n v f (s1.out.grew kk))
  have hAl := Lib.hid (fun W (kk : Grew w6 W) => alive_any W (HT.out.grew (kw.out.trans kk)))
  go_wp2_with fail
  refine (aS1.out _ (Kept.refl _ _ : Grew w6 w6)).mono ?_
  rintro e wa1 ⟨ua1, rfl, oa1, qa1⟩
  have ka1 : Grew w6 wa1 := (Kept.refl _ _ : Grew w6 w6).trans qa1
  have oa1 := Lib.hid (fun W (kk : Grew wa1 W) => oa1.grew kk)
  go_wp2_with fail
  refine (hR.out _ (kw.out.trans ka1)).mono ?_
  rintro e wc1_0 ⟨gc1_0, rfl, rt1_0, qc1_0, _⟩
  have kc1_0 : Grew w6 wc1_0 := ka1.trans qc1_0
  have loc1_0 : Grew wa1 wc1_0 := (Kept.refl _ _ : Grew wa1 wa1).trans qc1_0
  go_wp2_with fail
  refine (refAll_any _ n f _ rt1_0 (by omega)).mono ?_
  rintro e wb1 ⟨ub1, rfl, ob1, qb1⟩
  have kb1 : Grew w6 wb1 := kc1_0.trans qb1
  have hSm1 := Lib.hid (same_yes _ _ _ _ _ _ wb1 (oa1.out _ (loc1_0.trans qb1)) ob1 (by have := insI_len f n; omega) rfl)
  go_wp2_with fail
  refine hSm1.out.mono ?_
  rintro e wd1 ⟨rfl, qd1⟩
  have kd1 : Grew w6 wd1 := kb1.trans qd1
  clear oa1 ob1 hSm1
  go_wp2_with fail
  refine (aT1.out _ kd1).mono ?_
  rintro e wa2 ⟨ua2, rfl, oa2, qa2⟩
  have ka2 : Grew w6 wa2 := kd1.trans qa2
  have oa2 := Lib.hid (fun W (kk : Grew wa2 W) => oa2.grew kk)
  go_wp2_with fail
  refine (hR2.out _ (kw.out.trans ka2)).mono ?_
  rintro e wc2_0 ⟨gc2_0, rfl, rt2_0, qc2_0, _⟩
  have kc2_0 : Grew w6 wc2_0 := ka2.trans qc2_0
  have loc2_0 : Grew wa2 wc2_0 := (Kept.refl _ _ : Grew wa2 wa2).trans qc2_0
  go_wp2_with fail
  refine (refAll_any _ m h _ rt2_0 (by omega)).mono ?_
  rintro e wb2 ⟨ub2, rfl, ob2, qb2⟩
  have kb2 : Grew w6 wb2 := kc2_0.trans qb2
  have hSm2 := Lib.hid (same_yes _ _ _ _ _ _ wb2 (oa2.out _ (loc2_0.trans qb2)) ob2 (by have := insI_len h m; omega) rfl)
  go_wp2_with fail
  refine hSm2.out.mono ?_
  rintro e wd2 ⟨rfl, qd2⟩
  have kd2 : Grew w6 wd2 := kb2.trans qd2
  clear oa2 ob2 hSm2
  go_wp2_with fail
  refine (oN.out _ kd2).mono ?_
  rintro e wn ⟨rfl, qn⟩
  have kn : Grew w6 wn := kd2.trans qn
  go_wp2_with fail
  refine (aN.out _ kn).mono ?_
  rintro e wm ⟨rfl, qm⟩
  have km : Grew w6 wm := kn.trans qm
  go_wp2_with fail
  refine (aX1.out _ km).mono ?_
  rintro e wa3 ⟨ua3, rfl, oa3, qa3⟩
  have ka3 : Grew w6 wa3 := km.trans qa3
  have oa3 := Lib.hid (fun W (kk : Grew wa3 W) => oa3.grew kk)
  go_wp2_with fail
  refine (aS1.out _ ka3).mono ?_
  rintro e wb3 ⟨ub3, rfl, ob3, qb3⟩
  have kb3 : Grew w6 wb3 := ka3.trans qb3
  have hSm3 := Lib.hid (same_yes _ _ _ _ _ _ wb3 (oa3.out _ ((Kept.refl _ _ : Grew wa3 wa3).trans qb3)) ob3 (by have := insI_len f n; omega) rfl)
  go_wp2_with fail
  refine hSm3.out.mono ?_
  rintro e wd3 ⟨rfl, qd3⟩
  have kd3 : Grew w6 wd3 := kb3.trans qd3
  clear oa3 ob3 hSm3
  go_wp2_with fail
  refine (aY1.out _ kd3).mono ?_
  rintro e wa4 ⟨ua4, rfl, oa4, qa4⟩
  have ka4 : Grew w6 wa4 := kd3.trans qa4
  have oa4 := Lib.hid (fun W (kk : Grew wa4 W) => oa4.grew kk)
  go_wp2_with fail
  refine (aS1.out _ ka4).mono ?_
  rintro e wb4 ⟨ub4, rfl, ob4, qb4⟩
  have kb4 : Grew w6 wb4 := ka4.trans qb4
  have hSm4 := Lib.hid (same_yes _ _ _ _ _ _ wb4 (oa4.out _ ((Kept.refl _ _ : Grew wa4 wa4).trans qb4)) ob4 (by have := insI_len f n; omega) rfl)
  go_wp2_with fail
  refine hSm4.out.mono ?_
  rintro e wd4 ⟨rfl, qd4⟩
  have kd4 : Grew w6 wd4 := kb4.trans qd4
  clear oa4 ob4 hSm4
  go_wp2_with fail
  refine (hAl.out _ kd4).mono ?_
  rintro e wz ⟨rfl, kz⟩
  go_wp2_with fail
  go_ret
  exact ⟨rfl, (kw.out.trans kd4).trans kz⟩
set_option maxRecDepth 100000 in
set_option maxHeartbeats 8000000 in
theorem both_yes (n : Nat) (A : Option Addr) (c : Nat) (l : List Int) (A2 : Option Addr) (c2 : Nat) (l2 : List Int) (w : World) (rI : RowI w A l) (rI2 : RowI w A2 l2) (hl : l.length ≤ 100) (hl2 : l2.length ≤ 100) (hn : n ≤ 300) (hT : TabB w) :
    Calls Tryd.prog 4 #[i64 n, i64 n, .slice A l.length c, .slice A2 l2.length c2] w fun e w' => e = .returned (.bool true) ∧ Grew w w' := by
  obtain ⟨L, hL⟩ : ∃ L, l.length = L := ⟨_, rfl⟩
  obtain ⟨L2, hL2⟩ : ∃ L, l2.length = L := ⟨_, rfl⟩
  have hO := Lib.hid (fun (W : World) (k : Grew w W) => of_yes n A c l W (by omega) (by omega) (rI.grew k))
  have hO2 := Lib.hid (fun (W : World) (k : Grew w W) => of_yes n A2 c2 l2 W (by omega) (by omega) (rI2.grew k))
  have hR := Lib.hid (fun (W : World) (k : Grew w W) => refOf_any n A c l W (by omega) (by omega) (rI.grew k))
  have hR2 := Lib.hid (fun (W : World) (k : Grew w W) => refOf_any n A2 c2 l2 W (by omega) (by omega) (rI2.grew k))
  rw [hL] at hO hR hl ⊢
  rw [hL2] at hO2 hR2 hl2 ⊢
  have HT := Lib.hid hT
  clear rI rI2 hT hL hL2
  obtain ⟨f, hf⟩ : ∃ f, ofL n l (fun _ => false) = f := ⟨_, rfl⟩
  obtain ⟨h, hh⟩ : ∃ h, ofL n l2 (fun _ => false) = h := ⟨_, rfl⟩
  rw [hf] at hO hR
  rw [hh] at hO2 hR2
  clear hf hh
  have n0 : (0 : Int) ≤ (n : Int) := by omega
  have hnm2 : ((n : Int) == (n : Int)) = true := by simp
  go_enter Tryd.func4, Tryd.ntmps4
  go_wp2_with fail
  refine (hO.out w (Kept.refl _ _)).mono ?_
  rintro e w1 ⟨S, v, rfl, s1, k1, b1⟩
  have b1' := Lib.hid s1.lt
  have b1 := Lib.hid b1
  go_wp2_with fail
  refine (hO2.out w1 k1).mono ?_
  rintro e w2 ⟨T, u, rfl, t2, k2, b2⟩
  replace s1 := s1.grew k2
  have b2' := Lib.hid t2.lt
  have b2 := Lib.hid b2
  have z1 := k1.size
  have z2 := k2.size
  have kw : Grew w w2 := k1.trans k2
  have C1 := Lib.hid (clone_F w2 S n v f s1)
  go_wp2_with fail
  refine C1.out.mono ?_
  rintro e w3 ⟨X, x, rfl, x3, k3, b3⟩
  replace s1 := s1.grew k3
  replace t2 := t2.grew k3
  have b3' := Lib.hid x3.lt
  have b3 := Lib.hid b3
  have z3 := k3.size
  replace kw := kw.trans k3
  have C2 := Lib.hid (clone_F w3 S n v f s1)
  go_wp2_with fail
  refine C2.out.mono ?_
  rintro e w4 ⟨Y, y, rfl, y4, k4, b4⟩
  replace s1 := s1.grew k4
  replace t2 := t2.grew k4
  replace x3 := x3.grew k4
  have b4' := Lib.hid y4.lt
  have b4 := Lib.hid b4
  have z4 := k4.size
  replace kw := kw.trans k4
  have aT : Hid (∀ j, SB T u j → ¬ SB X x j) := fun j h1 h2 => by have a := b2'.out j h1; have b := b3.out j h2; omega
  have aT2 : Hid (∀ j, SB T u j → ¬ SB Y y j) := fun j h1 h2 => by have a := b2'.out j h1; have b := b4.out j h2; omega
  have aS : Hid (∀ j, SB S v j → ¬ SB X x j) := fun j h1 h2 => by have a := b1'.out j h1; have b := b3.out j h2; omega
  have aS2 : Hid (∀ j, SB S v j → ¬ SB Y y j) := fun j h1 h2 => by have a := b1'.out j h1; have b := b4.out j h2; omega
  have aX : Hid (∀ j, SB X x j → ¬ SB Y y j) := fun j h1 h2 => by have a := b3'.out j h1; have b := b4.out j h2; omega
  have aY : Hid (∀ j, SB Y y j → ¬ SB X x j) := fun j h1 h2 => aX.out j h2 h1
  have nX : Hid (∀ j, SB X x j → w.heap.size ≤ j) := fun j h1 => by have b := b3.out j h1; omega
  have nY : Hid (∀ j, SB Y y j → w.heap.size ≤ j) := fun j h1 => by have b := b4.out j h1; omega
  clear C1 C2 b1 b2 b3 b4 b1' b2' b3' b4' k1 k2 k3 k4 z1 z2 z3 z4 hO hO2
  have CO := Lib.hid (or_F w4 X T n x u f h x3 t2 aT.out)
  go_wp2_with fail
  refine CO.out.mono ?_
  rintro e w5 ⟨rfl, x5, k5⟩
  replace s1 := s1.kept k5 aS.out
  replace t2 := t2.kept k5 aT.out
  replace y4 := y4.kept k5 aY.out
  replace kw := kw.then k5 (fun i hi h => absurd (nX.out i h) (by omega))
  have CA := Lib.hid (and_F w5 Y T n y u f h y4 t2 aT2.out)
  go_wp2_with fail
  refine CA.out.mono ?_
  rintro e w6 ⟨rfl, y6, k6⟩
  replace s1 := s1.kept k6 aS2.out
  replace t2 := t2.kept k6 aT2.out
  replace x5 := x5.kept k6 aX.out
  replace kw := kw.then k6 (fun i hi h => absurd (nY.out i h) (by omega))
  clear CO CA
  have s1 := Lib.hid s1
  have t2 := Lib.hid t2
  have x5 := Lib.hid x5
  have y6 := Lib.hid y6
  have kw := Lib.hid kw
  have aS1 := Lib.hid (fun W (kk : Grew w6 W) => all_any W S n v f (s1.out.grew kk) (HT.out.grew (kw.out.trans kk)))
  have aT1 := Lib.hid (fun W (kk : Grew w6 W) => all_any W T n u h (t2.out.grew kk) (HT.out.grew (kw.out.trans kk)))
  have aX1 := Lib.hid (fun W (kk : Grew w6 W) => all_any W X n x _ (x5.out.grew kk) (HT.out.grew (kw.out.trans kk)))
  have aY1 := Lib.hid (fun W (kk : Grew w6 W) => all_any W Y n y _ (y6.out.grew kk) (HT.out.grew (kw.out.trans kk)))
  have oN := Lib.hid (fun W (kk : Grew w6 W) => or_F_nil W S n v f (s1.out.grew kk))
  have aN := Lib.hid (fun W (kk : Grew w6 W) => and_F_nil W S n v f (s1.out.grew kk))
  have hAl := Lib.hid (fun W (kk : Grew w6 W) => alive_any W (HT.out.grew (kw.out.trans kk)))
  go_wp2_with fail
  refine (aS1.out _ (Kept.refl _ _ : Grew w6 w6)).mono ?_
  rintro e wa5 ⟨ua5, rfl, oa5, qa5⟩
  have ka5 : Grew w6 wa5 := (Kept.refl _ _ : Grew w6 w6).trans qa5
  have oa5 := Lib.hid (fun W (kk : Grew wa5 W) => oa5.grew kk)
  go_wp2_with fail
  refine (hR.out _ (kw.out.trans ka5)).mono ?_
  rintro e wc5_0 ⟨gc5_0, rfl, rt5_0, qc5_0, _⟩
  have kc5_0 : Grew w6 wc5_0 := ka5.trans qc5_0
  have loc5_0 : Grew wa5 wc5_0 := (Kept.refl _ _ : Grew wa5 wa5).trans qc5_0
  go_wp2_with fail
  refine (refAll_any _ n f _ rt5_0 (by omega)).mono ?_
  rintro e wb5 ⟨ub5, rfl, ob5, qb5⟩
  have kb5 : Grew w6 wb5 := kc5_0.trans qb5
  have hSm5 := Lib.hid (same_yes _ _ _ _ _ _ wb5 (oa5.out _ (loc5_0.trans qb5)) ob5 (by have := insI_len f n; omega) rfl)
  go_wp2_with fail
  refine hSm5.out.mono ?_
  rintro e wd5 ⟨rfl, qd5⟩
  have kd5 : Grew w6 wd5 := kb5.trans qd5
  clear oa5 ob5 hSm5
  go_wp2_with fail
  refine (aT1.out _ kd5).mono ?_
  rintro e wa6 ⟨ua6, rfl, oa6, qa6⟩
  have ka6 : Grew w6 wa6 := kd5.trans qa6
  have oa6 := Lib.hid (fun W (kk : Grew wa6 W) => oa6.grew kk)
  go_wp2_with fail
  refine (hR2.out _ (kw.out.trans ka6)).mono ?_
  rintro e wc6_0 ⟨gc6_0, rfl, rt6_0, qc6_0, _⟩
  have kc6_0 : Grew w6 wc6_0 := ka6.trans qc6_0
  have loc6_0 : Grew wa6 wc6_0 := (Kept.refl _ _ : Grew wa6 wa6).trans qc6_0
  go_wp2_with fail
  refine (refAll_any _ n h _ rt6_0 (by omega)).mono ?_
  rintro e wb6 ⟨ub6, rfl, ob6, qb6⟩
  have kb6 : Grew w6 wb6 := kc6_0.trans qb6
  have hSm6 := Lib.hid (same_yes _ _ _ _ _ _ wb6 (oa6.out _ (loc6_0.trans qb6)) ob6 (by have := insI_len h n; omega) rfl)
  go_wp2_with fail
  refine hSm6.out.mono ?_
  rintro e wd6 ⟨rfl, qd6⟩
  have kd6 : Grew w6 wd6 := kb6.trans qd6
  clear oa6 ob6 hSm6
  go_wp2_with fail
  refine (oN.out _ kd6).mono ?_
  rintro e wn ⟨rfl, qn⟩
  have kn : Grew w6 wn := kd6.trans qn
  go_wp2_with fail
  refine (aN.out _ kn).mono ?_
  rintro e wm ⟨rfl, qm⟩
  have km : Grew w6 wm := kn.trans qm
  go_wp2_with fail
  refine (hR.out _ (kw.out.trans km)).mono ?_
  rintro e wp ⟨gp, rfl, rp, qp, _⟩
  have kp : Grew w6 wp := km.trans qp
  go_wp2_with fail
  refine (hR2.out _ (kw.out.trans kp)).mono ?_
  rintro e wq ⟨gq, rfl, rq, qq, _⟩
  have kq : Grew w6 wq := kp.trans qq
  have rp := Lib.hid (fun W (kk : Grew wq W) => rp.grew (qq.trans kk))
  have rq := Lib.hid (fun W (kk : Grew wq W) => rq.grew kk)
  have lq : Grew wq wq := Kept.refl _ _
  go_wp2_with fail
  refine (aX1.out _ kq).mono ?_
  rintro e wa8 ⟨ua8, rfl, oa8, qa8⟩
  have ka8 : Grew w6 wa8 := kq.trans qa8
  have la8 : Grew wq wa8 := lq.trans qa8
  go_wp2_with fail
  refine (refBoth_true gp gq n f h _ (rp.out _ la8) (rq.out _ la8) (by omega)).mono ?_
  rintro e wc8 ⟨gc8, rfl, rt8, qc8, _⟩
  have kc8 : Grew w6 wc8 := ka8.trans qc8
  go_wp2_with fail
  refine (refAll_any _ n _ _ rt8 (by omega)).mono ?_
  rintro e wb8 ⟨ub8, rfl, ob8, qb8⟩
  have kb8 : Grew w6 wb8 := kc8.trans qb8
  have hSm8 := Lib.hid (same_yes _ _ _ _ _ _ wb8 ((oa8.grew qc8).grew qb8) ob8 (by have := insI_len (fun i => f i || h i) n; omega) (bothF_true f h n).symm)
  go_wp2_with fail
  refine hSm8.out.mono ?_
  rintro e wd8 ⟨rfl, qd8⟩
  have kd8 : Grew w6 wd8 := kb8.trans qd8
  have ld8 : Grew wq wd8 := ((la8.trans qc8).trans qb8).trans qd8
  clear oa8 ob8 hSm8 rt8
  go_wp2_with fail
  refine (aY1.out _ kd8).mono ?_
  rintro e wa9 ⟨ua9, rfl, oa9, qa9⟩
  have ka9 : Grew w6 wa9 := kd8.trans qa9
  have la9 : Grew wq wa9 := ld8.trans qa9
  go_wp2_with fail
  refine (refBoth_false gp gq n f h _ (rp.out _ la9) (rq.out _ la9) (by omega)).mono ?_
  rintro e wc9 ⟨gc9, rfl, rt9, qc9, _⟩
  have kc9 : Grew w6 wc9 := ka9.trans qc9
  go_wp2_with fail
  refine (refAll_any _ n _ _ rt9 (by omega)).mono ?_
  rintro e wb9 ⟨ub9, rfl, ob9, qb9⟩
  have kb9 : Grew w6 wb9 := kc9.trans qb9
  have hSm9 := Lib.hid (same_yes _ _ _ _ _ _ wb9 ((oa9.grew qc9).grew qb9) ob9 (by have := insI_len (fun i => f i && h i) n; omega) (bothF_false f h n).symm)
  go_wp2_with fail
  refine hSm9.out.mono ?_
  rintro e wd9 ⟨rfl, qd9⟩
  have kd9 : Grew w6 wd9 := kb9.trans qd9
  have ld9 : Grew wq wd9 := ((la9.trans qc9).trans qb9).trans qd9
  clear oa9 ob9 hSm9 rt9
  go_wp2_with fail
  refine (hAl.out _ kd9).mono ?_
  rintro e wz ⟨rfl, kz⟩
  go_wp2_with fail
  go_ret
  exact ⟨rfl, (kw.out.trans kd9).trans kz⟩

set_option maxRecDepth 100000 in
set_option maxHeartbeats 4000000 in
theorem both_law (n m : Int) (A : Option Addr) (c : Nat) (l : List Int) (A2 : Option Addr) (c2 : Nat) (l2 : List Int) (w : World) (rI : RowI w A l) (rI2 : RowI w A2 l2) (hl : l.length ≤ 9223372036854775807) (hl2 : l2.length ≤ 9223372036854775807) (hT : TabB w) :
    Calls Tryd.prog 4 #[i64 n, i64 m, .slice A l.length c, .slice A2 l2.length c2] w fun e w' => e = .returned (.bool true) ∧ Grew w w' := by
  have hA := Lib.hid alive_any
  have HT := Lib.hid hT
  by_cases hin : l.length ≤ 100 ∧ l2.length ≤ 100 ∧ 0 ≤ n ∧ n ≤ 300 ∧ 0 ≤ m ∧ m ≤ 300
  · obtain ⟨h1, h2, h3, h4, h5, h6⟩ := hin
    obtain ⟨k, rfl⟩ := Int.eq_ofNat_of_zero_le h3
    obtain ⟨j, rfl⟩ := Int.eq_ofNat_of_zero_le h5
    by_cases hkj : k = j
    · subst hkj
      exact both_yes k A c l A2 c2 l2 w rI rI2 h1 h2 (by omega) hT
    · exact both_no k j A c l A2 c2 l2 w rI rI2 h1 h2 (by omega) (by omega) hkj hT
  obtain ⟨L, hL⟩ : ∃ L, l.length = L := ⟨_, rfl⟩
  obtain ⟨L2, hL2⟩ : ∃ L, l2.length = L := ⟨_, rfl⟩
  rw [hL, hL2] at hin
  rw [hL] at hl ⊢
  rw [hL2] at hl2 ⊢
  clear rI rI2 hT hL hL2
  rcases Nat.lt_or_ge 100 L with g1 | g1
  · clear hin
    go_enter Tryd.func4, Tryd.ntmps4
    go_wp2_with fail
    refine (hA.out _ HT.out).mono ?_
    rintro e wb ⟨rfl, kb⟩
    go_wp2_with fail
    go_ret
    exact ⟨rfl, kb⟩
  rcases Nat.lt_or_ge 100 L2 with g2 | g2
  · clear hin
    go_enter Tryd.func4, Tryd.ntmps4
    go_wp2_with fail
    refine (hA.out _ HT.out).mono ?_
    rintro e wb ⟨rfl, kb⟩
    go_wp2_with fail
    go_ret
    exact ⟨rfl, kb⟩
  rcases Int.lt_or_le n 0 with g3 | g3
  · clear hin
    go_enter Tryd.func4, Tryd.ntmps4
    go_wp2_with fail
    refine (hA.out _ HT.out).mono ?_
    rintro e wb ⟨rfl, kb⟩
    go_wp2_with fail
    go_ret
    exact ⟨rfl, kb⟩
  rcases Int.lt_or_le 300 n with g4 | g4
  · clear hin
    go_enter Tryd.func4, Tryd.ntmps4
    go_wp2_with fail
    refine (hA.out _ HT.out).mono ?_
    rintro e wb ⟨rfl, kb⟩
    go_wp2_with fail
    go_ret
    exact ⟨rfl, kb⟩
  rcases Int.lt_or_le m 0 with g5 | g5
  · clear hin
    go_enter Tryd.func4, Tryd.ntmps4
    go_wp2_with fail
    refine (hA.out _ HT.out).mono ?_
    rintro e wb ⟨rfl, kb⟩
    go_wp2_with fail
    go_ret
    exact ⟨rfl, kb⟩
  · have g6 : 300 < m := by omega
    clear hin
    go_enter Tryd.func4, Tryd.ntmps4
    go_wp2_with fail
    refine (hA.out _ HT.out).mono ?_
    rintro e wb ⟨rfl, kb⟩
    go_wp2_with fail
    go_ret
    exact ⟨rfl, kb⟩
end Go.Proofs.YtabddnlcgmbopaaDoor
