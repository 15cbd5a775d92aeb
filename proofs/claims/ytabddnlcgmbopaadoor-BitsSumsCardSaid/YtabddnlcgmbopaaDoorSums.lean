/- The law BitsSums. -/
import Derived.Test.YtabddnlcgmbopaaDoorPlays
namespace Go.Proofs.YtabddnlcgmbopaaDoor
open Go.RowKit
theorem insI_sum (f h : Nat → Bool) (n : Nat) : (insI (fun i => f i || h i) n).length + (insI (fun i => f i && h i) n).length = (insI f n).length + (insI h n).length := by
  unfold insI
  simp only [List.length_map]
  exact ins_sum f h n

set_option maxRecDepth 100000 in
set_option maxHeartbeats 8000000 in
theorem sums_yes (n : Nat) (A : Option Addr) (c : Nat) (l : List Int) (A2 : Option Addr) (c2 : Nat) (l2 : List Int) (w : World) (rI : RowI w A l) (rI2 : RowI w A2 l2) (hl : l.length ≤ 100) (hl2 : l2.length ≤ 100) (hn : n ≤ 1000) (hT : TabB w) :
    Calls Tryd.prog 5 #[i64 n, .slice A l.length c, .slice A2 l2.length c2] w fun e w' => e = .returned (.bool true) ∧ Grew w w' := by
  obtain ⟨L, hL⟩ : ∃ L, l.length = L := ⟨_, rfl⟩
  obtain ⟨L2, hL2⟩ : ∃ L, l2.length = L := ⟨_, rfl⟩
  have hO := Lib.hid (fun (W : World) (k : Grew w W) => of_yes n A c l W (by omega) (by omega) (rI.grew k))
  have hO2 := Lib.hid (fun (W : World) (k : Grew w W) => of_yes n A2 c2 l2 W (by omega) (by omega) (rI2.grew k))
  have hR := Lib.hid (fun (W : World) (k : Grew w W) => refOf_any n A c l W (by omega) (by omega) (rI.grew k))
  have hR2 := Lib.hid (fun (W : World) (k : Grew w W) => refOf_any n A2 c2 l2 W (by omega) (by omega) (rI2.grew k))
  rw [hL] at hO hR hl ⊢
  rw [hL2] at hO2 hR2 hl2 ⊢
  have HT := Lib.hid hT
  clear rI rI2 hT hL hL2
  obtain ⟨f, hf⟩ : ∃ f, ofL n l (fun _ => false) = f := ⟨_, rfl⟩
  obtain ⟨h, hh⟩ : ∃ h, ofL n l2 (fun _ => false) = h := ⟨_, rfl⟩
  rw [hf] at hO hR
  rw [hh] at hO2 hR2
  clear hf hh
  have n0 : (0 : Int) ≤ (n : Int) := by omega

  go_enter Tryd.func5, Tryd.ntmps5
  go_wp2_with fail
  refine (hO.out w (Kept.refl _ _)).mono ?_
  rintro e w1 ⟨S, v, rfl, s1, k1, b1⟩
  have b1' := Lib.hid s1.lt
  have b1 := Lib.hid b1
  go_wp2_with fail
  refine (hO2.out w1 k1).mono ?_
  rintro e w2 ⟨T, u, rfl, t2, k2, b2⟩
  replace s1 := s1.grew k2
  have b2' := Lib.hid t2.lt
  have b2 := Lib.hid b2
  have z1 := k1.size
  have z2 := k2.size
  have kw : Grew w w2 := k1.trans k2
  have C1 := Lib.hid (clone_F w2 S n v f s1)
  go_wp2_with fail
  refine C1.out.mono ?_
  rintro e w3 ⟨X, x, rfl, x3, k3, b3⟩
  replace s1 := s1.grew k3
  replace t2 := t2.grew k3
  have b3' := Lib.hid x3.lt
  have b3 := Lib.hid b3
  have z3 := k3.size
  replace kw := kw.trans k3
  have C2 := Lib.hid (clone_F w3 S n v f s1)
  go_wp2_with fail
  refine C2.out.mono ?_
  rintro e w4 ⟨Y, y, rfl, y4, k4, b4⟩
  replace s1 := s1.grew k4
  replace t2 := t2.grew k4
  replace x3 := x3.grew k4
  have b4' := Lib.hid y4.lt
  have b4 := Lib.hid b4
  have z4 := k4.size
  replace kw := kw.trans k4
  have aT : Hid (∀ j, SB T u j → ¬ SB X x j) := fun j h1 h2 => by have a := b2'.out j h1; have b := b3.out j h2; omega
  have aT2 : Hid (∀ j, SB T u j → ¬ SB Y y j) := fun j h1 h2 => by have a := b2'.out j h1; have b := b4.out j h2; omega
  have aS : Hid (∀ j, SB S v j → ¬ SB X x j) := fun j h1 h2 => by have a := b1'.out j h1; have b := b3.out j h2; omega
  have aS2 : Hid (∀ j, SB S v j → ¬ SB Y y j) := fun j h1 h2 => by have a := b1'.out j h1; have b := b4.out j h2; omega
  have aX : Hid (∀ j, SB X x j → ¬ SB Y y j) := fun j h1 h2 => by have a := b3'.out j h1; have b := b4.out j h2; omega
  have aY : Hid (∀ j, SB Y y j → ¬ SB X x j) := fun j h1 h2 => aX.out j h2 h1
  have nX : Hid (∀ j, SB X x j → w.heap.size ≤ j) := fun j h1 => by have b := b3.out j h1; omega
  have nY : Hid (∀ j, SB Y y j → w.heap.size ≤ j) := fun j h1 => by have b := b4.out j h1; omega
  clear C1 C2 b1 b2 b3 b4 b1' b2' b3' b4' k1 k2 k3 k4 z1 z2 z3 z4 hO hO2
  have CO := Lib.hid (or_F w4 X T n x u f h x3 t2 aT.out)
  go_wp2_with fail
  refine CO.out.mono ?_
  rintro e w5 ⟨rfl, x5, k5⟩
  replace s1 := s1.kept k5 aS.out
  replace t2 := t2.kept k5 aT.out
  replace y4 := y4.kept k5 aY.out
  replace kw := kw.then k5 (fun i hi h => absurd (nX.out i h) (by omega))
  have CA := Lib.hid (and_F w5 Y T n y u f h y4 t2 aT2.out)
  go_wp2_with fail
  refine CA.out.mono ?_
  rintro e w6 ⟨rfl, y6, k6⟩
  replace s1 := s1.kept k6 aS2.out
  replace t2 := t2.kept k6 aT2.out
  replace x5 := x5.kept k6 aX.out
  replace kw := kw.then k6 (fun i hi h => absurd (nY.out i h) (by omega))
  clear CO CA hR hR2
  have s1 := Lib.hid s1
  have t2 := Lib.hid t2
  have x5 := Lib.hid x5
  have y6 := Lib.hid y6
  have kw := Lib.hid kw
  have hX := Lib.hid (fun k => has_any w6 X n x _ x5.out k)
  have hY := Lib.hid (fun k => has_any w6 Y n y _ y6.out k)
  have hS := Lib.hid (fun k => has_any w6 S n v _ s1.out k)
  have hTT := Lib.hid (fun k => has_any w6 T n u _ t2.out k)
  have cX := Lib.hid (count_F w6 X n x _ x5.out)
  have cY := Lib.hid (count_F w6 Y n y _ y6.out)
  have cS := Lib.hid (count_F w6 S n v _ s1.out)
  have cT := Lib.hid (count_F w6 T n u _ t2.out)
  go_wp2_with fail
  go_loopw [11] (fun i wr => ∃ k : Nat, k ≤ n ∧ i = .int .i64 k ∧ Hid (w6 = wr)) (fun i _ => n - (intOf i).toNat)
  case atStart => exact ⟨0, by omega, rfl, Lib.hid rfl⟩
  case round =>
    obtain ⟨k, hk, rfl, HW⟩ := hrel
    obtain rfl := HW.out
    by_cases hlt : k < n
    · have i0 : (0 : Int) ≤ (k : Int) := by omega
      have i1 : (k : Int) < (n : Int) := by omega
      have gX := hX.out (k : Int)
      have gY := hY.out (k : Int)
      have gS := hS.out (k : Int)
      have gT := hTT.out (k : Int)
      rw [isF_in n k _ hlt] at gX gY gS gT
      clear HW hX hY hS hTT cX cY cS cT
      cases hf : f k <;> cases hh : h k
      · rw [hf, hh] at gX gY
        rw [hf] at gS
        rw [hh] at gT
        simp only [Bool.or_true, Bool.or_false, Bool.and_true, Bool.and_false, Bool.or_self, Bool.and_self] at gX gY
        have gX := Lib.hid gX
        have gY := Lib.hid gY
        have gS := Lib.hid gS
        have gT := Lib.hid gT
        clear hf hh
        go_wp2_with fail
        refine gX.out.mono ?_
        rintro e w' ⟨rfl, rfl⟩
        go_wp2_with fail
        refine gS.out.mono ?_
        rintro e w' ⟨rfl, rfl⟩
        go_wp2_with fail
        refine gT.out.mono ?_
        rintro e w' ⟨rfl, rfl⟩
        go_wp2_with fail
        refine gY.out.mono ?_
        rintro e w' ⟨rfl, rfl⟩
        go_wp2_with fail
        refine gS.out.mono ?_
        rintro e w' ⟨rfl, rfl⟩
        go_wp2_with fail
        go_roundw
        case rel => exact ⟨k + 1, by omega, by go_num, Lib.hid trivial⟩
        case measure => simp [intOf]; omega
      · rw [hf, hh] at gX gY
        rw [hf] at gS
        rw [hh] at gT
        simp only [Bool.or_true, Bool.or_false, Bool.and_true, Bool.and_false, Bool.or_self, Bool.and_self] at gX gY
        have gX := Lib.hid gX
        have gY := Lib.hid gY
        have gS := Lib.hid gS
        have gT := Lib.hid gT
        clear hf hh
        go_wp2_with fail
        refine gX.out.mono ?_
        rintro e w' ⟨rfl, rfl⟩
        go_wp2_with fail
        refine gS.out.mono ?_
        rintro e w' ⟨rfl, rfl⟩
        go_wp2_with fail
        refine gT.out.mono ?_
        rintro e w' ⟨rfl, rfl⟩
        go_wp2_with fail
        refine gY.out.mono ?_
        rintro e w' ⟨rfl, rfl⟩
        go_wp2_with fail
        refine gS.out.mono ?_
        rintro e w' ⟨rfl, rfl⟩
        go_wp2_with fail
        go_roundw
        case rel => exact ⟨k + 1, by omega, by go_num, Lib.hid trivial⟩
        case measure => simp [intOf]; omega
      · rw [hf, hh] at gX gY
        rw [hf] at gS
        rw [hh] at gT
        simp only [Bool.or_true, Bool.or_false, Bool.and_true, Bool.and_false, Bool.or_self, Bool.and_self] at gX gY
        have gX := Lib.hid gX
        have gY := Lib.hid gY
        have gS := Lib.hid gS
        have gT := Lib.hid gT
        clear hf hh
        go_wp2_with fail
        refine gX.out.mono ?_
        rintro e w' ⟨rfl, rfl⟩
        go_wp2_with fail
        refine gS.out.mono ?_
        rintro e w' ⟨rfl, rfl⟩
        go_wp2_with fail
        refine gY.out.mono ?_
        rintro e w' ⟨rfl, rfl⟩
        go_wp2_with fail
        refine gS.out.mono ?_
        rintro e w' ⟨rfl, rfl⟩
        go_wp2_with fail
        refine gT.out.mono ?_
        rintro e w' ⟨rfl, rfl⟩
        go_wp2_with fail
        go_roundw
        case rel => exact ⟨k + 1, by omega, by go_num, Lib.hid trivial⟩
        case measure => simp [intOf]; omega
      · rw [hf, hh] at gX gY
        rw [hf] at gS
        rw [hh] at gT
        simp only [Bool.or_true, Bool.or_false, Bool.and_true, Bool.and_false, Bool.or_self, Bool.and_self] at gX gY
        have gX := Lib.hid gX
        have gY := Lib.hid gY
        have gS := Lib.hid gS
        have gT := Lib.hid gT
        clear hf hh
        go_wp2_with fail
        refine gX.out.mono ?_
        rintro e w' ⟨rfl, rfl⟩
        go_wp2_with fail
        refine gS.out.mono ?_
        rintro e w' ⟨rfl, rfl⟩
        go_wp2_with fail
        refine gY.out.mono ?_
        rintro e w' ⟨rfl, rfl⟩
        go_wp2_with fail
        refine gS.out.mono ?_
        rintro e w' ⟨rfl, rfl⟩
        go_wp2_with fail
        refine gT.out.mono ?_
        rintro e w' ⟨rfl, rfl⟩
        go_wp2_with fail
        go_roundw
        case rel => exact ⟨k + 1, by omega, by go_num, Lib.hid trivial⟩
        case measure => simp [intOf]; omega
    · obtain rfl : n = k := by omega
      have hsum := insI_sum f h n
      have q1 := insI_len f n
      have q2 := insI_len h n
      have q3 := insI_len (fun i => f i || h i) n
      have q4 := insI_len (fun i => f i && h i) n
      obtain ⟨a1, ha1⟩ : ∃ a, (insI f n).length = a := ⟨_, rfl⟩
      obtain ⟨a2, ha2⟩ : ∃ a, (insI h n).length = a := ⟨_, rfl⟩
      obtain ⟨a3, ha3⟩ : ∃ a, (insI (fun i => f i || h i) n).length = a := ⟨_, rfl⟩
      obtain ⟨a4, ha4⟩ : ∃ a, (insI (fun i => f i && h i) n).length = a := ⟨_, rfl⟩
      rw [ha1] at cS q1 hsum
      rw [ha2] at cT q2 hsum
      rw [ha3] at cX q3 hsum
      rw [ha4] at cY q4 hsum
      have heq : ((a3 : Int) + (a4 : Int) == (a1 : Int) + (a2 : Int)) = true := by simp; omega
      have hsum := Lib.hid hsum
      have hAl := Lib.hid (alive_any w6 (HT.out.grew kw.out))
      clear ha1 ha2 ha3 ha4 hX hY hS hTT HW
      go_wp2_with fail
      refine cX.out.mono ?_
      rintro e w' ⟨rfl, rfl⟩
      go_wp2_with fail
      refine cY.out.mono ?_
      rintro e w' ⟨rfl, rfl⟩
      go_wp2_with fail
      refine cS.out.mono ?_
      rintro e w' ⟨rfl, rfl⟩
      go_wp2_with fail
      refine cT.out.mono ?_
      rintro e w' ⟨rfl, rfl⟩
      go_wp2_with fail
      refine hAl.out.mono ?_
      rintro e wz ⟨rfl, kz⟩
      go_wp2_with fail
      go_ret
      exact ⟨rfl, kw.out.trans kz⟩

set_option maxRecDepth 100000 in
set_option maxHeartbeats 4000000 in
theorem sums_law (n : Int) (A : Option Addr) (c : Nat) (l : List Int) (A2 : Option Addr) (c2 : Nat) (l2 : List Int) (w : World) (rI : RowI w A l) (rI2 : RowI w A2 l2) (hl : l.length ≤ 9223372036854775807) (hl2 : l2.length ≤ 9223372036854775807) (hT : TabB w) :
    Calls Tryd.prog 5 #[i64 n, .slice A l.length c, .slice A2 l2.length c2] w fun e w' => e = .returned (.bool true) ∧ Grew w w' := by
  have hA := Lib.hid alive_any
  have HT := Lib.hid hT
  by_cases hin : l.length ≤ 100 ∧ l2.length ≤ 100 ∧ 0 ≤ n ∧ n ≤ 1000
  · obtain ⟨h1, h2, h3, h4⟩ := hin
    obtain ⟨k, rfl⟩ := Int.eq_ofNat_of_zero_le h3
    exact sums_yes k A c l A2 c2 l2 w rI rI2 h1 h2 (by omega) hT
  obtain ⟨L, hL⟩ : ∃ L, l.length = L := ⟨_, rfl⟩
  obtain ⟨L2, hL2⟩ : ∃ L, l2.length = L := ⟨_, rfl⟩
  rw [hL, hL2] at hin
  rw [hL] at hl ⊢
  rw [hL2] at hl2 ⊢
  clear rI rI2 hT hL hL2
  rcases Nat.lt_or_ge 100 L with g1 | g1
  · clear hin
    go_enter Tryd.func5, Tryd.ntmps5
    go_wp2_with fail
    refine (hA.out _ HT.out).mono ?_
    rintro e wb ⟨rfl, kb⟩
    go_wp2_with fail
    go_ret
    exact ⟨rfl, kb⟩
  rcases Nat.lt_or_ge 100 L2 with g2 | g2
  · clear hin
    go_enter Tryd.func5, Tryd.ntmps5
    go_wp2_with fail
    refine (hA.out _ HT.out).mono ?_
    rintro e wb ⟨rfl, kb⟩
    go_wp2_with fail
    go_ret
    exact ⟨rfl, kb⟩
  rcases Int.lt_or_le n 0 with g3 | g3
  · clear hin
    go_enter Tryd.func5, Tryd.ntmps5
    go_wp2_with fail
    refine (hA.out _ HT.out).mono ?_
    rintro e wb ⟨rfl, kb⟩
    go_wp2_with fail
    go_ret
    exact ⟨rfl, kb⟩
  · have g4 : 1000 < n := by omega
    clear hin
    go_enter Tryd.func5, Tryd.ntmps5
    go_wp2_with fail
    refine (hA.out _ HT.out).mono ?_
    rintro e wb ⟨rfl, kb⟩
    go_wp2_with fail
    go_ret
    exact ⟨rfl, kb⟩
end Go.Proofs.YtabddnlcgmbopaaDoor
