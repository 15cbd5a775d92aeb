/- The law BitsPlays. -/
import Derived.Test.YtabddnlcgmbopaaDoorAlive
namespace Go.Proofs.YtabddnlcgmbopaaDoor
open Go.RowKit

/-- A slice of acts: kind and number. -/
def RowA (w : World) (A : Option Addr) (len : Nat) (z : Nat → Int × Int) : Prop :=
  ∀ i, i < len → ∃ b off, A = some ⟨b, off, none⟩ ∧ b < w.heap.size ∧ w.cell? ⟨b, off + i * 2, none⟩ = some (i64 (z i).1) ∧ w.cell? ⟨b, off + i * 2 + 1, none⟩ = some (i64 (z i).2)

theorem insI_nil (n : Nat) : insI (fun _ => false) n = [] := by simp [insI, ins]
theorem of_nil (n : Nat) (h : Int) (f : Nat → Bool) (hx : h < 0 ∨ (n : Int) ≤ h) : isF n f h = false := by
  unfold isF
  rcases hx with h1 | h1
  · rw [decide_eq_false (by omega : ¬ 0 ≤ h)]; rfl
  · rw [decide_eq_false (by omega : ¬ h < (n : Int))]; simp
theorem isF_in (n j : Nat) (f : Nat → Bool) (hj : j < n) : isF n f (j : Int) = f j := by
  unfold isF
  rw [decide_eq_true (by omega : (0 : Int) ≤ (j : Int)), decide_eq_true (by omega : (j : Int) < (n : Int))]; simp
theorem addB_out (n : Nat) (x : Int) (f : Nat → Bool) (hx : x < 0 ∨ (n : Int) ≤ x) : (decide (0 ≤ x) && decide (x < n) && !(f x.toNat)) = false := by
  rcases hx with h1 | h1
  · rw [decide_eq_false (by omega : ¬ 0 ≤ x)]; rfl
  · rw [decide_eq_false (by omega : ¬ x < (n : Int))]; simp
theorem addB_in (n j : Nat) (f : Nat → Bool) (hj : j < n) : (decide (0 ≤ (j : Int)) && decide ((j : Int) < n) && !(f (j : Int).toNat)) = !f j := by
  rw [decide_eq_true (by omega : (0 : Int) ≤ (j : Int)), decide_eq_true (by omega : (j : Int) < (n : Int))]; simp

set_option maxRecDepth 100000 in
set_option maxHeartbeats 8000000 in
theorem plays_main (n : Nat) (A : Option Addr) (c : Nat) (l : List Int) (A2 : Option Addr) (len cap : Nat) (z : Nat → Int × Int) (t : Int) (w : World) (rI : RowI w A l) (rA : RowA w A2 len z) (hl : l.length ≤ 100) (hlen : len ≤ 100) (hn : n ≤ 300) (hT : TabB w) :
    Calls Tryd.prog 3 #[i64 n, .slice A l.length c, .slice A2 len cap, i64 t] w fun e w' => e = .returned (.bool true) ∧ Grew w w' := by
  obtain ⟨L, hL⟩ : ∃ L, l.length = L := ⟨_, rfl⟩
  have hO := Lib.hid (of_yes n A c l w (by omega) (by omega) rI)
  have hR := Lib.hid (fun (W : World) (k : Grew w W) => refOf_any n A c l W (by omega) (by omega) (rI.grew k))
  rw [hL] at hO hR hl ⊢
  have hN := Lib.hid (fun W => new_set n W (by omega))
  have HA := Lib.hid rA
  have HT := Lib.hid hT
  clear rI rA hT hL
  have n0 : (0 : Int) ≤ (n : Int) := by omega
  go_enter Tryd.func3, Tryd.ntmps3
  go_wp2_with fail
  refine hO.out.mono ?_
  rintro e w1 ⟨S, v, rfl, s1, k1, hS1⟩
  have hSl := Lib.hid s1.lt
  have hS1 := Lib.hid hS1
  clear hO
  go_wp2_with fail
  refine (hN.out _).mono ?_
  rintro e w2 ⟨S2, v2, rfl, s2, k2, _⟩
  have hZ := Lib.hid (size_F w2 S2 n v2 _ s2)
  have hC := Lib.hid (count_F w2 S2 n v2 _ s2)
  rw [insI_nil] at hC
  clear s2 hN
  go_wp2_with fail
  refine hZ.out.mono ?_
  rintro e w2' ⟨rfl, rfl⟩
  go_wp2_with fail
  refine hC.out.mono ?_
  rintro e w2' ⟨rfl, rfl⟩
  clear hZ hC
  go_wp2_with fail
  refine (hR.out _ (k1.trans k2)).mono ?_
  rintro e w3 ⟨g, rfl, t3, k3, hg⟩
  have hz2 := k2.size
  have hz1 := k1.size
  have hgap : Hid (∀ j, SB S v j → w.heap.size ≤ j ∧ j ≠ g) := fun j hj => ⟨hS1.out j hj, by have := hSl.out j hj; omega⟩
  have hgw : w.heap.size ≤ g := by omega
  have HS : Hid (SetF w3 S n v (ofL n l (fun _ => false)) ∧ RowT w3 g n (ofL n l (fun _ => false)) ∧ Grew w w3) := ⟨(s1.grew k2).grew k3, t3, (k1.trans k2).trans k3⟩
  clear hR s1 t3 k1 k2 k3 hg hz1 hz2 hSl hS1
  go_wp2_with fail
  go_loopw [12, 13, 14, 15, 16, 17] (fun i u13 u14 u15 u16 u17 wr => ∃ (k : Nat) (f : Nat → Bool), k ≤ len ∧ i = .int .i64 k ∧ Hid (SetF wr S n v f ∧ RowT wr g n f ∧ Grew w wr)) (fun i _ _ _ _ _ _ => len - (intOf i).toNat)
  case atStart => exact ⟨0, _, by omega, rfl, HS⟩
  case round =>
    clear HS
    obtain ⟨k, f, hk, rfl, HS⟩ := hrel
    by_cases hlt : k < len
    · obtain ⟨b, off, hAe, hb, e0, e1⟩ := HA.out k hlt
      subst hAe
      obtain ⟨q, hq⟩ : ∃ q, z k = q := ⟨_, rfl⟩
      rw [hq] at e0 e1
      clear hq
      obtain ⟨kd, x⟩ := q
      dsimp only at e0 e1
      replace e0 := HS.out.2.2.cell e0
      replace e1 := HS.out.2.2.cell e1
      have i0 : (0 : Int) ≤ (k : Int) := by omega
      have i1 : (k : Int) < (len : Int) := by omega
      have HAdd := Lib.hid (fun W (s : SetF W S n v f) => add_any W S n v f s x)
      have HDrop := Lib.hid (fun W (s : SetF W S n v f) => drop_any W S n v f s x)
      by_cases hkd : kd = 0
      · subst hkd
        by_cases hin : 0 ≤ x ∧ x < n
        · obtain ⟨j, rfl⟩ : ∃ j : Nat, x = (j : Int) := ⟨x.toNat, by omega⟩
          have hj : j < n := by omega
          have j0 : (0 : Int) ≤ (j : Int) := by omega
          have j1 : (j : Int) < (n : Int) := by omega
          clear hin
          cases hf : f j with
          | true =>
            have hres := addB_in n j f hj
            rw [hf] at hres
            have HP := Lib.hid (fun W (kk : Grew wr W) => HAdd.out W (HS.out.1.grew kk))
            rw [hres] at HP
            simp only [Bool.not_true, Bool.not_false] at HP
            have hc := HS.out.2.1.cell hj
            rw [hf] at hc
            have HS2 := Lib.hid HS.out.2
            clear HS HAdd HDrop hres hf
            go_wp2_with fail
            go_quiet (fail)
            go_wp2_with fail
            refine (HP.out _ ((Kept.refl _ _).drewN _)).mono ?_
            rintro e w4 ⟨rfl, s4, k4⟩
            have hK4 : Grew w w4 := (HS2.out.2.drewN _).then k4 fun i hi h => absurd (hgap.out i h).1 (by omega)
            have t4 : RowT w4 g n f := (HS2.out.1.grew ((Kept.refl _ _).drewN _)).kept k4 fun h => (hgap.out g h).2 rfl
            have f4 := t4.frozen j
            have c4 := t4.cell hj
            have HS5 : Hid (SetF (w4.setCell ⟨g, j, none⟩ (.bool true)) S n v (putF n f (j : Int) true) ∧ RowT (w4.setCell ⟨g, j, none⟩ (.bool true)) g n (putF n f (j : Int) true) ∧ Grew w (w4.setCell ⟨g, j, none⟩ (.bool true))) :=
              ⟨s4.kept ((Kept.refl (fun k => k = g) w4).setCell (p := ⟨g, j, none⟩) (.inl rfl) _) (fun i hi h => (hgap.out i hi).2 h), t4.set hj true, hK4.setCell (p := ⟨g, j, none⟩) (.inr hgw) _⟩
            clear s4 t4 k4 hK4 HP HS2
            go_wp2_with fail
            go_roundw
            case rel => exact ⟨k + 1, _, by omega, by go_num, HS5⟩
            case measure => simp [intOf]; omega
          | false =>
            have hres := addB_in n j f hj
            rw [hf] at hres
            have HP := Lib.hid (fun W (kk : Grew wr W) => HAdd.out W (HS.out.1.grew kk))
            rw [hres] at HP
            simp only [Bool.not_true, Bool.not_false] at HP
            have hc := HS.out.2.1.cell hj
            rw [hf] at hc
            have HS2 := Lib.hid HS.out.2
            clear HS HAdd HDrop hres hf
            go_wp2_with fail
            go_quiet (fail)
            go_wp2_with fail
            refine (HP.out _ ((Kept.refl _ _).drewN _)).mono ?_
            rintro e w4 ⟨rfl, s4, k4⟩
            have hK4 : Grew w w4 := (HS2.out.2.drewN _).then k4 fun i hi h => absurd (hgap.out i h).1 (by omega)
            have t4 : RowT w4 g n f := (HS2.out.1.grew ((Kept.refl _ _).drewN _)).kept k4 fun h => (hgap.out g h).2 rfl
            have f4 := t4.frozen j
            have c4 := t4.cell hj
            have HS5 : Hid (SetF (w4.setCell ⟨g, j, none⟩ (.bool true)) S n v (putF n f (j : Int) true) ∧ RowT (w4.setCell ⟨g, j, none⟩ (.bool true)) g n (putF n f (j : Int) true) ∧ Grew w (w4.setCell ⟨g, j, none⟩ (.bool true))) :=
              ⟨s4.kept ((Kept.refl (fun k => k = g) w4).setCell (p := ⟨g, j, none⟩) (.inl rfl) _) (fun i hi h => (hgap.out i hi).2 h), t4.set hj true, hK4.setCell (p := ⟨g, j, none⟩) (.inr hgw) _⟩
            clear s4 t4 k4 hK4 HP HS2
            go_wp2_with fail
            go_roundw
            case rel => exact ⟨k + 1, _, by omega, by go_num, HS5⟩
            case measure => simp [intOf]; omega
        · rcases Int.lt_or_le x 0 with hx0 | hx0
          · clear hin
            have hres := addB_out n x f (.inl hx0)
            have HP := Lib.hid (fun W (kk : Grew wr W) => HAdd.out W (HS.out.1.grew kk))
            rw [hres] at HP
            rw [putF_out (.inl hx0) f true] at HP
            have HS2 := Lib.hid HS.out.2
            clear HS HAdd HDrop hres
            go_wp2_with fail
            go_quiet (fail)
            go_wp2_with fail
            refine (HP.out _ ((Kept.refl _ _).drewN _)).mono ?_
            rintro e w4 ⟨rfl, s4, k4⟩
            have hK4 : Grew w w4 := (HS2.out.2.drewN _).then k4 fun i hi h => absurd (hgap.out i h).1 (by omega)
            have t4 : RowT w4 g n f := (HS2.out.1.grew ((Kept.refl _ _).drewN _)).kept k4 fun h => (hgap.out g h).2 rfl
            have HS5 : Hid (SetF w4 S n v f ∧ RowT w4 g n f ∧ Grew w w4) := ⟨s4, t4, hK4⟩
            clear s4 t4 k4 hK4 HP HS2
            go_wp2_with fail
            go_roundw
            case rel => exact ⟨k + 1, _, by omega, by go_num, HS5⟩
            case measure => simp [intOf]; omega
          · replace hx0 : (n : Int) ≤ x := by omega
            have hx1 : (0 : Int) ≤ x := by omega
            clear hin
            have hres := addB_out n x f (.inr hx0)
            have HP := Lib.hid (fun W (kk : Grew wr W) => HAdd.out W (HS.out.1.grew kk))
            rw [hres] at HP
            rw [putF_out (.inr hx0) f true] at HP
            have HS2 := Lib.hid HS.out.2
            clear HS HAdd HDrop hres
            go_wp2_with fail
            go_quiet (fail)
            go_wp2_with fail
            refine (HP.out _ ((Kept.refl _ _).drewN _)).mono ?_
            rintro e w4 ⟨rfl, s4, k4⟩
            have hK4 : Grew w w4 := (HS2.out.2.drewN _).then k4 fun i hi h => absurd (hgap.out i h).1 (by omega)
            have t4 : RowT w4 g n f := (HS2.out.1.grew ((Kept.refl _ _).drewN _)).kept k4 fun h => (hgap.out g h).2 rfl
            have HS5 : Hid (SetF w4 S n v f ∧ RowT w4 g n f ∧ Grew w w4) := ⟨s4, t4, hK4⟩
            clear s4 t4 k4 hK4 HP HS2
            go_wp2_with fail
            go_roundw
            case rel => exact ⟨k + 1, _, by omega, by go_num, HS5⟩
            case measure => simp [intOf]; omega
      · have hkd2 : (kd == 0) = false := by simpa using hkd
        clear hkd
        by_cases hin : 0 ≤ x ∧ x < n
        · obtain ⟨j, rfl⟩ : ∃ j : Nat, x = (j : Int) := ⟨x.toNat, by omega⟩
          have hj : j < n := by omega
          have j0 : (0 : Int) ≤ (j : Int) := by omega
          have j1 : (j : Int) < (n : Int) := by omega
          clear hin
          cases hf : f j with
          | true =>
            have hres := isF_in n j f hj
            rw [hf] at hres
            have HP := Lib.hid (fun W (kk : Grew wr W) => HDrop.out W (HS.out.1.grew kk))
            rw [hres] at HP
            have hc := HS.out.2.1.cell hj
            rw [hf] at hc
            have HS2 := Lib.hid HS.out.2
            clear HS HAdd HDrop hres hf
            go_wp2_with fail
            go_quiet (fail)
            go_wp2_with fail
            refine (HP.out _ ((Kept.refl _ _).drewN _)).mono ?_
            rintro e w4 ⟨rfl, s4, k4⟩
            have hK4 : Grew w w4 := (HS2.out.2.drewN _).then k4 fun i hi h => absurd (hgap.out i h).1 (by omega)
            have t4 : RowT w4 g n f := (HS2.out.1.grew ((Kept.refl _ _).drewN _)).kept k4 fun h => (hgap.out g h).2 rfl
            have f4 := t4.frozen j
            have c4 := t4.cell hj
            have HS5 : Hid (SetF (w4.setCell ⟨g, j, none⟩ (.bool false)) S n v (putF n f (j : Int) false) ∧ RowT (w4.setCell ⟨g, j, none⟩ (.bool false)) g n (putF n f (j : Int) false) ∧ Grew w (w4.setCell ⟨g, j, none⟩ (.bool false))) :=
              ⟨s4.kept ((Kept.refl (fun k => k = g) w4).setCell (p := ⟨g, j, none⟩) (.inl rfl) _) (fun i hi h => (hgap.out i hi).2 h), t4.set hj false, hK4.setCell (p := ⟨g, j, none⟩) (.inr hgw) _⟩
            clear s4 t4 k4 hK4 HP HS2
            go_wp2_with fail
            go_roundw
            case rel => exact ⟨k + 1, _, by omega, by go_num, HS5⟩
            case measure => simp [intOf]; omega
          | false =>
            have hres := isF_in n j f hj
            rw [hf] at hres
            have HP := Lib.hid (fun W (kk : Grew wr W) => HDrop.out W (HS.out.1.grew kk))
            rw [hres] at HP
            have hc := HS.out.2.1.cell hj
            rw [hf] at hc
            have HS2 := Lib.hid HS.out.2
            clear HS HAdd HDrop hres hf
            go_wp2_with fail
            go_quiet (fail)
            go_wp2_with fail
            refine (HP.out _ ((Kept.refl _ _).drewN _)).mono ?_
            rintro e w4 ⟨rfl, s4, k4⟩
            have hK4 : Grew w w4 := (HS2.out.2.drewN _).then k4 fun i hi h => absurd (hgap.out i h).1 (by omega)
            have t4 : RowT w4 g n f := (HS2.out.1.grew ((Kept.refl _ _).drewN _)).kept k4 fun h => (hgap.out g h).2 rfl
            have f4 := t4.frozen j
            have c4 := t4.cell hj
            have HS5 : Hid (SetF (w4.setCell ⟨g, j, none⟩ (.bool false)) S n v (putF n f (j : Int) false) ∧ RowT (w4.setCell ⟨g, j, none⟩ (.bool false)) g n (putF n f (j : Int) false) ∧ Grew w (w4.setCell ⟨g, j, none⟩ (.bool false))) :=
              ⟨s4.kept ((Kept.refl (fun k => k = g) w4).setCell (p := ⟨g, j, none⟩) (.inl rfl) _) (fun i hi h => (hgap.out i hi).2 h), t4.set hj false, hK4.setCell (p := ⟨g, j, none⟩) (.inr hgw) _⟩
            clear s4 t4 k4 hK4 HP HS2
            go_wp2_with fail
            go_roundw
            case rel => exact ⟨k + 1, _, by omega, by go_num, HS5⟩
            case measure => simp [intOf]; omega
        · rcases Int.lt_or_le x 0 with hx0 | hx0
          · clear hin
            have hres := of_nil n x f (.inl hx0)
            have HP := Lib.hid (fun W (kk : Grew wr W) => HDrop.out W (HS.out.1.grew kk))
            rw [hres] at HP
            rw [putF_out (.inl hx0) f false] at HP
            have HS2 := Lib.hid HS.out.2
            clear HS HAdd HDrop hres
            go_wp2_with fail
            go_quiet (fail)
            go_wp2_with fail
            refine (HP.out _ ((Kept.refl _ _).drewN _)).mono ?_
            rintro e w4 ⟨rfl, s4, k4⟩
            have hK4 : Grew w w4 := (HS2.out.2.drewN _).then k4 fun i hi h => absurd (hgap.out i h).1 (by omega)
            have t4 : RowT w4 g n f := (HS2.out.1.grew ((Kept.refl _ _).drewN _)).kept k4 fun h => (hgap.out g h).2 rfl
            have HS5 : Hid (SetF w4 S n v f ∧ RowT w4 g n f ∧ Grew w w4) := ⟨s4, t4, hK4⟩
            clear s4 t4 k4 hK4 HP HS2
            go_wp2_with fail
            go_roundw
            case rel => exact ⟨k + 1, _, by omega, by go_num, HS5⟩
            case measure => simp [intOf]; omega
          · replace hx0 : (n : Int) ≤ x := by omega
            have hx1 : (0 : Int) ≤ x := by omega
            clear hin
            have hres := of_nil n x f (.inr hx0)
            have HP := Lib.hid (fun W (kk : Grew wr W) => HDrop.out W (HS.out.1.grew kk))
            rw [hres] at HP
            rw [putF_out (.inr hx0) f false] at HP
            have HS2 := Lib.hid HS.out.2
            clear HS HAdd HDrop hres
            go_wp2_with fail
            go_quiet (fail)
            go_wp2_with fail
            refine (HP.out _ ((Kept.refl _ _).drewN _)).mono ?_
            rintro e w4 ⟨rfl, s4, k4⟩
            have hK4 : Grew w w4 := (HS2.out.2.drewN _).then k4 fun i hi h => absurd (hgap.out i h).1 (by omega)
            have t4 : RowT w4 g n f := (HS2.out.1.grew ((Kept.refl _ _).drewN _)).kept k4 fun h => (hgap.out g h).2 rfl
            have HS5 : Hid (SetF w4 S n v f ∧ RowT w4 g n f ∧ Grew w w4) := ⟨s4, t4, hK4⟩
            clear s4 t4 k4 hK4 HP HS2
            go_wp2_with fail
            go_roundw
            case rel => exact ⟨k + 1, _, by omega, by go_num, HS5⟩
            case measure => simp [intOf]; omega
    · obtain rfl : k = len := by omega
      have hA := Lib.hid (all_any wr S n v f HS.out.1 (HT.out.grew HS.out.2.2))
      have hRA := Lib.hid (fun W (kk : Grew wr W) => refAll_any g n f W (HS.out.2.1.grew kk) (by omega))
      have hCo := Lib.hid (fun W (kk : Grew wr W) => count_F W S n v f (HS.out.1.grew kk))
      have hSz := Lib.hid (fun W (kk : Grew wr W) => size_F W S n v f (HS.out.1.grew kk))
      have hHas := Lib.hid (fun W (kk : Grew wr W) => has_any W S n v f (HS.out.1.grew kk) t)
      have hAl := Lib.hid (fun W (kk : Grew wr W) => alive_any W (HT.out.grew (HS.out.2.2.trans kk)))
      have hRT := Lib.hid (fun W (kk : Grew wr W) => HS.out.2.1.grew kk)
      have hKw := Lib.hid HS.out.2.2
      have hIl := insI_len f n
      obtain ⟨M, hM⟩ : ∃ M, insI f n = M := ⟨_, rfl⟩
      rw [hM] at hA hRA hCo hIl
      obtain ⟨ml, hml⟩ : ∃ ml, M.length = ml := ⟨_, rfl⟩
      have HM := Lib.hid hml
      rw [hml] at hCo hIl
      clear hM hml HS HA hgap
      by_cases hin : 0 ≤ t ∧ t < n
      · obtain ⟨j, rfl⟩ : ∃ j : Nat, t = (j : Int) := ⟨t.toNat, by omega⟩
        have hj : j < n := by omega
        have j0 : (0 : Int) ≤ (j : Int) := by omega
        have j1 : (j : Int) < (n : Int) := by omega
        clear hin
        cases hf : f j with
        | true =>
          have hres := isF_in n j f hj
          rw [hf] at hres
          rw [hres] at hHas
          clear hres
          go_wp2_with fail
          refine hA.out.mono ?_
          rintro e wa ⟨ua, rfl, oa, ka⟩
          have oa := Lib.hid oa
          go_wp2_with fail
          refine (hRA.out _ ka).mono ?_
          rintro e wb ⟨ub, rfl, ob, kb⟩
          have hSm := Lib.hid (same_yes ua ub _ _ _ _ wb (oa.out.grew kb) ob (by rw [HM.out]; omega) rfl)
          replace kb := ka.trans kb
          clear oa ob ka
          go_wp2_with fail
          refine hSm.out.mono ?_
          rintro e wc ⟨rfl, kc⟩
          replace kc := kb.trans kc
          clear hSm kb
          go_wp2_with fail
          refine (hCo.out _ kc).mono ?_
          rintro e wc' ⟨rfl, rfl⟩
          go_wp2_with fail
          refine (hRA.out _ kc).mono ?_
          rintro e wd ⟨ud, rfl, od, kd⟩
          obtain ⟨Ad, cd, rfl, _⟩ := od.row
          replace kd := kc.trans kd
          rw [HM.out]
          clear od kc
          go_wp2_with fail
          refine (hSz.out _ kd).mono ?_
          rintro e wd' ⟨rfl, rfl⟩
          go_wp2_with fail
          refine (hHas.out _ kd).mono ?_
          rintro e wd' ⟨rfl, rfl⟩
          have hc := (hRT.out _ kd).cell hj
          rw [hf] at hc
          go_wp2_with fail
          refine (hAl.out _ kd).mono ?_
          rintro e we ⟨rfl, ke⟩
          go_wp2_with fail
          go_ret
          exact ⟨rfl, (hKw.out.trans kd).trans ke⟩
        | false =>
          have hres := isF_in n j f hj
          rw [hf] at hres
          rw [hres] at hHas
          clear hres
          go_wp2_with fail
          refine hA.out.mono ?_
          rintro e wa ⟨ua, rfl, oa, ka⟩
          have oa := Lib.hid oa
          go_wp2_with fail
          refine (hRA.out _ ka).mono ?_
          rintro e wb ⟨ub, rfl, ob, kb⟩
          have hSm := Lib.hid (same_yes ua ub _ _ _ _ wb (oa.out.grew kb) ob (by rw [HM.out]; omega) rfl)
          replace kb := ka.trans kb
          clear oa ob ka
          go_wp2_with fail
          refine hSm.out.mono ?_
          rintro e wc ⟨rfl, kc⟩
          replace kc := kb.trans kc
          clear hSm kb
          go_wp2_with fail
          refine (hCo.out _ kc).mono ?_
          rintro e wc' ⟨rfl, rfl⟩
          go_wp2_with fail
          refine (hRA.out _ kc).mono ?_
          rintro e wd ⟨ud, rfl, od, kd⟩
          obtain ⟨Ad, cd, rfl, _⟩ := od.row
          replace kd := kc.trans kd
          rw [HM.out]
          clear od kc
          go_wp2_with fail
          refine (hSz.out _ kd).mono ?_
          rintro e wd' ⟨rfl, rfl⟩
          go_wp2_with fail
          refine (hHas.out _ kd).mono ?_
          rintro e wd' ⟨rfl, rfl⟩
          have hc := (hRT.out _ kd).cell hj
          rw [hf] at hc
          go_wp2_with fail
          refine (hAl.out _ kd).mono ?_
          rintro e we ⟨rfl, ke⟩
          go_wp2_with fail
          go_ret
          exact ⟨rfl, (hKw.out.trans kd).trans ke⟩
      · rcases Int.lt_or_le t 0 with hx0 | hx0
        · clear hin
          have hres := of_nil n t f (.inl hx0)
          rw [hres] at hHas
          clear hres
          go_wp2_with fail
          refine hA.out.mono ?_
          rintro e wa ⟨ua, rfl, oa, ka⟩
          have oa := Lib.hid oa
          go_wp2_with fail
          refine (hRA.out _ ka).mono ?_
          rintro e wb ⟨ub, rfl, ob, kb⟩
          have hSm := Lib.hid (same_yes ua ub _ _ _ _ wb (oa.out.grew kb) ob (by rw [HM.out]; omega) rfl)
          replace kb := ka.trans kb
          clear oa ob ka
          go_wp2_with fail
          refine hSm.out.mono ?_
          rintro e wc ⟨rfl, kc⟩
          replace kc := kb.trans kc
          clear hSm kb
          go_wp2_with fail
          refine (hCo.out _ kc).mono ?_
          rintro e wc' ⟨rfl, rfl⟩
          go_wp2_with fail
          refine (hRA.out _ kc).mono ?_
          rintro e wd ⟨ud, rfl, od, kd⟩
          obtain ⟨Ad, cd, rfl, _⟩ := od.row
          replace kd := kc.trans kd
          rw [HM.out]
          clear od kc
          go_wp2_with fail
          refine (hSz.out _ kd).mono ?_
          rintro e wd' ⟨rfl, rfl⟩
          go_wp2_with fail
          refine (hHas.out _ kd).mono ?_
          rintro e wd' ⟨rfl, rfl⟩
          go_wp2_with fail
          refine (hAl.out _ kd).mono ?_
          rintro e we ⟨rfl, ke⟩
          go_wp2_with fail
          go_ret
          exact ⟨rfl, (hKw.out.trans kd).trans ke⟩
        · replace hx0 : (n : Int) ≤ t := by omega
          have hx1 : (0 : Int) ≤ t := by omega
          clear hin
          have hres := of_nil n t f (.inr hx0)
          rw [hres] at hHas
          clear hres
          go_wp2_with fail
          refine hA.out.mono ?_
          rintro e wa ⟨ua, rfl, oa, ka⟩
          have oa := Lib.hid oa
          go_wp2_with fail
          refine (hRA.out _ ka).mono ?_
          rintro e wb ⟨ub, rfl, ob, kb⟩
          have hSm := Lib.hid (same_yes ua ub _ _ _ _ wb (oa.out.grew kb) ob (by rw [HM.out]; omega) rfl)
          replace kb := ka.trans kb
          clear oa ob ka
          go_wp2_with fail
          refine hSm.out.mono ?_
          rintro e wc ⟨rfl, kc⟩
          replace kc := kb.trans kc
          clear hSm kb
          go_wp2_with fail
          refine (hCo.out _ kc).mono ?_
          rintro e wc' ⟨rfl, rfl⟩
          go_wp2_with fail
          refine (hRA.out _ kc).mono ?_
          rintro e wd ⟨ud, rfl, od, kd⟩
          obtain ⟨Ad, cd, rfl, _⟩ := od.row
          replace kd := kc.trans kd
          rw [HM.out]
          clear od kc
          go_wp2_with fail
          refine (hSz.out _ kd).mono ?_
          rintro e wd' ⟨rfl, rfl⟩
          go_wp2_with fail
          refine (hHas.out _ kd).mono ?_
          rintro e wd' ⟨rfl, rfl⟩
          go_wp2_with fail
          refine (hAl.out _ kd).mono ?_
          rintro e we ⟨rfl, ke⟩
          go_wp2_with fail
          go_ret
          exact ⟨rfl, (hKw.out.trans kd).trans ke⟩

set_option maxRecDepth 100000 in
set_option maxHeartbeats 4000000 in
theorem plays_law (n : Int) (A : Option Addr) (c : Nat) (l : List Int) (A2 : Option Addr) (len cap : Nat) (z : Nat → Int × Int) (t : Int) (w : World) (rI : RowI w A l) (rA : RowA w A2 len z) (hl : l.length ≤ 9223372036854775807) (hlen : len ≤ 9223372036854775807) (hT : TabB w) :
    Calls Tryd.prog 3 #[i64 n, .slice A l.length c, .slice A2 len cap, i64 t] w fun e w' => e = .returned (.bool true) ∧ Grew w w' := by
  have hA := Lib.hid alive_any
  have HT := Lib.hid hT
  by_cases h1 : 100 < l.length
  · obtain ⟨L, hL⟩ : ∃ L, l.length = L := ⟨_, rfl⟩
    rw [hL] at h1 hl ⊢
    clear rI rA hT hL
    go_enter Tryd.func3, Tryd.ntmps3
    go_wp2_with fail
    refine (hA.out _ HT.out).mono ?_
    rintro e wb ⟨rfl, kb⟩
    go_wp2_with fail
    go_ret
    exact ⟨rfl, kb⟩
  by_cases h2 : 100 < len
  · obtain ⟨L, hL⟩ : ∃ L, l.length = L := ⟨_, rfl⟩
    rw [hL] at h1 hl ⊢
    have h3 : L ≤ 100 := by omega
    clear rI rA hT hL h1
    go_enter Tryd.func3, Tryd.ntmps3
    go_wp2_with fail
    refine (hA.out _ HT.out).mono ?_
    rintro e wb ⟨rfl, kb⟩
    go_wp2_with fail
    go_ret
    exact ⟨rfl, kb⟩
  by_cases h3 : 300 < n ∧ n ≤ 65536
  · obtain ⟨L, hL⟩ : ∃ L, l.length = L := ⟨_, rfl⟩
    rw [hL] at h1 hl ⊢
    obtain ⟨h4, h5⟩ := h3
    have h6 : L ≤ 100 := by omega
    have h7 : len ≤ 100 := by omega
    clear rI rA hT hL h1 h2
    go_enter Tryd.func3, Tryd.ntmps3
    go_wp2_with fail
    refine (hA.out _ HT.out).mono ?_
    rintro e wb ⟨rfl, kb⟩
    go_wp2_with fail
    go_ret
    exact ⟨rfl, kb⟩
  by_cases h4 : 0 ≤ n ∧ n ≤ 300
  · obtain ⟨m, rfl⟩ := Int.eq_ofNat_of_zero_le h4.1
    exact plays_main m A c l A2 len cap z t w rI rA (by omega) (by omega) (by omega) hT
  · have h5 : l.length ≤ 100 := by omega
    have h6 : len ≤ 100 := by omega
    have h9 : n < 0 ∨ 65536 < n := by omega
    have hO := Lib.hid (of_no n A c l w (by omega) (by omega) rI)
    have hN := Lib.hid (fun W => new_no n W (by omega))
    obtain ⟨L, hL⟩ : ∃ L, l.length = L := ⟨_, rfl⟩
    rw [hL] at h5 hl hO ⊢
    clear rI rA hT hL h1 h2 h3 h4
    have hZ := Lib.hid size_nil
    have hH := Lib.hid (has_nil t)
    have hAd := Lib.hid (add_nil t)
    have hDr := Lib.hid (fun W => drop_no W (.pointer none) t (has_nil t W))
    have hCn := Lib.hid count_nil
    have hAll := Lib.hid all_nil
    have hCl := Lib.hid clone_nil
    rcases h9 with h7 | h8
    · skip
      go_enter Tryd.func3, Tryd.ntmps3
      go_wp2_with fail
      refine hO.out.mono ?_
      rintro e w' ⟨rfl, rfl⟩
      go_wp2_with fail
      refine (hN.out _).mono ?_
      rintro e w' ⟨rfl, rfl⟩
      go_wp2_with fail
      refine (hZ.out _).mono ?_
      rintro e w' ⟨rfl, rfl⟩
      go_wp2_with fail
      refine (hH.out _).mono ?_
      rintro e w' ⟨rfl, rfl⟩
      go_wp2_with fail
      refine (hAd.out _).mono ?_
      rintro e w' ⟨rfl, rfl⟩
      go_wp2_with fail
      refine (hDr.out _).mono ?_
      rintro e w' ⟨rfl, rfl⟩
      go_wp2_with fail
      refine (hCn.out _).mono ?_
      rintro e w' ⟨rfl, rfl⟩
      go_wp2_with fail
      refine (hAll.out _).mono ?_
      rintro e w1 ⟨u, rfl, o1, k1⟩
      obtain ⟨A1, c1, rfl, _⟩ := o1.row
      simp only [List.length_nil]
      clear o1
      go_wp2_with fail
      refine (hCl.out _).mono ?_
      rintro e w' ⟨rfl, rfl⟩
      go_wp2_with fail
      refine (hA.out _ (HT.out.grew k1)).mono ?_
      rintro e wb ⟨rfl, kb⟩
      go_wp2_with fail
      go_ret
      exact ⟨rfl, k1.trans kb⟩
    · skip
      go_enter Tryd.func3, Tryd.ntmps3
      go_wp2_with fail
      refine hO.out.mono ?_
      rintro e w' ⟨rfl, rfl⟩
      go_wp2_with fail
      refine (hN.out _).mono ?_
      rintro e w' ⟨rfl, rfl⟩
      go_wp2_with fail
      refine (hZ.out _).mono ?_
      rintro e w' ⟨rfl, rfl⟩
      go_wp2_with fail
      refine (hH.out _).mono ?_
      rintro e w' ⟨rfl, rfl⟩
      go_wp2_with fail
      refine (hAd.out _).mono ?_
      rintro e w' ⟨rfl, rfl⟩
      go_wp2_with fail
      refine (hDr.out _).mono ?_
      rintro e w' ⟨rfl, rfl⟩
      go_wp2_with fail
      refine (hCn.out _).mono ?_
      rintro e w' ⟨rfl, rfl⟩
      go_wp2_with fail
      refine (hAll.out _).mono ?_
      rintro e w1 ⟨u, rfl, o1, k1⟩
      obtain ⟨A1, c1, rfl, _⟩ := o1.row
      simp only [List.length_nil]
      clear o1
      go_wp2_with fail
      refine (hCl.out _).mono ?_
      rintro e w' ⟨rfl, rfl⟩
      go_wp2_with fail
      refine (hA.out _ (HT.out.grew k1)).mono ?_
      rintro e wb ⟨rfl, kb⟩
      go_wp2_with fail
      go_ret
      exact ⟨rfl, k1.trans kb⟩
end Go.Proofs.YtabddnlcgmbopaaDoor
