/- Who comes first, and with which key, behind any acts. -/
import Derived.Test.YthihjclilgdaiaaAct
namespace Go.Proofs.Ythihjclilgdaiaa
open Go.RowKit

set_option maxHeartbeats 4000000 in
set_option maxRecDepth 100000 in
theorem plays_main (n : Nat) (A2 : Option Addr) (m c2 : Nat) (za : Nat → Act3) (vq : Int) (w : World) (r2 : RowA w A2 m za) (hm : m ≤ 100) (hn : n ≤ 200) :
    Calls Try.prog 4 #[i64 (n : Int), .slice A2 m c2, i64 vq] w fun e w' => e = .returned (.bool true) ∧ Grew w w' := by
  have hA := Lib.hid alive_any
  have hN : ∀ W, Grew w W → Calls Try.prog 7 #[i64 (n : Int)] W fun e w' => ∃ H A, e = .returned (pt H) ∧ Sess w w' H A n (.slice none 0 0) [] ∧ Grew W w' := fun W h => new3 n w W h (by omega)
  replace hN := Lib.hid hN
  have R2 := Lib.hid r2
  have n0 : decide ((n : Int) < 0) = false := decide_eq_false (by omega)
  have n1 : decide (200 < n) = false := decide_eq_false (by omega)
  have n2 : decide (65536 < n) = false := decide_eq_false (by omega)
  clear r2
  go_enter Try.func4, Try.ntmps4
  go_wp2_with fail
  refine (hN.out _ (Kept.refl _ _)).mono ?_
  rintro r w1 ⟨H, A, rfl, s1, _⟩
  have B0 : Hid (Both w w1 H A n (.slice none 0 0) [] (.slice none 0 0) []) := ⟨s1, Items.nil _ _, List.Perm.refl _, by omega⟩
  clear hN s1
  go_wp2_with fail
  go_loopw [8, 9] (fun xv s9 wr => ∃ (k : Nat) (v : Value) (l x : List Itm), s9 = .int .i64 k ∧ k ≤ m ∧ Hid (Both w wr H A n v l xv x)) (fun _ s9 _ => m - (intOf s9).toNat)
  case atStart => exact ⟨0, _, _, _, rfl, by omega, B0⟩
  case round =>
    clear B0
    obtain ⟨k, v, l, x, rfl, hk, B⟩ := hrel
    by_cases hlt : k < m
    · obtain ⟨b, off, hA2, hb, c0, c1', c2', z0⟩ := R2.out k hlt
      subst hA2
      obtain ⟨⟨zk, zi, zv⟩, hza⟩ : ∃ z, za k = z := ⟨_, rfl⟩
      rw [hza] at c0 c1' c2' z0
      simp only at c0 c1' c2' z0
      replace c0 := B.out.s.fro.cell c0
      replace c1' := B.out.s.fro.cell c1'
      replace c2' := B.out.s.fro.cell c2'
      have i0' : (0 : Int) ≤ (k : Int) := by omega
      have i1' : (k : Int) < (m : Int) := by omega
      have hAct := Lib.hid (act_any w wr H A n v u8 l x ⟨zk, zi, zv⟩ B.out)
      clear hza B
      go_wp2_with fail
      refine hAct.out.mono ?_
      rintro r w2 ⟨v', l', yv, y, rfl, b2⟩
      clear hAct c0 c1' c2'
      obtain ⟨Y, cy, hY⟩ := b2.r.slice
      have hlen := b2.len
      have hL := len2 w2 H A n v' l' b2.s.hp
      rw [← b2.p.length_eq] at hL
      have B2 := Lib.hid b2
      obtain ⟨L, hLL⟩ : ∃ L, y.length = L := ⟨_, rfl⟩
      rw [hLL] at hY hL hlen
      subst hY
      replace hL := Lib.hid hL
      have HL := Lib.hid hLL
      clear b2 hLL
      by_cases hex : ∃ e ∈ y, e.1 = vq
      · obtain ⟨⟨ev, ek⟩, he, hev⟩ := hex
        simp only at hev
        subst hev
        obtain ⟨j, hj⟩ := List.getElem?_of_mem he
        have hK := Lib.hid (key_has w2 H A n v' l' B2.out.s.hp (ev, ek) (B2.out.p.mem_iff.1 he))
        have hF := Lib.hid (find_yes w2 _ _ y j (ev, ek) B2.out.r (by rw [HL.out]; omega) hj (fun i f hf h => B2.out.dup i j f _ hf hj h))
        have hpos : 0 < l'.length := by have := get_lt hj; rw [← B2.out.p.length_eq]; omega
        obtain ⟨g, cc, hv, _, a0, a1⟩ := B2.out.r.item hj
        rw [HL.out] at hv
        cases hv
        have hjl := get_lt hj
        rw [HL.out] at hjl
        have j0 : (0 : Int) ≤ (j : Int) := by omega
        have j1 : (j : Int) < (L : Int) := by omega
        have d0 : decide ((0 : Int) ≤ (j : Int)) = true := decide_eq_true (by omega)
        have q1 : (ek != ek) = false := by simp
        clear he hj
        go_wp2_with fail
        refine hL.out.mono ?_
        rintro r w3 ⟨rfl, rfl⟩
        go_wp2_with fail
        refine hK.out.mono ?_
        rintro r w3 ⟨rfl, rfl⟩
        go_wp2_with fail
        refine hF.out.mono ?_
        rintro r w3 ⟨rfl, rfl⟩
        obtain ⟨⟨tv, tk⟩, ht, hmin⟩ := B2.out.s.hp.first hpos
        obtain ⟨q, hq⟩ := List.getElem?_of_mem (B2.out.p.mem_iff.2 (List.mem_of_getElem? ht))
        have hT := Lib.hid (top2 w2 H A n v' l' B2.out.s.hp (tv, tk) (List.mem_of_getElem? ht) hmin)
        have HQ := Lib.hid hq
        have HM : Hid (∀ f ∈ y, ¬ lessI f (tv, tk) = true) := fun f hf => hmin f (B2.out.p.mem_iff.1 hf)
        clear ht hq hmin
        go_wp2_with fail
        refine hT.out.mono ?_
        rintro r w3 ⟨rfl, k3⟩
        have b3 := B2.out.grew k3
        have hR := Lib.hid (rtop_some w3 _ _ y q (tv, tk) b3.r (by rw [HL.out]; omega) HQ.out HM.out (fun i hi => b3.dup i q _ _ hi HQ.out rfl))
        have B3 := Lib.hid b3
        clear hT b3 a0 a1
        go_wp2_with fail
        refine hR.out.mono ?_
        rintro r w4 ⟨rfl, k4⟩
        have b4 := B3.out.grew k4
        obtain ⟨g4, c4, hv4, _, t0, t1⟩ := b4.r.item HQ.out
        rw [HL.out] at hv4
        cases hv4
        have hql := get_lt HQ.out
        rw [HL.out] at hql
        have p0 : (0 : Int) ≤ (q : Int) := by omega
        have p1 : (q : Int) < (L : Int) := by omega
        have d2 : decide ((0 : Int) ≤ (q : Int)) = true := decide_eq_true (by omega)
        have q2 : (tv != tv) = false := by simp
        have q3 : (tk != tk) = false := by simp
        have B4 := Lib.hid b4
        clear hR b4
        go_wp2_with fail
        go_roundw
        case rel => exact ⟨k + 1, _, _, _, by go_num, by omega, B4⟩
        case measure => simp [intOf]; omega
      · have hK := Lib.hid (key_none w2 H A n v' l' B2.out.s.hp vq (fun e he h => hex ⟨e, B2.out.p.mem_iff.2 he, h⟩))
        have hF := Lib.hid (find_no w2 _ _ y vq B2.out.r (by rw [HL.out]; omega) (fun e he h => hex ⟨e, he, h⟩))
        clear hex
        rcases Nat.eq_zero_or_pos l'.length with hl0 | hpos
        · have hl2 := List.eq_nil_of_length_eq_zero hl0
          subst hl2
          have hy2 := List.Perm.eq_nil B2.out.p
          subst hy2
          obtain rfl : L = 0 := HL.out.symm
          clear hl0
          go_wp2_with fail
          refine hL.out.mono ?_
          rintro r w3 ⟨rfl, rfl⟩
          go_wp2_with fail
          refine hK.out.mono ?_
          rintro r w3 ⟨rfl, rfl⟩
          go_wp2_with fail
          refine hF.out.mono ?_
          rintro r w3 ⟨rfl, rfl⟩
          have hT := Lib.hid (top2_none w2 H A n v' B2.out.s.hp)
          have hR := Lib.hid (rtop_none w2 _ _ B2.out.r)
          go_wp2_with fail
          refine hT.out.mono ?_
          rintro r w3 ⟨rfl, rfl⟩
          go_wp2_with fail
          refine hR.out.mono ?_
          rintro r w3 ⟨rfl, rfl⟩
          go_wp2_with fail
          go_roundw
          case rel => exact ⟨k + 1, _, _, _, by go_num, by omega, B2⟩
          case measure => simp [intOf]; omega
        · skip
          go_wp2_with fail
          refine hL.out.mono ?_
          rintro r w3 ⟨rfl, rfl⟩
          go_wp2_with fail
          refine hK.out.mono ?_
          rintro r w3 ⟨rfl, rfl⟩
          go_wp2_with fail
          refine hF.out.mono ?_
          rintro r w3 ⟨rfl, rfl⟩
          obtain ⟨⟨tv, tk⟩, ht, hmin⟩ := B2.out.s.hp.first hpos
          obtain ⟨q, hq⟩ := List.getElem?_of_mem (B2.out.p.mem_iff.2 (List.mem_of_getElem? ht))
          have hT := Lib.hid (top2 w2 H A n v' l' B2.out.s.hp (tv, tk) (List.mem_of_getElem? ht) hmin)
          have HQ := Lib.hid hq
          have HM : Hid (∀ f ∈ y, ¬ lessI f (tv, tk) = true) := fun f hf => hmin f (B2.out.p.mem_iff.1 hf)
          clear ht hq hmin
          go_wp2_with fail
          refine hT.out.mono ?_
          rintro r w3 ⟨rfl, k3⟩
          have b3 := B2.out.grew k3
          have hR := Lib.hid (rtop_some w3 _ _ y q (tv, tk) b3.r (by rw [HL.out]; omega) HQ.out HM.out (fun i hi => b3.dup i q _ _ hi HQ.out rfl))
          have B3 := Lib.hid b3
          clear hT b3
          go_wp2_with fail
          refine hR.out.mono ?_
          rintro r w4 ⟨rfl, k4⟩
          have b4 := B3.out.grew k4
          obtain ⟨g4, c4, hv4, _, t0, t1⟩ := b4.r.item HQ.out
          rw [HL.out] at hv4
          cases hv4
          have hql := get_lt HQ.out
          rw [HL.out] at hql
          have p0 : (0 : Int) ≤ (q : Int) := by omega
          have p1 : (q : Int) < (L : Int) := by omega
          have d2 : decide ((0 : Int) ≤ (q : Int)) = true := decide_eq_true (by omega)
          have q2 : (tv != tv) = false := by simp
          have q3 : (tk != tk) = false := by simp
          have B4 := Lib.hid b4
          clear hR b4
          go_wp2_with fail
          go_roundw
          case rel => exact ⟨k + 1, _, _, _, by go_num, by omega, B4⟩
          case measure => simp [intOf]; omega
    · obtain rfl : m = k := by omega
      go_wp2_with fail
      refine (hA.out _).mono ?_
      rintro r w4 ⟨rfl, k4⟩
      go_wp2_with fail
      go_ret
      exact ⟨rfl, B.out.s.fro.trans k4⟩

theorem plays_law (n : Int) (A2 : Option Addr) (m c2 : Nat) (za : Nat → Act3) (vq : Int) (w : World) (r2 : RowA w A2 m za) (hm : m ≤ 9223372036854775807) :
    Calls Try.prog 4 #[i64 n, .slice A2 m c2, i64 vq] w fun e w' => e = .returned (.bool true) ∧ Grew w w' := by
  have hA := Lib.hid alive_any
  by_cases h1 : 100 < m
  · clear r2
    go_enter Try.func4, Try.ntmps4
    go_wp2_with fail
    refine (hA.out _).mono ?_
    rintro e wb ⟨rfl, kb⟩
    go_wp2_with fail
    go_ret
    exact ⟨rfl, kb⟩
  by_cases h2 : 200 < n ∧ n ≤ 65536
  · obtain ⟨h3, h4⟩ := h2
    have h5 : m ≤ 100 := by omega
    clear r2 h1
    go_enter Try.func4, Try.ntmps4
    go_wp2_with fail
    refine (hA.out _).mono ?_
    rintro e wb ⟨rfl, kb⟩
    go_wp2_with fail
    go_ret
    exact ⟨rfl, kb⟩
  by_cases h3 : 0 ≤ n ∧ n ≤ 200
  · obtain ⟨q, rfl⟩ := Int.eq_ofNat_of_zero_le h3.1
    exact plays_main q A2 m c2 za vq w r2 (by omega) (by omega)
  · have hN := Lib.hid (fun W => new_no n W (by omega))
    have h5 : m ≤ 100 := by omega
    rcases Int.lt_or_le n 0 with h4 | h4
    · clear r2 h1 h2 h3
      go_enter Try.func4, Try.ntmps4
      go_wp2_with fail
      refine (hN.out _).mono ?_
      rintro e wa ⟨rfl, rfl⟩
      go_wp2_with fail
      refine (hA.out _).mono ?_
      rintro e wb ⟨rfl, kb⟩
      go_wp2_with fail
      go_ret
      exact ⟨rfl, kb⟩
    · have h6 : 65536 < n := by omega
      clear r2 h1 h2 h3
      go_enter Try.func4, Try.ntmps4
      go_wp2_with fail
      refine (hN.out _).mono ?_
      rintro e wa ⟨rfl, rfl⟩
      go_wp2_with fail
      refine (hA.out _).mono ?_
      rintro e wb ⟨rfl, kb⟩
      go_wp2_with fail
      go_ret
      exact ⟨rfl, kb⟩
end Go.Proofs.Ythihjclilgdaiaa
