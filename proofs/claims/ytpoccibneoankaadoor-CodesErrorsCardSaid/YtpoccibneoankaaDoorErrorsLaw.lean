/- What an error of any fault tells, through whatever wraps it. -/
import Derived.Test.YtpoccibneoankaaDoorTold
namespace Go.Proofs.YtpoccibneoankaaDoor
open Go.RowKit

set_option maxHeartbeats 2000000 in
set_option maxRecDepth 100000 in
theorem errors_none (f : Int) (s : ByteArray) (n : Nat) (w : World) (hs : s.size ≤ 100) (hn : n ≤ 20) (hd : Door w) (h : f = 0 ∨ isF f = false) : Calls Tryd.prog 3 #[i64 f, str s, i64 (n : Int)] w fun e w' => e = .returned (.bool true) ∧ Grew w w' := by
  have hN := Lib.hid (new_no f s w h)
  have d0 : decide (100 < s.size) = false := decide_eq_false (by omega)
  have d1 : decide ((n : Int) < 0) = false := decide_eq_false (by omega)
  have d2 : decide (20 < n) = false := decide_eq_false (by omega)
  have D := Lib.hid hd
  have hFa := Lib.hid fault_nil
  have hAb := Lib.hid about_nil
  by_cases h0 : f = 0
  · subst h0
    clear h hd
    go_enter Tryd.func3, Tryd.ntmps3
    go_wp2_with fail
    refine hN.out.mono ?_
    rintro r w1 ⟨rfl, k1⟩
    go_wp2_with fail
    refine (hFa.out _).mono ?_
    rintro r w3 ⟨rfl, k3⟩
    go_wp2_with fail
    refine (hAb.out _).mono ?_
    rintro r w4 ⟨rfl, k4⟩
    have hA := Lib.hid (alive_any w4 (D.out.grew ((k1.trans k3).trans k4)))
    go_wp2_with fail
    refine hA.out.mono ?_
    rintro r w5 ⟨rfl, k5⟩
    go_wp2_with fail
    go_ret
    exact ⟨rfl, ((k1.trans k3).trans k4).trans k5⟩
  · have hF : isF f = false := h.resolve_left h0
    have hb : (f == 0) = false := by simpa using h0
    have hI := Lib.hid (fun W => ris_any f W)
    rw [hF] at hI
    clear h h0 hF hd
    go_enter Tryd.func3, Tryd.ntmps3
    go_wp2_with fail
    refine hN.out.mono ?_
    rintro r w1 ⟨rfl, k1⟩
    go_wp2_with fail
    refine (hI.out _).mono ?_
    rintro r w2 ⟨rfl, k2⟩
    go_wp2_with fail
    refine (hFa.out _).mono ?_
    rintro r w3 ⟨rfl, k3⟩
    go_wp2_with fail
    refine (hAb.out _).mono ?_
    rintro r w4 ⟨rfl, k4⟩
    have hA := Lib.hid (alive_any w4 (D.out.grew (((k1.trans k2).trans k3).trans k4)))
    go_wp2_with fail
    refine hA.out.mono ?_
    rintro r w5 ⟨rfl, k5⟩
    go_wp2_with fail
    go_ret
    exact ⟨rfl, (((k1.trans k2).trans k3).trans k4).trans k5⟩
set_option maxHeartbeats 2000000 in
set_option maxRecDepth 100000 in
theorem errors_some (p : Nat) (hp : p < 15) (hp0 : p ≠ 0) (s : ByteArray) (n : Nat) (w : World) (hs : s.size ≤ 100) (hn : n ≤ 20) (hd : Door w) : Calls Tryd.prog 3 #[i64 (p : Int), str s, i64 (n : Int)] w fun e w' => e = .returned (.bool true) ∧ Grew w w' := by
  have hF : isF (p : Int) = true := decide_eq_true (by omega)
  have hN := Lib.hid (new_yes (p : Int) s w (by omega) hF)
  have d0 : decide (100 < s.size) = false := decide_eq_false (by omega)
  have d1 : decide ((n : Int) < 0) = false := decide_eq_false (by omega)
  have d2 : decide (20 < n) = false := decide_eq_false (by omega)
  have hb : ((p : Int) == 0) = false := by
    have : ¬ ((p : Int) = 0) := by omega
    simpa using this
  have hI := Lib.hid (fun W => ris_any (p : Int) W)
  rw [hF] at hI
  have D := Lib.hid hd
  have HP := Lib.hid hp
  have HS := Lib.hid hs
  have q0 : ((p : Int) == (p : Int)) = true := by simp
  have q1 : (s.toList == s.toList) = true := by simp
  have hT0 := Lib.hid (fun W => told_any p hp s W hs)
  obtain ⟨td, htd⟩ : ∃ td, toldF p s = td := ⟨_, rfl⟩
  rw [htd] at hT0
  have HTD := Lib.hid htd
  have q2 : (td.toList == td.toList) = true := by simp
  clear hF hd hp0 htd
  go_enter Tryd.func3, Tryd.ntmps3
  go_wp2_with fail
  refine hN.out.mono ?_
  rintro r w1 ⟨g, rfl, bg, k1, hg⟩
  have BG := Lib.hid bg
  clear bg hN
  go_wp2_with fail
  refine (hI.out _).mono ?_
  rintro r w2 ⟨rfl, k2⟩
  have bT := Blk.new w2 30 #[.pointer none]
  have k3 : Grew w2 (w2.alloc (.cells #[.pointer none] 30 )) := (Kept.refl _ _).alloc _
  have hfin : Hid (∀ w', Kept (· = w2.heap.size) (w2.alloc (.cells #[.pointer none] 30 )) w' → Grew w2 w') := fun w' k => grew_of k
  have hgl : ¬ g = w2.heap.size := by have := BG.out.lt; have := k2.size; omega
  obtain ⟨X, hX⟩ : ∃ X, w2.heap.size = X := ⟨_, rfl⟩
  obtain ⟨w3, hw3⟩ : ∃ w3, w2.alloc (.cells #[.pointer none] 30 ) = w3 := ⟨_, rfl⟩
  rw [hw3] at bT k3 hfin
  rw [hX] at bT hfin hgl
  have hWr := Lib.hid (wrapped_any 30 (.pointer (some ⟨g, 0, none⟩)) n w3 hn)
  have D3 := Lib.hid (D.out.grew ((k1.trans k2).trans k3))
  have BT := Lib.hid bT
  have BG3 := Lib.hid ((BG.out.grew k2).grew k3)
  have HG := Lib.hid hgl
  have K12 := Lib.hid (k1.trans k2)
  clear bT k3 k1 k2 hgl hg
  go_wp2_with fail
  refine hWr.out.mono ?_
  rintro r w4 ⟨v', rfl, hv', k4⟩
  have hAs := Lib.hid (As_hit w4 n v' ⟨g, 0, none⟩ X _ (D3.out.grew k4) hv' (BT.out.grew k4))
  obtain ⟨tt, xx, rfl⟩ := hv'.iface
  have HV := Lib.hid hv'
  have K4 := Lib.hid k4
  clear hWr hv' k4
  go_wp2_with fail
  refine hAs.out.mono ?_
  rintro r w5 ⟨rfl, bT5, k5⟩
  have c0 : w5.cell? ⟨X, 0, none⟩ = some (.pointer (some ⟨g, 0, none⟩)) := bT5.cell 0
  have BG5 := Lib.hid ((BG3.out.grew K4.out).kept k5 HG.out)
  have hE := err_any p HP.out s w5 g BG5.out HS.out
  rw [HTD.out] at hE
  have HE := Lib.hid hE
  have D5 : Hid (Door w5) := Lib.hid ((D3.out.grew K4.out).kept k5 (fun h => by
    have := D.out.2
    have h1 := K12.out.size
    omega))
  have HV5 : Hid (Wraps w5 n (.iface tt xx) (eV g)) := Lib.hid (HV.out.kept k5 (fun a cs hb h => by
    subst h
    exact Blk.ne hb (BT.out.grew K4.out) (by decide) rfl))
  have K5 := Lib.hid ((Grew.kept (F := (· = X)) K4.out).trans k5)
  clear hAs hE bT5 k5
  go_wp2_with fail
  refine HE.out.mono ?_
  rintro r w6 ⟨rfl, k6⟩
  go_wp2_with fail
  refine (hT0.out _).mono ?_
  rintro r w7 ⟨rfl, k7⟩
  have k67 := k6.trans k7
  have hFa := Lib.hid (fault_hit w7 n _ g p s (D5.out.grew k67) (HV5.out.grew k67) (BG5.out.grew k67))
  clear HE hT0
  go_wp2_with fail
  refine hFa.out.mono ?_
  rintro r w8 ⟨rfl, k8⟩
  have k68 := k67.trans k8
  have hAb := Lib.hid (about_hit w8 n _ g p s (D5.out.grew k68) (HV5.out.grew k68) (BG5.out.grew k68))
  clear hFa
  go_wp2_with fail
  refine hAb.out.mono ?_
  rintro r w9 ⟨rfl, k9⟩
  have k69 := k68.trans k9
  have hA := Lib.hid (alive_any w9 (D5.out.grew k69))
  clear hAb
  go_wp2_with fail
  refine hA.out.mono ?_
  rintro r w10 ⟨rfl, k10⟩
  go_wp2_with fail
  go_ret
  exact ⟨rfl, K12.out.trans (hfin.out _ (K5.out.grew (k69.trans k10)))⟩
theorem errors_law (f : Int) (s : ByteArray) (n : Int) (w : World) (hs : s.size ≤ 9223372036854775807) (hd : Door w) : Calls Tryd.prog 3 #[i64 f, str s, i64 n] w fun e w' => e = .returned (.bool true) ∧ Grew w w' := by
  rcases Nat.lt_or_ge 100 s.size with h1 | h1
  · have d0 : decide (100 < s.size) = true := decide_eq_true h1
    have hA := Lib.hid (alive_any w hd)
    clear hd
    go_enter Tryd.func3, Tryd.ntmps3
    go_wp2_with fail
    refine hA.out.mono ?_
    rintro r w1 ⟨rfl, k1⟩
    go_wp2_with fail
    go_ret
    exact ⟨rfl, k1⟩
  have d0 : decide (100 < s.size) = false := decide_eq_false (by omega)
  rcases Int.lt_or_le n 0 with h2 | h2
  · have d1 : decide (n < 0) = true := decide_eq_true h2
    have hA := Lib.hid (alive_any w hd)
    clear hd
    go_enter Tryd.func3, Tryd.ntmps3
    go_wp2_with fail
    refine hA.out.mono ?_
    rintro r w1 ⟨rfl, k1⟩
    go_wp2_with fail
    go_ret
    exact ⟨rfl, k1⟩
  obtain ⟨m, rfl⟩ := Int.eq_ofNat_of_zero_le h2
  have d1 : decide ((m : Int) < 0) = false := decide_eq_false (by omega)
  rcases Nat.lt_or_ge 20 m with h3 | h3
  · have d2 : decide (20 < m) = true := decide_eq_true h3
    have hA := Lib.hid (alive_any w hd)
    clear hd
    go_enter Tryd.func3, Tryd.ntmps3
    go_wp2_with fail
    refine hA.out.mono ?_
    rintro r w1 ⟨rfl, k1⟩
    go_wp2_with fail
    go_ret
    exact ⟨rfl, k1⟩
  clear d0 d1
  by_cases h : f = 0 ∨ isF f = false
  · exact errors_none f s m w h1 h3 hd h
  · have hF : isF f = true := by
      cases hh : isF f
      · exact absurd (.inr hh) h
      · rfl
    have hF2 := of_decide_eq_true hF
    obtain ⟨p, rfl⟩ := Int.eq_ofNat_of_zero_le hF2.1
    exact errors_some p (by omega) (fun h0 => h (.inl (by omega))) s m w h1 h3 hd
end Go.Proofs.YtpoccibneoankaaDoor
