/- Each fault's word, and the fault of any word. -/
import Derived.Test.YtpoccibneoankaaDoorTold
namespace Go.Proofs.YtpoccibneoankaaDoor
open Go.RowKit

theorem of_any (s : ByteArray) (i : Int) (w : World) (h : posW s i) : Calls Tryd.prog 15 #[.string s] w fun e w' => e = .returned (.tuple #[i64 (if i < 0 then 0 else i), .bool (decide (0 ≤ i))]) ∧ Grew w w' := by
  rcases h with ⟨rfl, h⟩ | ⟨j, hj, rfl, h⟩
  · have := of_no s w (.inl ⟨rfl, h⟩)
    simpa using this
  · have := of_yes s j w (.inr ⟨j, hj, rfl, h⟩)
    rw [if_neg (by omega), decide_eq_true (by omega)]
    exact this
theorem numsF_get (k : Nat) (hk : k < 15) : (numsF 15)[k]? = some (i64 (k : Int)) := by simp [numsF, hk]

set_option maxHeartbeats 2000000 in
set_option maxRecDepth 100000 in
theorem words_main (f : Int) (s : ByteArray) (w : World) (hs : s.size ≤ 100) (hd : Door w) : Calls Tryd.prog 4 #[i64 f, str s] w fun e w' => e = .returned (.bool true) ∧ Grew w w' := by
  obtain ⟨i, hi⟩ := posW_any s
  have hO := fun W => of_any s i W hi
  have hR := fun W => rof_any s i W hi
  obtain ⟨a, ha⟩ : ∃ a, (if i < 0 then 0 else i) = a := ⟨_, rfl⟩
  obtain ⟨b, hb⟩ : ∃ b, decide (0 ≤ i) = b := ⟨_, rfl⟩
  rw [ha, hb] at hO hR
  replace hO := Lib.hid hO
  replace hR := Lib.hid hR
  have hAll := Lib.hid all_any
  have D := Lib.hid hd
  have hn : decide (100 < s.size) = false := decide_eq_false (by omega)
  clear ha hb hi hd
  go_enter Tryd.func4, Tryd.ntmps4
  go_wp2_with fail
  refine (hO.out _).mono ?_
  rintro r w1 ⟨rfl, k1⟩
  go_wp2_with fail
  refine (hR.out _).mono ?_
  rintro r w2 ⟨rfl, k2⟩
  go_wp2_with fail
  refine (hAll.out _).mono ?_
  rintro r w3 ⟨v, rfl, hv, k3⟩
  obtain ⟨g, c, hvs⟩ : ∃ g c, v = .slice (some ⟨g, 0, none⟩) 15 c := by
    rcases hv.2 with ⟨_, h0⟩ | ⟨g, cap, cur, hv, _⟩
    · omega
    · exact ⟨g, cap, hv⟩
  subst hvs
  have HV := Lib.hid hv
  have K := Lib.hid ((k1.trans k2).trans k3)
  clear hv k1 k2 k3 hO hR
  go_wp2_with fail
  go_loop [10] (fun i => ∃ k : Nat, k ≤ 15 ∧ i = .int .i64 k) (fun i => 15 - (intOf i).toNat)
  case atStart => exact ⟨0, by omega, rfl⟩
  case round =>
    obtain ⟨k, hk, rfl⟩ := hrel
    by_cases hlt : k < 15
    · have hc := World.ownsRow.cellAt HV.out k (by omega)
      rw [numsF_get k hlt] at hc
      have i0 : (0 : Int) ≤ (k : Int) := by omega
      have i1 : (k : Int) < 15 := by omega
      have q0 : ((k : Int) != (k : Int)) = false := by simp
      go_wp2_with fail
      go_round
      case rel => exact ⟨k + 1, by omega, by go_num⟩
      case measure => simp [intOf]; omega
    · obtain rfl : k = 15 := by omega
      cases hF : isF f
      · have hW := Lib.hid (fun W => word_out f hF W)
        have hRW := Lib.hid (fun W => rword_out f hF W)
        have hOf := Lib.hid (fun W => of_no ⟨#[]⟩ W posW_nil)
        have hI := Lib.hid (fun W => is_any f W)
        have hRI := Lib.hid (fun W => ris_any f W)
        rw [hF] at hI hRI
        clear hF
        go_wp2_with fail
        refine (hW.out _).mono ?_
        rintro r x0 ⟨rfl, k0⟩
        go_wp2_with fail
        refine (hOf.out _).mono ?_
        rintro r x1 ⟨rfl, k1⟩
        go_wp2_with fail
        refine (hRI.out _).mono ?_
        rintro r x2 ⟨rfl, k2⟩
        go_wp2_with fail
        refine (hW.out _).mono ?_
        rintro r x3 ⟨rfl, k3⟩
        go_wp2_with fail
        refine (hRW.out _).mono ?_
        rintro r x4 ⟨rfl, k4⟩
        go_wp2_with fail
        refine (hI.out _).mono ?_
        rintro r x5 ⟨rfl, k5⟩
        go_wp2_with fail
        refine (hRI.out _).mono ?_
        rintro r x6 ⟨rfl, k6⟩
        have hA := Lib.hid (alive_any x6 (D.out.grew (K.out.trans ((((((k0.trans k1).trans k2).trans k3).trans k4).trans k5).trans k6))))
        go_wp2_with fail
        refine hA.out.mono ?_
        rintro r x7 ⟨rfl, k7⟩
        go_wp2_with fail
        go_ret
        exact ⟨by simp, (K.out.trans ((((((k0.trans k1).trans k2).trans k3).trans k4).trans k5).trans k6)).trans k7⟩
      · have hF2 := of_decide_eq_true hF
        obtain ⟨q, rfl⟩ := Int.eq_ofNat_of_zero_le hF2.1
        have hq : q < 15 := by omega
        have hW := Lib.hid (fun W => word_in q hq W)
        have hRW := Lib.hid (fun W => rword_in q hq W)
        have hOf := Lib.hid (fun W => of_yes (wd q) q W (posW_wd q hq))
        have hI := Lib.hid (fun W => is_any (q : Int) W)
        have hRI := Lib.hid (fun W => ris_any (q : Int) W)
        rw [hF] at hI hRI
        have q1 : ((q : Int) != (q : Int)) = false := by simp
        clear hF hF2
        go_wp2_with fail
        refine (hW.out _).mono ?_
        rintro r x0 ⟨rfl, k0⟩
        go_wp2_with fail
        refine (hOf.out _).mono ?_
        rintro r x1 ⟨rfl, k1⟩
        go_wp2_with fail
        refine (hRI.out _).mono ?_
        rintro r x2 ⟨rfl, k2⟩
        go_wp2_with fail
        refine (hW.out _).mono ?_
        rintro r x3 ⟨rfl, k3⟩
        go_wp2_with fail
        refine (hRW.out _).mono ?_
        rintro r x4 ⟨rfl, k4⟩
        go_wp2_with fail
        refine (hI.out _).mono ?_
        rintro r x5 ⟨rfl, k5⟩
        go_wp2_with fail
        refine (hRI.out _).mono ?_
        rintro r x6 ⟨rfl, k6⟩
        have hA := Lib.hid (alive_any x6 (D.out.grew (K.out.trans ((((((k0.trans k1).trans k2).trans k3).trans k4).trans k5).trans k6))))
        go_wp2_with fail
        refine hA.out.mono ?_
        rintro r x7 ⟨rfl, k7⟩
        go_wp2_with fail
        go_ret
        exact ⟨by simp, (K.out.trans ((((((k0.trans k1).trans k2).trans k3).trans k4).trans k5).trans k6)).trans k7⟩
theorem words_law (f : Int) (s : ByteArray) (w : World) (hs : s.size ≤ 9223372036854775807) (hd : Door w) : Calls Tryd.prog 4 #[i64 f, str s] w fun e w' => e = .returned (.bool true) ∧ Grew w w' := by
  by_cases h : s.size ≤ 100
  · exact words_main f s w h hd
  · have hA := Lib.hid (alive_any w hd)
    have hn : decide (100 < s.size) = true := decide_eq_true (by omega)
    have hn2 : 100 < s.size := by omega
    clear hd h
    go_enter Tryd.func4, Tryd.ntmps4
    go_wp2_with fail
    refine hA.out.mono ?_
    rintro r w1 ⟨rfl, k1⟩
    go_wp2_with fail
    go_ret
    exact ⟨rfl, k1⟩
end Go.Proofs.YtpoccibneoankaaDoor
