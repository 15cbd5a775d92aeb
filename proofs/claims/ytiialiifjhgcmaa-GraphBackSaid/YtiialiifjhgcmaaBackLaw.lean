/- The law GraphBack, for every graph. -/
import Derived.Test.YtiialiifjhgcmaaBack
namespace Go.Proofs.Ytiialiifjhgcmaa
open Go.RowKit

theorem back_wrong (n : Int) (A : Option Addr) (c : Nat) (es : List Edg) (e x : Int) (w : World) (hRow : RowE w A es) (h1 : (n ≤ 100 ∨ 4096 < n) ∧ es.length ≤ 300) (hr : ¬ rightF n es = 0) :
    Calls Try.prog 6 #[.agg #[i64 n, .slice A es.length c], i64 e, u64 x] w fun e w' => e = .returned (.bool true) ∧ Grew w w' := by
  have hA := Lib.hid alive_any
  have hLA := Lib.hid (fun W => light_yes n A es.length c W h1.1 h1.2)
  have hR := Lib.hid (fun W h => right_any n A c es W h (by omega))
  obtain ⟨r, hre⟩ : ∃ r, rightF n es = r := ⟨_, rfl⟩
  rw [hre] at hR hr
  clear h1 hre
  obtain ⟨L, hL⟩ : ∃ L, es.length = L := ⟨_, rfl⟩
  rw [hL] at hLA hR
  rw [hL]
  clear hL
  have hK := (Kept.refl (fun _ => False) w).alloc (.cells #[i64 n, .slice A L c] 24)
  have bA := Blk.new w 24 #[i64 n, .slice A L c]
  have eA := Lib.hid (hRow.grew hK)
  clear hRow
  have c0 := bA.cell 0
  have c1 := bA.cell 1
  simp at c0 c1
  go_enter Try.func6, Try.ntmps6
  go_wp2_with fail
  refine (hLA.out _).mono ?_
  rintro e wa ⟨rfl, ka⟩
  replace bA := bA.grew ka
  replace eA := Lib.hid (eA.out.grew ka)
  replace c0 := bA.cell 0
  replace c1 := bA.cell 1
  simp at c0 c1
  go_wp2_with fail
  refine (hR.out _ eA.out).mono ?_
  rintro e wb ⟨rfl, kb⟩
  go_wp2_with fail
  refine (hA.out _).mono ?_
  rintro e wc ⟨rfl, kc⟩
  go_wp2_with fail
  go_ret
  exact ⟨rfl, ((hK.trans ka).trans kb).trans kc⟩

theorem back_law (n : Int) (e x : Int) (A : Option Addr) (c : Nat) (es : List Edg) (w : World) (hRow : RowE w A es) (hl : es.length ≤ 9223372036854775807) :
    Calls Try.prog 6 #[.agg #[i64 n, .slice A es.length c], i64 e, u64 x] w fun e w' => e = .returned (.bool true) ∧ Grew w w' := by
  by_cases h1 : (n ≤ 100 ∨ 4096 < n) ∧ es.length ≤ 300
  · by_cases hr : rightF n es = 0
    · have hz := right_zero hr
      obtain ⟨m, rfl⟩ := Int.eq_ofNat_of_zero_le (show 0 ≤ n by omega)
      exact back_main m A c es e x w hRow h1.2 (by omega) hr
    · exact back_wrong n A c es e x w hRow h1 hr
  · have hA := Lib.hid alive_any
    have hLA := Lib.hid (fun W => light_no n A es.length c W hl h1)
    clear hRow h1 hl
    obtain ⟨L, hL⟩ : ∃ L, es.length = L := ⟨_, rfl⟩
    rw [hL] at hLA
    rw [hL]
    clear hL
    have hK0 : Grew w (w.alloc (.cells #[i64 n, .slice A L c] 24)) := (Kept.refl _ _).alloc _
    go_enter Try.func6, Try.ntmps6
    go_wp2_with fail
    refine (hLA.out _).mono ?_
    rintro e wa ⟨rfl, ka⟩
    go_wp2_with fail
    refine (hA.out _).mono ?_
    rintro e wc ⟨rfl, kc⟩
    go_wp2_with fail
    go_ret
    exact ⟨rfl, (hK0.trans ka).trans kc⟩
end Go.Proofs.Ytiialiifjhgcmaa
