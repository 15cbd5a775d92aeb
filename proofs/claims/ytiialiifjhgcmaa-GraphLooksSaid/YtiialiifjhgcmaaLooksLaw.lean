/- The law GraphLooks. -/
import Derived.Test.YtiialiifjhgcmaaLooksNN
import Derived.Test.YtiialiifjhgcmaaLooksNY
import Derived.Test.YtiialiifjhgcmaaLooksYN
import Derived.Test.YtiialiifjhgcmaaLooksYY
namespace Go.Proofs.Ytiialiifjhgcmaa
open Go.RowKit

set_option maxHeartbeats 1000000 in
theorem looks_law (n m v x : Int) (A B : Option Addr) (c d : Nat) (es fs : List Edg) (w : World) (hRow : RowE w A es) (hRow' : RowE w B fs) (hl : es.length ≤ 9223372036854775807) (hl' : fs.length ≤ 9223372036854775807) :
    Calls Try.prog 3 #[.agg #[i64 n, .slice A es.length c], .agg #[i64 m, .slice B fs.length d], i64 v, i64 x] w fun e w' => e = .returned (.bool true) ∧ Grew w w' := by
  have hA := Lib.hid alive_any
  by_cases h1 : (n ≤ 100 ∨ 4096 < n) ∧ es.length ≤ 300
  · by_cases h2 : (m ≤ 100 ∨ 4096 < m) ∧ fs.length ≤ 300
    · rcases Int.lt_or_le v 0 with hv | hv <;> rcases Int.lt_or_le x 0 with hx | hx
      · exact looks_nn n m v x A B c d es fs w hRow hRow' h1.2 h2.2 h1.1 h2.1 hv hx
      · exact looks_ny n m v x A B c d es fs w hRow hRow' h1.2 h2.2 h1.1 h2.1 hv hx
      · exact looks_yn n m v x A B c d es fs w hRow hRow' h1.2 h2.2 h1.1 h2.1 hv hx
      · exact looks_yy n m v x A B c d es fs w hRow hRow' h1.2 h2.2 h1.1 h2.1 hv hx
    · have hLA := Lib.hid (fun W => light_yes n A es.length c W h1.1 h1.2)
      have hLB := Lib.hid (fun W => light_no m B fs.length d W hl' h2)
      clear hRow hRow' h1 h2
      obtain ⟨L, hL⟩ : ∃ L, es.length = L := ⟨_, rfl⟩
      obtain ⟨M, hM⟩ : ∃ M, fs.length = M := ⟨_, rfl⟩
      rw [hL] at hLA
      rw [hM] at hLB
      rw [hL, hM]
      clear hL hM hl hl'
      have bB := Blk.new (w.alloc (.cells #[i64 n, .slice A L c] 24)) 24 #[i64 m, .slice B M d]
      rw [World.size_alloc] at bB
      have hK0 : Grew w ((w.alloc (.cells #[i64 n, .slice A L c] 24)).alloc (.cells #[i64 m, .slice B M d] 24)) := ((Kept.refl _ _).alloc _).alloc _
      go_enter Try.func3, Try.ntmps3
      go_wp2_with fail
      refine (hLA.out _).mono ?_
      rintro e wa ⟨rfl, ka⟩
      replace bB := bB.grew ka
      have c2 := bB.cell 0
      have c3 := bB.cell 1
      simp at c2 c3
      go_wp2_with fail
      refine (hLB.out _).mono ?_
      rintro e wb ⟨rfl, kb⟩
      go_wp2_with fail
      refine (hA.out _).mono ?_
      rintro e wc ⟨rfl, kc⟩
      go_wp2_with fail
      go_ret
      exact ⟨rfl, ((hK0.trans ka).trans kb).trans kc⟩
  · have hLA := Lib.hid (fun W => light_no n A es.length c W hl h1)
    clear hRow hRow' h1 hl hl'
    obtain ⟨L, hL⟩ : ∃ L, es.length = L := ⟨_, rfl⟩
    obtain ⟨M, hM⟩ : ∃ M, fs.length = M := ⟨_, rfl⟩
    rw [hL] at hLA
    rw [hL, hM]
    clear hL hM
    have hK0 : Grew w ((w.alloc (.cells #[i64 n, .slice A L c] 24)).alloc (.cells #[i64 m, .slice B M d] 24)) := ((Kept.refl _ _).alloc _).alloc _
    go_enter Try.func3, Try.ntmps3
    go_wp2_with fail
    refine (hLA.out _).mono ?_
    rintro e wa ⟨rfl, ka⟩
    go_wp2_with fail
    refine (hA.out _).mono ?_
    rintro e wc ⟨rfl, kc⟩
    go_wp2_with fail
    go_ret
    exact ⟨rfl, (hK0.trans ka).trans kc⟩
end Go.Proofs.Ytiialiifjhgcmaa
