/- Which graphs are light; the chapter's example. -/
import Derived.Test.YtjbjomodponapaaGraph
namespace Go.Proofs.Ytjbjomodponapaa
open Go.RowKit

theorem light_yes (n : Int) (A : Option Addr) (L c : Nat) (w : World) (h : n ≤ 100 ∨ 4096 < n) (hL : L ≤ 300) : Calls Try.prog 12 #[.agg #[i64 n, .slice A L c]] w fun e w' => e = .returned (.bool true) ∧ Grew w w' := by
  have hK : Grew w (w.alloc (.cells #[i64 n, .slice A L c] 24)) := (Kept.refl _ _).alloc _
  rcases Int.lt_or_le 100 n with h1 | h1
  · have h2 : 4096 < n := by omega
    clear h
    go_enter Try.func12, Try.ntmps12
    go_wp2
    go_ret
    exact ⟨by simp <;> omega, hK⟩
  · clear h
    go_enter Try.func12, Try.ntmps12
    go_wp2
    go_ret
    exact ⟨by simp <;> omega, hK⟩
theorem light_no (n : Int) (A : Option Addr) (L c : Nat) (w : World) (hm : L ≤ 9223372036854775807) (h : ¬ ((n ≤ 100 ∨ 4096 < n) ∧ L ≤ 300)) : Calls Try.prog 12 #[.agg #[i64 n, .slice A L c]] w fun e w' => e = .returned (.bool false) ∧ Grew w w' := by
  have hK : Grew w (w.alloc (.cells #[i64 n, .slice A L c] 24)) := (Kept.refl _ _).alloc _
  rcases Int.lt_or_le 100 n with h1 | h1
  · rcases Int.lt_or_le 4096 n with h2 | h2
    · have h3 : ¬ L ≤ 300 := by omega
      have h4 : (300 : Int) < (L : Int) := by omega
      clear h
      go_enter Try.func12, Try.ntmps12
      go_wp2
      go_ret
      exact ⟨by simp <;> omega, hK⟩
    · clear h
      go_enter Try.func12, Try.ntmps12
      go_wp2
      go_ret
      exact ⟨by simp <;> omega, hK⟩
  · have h3 : ¬ L ≤ 300 := by omega
    have h4 : (300 : Int) < (L : Int) := by omega
    clear h
    go_enter Try.func12, Try.ntmps12
    go_wp2
    go_ret
    exact ⟨by simp <;> omega, hK⟩
end Go.Proofs.Ytjbjomodponapaa
