/- Dice: the walks of New, Next, Below, of the program and of the document. -/
import Derived.Test.YtppnndhekikagaaRows
import Derived.Test.YtppnndhekikagaaWorld
import Derived.Deep.QuietTactic
import Derived.BigQuiet
namespace Go.Proofs.Ytppnndhekikagaa
open Go.RowKit

/-- The number then, and what is told. -/
def nxt (x : Int) : Int := IntKind.u64.wrap (IntKind.u64.wrap (x * 6364136223846793005) + 1442695040888963407)
def told (x : Int) : Int := nxt x / 8589934592
def belowX (x n : Int) : Int := if n < 1 then x else nxt x
def belowR (x n : Int) : Int := if n < 1 then 0 else told x % n

theorem told_bd (x : Int) : 0 ≤ told x ∧ told x ≤ 2147483647 := by
  have h : 0 ≤ nxt x ∧ nxt x < 18446744073709551616 := by unfold nxt; rw [IntKind.wrap_u64]; omega
  unfold told; omega

abbrev pt (D : Nat) : Value := .pointer (some ⟨D, 0, none⟩)
abbrev u64 (x : Int) : Value := .int .u64 x
abbrev i64 (x : Int) : Value := .int .i64 x

theorem wrap_mod (x n : Int) (h1 : 1 ≤ n) : Hid (wrap64 (told x % n) = told x % n) := by
  have hb := told_bd x
  have h2 := Int.emod_nonneg (told x) (show n ≠ 0 by omega)
  have h3 : told x % n ≤ told x := by
    rcases Int.lt_or_le (told x) n with h | h
    · rw [Int.emod_eq_of_lt hb.1 h]; omega
    · have := Int.emod_lt_of_pos (told x) (show 0 < n by omega); omega
  exact IntWalk.wrap64_in _ (by omega)

theorem new_any (x : Int) (w : World) : Calls Try.prog 8 #[u64 x] w fun e w' => e = .returned (pt w.heap.size) ∧ w.alloc (.cells #[u64 x] 55) = w' := by
  go_enter Try.func8, Try.ntmps8
  go_wp2
  go_ret
  exact ⟨rfl, rfl⟩

theorem next_nil (w : World) : Calls Try.prog 12 #[.pointer none] w fun e w' => e = .returned (u64 0) ∧ w = w' := by
  go_enter Try.func12, Try.ntmps12
  go_wp2
  go_ret
  exact ⟨rfl, rfl⟩

theorem next_any (D : Nat) (x : Int) (w : World) (h : Blk w D 55 #[u64 x]) :
    Calls Try.prog 12 #[pt D] w fun e w' => e = .returned (u64 (told x)) ∧ w.setCell ⟨D, 0, none⟩ (u64 (nxt x)) = w' := by
  have hc : w.cell? ⟨D, 0, none⟩ = some (u64 x) := h.cell 0
  have hf := h.frozen 0
  have ht : Hid (told x = nxt x / 8589934592) := rfl
  have hn : Hid (IntKind.u64.wrap (IntKind.u64.wrap (x * 6364136223846793005) + 1442695040888963407) = nxt x) := rfl
  go_enter Try.func12, Try.ntmps12
  go_wp2
  go_ret
  exact ⟨rfl, rfl⟩

theorem below_any (D : Nat) (x n : Int) (w : World) (h : Blk w D 55 #[u64 x]) (hn : n ≤ 9223372036854775807) :
    Calls Try.prog 10 #[pt D, i64 n] w fun e w' => e = .returned (i64 (belowR x n)) ∧ Blk w' D 55 #[u64 (belowX x n)] ∧ Kept (· = D) w w' := by
  rcases Int.lt_or_le n 1 with h1 | h1
  · go_enter Try.func10, Try.ntmps10
    go_wp2_with fail
    go_ret
    have e1 : belowR x n = 0 := if_pos h1
    have e2 : belowX x n = x := if_pos h1
    rw [e1, e2]
    exact ⟨rfl, h, Kept.refl _ _⟩
  · have hb := told_bd x
    obtain ⟨hb1, hb2⟩ := hb
    have e1 : Hid (belowR x n = told x % n) := if_neg (by omega)
    have e2 : Hid (belowX x n = nxt x) := if_neg (by omega)
    have hs := h.set 0 (u64 (nxt x))
    have e3 := wrap_mod x n h1
    have H := Lib.hid (next_any D x w h)
    go_enter Try.func10, Try.ntmps10
    go_wp2_with fail
    refine H.out.mono ?_
    rintro e w' ⟨rfl, rfl⟩
    go_wp2_with fail
    go_ret
    rw [e1.out, e2.out]
    refine ⟨?_, hs, ?_⟩
    · show Ending.returned (.int .i64 (wrap64 (told x % n))) = _
      rw [e3.out]
    · exact (Kept.refl (· = D) w).setCell (p := ⟨D, 0, none⟩) (.inl rfl) _

theorem below_nil (n : Int) (w : World) (hn : 1 ≤ n) (hn2 : n ≤ 9223372036854775807) : Calls Try.prog 10 #[.pointer none, i64 n] w fun e w' => e = .returned (i64 0) ∧ w = w' := by
  have H := Lib.hid (next_nil w)
  go_enter Try.func10, Try.ntmps10
  go_wp2_with fail
  refine H.out.mono ?_
  rintro e w' ⟨rfl, rfl⟩
  go_wp2_with fail
  go_ret
  exact ⟨by simp, rfl⟩

theorem refNext_any (x : Int) (w : World) : Calls Try.prog 11 #[u64 x] w fun e w' => e = .returned (.tuple #[u64 (nxt x), u64 (told x)]) ∧ w = w' := by
  go_enter Try.func11, Try.ntmps11
  go_wp2
  go_ret2
  exact ⟨rfl, rfl⟩

theorem refBelow_any (x n : Int) (w : World) (hn : n ≤ 9223372036854775807) :
    Calls Try.prog 9 #[u64 x, i64 n] w fun e w' => e = .returned (.tuple #[u64 (belowX x n), i64 (belowR x n)]) ∧ Grew w w' := by
  rcases Int.lt_or_le n 1 with h1 | h1
  · go_enter Try.func9, Try.ntmps9
    go_wp2_with fail
    go_ret2
    have e1 : belowR x n = 0 := if_pos h1
    have e2 : belowX x n = x := if_pos h1
    rw [e1, e2]
    exact ⟨rfl, Kept.refl _ _⟩
  · have hb := told_bd x
    obtain ⟨hb1, hb2⟩ := hb
    have e1 : Hid (belowR x n = told x % n) := if_neg (by omega)
    have e2 : Hid (belowX x n = nxt x) := if_neg (by omega)
    have e3 := wrap_mod x n h1
    go_enter Try.func9, Try.ntmps9
    go_wp2_with fail
    refine (refNext_any _ _).mono ?_
    rintro e w' ⟨rfl, rfl⟩
    go_wp2_with fail
    go_quiet (fail)
    go_wp2
    go_ret2
    rw [e1.out, e2.out]
    refine ⟨?_, (Kept.refl _ _).drewN _⟩
    show Ending.returned (.tuple #[u64 (nxt x), .int .i64 (wrap64 (told x % n))]) = _
    rw [e3.out]
end Go.Proofs.Ytppnndhekikagaa
