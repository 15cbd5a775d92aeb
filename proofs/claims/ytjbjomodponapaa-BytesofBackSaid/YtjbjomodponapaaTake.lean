/- Take of the program and Take of the document answer alike: the walks. -/
import Derived.Test.YtjbjomodponapaaRows
import Derived.Test.YtjbjomodponapaaPlain
import Derived.Test.YtjbjomodponapaaWorld
import Derived.WalkKit
import Derived.WalkSpells
import Derived.Lib.Hide
import Derived.WalkLawsBesides
namespace Go.Proofs.Ytjbjomodponapaa
open Go.RowKit

/-- A slice of bytes whose cells are z. -/
def RowZ (w : World) (A : Option Addr) (len : Nat) (z : Nat → Int) : Prop :=
  len ≤ 9223372036854775807 ∧ ∀ i, i < len → ∃ b off, A = some ⟨b, off, none⟩ ∧ w.cell? ⟨b, off + i, none⟩ = some (.int .u8 (z i)) ∧ 0 ≤ z i ∧ z i ≤ 255

def takeE (r : Int × Int × Bool) : Ending := .returned (.tuple #[.int .u64 r.1, .int .i64 r.2.1, .bool r.2.2])

theorem takeGo_false {z : Nat → Int} {len f k : Nat} (hk : k < len) (h9 : k = 9) (h : 1 < z k) : takeGo z len f k = (0, 0, false) := by
  cases f with
  | zero => rfl
  | succ f => rw [takeGo, if_pos hk, if_pos ⟨h9, h⟩]
theorem takeGo_zero {z : Nat → Int} {len f k : Nat} (hk : k < len) (h : z k = 0) (h0 : 0 < k) : takeGo z len f k = (0, 0, false) := by
  cases f with
  | zero => rfl
  | succ f => rw [takeGo, if_pos hk, if_neg (by omega), if_pos (by omega), if_pos ⟨h, h0⟩]
theorem takeGo_yes {z : Nat → Int} {len f k : Nat} (hk : k < len) (h9 : k = 9 → z k ≤ 1) (h : z k < 128) (h0 : ¬(z k = 0 ∧ 0 < k)) : takeGo z len (f + 1) k = (val z (k + 1), (k : Int) + 1, true) := by
  rw [takeGo, if_pos hk, if_neg (by omega), if_pos h, if_neg h0]
theorem takeGo_on {z : Nat → Int} {len f k : Nat} (hk : k < len) (h9 : k = 9 → z k ≤ 1) (h : 128 ≤ z k) : takeGo z len (f + 1) k = takeGo z len f (k + 1) := by
  rw [takeGo, if_pos hk, if_neg (by omega), if_neg (by omega)]
theorem takeGo_end {z : Nat → Int} {len f k : Nat} (hk : ¬ k < len) : takeGo z len f k = (0, 0, false) := by
  cases f with
  | zero => rfl
  | succ f => rw [takeGo, if_neg hk]

set_option maxHeartbeats 1000000 in
theorem take_any (A : Option Addr) (len cap : Nat) (z : Nat → Int) (w : World) (h : RowZ w A len z) :
    Calls Try.prog 14 #[.slice A len cap] w fun e w' => e = takeE (takeF z len) ∧ w = w' := by
  obtain ⟨hm, hc⟩ := h
  go_enter Try.func14, Try.ntmps14
  go_wp2
  go_loop [2, 9] (fun n i => ∃ k : Nat, k ≤ len ∧ k ≤ 9 ∧ i = .int .i64 k ∧ n = .int .u64 (val z k) ∧ Hid (takeF z len = takeGo z len (10 - k) k)) (fun _ i => len - (intOf i).toNat)
  case atStart => exact ⟨0, by omega, by omega, rfl, rfl, rfl⟩
  case round =>
    obtain ⟨k, hk, hk9, rfl, rfl, hT⟩ := hrel
    by_cases hlt : k < len
    · obtain ⟨b, off, rfl, h1, h2, h3⟩ := hc k hlt
      have hf : 10 - k = 9 - k + 1 := by omega
      have hF := Lib.hid (congrArg (fun f => takeGo z len f k) hf)
      clear hc hf
      rcases Nat.lt_or_ge k 9 with h8 | h8
      · have hS := Lib.hid (step_or z k h2 h3 hk9 (by omega))
        rcases Int.lt_or_le (z k) 128 with hz | hz
        · rcases Int.lt_or_le 0 (z k) with hp | hp
          · have hr := Lib.hid (hT.out.trans (hF.out.trans (takeGo_yes hlt (by omega) hz (by omega))))
            go_wp2
            go_ret3
            refine ⟨?_, rfl⟩
            rw [hr.out]; simp only [takeE]; rw [← hS.out]; rfl
          · rcases Nat.lt_or_ge 0 k with h0 | h0
            · have hr := Lib.hid (hT.out.trans (takeGo_zero hlt (by omega) h0))
              go_wp2
              go_ret3
              refine ⟨?_, rfl⟩
              rw [hr.out]; rfl
            · have hr := Lib.hid (hT.out.trans (hF.out.trans (takeGo_yes hlt (by omega) hz (by omega))))
              have hz0 : z k = 0 := by omega
              have hS0 := hS.out
              rw [hz0] at hS0
              have hS1 := Lib.hid hS0
              clear hz0 hS0
              go_wp2
              go_ret3
              refine ⟨?_, rfl⟩
              rw [hr.out]; simp only [takeE]; rw [← hS1.out]; rfl
        · have hr := Lib.hid (hT.out.trans (hF.out.trans (takeGo_on hlt (by omega) hz)))
          go_wp2
          go_round
          case rel => exact ⟨k + 1, by omega, by omega, by go_num, by rw [hS.out], (show Hid (takeF z len = takeGo z len (10 - (k + 1)) (k + 1)) from by rw [show 10 - (k + 1) = 9 - k by omega]; exact hr.out)⟩
          case measure => simp [intOf]; omega
      · obtain rfl : k = 9 := by omega
        rcases Int.lt_or_le 1 (z 9) with hz | hz
        · have hr := Lib.hid (hT.out.trans (takeGo_false hlt rfl hz))
          go_wp2
          go_ret3
          refine ⟨?_, rfl⟩
          rw [hr.out]; rfl
        · have hS := Lib.hid (step_or9 z h2 h3 (by omega))
          rcases Int.lt_or_le 0 (z 9) with hp | hp
          · have hr := Lib.hid (hT.out.trans (takeGo_yes hlt (fun _ => hz) (by omega) (by omega)))
            go_wp2
            go_ret3
            refine ⟨?_, rfl⟩
            rw [hr.out]; simp only [takeE]; rw [← hS.out]; rfl
          · have hr := Lib.hid (hT.out.trans (takeGo_zero hlt (by omega) (by omega)))
            go_wp2
            go_ret3
            refine ⟨?_, rfl⟩
            rw [hr.out]; rfl
    · go_wp2
      go_ret3
      refine ⟨?_, rfl⟩
      rw [hT.out, takeGo_end hlt]; rfl

end Go.Proofs.Ytjbjomodponapaa
