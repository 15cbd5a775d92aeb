/- The words of faults: the walks of words, Words, Is, Word, Index, Of. -/
import Derived.Test.YtpoccibneoankaaDoorAs
import Derived.Deep.QuietTactic
import Derived.BigQuiet
namespace Go.Proofs.YtpoccibneoankaaDoor
open Go.RowKit

abbrev i64 (x : Int) : Value := .int .i64 x
def wordsL : List ByteArray := [⟨#[111, 107]⟩, ⟨#[98, 97, 100, 97, 114, 103]⟩, ⟨#[114, 97, 110, 103, 101]⟩, ⟨#[115, 121, 110, 116, 97, 120]⟩, ⟨#[102, 111, 114, 109]⟩, ⟨#[116, 111, 111, 98, 105, 103]⟩, ⟨#[111, 118, 101, 114, 102, 108, 111, 119]⟩, ⟨#[110, 111, 110, 111, 100, 101]⟩, ⟨#[110, 111, 101, 100, 103, 101]⟩, ⟨#[110, 111, 112, 97, 116, 104]⟩, ⟨#[117, 110, 107, 110, 111, 119, 110]⟩, ⟨#[110, 111, 103, 114, 97, 112, 104]⟩, ⟨#[110, 111, 98, 117, 105, 108, 100]⟩, ⟨#[115, 116, 97, 108, 101]⟩, ⟨#[99, 108, 111, 115, 101, 100]⟩]
/-- The word of number k. -/
def wd (k : Nat) : ByteArray := wordsL.getD k ⟨#[]⟩
def wA : Array Value := #[.string ⟨#[111, 107]⟩, .string ⟨#[98, 97, 100, 97, 114, 103]⟩, .string ⟨#[114, 97, 110, 103, 101]⟩, .string ⟨#[115, 121, 110, 116, 97, 120]⟩, .string ⟨#[102, 111, 114, 109]⟩, .string ⟨#[116, 111, 111, 98, 105, 103]⟩, .string ⟨#[111, 118, 101, 114, 102, 108, 111, 119]⟩, .string ⟨#[110, 111, 110, 111, 100, 101]⟩, .string ⟨#[110, 111, 101, 100, 103, 101]⟩, .string ⟨#[110, 111, 112, 97, 116, 104]⟩, .string ⟨#[117, 110, 107, 110, 111, 119, 110]⟩, .string ⟨#[110, 111, 103, 114, 97, 112, 104]⟩, .string ⟨#[110, 111, 98, 117, 105, 108, 100]⟩, .string ⟨#[115, 116, 97, 108, 101]⟩, .string ⟨#[99, 108, 111, 115, 101, 100]⟩]
def wV : Value := .agg wA

theorem words_any (w : World) : Calls Tryd.prog 28 #[] w fun e w' => e = .returned wV ∧ Grew w w' := by
  go_enter Tryd.func28, Tryd.ntmps28
  go_wp2_with fail
  exact bodyPost_ret (v := .agg #[.string ⟨#[111, 107]⟩, .string ⟨#[98, 97, 100, 97, 114, 103]⟩, .string ⟨#[114, 97, 110, 103, 101]⟩, .string ⟨#[115, 121, 110, 116, 97, 120]⟩, .string ⟨#[102, 111, 114, 109]⟩, .string ⟨#[116, 111, 111, 98, 105, 103]⟩, .string ⟨#[111, 118, 101, 114, 102, 108, 111, 119]⟩, .string ⟨#[110, 111, 110, 111, 100, 101]⟩, .string ⟨#[110, 111, 101, 100, 103, 101]⟩, .string ⟨#[110, 111, 112, 97, 116, 104]⟩, .string ⟨#[117, 110, 107, 110, 111, 119, 110]⟩, .string ⟨#[110, 111, 103, 114, 97, 112, 104]⟩, .string ⟨#[110, 111, 98, 117, 105, 108, 100]⟩, .string ⟨#[115, 116, 97, 108, 101]⟩, .string ⟨#[99, 108, 111, 115, 101, 100]⟩]) (by simp [results, Tryd.results28, go_sem]) rfl ⟨rfl, (Kept.refl _ _).alloc _⟩
theorem Words_any (w : World) : Calls Tryd.prog 23 #[] w fun e w' => ∃ g, e = .returned (.slice (some ⟨g, 0, none⟩) 15 15) ∧ Blk w' g 9 wA ∧ Grew w w' := by
  go_enter Tryd.func23, Tryd.ntmps23
  go_wp2_with fail
  go_ret
  exact ⟨_, rfl, Blk.new _ _ _, (Kept.refl _ _).alloc _⟩

/-- Is it a fault? -/
def isF (f : Int) : Bool := decide (0 ≤ f ∧ f < 15)
theorem is_any (f : Int) (w : World) : Calls Tryd.prog 20 #[i64 f] w fun e w' => e = .returned (.bool (isF f)) ∧ Grew w w' := by
  have hW := Lib.hid words_any
  rcases Int.lt_or_le f 0 with h | h
  · have hb : isF f = false := decide_eq_false (by omega)
    rw [hb]
    have d0 : decide (0 ≤ f) = false := decide_eq_false (by omega)
    clear hb
    go_enter Tryd.func20, Tryd.ntmps20
    go_wp2_with fail
    go_ret
    exact ⟨rfl, Kept.refl _ _⟩
  · obtain ⟨bb, hb⟩ : ∃ bb, isF f = bb := ⟨_, rfl⟩
    rw [hb]
    have d1 : decide (f < 15) = bb := by rw [← hb]; unfold isF; congr 1; simp [h]
    have d0 : decide (0 ≤ f) = true := decide_eq_true h
    clear hb
    cases bb
    all_goals
      go_enter Tryd.func20, Tryd.ntmps20
      go_wp2_with fail
      refine (hW.out _).mono ?_
      rintro r w1 ⟨rfl, k1⟩
      go_wp2_with fail
      go_ret
      exact ⟨rfl, k1⟩
theorem ris_any (f : Int) (w : World) : Calls Tryd.prog 8 #[i64 f] w fun e w' => e = .returned (.bool (isF f)) ∧ Grew w w' := by
  have hW := Lib.hid Words_any
  rcases Int.lt_or_le f 0 with h | h
  · have hb : isF f = false := decide_eq_false (by omega)
    rw [hb]
    have d0 : decide (0 ≤ f) = false := decide_eq_false (by omega)
    clear hb
    go_enter Tryd.func8, Tryd.ntmps8
    go_wp2_with fail
    go_ret
    exact ⟨rfl, Kept.refl _ _⟩
  · obtain ⟨bb, hb⟩ : ∃ bb, isF f = bb := ⟨_, rfl⟩
    rw [hb]
    have d1 : decide (f < 15) = bb := by rw [← hb]; unfold isF; congr 1; simp [h]
    have d0 : decide (0 ≤ f) = true := decide_eq_true h
    clear hb
    cases bb
    all_goals
      go_enter Tryd.func8, Tryd.ntmps8
      go_wp2_with fail
      refine (hW.out _).mono ?_
      rintro r w1 ⟨g, rfl, b1, k1⟩
      go_wp2_with fail
      go_ret
      exact ⟨rfl, k1⟩
theorem idx0 (w : World) : (Instr.index 65 wV (.int .i64 0)).run Tryd.prog w = .ok (.string (wd 0)) w := by kernel_rfl
theorem idx1 (w : World) : (Instr.index 65 wV (.int .i64 1)).run Tryd.prog w = .ok (.string (wd 1)) w := by kernel_rfl
theorem idx2 (w : World) : (Instr.index 65 wV (.int .i64 2)).run Tryd.prog w = .ok (.string (wd 2)) w := by kernel_rfl
theorem idx3 (w : World) : (Instr.index 65 wV (.int .i64 3)).run Tryd.prog w = .ok (.string (wd 3)) w := by kernel_rfl
theorem idx4 (w : World) : (Instr.index 65 wV (.int .i64 4)).run Tryd.prog w = .ok (.string (wd 4)) w := by kernel_rfl
theorem idx5 (w : World) : (Instr.index 65 wV (.int .i64 5)).run Tryd.prog w = .ok (.string (wd 5)) w := by kernel_rfl
theorem idx6 (w : World) : (Instr.index 65 wV (.int .i64 6)).run Tryd.prog w = .ok (.string (wd 6)) w := by kernel_rfl
theorem idx7 (w : World) : (Instr.index 65 wV (.int .i64 7)).run Tryd.prog w = .ok (.string (wd 7)) w := by kernel_rfl
theorem idx8 (w : World) : (Instr.index 65 wV (.int .i64 8)).run Tryd.prog w = .ok (.string (wd 8)) w := by kernel_rfl
theorem idx9 (w : World) : (Instr.index 65 wV (.int .i64 9)).run Tryd.prog w = .ok (.string (wd 9)) w := by kernel_rfl
theorem idx10 (w : World) : (Instr.index 65 wV (.int .i64 10)).run Tryd.prog w = .ok (.string (wd 10)) w := by kernel_rfl
theorem idx11 (w : World) : (Instr.index 65 wV (.int .i64 11)).run Tryd.prog w = .ok (.string (wd 11)) w := by kernel_rfl
theorem idx12 (w : World) : (Instr.index 65 wV (.int .i64 12)).run Tryd.prog w = .ok (.string (wd 12)) w := by kernel_rfl
theorem idx13 (w : World) : (Instr.index 65 wV (.int .i64 13)).run Tryd.prog w = .ok (.string (wd 13)) w := by kernel_rfl
theorem idx14 (w : World) : (Instr.index 65 wV (.int .i64 14)).run Tryd.prog w = .ok (.string (wd 14)) w := by kernel_rfl
theorem word_in (k : Nat) (hk : k < 15) (w : World) : Calls Tryd.prog 18 #[i64 (k : Int)] w fun e w' => e = .returned (.string (wd k)) ∧ Grew w w' := by
  have hW := Lib.hid words_any
  have hI := Lib.hid (fun W => is_any (k : Int) W)
  have hidx : ∀ W, (Instr.index 65 wV (.int .i64 (k : Int))).run Tryd.prog W = .ok (.string (wd k)) W := by
    intro W
    match k, hk with
    | 0, _ => exact idx0 W
    | 1, _ => exact idx1 W
    | 2, _ => exact idx2 W
    | 3, _ => exact idx3 W
    | 4, _ => exact idx4 W
    | 5, _ => exact idx5 W
    | 6, _ => exact idx6 W
    | 7, _ => exact idx7 W
    | 8, _ => exact idx8 W
    | 9, _ => exact idx9 W
    | 10, _ => exact idx10 W
    | 11, _ => exact idx11 W
    | 12, _ => exact idx12 W
    | 13, _ => exact idx13 W
    | 14, _ => exact idx14 W
  have hb : isF (k : Int) = true := decide_eq_true (by omega)
  rw [hb] at hI
  clear hb
  go_enter Tryd.func18, Tryd.ntmps18
  go_wp2_with fail
  refine (hI.out _).mono ?_
  rintro r w1 ⟨rfl, k1⟩
  go_wp2_with fail
  refine (hW.out _).mono ?_
  rintro r w2 ⟨rfl, k2⟩
  go_wp2_with fail
  go_ret
  exact ⟨rfl, k1.trans k2⟩
theorem word_out (f : Int) (h : isF f = false) (w : World) : Calls Tryd.prog 18 #[i64 f] w fun e w' => e = .returned (.string ⟨#[]⟩) ∧ Grew w w' := by
  have hI := Lib.hid (fun W => is_any f W)
  rw [h] at hI
  clear h
  go_enter Tryd.func18, Tryd.ntmps18
  go_wp2_with fail
  refine (hI.out _).mono ?_
  rintro r w1 ⟨rfl, k1⟩
  go_wp2_with fail
  go_ret
  exact ⟨rfl, k1⟩
theorem wA_get (k : Nat) (hk : k < 15) : wA[k]? = some (.string (wd k)) := by
  match k, hk with
  | 0, _ => rfl
  | 1, _ => rfl
  | 2, _ => rfl
  | 3, _ => rfl
  | 4, _ => rfl
  | 5, _ => rfl
  | 6, _ => rfl
  | 7, _ => rfl
  | 8, _ => rfl
  | 9, _ => rfl
  | 10, _ => rfl
  | 11, _ => rfl
  | 12, _ => rfl
  | 13, _ => rfl
  | 14, _ => rfl
theorem rword_in (k : Nat) (hk : k < 15) (w : World) : Calls Tryd.prog 19 #[i64 (k : Int)] w fun e w' => e = .returned (.string (wd k)) ∧ Grew w w' := by
  have hW := Lib.hid Words_any
  have hI := Lib.hid (fun W => ris_any (k : Int) W)
  have hb : isF (k : Int) = true := decide_eq_true (by omega)
  rw [hb] at hI
  have i0 : (0 : Int) ≤ (k : Int) := by omega
  have i1 : (k : Int) < 15 := by omega
  have HK := Lib.hid (wA_get k hk)
  clear hb
  go_enter Tryd.func19, Tryd.ntmps19
  go_wp2_with fail
  refine (hI.out _).mono ?_
  rintro r w1 ⟨rfl, k1⟩
  go_wp2_with fail
  refine (hW.out _).mono ?_
  rintro r w2 ⟨g, rfl, b2, k2⟩
  have hc := b2.cell k
  rw [HK.out] at hc
  go_wp2_with fail
  go_ret
  exact ⟨rfl, k1.trans k2⟩
theorem rword_out (f : Int) (h : isF f = false) (w : World) : Calls Tryd.prog 19 #[i64 f] w fun e w' => e = .returned (.string ⟨#[]⟩) ∧ Grew w w' := by
  have hI := Lib.hid (fun W => ris_any f W)
  rw [h] at hI
  clear h
  go_enter Tryd.func19, Tryd.ntmps19
  go_wp2_with fail
  refine (hI.out _).mono ?_
  rintro r w1 ⟨rfl, k1⟩
  go_wp2_with fail
  go_ret
  exact ⟨rfl, k1⟩

/-- Where the word s is; nowhere: -1. -/
def posW (s : ByteArray) (i : Int) : Prop := i = -1 ∧ (∀ j, j < 15 → wd j ≠ s) ∨ ∃ j : Nat, j < 15 ∧ i = (j : Int) ∧ wd j = s ∧ ∀ q, q < j → wd q ≠ s
theorem posW_of : ∀ (n : Nat) (s : ByteArray), n ≤ 15 → (∀ j, j < n → wd j ≠ s) → ∃ i, posW s i := by
  intro n s hn h
  by_cases hn15 : n = 15
  · subst hn15
    exact ⟨-1, .inl ⟨rfl, h⟩⟩
  · by_cases he : wd n = s
    · exact ⟨(n : Int), .inr ⟨n, by omega, rfl, he, h⟩⟩
    · exact posW_of (n + 1) s (by omega) (fun j hj => by
        rcases Nat.lt_succ_iff_lt_or_eq.1 hj with h1 | rfl
        · exact h j h1
        · exact he)
termination_by n => 15 - n
theorem posW_any (s : ByteArray) : ∃ i, posW s i := posW_of 0 s (by omega) (fun j hj => absurd hj (by omega))
theorem posW_wd (k : Nat) (hk : k < 15) : posW (wd k) (k : Int) := .inr ⟨k, hk, rfl, rfl, by
  match k, hk with
  | 0, _ => decide
  | 1, _ => decide
  | 2, _ => decide
  | 3, _ => decide
  | 4, _ => decide
  | 5, _ => decide
  | 6, _ => decide
  | 7, _ => decide
  | 8, _ => decide
  | 9, _ => decide
  | 10, _ => decide
  | 11, _ => decide
  | 12, _ => decide
  | 13, _ => decide
  | 14, _ => decide⟩
theorem posW_nil : posW ⟨#[]⟩ (-1) := .inl ⟨rfl, by decide⟩
end Go.Proofs.YtpoccibneoankaaDoor
