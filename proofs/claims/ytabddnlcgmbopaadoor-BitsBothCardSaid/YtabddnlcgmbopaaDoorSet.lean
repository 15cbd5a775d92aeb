/- Sets of numbers as words of bits: what lies where, and the walks of what is small. -/
import Derived.Test.YtabddnlcgmbopaaDoorRows
import Derived.Test.YtabddnlcgmbopaaDoorWorld
import Derived.Test.YtabddnlcgmbopaaDoorBitP
import Derived.Deep.QuietTactic
import Derived.BigQuiet
import Derived.Outline
import Derived.Laws.BitsAllLaws
import Derived.Laws.BitsLemmas
namespace Go.Proofs.YtabddnlcgmbopaaDoor
open Go.RowKit

abbrev pt (D : Nat) : Value := .pointer (some ⟨D, 0, none⟩)
abbrev u64 (x : Nat) : Value := .int .u64 (x : Int)
abbrev i64 (x : Int) : Value := .int .i64 x

/-- Row v has the words ws; there is a block if there is a word. -/
def RowW (w : World) (v : Value) (ws : List Nat) : Prop :=
  (ws = [] ∧ ∃ V c, v = .slice V 0 c) ∨ ∃ g c cur, v = .slice (some ⟨g, 0, none⟩) ws.length c ∧ 0 < ws.length ∧ Blk w g 46 cur ∧ ∀ (j x : Nat), ws[j]? = some x → cur[j]? = some (u64 x)
def ownW : Value → Option Nat
  | .slice (some a) (_ + 1) _ => some a.block
  | _ => none
/-- Set S, of numbers below n, has the words ws. -/
structure SetB (w : World) (S n : Nat) (v : Value) (ws : List Nat) : Prop where
  box : Blk w S 45 #[i64 n, v]
  row : RowW w v ws
  len : ws.length = (n + 63) / 64
  lt : ∀ x ∈ ws, x < W64
  out : ∀ i, n ≤ i → inW ws i = false
  small : n ≤ 65536
abbrev SB (S : Nat) (v : Value) : Nat → Prop := fun k => k = S ∨ ownW v = some k

theorem RowW.kept {F : Nat → Prop} {w w' : World} {v : Value} {ws : List Nat} (h : RowW w v ws) (k : Kept F w w') (hF : ∀ j, ownW v = some j → ¬ F j) : RowW w' v ws := by
  rcases h with h | ⟨g, c, cur, rfl, h0, hb, hc⟩
  · exact .inl h
  · refine .inr ⟨g, c, cur, rfl, h0, hb.kept k (hF g ?_), hc⟩
    obtain ⟨m, hm⟩ : ∃ m, ws.length = m + 1 := ⟨ws.length - 1, by omega⟩
    rw [hm]
    rfl
theorem SetB.kept {F : Nat → Prop} {w w' : World} {S n : Nat} {v : Value} {ws : List Nat} (s : SetB w S n v ws) (k : Kept F w w') (hF : ∀ j, SB S v j → ¬ F j) : SetB w' S n v ws :=
  ⟨s.box.kept k (hF _ (.inl rfl)), s.row.kept k (fun j hj => hF j (.inr hj)), s.len, s.lt, s.out, s.small⟩
theorem SetB.grew {w w' : World} {S n : Nat} {v : Value} {ws : List Nat} (s : SetB w S n v ws) (k : Grew w w') : SetB w' S n v ws := s.kept k fun _ _ h => h
theorem SetB.word {w : World} {S n : Nat} {v : Value} {ws : List Nat} (s : SetB w S n v ws) {j x : Nat} (h : ws[j]? = some x) : ∃ g c cur, v = .slice (some ⟨g, 0, none⟩) ws.length c ∧ Blk w g 46 cur ∧ cur[j]? = some (u64 x) ∧ x < W64 ∧ ownW v = some g := by
  have hl := (List.getElem?_eq_some_iff.1 h).1
  rcases s.row with ⟨rfl, _⟩ | ⟨g, c, cur, rfl, h0, hb, hc⟩
  · simp at hl
  · refine ⟨g, c, cur, rfl, hb, hc j x h, s.lt x (List.mem_of_getElem? h), ?_⟩
    obtain ⟨m, hm⟩ : ∃ m, ws.length = m + 1 := ⟨ws.length - 1, by omega⟩
    rw [hm]
    rfl

theorem has_bit (x b : Nat) (hx : x < W64) : (bits .and .u64 ((x : Int) / 2 ^ b) 1 == 1) = x.testBit b := by
  unfold W64 at hx
  have e : (x : Int) / 2 ^ b = ((x / 2 ^ b : Nat) : Int) := by rw [Int.natCast_ediv, Int.natCast_pow]; rfl
  have hl : x / 2 ^ b ≤ x := Nat.div_le_self _ _
  rw [e, show (1 : Int) = ((1 : Nat) : Int) from rfl, u64_and_nat _ _ (by omega) (by omega), nat_mask1, Nat.testBit_eq_decide_div_mod_eq]
  rw [Bool.eq_iff_iff]
  simp
  omega
theorem size_nil (w : World) : Calls Tryd.prog 9 #[.pointer none] w fun e w' => e = .returned (i64 0) ∧ w = w' := by
  go_enter Tryd.func9, Tryd.ntmps9
  go_wp2_with fail
  go_ret
  exact ⟨rfl, rfl⟩
theorem size_any (w : World) (S n : Nat) (v : Value) (ws : List Nat) (s : SetB w S n v ws) : Calls Tryd.prog 9 #[pt S] w fun e w' => e = .returned (i64 n) ∧ w = w' := by
  have hc : w.cell? ⟨S, 0, none⟩ = some (i64 n) := s.box.cell 0
  go_enter Tryd.func9, Tryd.ntmps9
  go_wp2_with fail
  go_ret
  exact ⟨rfl, rfl⟩
theorem has_in (w : World) (S n : Nat) (v : Value) (ws : List Nat) (s : SetB w S n v ws) (i : Nat) (hi : i < n) : Calls Tryd.prog 10 #[pt S, i64 (i : Int)] w fun e w' => e = .returned (.bool (inW ws i)) ∧ w = w' := by
  have hS := Lib.hid (size_any w S n v ws s)
  have hsm := s.small
  have hj : i / 64 < ws.length := by rw [s.len]; omega
  obtain ⟨q, hq⟩ : ∃ q, i / 64 = q := ⟨_, rfl⟩
  obtain ⟨b, hb⟩ : ∃ b, i % 64 = b := ⟨_, rfl⟩
  have hin : inW ws i = (ws.getD q 0).testBit b := by unfold inW; rw [hq, hb]
  rw [hq] at hj
  obtain ⟨x, hx⟩ : ∃ x, ws[q]? = some x := ⟨_, List.getElem?_eq_getElem hj⟩
  obtain ⟨g, c, cur, hv, hbl, hc, hxl, _⟩ := s.word hx
  subst hv
  have hb0 := s.box.cell 1
  simp at hb0
  have hw := hbl.cell q
  rw [hc] at hw
  have d0 : decide ((0 : Int) ≤ (i : Int)) = true := decide_eq_true (by omega)
  have d1 : decide ((i : Int) < (n : Int)) = true := decide_eq_true (by omega)
  have d2 : decide (i < n) = true := decide_eq_true hi
  have i0 : (0 : Int) ≤ (i : Int) := by omega
  have e1 : (i : Int) / 64 = (q : Int) := by omega
  have e2 : (i : Int) % 64 = (b : Int) := by omega
  have hb64 : b < 64 := by omega
  have b0 : (0 : Int) ≤ (b : Int) := by omega
  have b1 : (b : Int) < 64 := by omega
  have q0 : (0 : Int) ≤ (q : Int) := by omega
  have q1 : (q : Int) < (ws.length : Int) := by omega
  have hil : (i : Int) ≤ 65536 := by omega
  have HX := Lib.hid hx
  have HIN := Lib.hid hin
  clear s hq hb hin hc hx hbl
  go_enter Tryd.func10, Tryd.ntmps10
  go_wp2_with fail
  refine hS.out.mono ?_
  rintro r w1 ⟨rfl, rfl⟩
  go_wp2_with fail
  go_ret
  refine ⟨?_, rfl⟩
  rw [HIN.out, List.getD_eq_getElem?_getD, HX.out, Option.getD_some, ← has_bit x b hxl]
  rfl
theorem has_out (w : World) (S n : Nat) (v : Value) (ws : List Nat) (s : SetB w S n v ws) (i : Int) (hi : i < 0 ∨ (n : Int) ≤ i) : Calls Tryd.prog 10 #[pt S, i64 i] w fun e w' => e = .returned (.bool false) ∧ w = w' := by
  have hS := Lib.hid (size_any w S n v ws s)
  rcases Int.lt_or_le i 0 with h0 | h0
  · have d0 : decide ((0 : Int) ≤ i) = false := decide_eq_false (by omega)
    clear hi
    go_enter Tryd.func10, Tryd.ntmps10
    go_wp2_with fail
    go_ret
    exact ⟨rfl, rfl⟩
  · have d0 : decide ((0 : Int) ≤ i) = true := decide_eq_true h0
    have d1 : decide (i < (n : Int)) = false := decide_eq_false (by omega)
    clear hi
    go_enter Tryd.func10, Tryd.ntmps10
    go_wp2_with fail
    refine hS.out.mono ?_
    rintro r w1 ⟨rfl, rfl⟩
    go_wp2_with fail
    go_ret
    exact ⟨rfl, rfl⟩
theorem has_nil (i : Int) (w : World) : Calls Tryd.prog 10 #[.pointer none, i64 i] w fun e w' => e = .returned (.bool false) ∧ w = w' := by
  have hS := Lib.hid size_nil
  rcases Int.lt_or_le i 0 with h0 | h0
  · have d0 : decide ((0 : Int) ≤ i) = false := decide_eq_false (by omega)
    go_enter Tryd.func10, Tryd.ntmps10
    go_wp2_with fail
    go_ret
    exact ⟨rfl, rfl⟩
  · have d0 : decide ((0 : Int) ≤ i) = true := decide_eq_true h0
    have d1 : decide (i < 0) = false := decide_eq_false (by omega)
    go_enter Tryd.func10, Tryd.ntmps10
    go_wp2_with fail
    refine (hS.out _).mono ?_
    rintro r w1 ⟨rfl, rfl⟩
    go_wp2_with fail
    go_ret
    exact ⟨rfl, rfl⟩
end Go.Proofs.YtabddnlcgmbopaaDoor
