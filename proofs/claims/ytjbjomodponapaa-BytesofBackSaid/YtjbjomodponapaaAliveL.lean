/- What must come at any rate; which graphs are light; bytes as strings. -/
import Derived.Test.YtjbjomodponapaaRankR
import Derived.Test.YtjbjomodponapaaLight
import Derived.Test.YtjbjomodponapaaRead
namespace Go.Proofs.Ytjbjomodponapaa
open Go.RowKit

theorem rowZ_own {w : World} {base g c : Nat} {l : List Int} (h : w.ownsRow base 5 1 (.slice (some ⟨g, 0, none⟩) l.length c) l.length (l.map B8)) (hl : l.length ≤ 100000) (hb : ∀ x ∈ l, 0 ≤ x ∧ x ≤ 255) :
    RowZ w (some ⟨g, 0, none⟩) l.length (fun i => l.getD i 0) := by
  refine ⟨by omega, fun i hi => ⟨g, 0, rfl, ?_, ?_⟩⟩
  · have := h.cellAt i (by omega)
    rw [Nat.zero_add, this]
    simp [B8, List.getElem?_eq_getElem hi]
  · have := hb _ (List.getElem_mem hi)
    simpa [List.getElem?_eq_getElem hi] using this
set_option maxRecDepth 100000 in
theorem alive_any (w : World) : Calls Try.prog 5 #[] w fun e w' => e = .returned (.bool true) ∧ Grew w w' := by
  have hn := Lib.hid (number_any 300 w (show (300 : Nat) < 18446744073709551616 by decide))
  have hd : digs 10 300 = [172, 2] := rfl
  rw [hd] at hn
  go_enter Try.func5, Try.ntmps5
  go_wp2_with fail
  refine hn.out.mono ?_
  rintro e w1 ⟨v, rfl, hown, hb⟩
  obtain ⟨g, c, rfl⟩ := own_form hown (by decide)
  have hz := rowZ_own (l := [172, 2]) hown (by decide) (by decide)
  have hc0 := hown.cellAt 0 (by decide)
  have hc1 := hown.cellAt 1 (by decide)
  simp [B8] at hc0 hc1
  go_wp2_with fail
  refine (take_any _ _ _ _ _ hz).mono ?_
  rintro e w2 ⟨he, rfl⟩
  have he2 : e = .returned (.tuple #[.int .u64 300, .int .i64 2, .bool true]) := he
  clear he
  subst he2
  go_wp2
  go_ret
  exact ⟨rfl, Grew.of_below hb⟩
theorem light20_any (n : Int) (A : Option Addr) (L c : Nat) (w : World) (hm : L ≤ 9223372036854775807) : Calls Try.prog 4 #[.agg #[i64 n, .slice A L c]] w fun e w' => SaysB ((n ≤ 12 ∨ 4096 < n) ∧ L ≤ 40) e ∧ Grew w w' := by
  have b0 := Blk.new w 24 #[i64 n, .slice A L c]
  have k0 : Grew w (w.alloc (.cells #[i64 n, .slice A L c] 24)) := (Kept.refl _ _).alloc _
  have c0 := b0.cell 0
  have c1 := b0.cell 1
  simp at c0 c1
  by_cases h5 : (n ≤ 100 ∨ 4096 < n) ∧ L ≤ 300
  rotate_left
  · have hC := Lib.hid (light_no n A L c (w.alloc (.cells #[i64 n, .slice A L c] 24)) hm h5)
    have hf : Hid (¬ ((n ≤ 12 ∨ 4096 < n) ∧ L ≤ 40)) := fun h => h5 (by omega)
    clear h5 b0
    go_enter Try.func4, Try.ntmps4
    go_wp2_with fail
    refine hC.out.mono ?_
    rintro e w1 ⟨rfl, k1⟩
    go_wp2_with fail
    go_ret
    exact ⟨.no hf.out, k0.trans k1⟩
  have hC := Lib.hid (light_yes n A L c (w.alloc (.cells #[i64 n, .slice A L c] 24)) h5.1 h5.2)
  have HB := Lib.hid b0
  clear b0
  by_cases h12 : n ≤ 12
  · by_cases h40 : (L : Int) ≤ 40
    · have hf : Hid ((n ≤ 12 ∨ 4096 < n) ∧ L ≤ 40) := ⟨.inl h12, by omega⟩
      clear h5
      go_enter Try.func4, Try.ntmps4
      go_wp2_with fail
      refine hC.out.mono ?_
      rintro e w1 ⟨rfl, k1⟩
      have d0 := (HB.out.grew k1).cell 0
      have d1 := (HB.out.grew k1).cell 1
      simp at d0 d1
      go_wp2_with fail
      go_ret
      exact ⟨.yes hf.out, k0.trans k1⟩
    · have hf : Hid (¬ ((n ≤ 12 ∨ 4096 < n) ∧ L ≤ 40)) := fun h => h40 (by omega)
      have q40 : decide ((L : Int) ≤ 40) = false := decide_eq_false h40
      clear h5
      go_enter Try.func4, Try.ntmps4
      go_wp2_with fail
      refine hC.out.mono ?_
      rintro e w1 ⟨rfl, k1⟩
      have d0 := (HB.out.grew k1).cell 0
      have d1 := (HB.out.grew k1).cell 1
      simp at d0 d1
      go_wp2_with fail
      go_ret
      exact ⟨.no hf.out, k0.trans k1⟩
  · by_cases h96 : 4096 < n
    · by_cases h40 : (L : Int) ≤ 40
      · have hf : Hid ((n ≤ 12 ∨ 4096 < n) ∧ L ≤ 40) := ⟨.inr h96, by omega⟩
        clear h5
        go_enter Try.func4, Try.ntmps4
        go_wp2_with fail
        refine hC.out.mono ?_
        rintro e w1 ⟨rfl, k1⟩
        have d0 := (HB.out.grew k1).cell 0
        have d1 := (HB.out.grew k1).cell 1
        simp at d0 d1
        go_wp2_with fail
        go_ret
        exact ⟨.yes hf.out, k0.trans k1⟩
      · have hf : Hid (¬ ((n ≤ 12 ∨ 4096 < n) ∧ L ≤ 40)) := fun h => h40 (by omega)
        have q40 : decide ((L : Int) ≤ 40) = false := decide_eq_false h40
        clear h5
        go_enter Try.func4, Try.ntmps4
        go_wp2_with fail
        refine hC.out.mono ?_
        rintro e w1 ⟨rfl, k1⟩
        have d0 := (HB.out.grew k1).cell 0
        have d1 := (HB.out.grew k1).cell 1
        simp at d0 d1
        go_wp2_with fail
        go_ret
        exact ⟨.no hf.out, k0.trans k1⟩
    · have hf : Hid (¬ ((n ≤ 12 ∨ 4096 < n) ∧ L ≤ 40)) := fun h => by omega
      clear h5
      go_enter Try.func4, Try.ntmps4
      go_wp2_with fail
      refine hC.out.mono ?_
      rintro e w1 ⟨rfl, k1⟩
      have d0 := (HB.out.grew k1).cell 0
      have d1 := (HB.out.grew k1).cell 1
      simp at d0 d1
      go_wp2_with fail
      go_ret
      exact ⟨.no hf.out, k0.trans k1⟩
theorem string_own {w : World} {base g c : Nat} {l : List Int} (h : w.ownsRow base 5 1 (.slice (some ⟨g, 0, none⟩) l.length c) l.length (l.map B8)) :
    (convert 29 9 (.slice (some ⟨g, 0, none⟩) l.length c)).run Try.prog w = .ok (.string (strOfNums l)) w := by
  refine run_convert_bytes_arg w _ _ Try.underlying29 Try.underlying5 g 0 l.length c l rfl (fun i hi => ?_) _ Try.underlying9
  rw [Nat.zero_add, h.cellAt i (by omega)]
  simp [B8, List.getElem?_eq_getElem hi]
/-- Bytes that are l. -/
theorem string_src {w : World} {A : Option Addr} {len cap : Nat} {z : Nat → Int} {l : List Int} (h : Src w A len cap z) (hR : Rest z len 0 l) (h0 : 0 < l.length) :
    (convert 29 9 (.slice A len cap)).run Try.prog w = .ok (.string (strOfNums l)) w := by
  have hl : l.length = len := by have := hR.2; omega
  obtain ⟨b, off, rfl, _⟩ := h.row.2 0 (by omega)
  refine run_convert_bytes_arg w _ _ Try.underlying29 Try.underlying5 b off len cap l hl (fun i hi => ?_) _ Try.underlying9
  obtain ⟨b', off', hA, hc, _⟩ := h.row.2 i hi
  cases hA
  rw [hc]
  have := hR.1 i _ (List.getElem?_eq_getElem (by omega))
  rw [Nat.zero_add] at this
  rw [this]
  simp [List.getElem?_eq_getElem (show i < l.length by omega)]
end Go.Proofs.Ytjbjomodponapaa
