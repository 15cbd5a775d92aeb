/- The fault of a word; all faults. -/
import Derived.Test.YtpoccibneoankaaDoorWords
import Derived.Deep.AppendLies
import Derived.WideShapes
namespace Go.Proofs.YtpoccibneoankaaDoor
open Go.RowKit

theorem str_eq (s t : ByteArray) : (s.toList == t.toList) = decide (s = t) := by
  rw [ByteArray.toList_eq, ByteArray.toList_eq]
  by_cases h : s = t
  · subst h; simp
  · rw [decide_eq_false h]
    have : s.data.toList ≠ t.data.toList := fun e => h (Go.WideShapes.bytes_inj e)
    simpa using this

set_option maxHeartbeats 1000000 in
theorem index_any (w : World) (g : Nat) (s : ByteArray) (i : Int) (t : TypeId) (b : Blk w g t wA) (h : posW s i) : Calls Tryd.prog 29 #[.slice (some ⟨g, 0, none⟩) 15 15, .string s] w fun e w' => e = .returned (i64 i) ∧ w = w' := by
  have B := Lib.hid b
  have H := Lib.hid h
  clear b h
  go_enter Tryd.func29, Tryd.ntmps29
  go_wp2_with fail
  go_loop [5, 8] (fun _ i => ∃ k : Nat, k ≤ 15 ∧ i = .int .i64 k ∧ Hid (∀ j, j < k → wd j ≠ s)) (fun _ i => 15 - (intOf i).toNat)
  case atStart => exact ⟨0, by omega, rfl, Lib.hid (fun j hj => absurd hj (by omega))⟩
  case round =>
    obtain ⟨k, hk, rfl, HN⟩ := hrel
    by_cases hlt : k < 15
    · have hc := B.out.cell k
      rw [wA_get k hlt] at hc
      have i0 : (0 : Int) ≤ (k : Int) := by omega
      have i1 : (k : Int) < 15 := by omega
      by_cases he : wd k = s
      · have hb : (s.toList == (wd k).toList) = true := by rw [str_eq, he]; simp
        have HE := Lib.hid he
        have HI : Hid (i = (k : Int)) := by
          rcases H.out with ⟨_, h2⟩ | ⟨j, hj, rfl, h3, h4⟩
          · exact absurd he (h2 k hlt)
          · rcases Nat.lt_trichotomy j k with h | h | h
            · exact absurd h3 (HN.out j h)
            · show (j : Int) = (k : Int); rw [h]
            · exact absurd he (h4 k h)
        clear he
        go_wp2_with fail
        go_ret
        exact ⟨by rw [HI.out]; rfl, rfl⟩
      · have hb : (s.toList == (wd k).toList) = false := by rw [str_eq]; exact decide_eq_false (fun h => he h.symm)
        have HN2 : Hid (∀ j, j < k + 1 → wd j ≠ s) := fun j hj => by
          rcases Nat.lt_succ_iff_lt_or_eq.1 hj with h1 | rfl
          · exact HN.out j h1
          · exact he
        clear he
        go_wp2_with fail
        go_round
        case rel => exact ⟨k + 1, by omega, by go_num, HN2⟩
        case measure => simp [intOf]; omega
    · obtain rfl : k = 15 := by omega
      have HI : Hid (i = -1) := by
        rcases H.out with ⟨h1, _⟩ | ⟨j, hj, rfl, h3, h4⟩
        · exact h1
        · exact absurd h3 (HN.out j hj)
      go_wp2_with fail
      go_ret
      exact ⟨by rw [HI.out]; rfl, rfl⟩

/-- What Of answers. -/
theorem of_no (s : ByteArray) (w : World) (h : posW s (-1)) : Calls Tryd.prog 15 #[.string s] w fun e w' => e = .returned (.tuple #[i64 0, .bool false]) ∧ Grew w w' := by
  have hW := Lib.hid words_any
  have H := Lib.hid h
  clear h
  go_enter Tryd.func15, Tryd.ntmps15
  go_wp2_with fail
  refine (hW.out _).mono ?_
  rintro r w1 ⟨rfl, k1⟩
  have hX := index_any (w1.alloc (.cells wA 65)) w1.heap.size s (-1) 65 (Blk.new w1 _ wA) H.out
  have k2 : Grew w1 (w1.alloc (.cells wA 65)) := (Kept.refl _ _).alloc _
  unfold wA at hX k2
  replace hX := Lib.hid hX
  have K2 := Lib.hid k2
  clear k2
  unfold wV wA
  go_wp2_with fail
  refine hX.out.mono ?_
  rintro r w2 ⟨rfl, rfl⟩
  go_wp2_with fail
  go_ret2
  exact ⟨rfl, k1.trans K2.out⟩
theorem of_yes (s : ByteArray) (j : Nat) (w : World) (h : posW s (j : Int)) : Calls Tryd.prog 15 #[.string s] w fun e w' => e = .returned (.tuple #[i64 (j : Int), .bool true]) ∧ Grew w w' := by
  have hW := Lib.hid words_any
  have H := Lib.hid h
  have j0 : (0 : Int) ≤ (j : Int) := by omega
  have j1 : decide ((j : Int) < 0) = false := decide_eq_false (by omega)
  have j2 : decide ((0 : Int) ≤ (j : Int)) = true := decide_eq_true (by omega)
  clear h
  go_enter Tryd.func15, Tryd.ntmps15
  go_wp2_with fail
  refine (hW.out _).mono ?_
  rintro r w1 ⟨rfl, k1⟩
  have hX := index_any (w1.alloc (.cells wA 65)) w1.heap.size s (j : Int) 65 (Blk.new w1 _ wA) H.out
  have k2 : Grew w1 (w1.alloc (.cells wA 65)) := (Kept.refl _ _).alloc _
  unfold wA at hX k2
  replace hX := Lib.hid hX
  have K2 := Lib.hid k2
  clear k2
  unfold wV wA
  go_wp2_with fail
  refine hX.out.mono ?_
  rintro r w2 ⟨rfl, rfl⟩
  go_wp2_with fail
  go_ret2
  exact ⟨rfl, k1.trans K2.out⟩

set_option maxHeartbeats 1000000 in
theorem rof_any (s : ByteArray) (i : Int) (w : World) (h : posW s i) : Calls Tryd.prog 16 #[.string s] w fun e w' => e = .returned (.tuple #[i64 (if i < 0 then 0 else i), .bool (decide (0 ≤ i))]) ∧ Grew w w' := by
  have hW := Lib.hid Words_any
  have H := Lib.hid h
  obtain ⟨R1, hR1⟩ : ∃ R, (if i < 0 then 0 else i) = R := ⟨_, rfl⟩
  obtain ⟨R2, hR2⟩ : ∃ R, decide (0 ≤ i) = R := ⟨_, rfl⟩
  rw [hR1, hR2]
  have H1 := Lib.hid hR1
  have H2 := Lib.hid hR2
  clear h hR1 hR2
  go_enter Tryd.func16, Tryd.ntmps16
  go_wp2_with fail
  go_loopw [4] (fun i wr => ∃ k : Nat, k ≤ 15 ∧ i = .int .i64 k ∧ Hid (∀ j, j < k → wd j ≠ s) ∧ Grew w wr) (fun i _ => 15 - (intOf i).toNat)
  case atStart => exact ⟨0, by omega, rfl, Lib.hid (fun j hj => absurd hj (by omega)), Kept.refl _ _⟩
  case round =>
    obtain ⟨k, hk, rfl, HN, hK⟩ := hrel
    by_cases hlt : k < 15
    · have i0 : (0 : Int) ≤ (k : Int) := by omega
      have i1 : (k : Int) < 15 := by omega
      go_wp2_with fail
      refine (hW.out _).mono ?_
      rintro r w1 ⟨g1, rfl, b1, k1⟩
      go_wp2_with fail
      refine (hW.out _).mono ?_
      rintro r w2 ⟨g2, rfl, b2, k2⟩
      have hc := b2.cell k
      rw [wA_get k hlt] at hc
      have K2 := Lib.hid ((hK.trans k1).trans k2)
      clear b1 b2 k1 k2 hK
      by_cases he : wd k = s
      · have hb : ((wd k).toList == s.toList) = true := by rw [str_eq, he]; simp
        have HI : Hid (i = (k : Int)) := by
          rcases H.out with ⟨_, h2⟩ | ⟨j, hj, rfl, h3, h4⟩
          · exact absurd he (h2 k hlt)
          · rcases Nat.lt_trichotomy j k with h | h | h
            · exact absurd h3 (HN.out j h)
            · show (j : Int) = (k : Int); rw [h]
            · exact absurd he (h4 k h)
        clear he
        go_wp2_with fail
        go_ret2
        have e1 := H1.out
        have e2 := H2.out
        rw [HI.out, if_neg (by omega)] at e1
        rw [HI.out, decide_eq_true (by omega)] at e2
        subst e1 e2
        exact ⟨rfl, K2.out⟩
      · have hb : ((wd k).toList == s.toList) = false := by rw [str_eq]; exact decide_eq_false he
        have HN2 : Hid (∀ j, j < k + 1 → wd j ≠ s) := fun j hj => by
          rcases Nat.lt_succ_iff_lt_or_eq.1 hj with h1 | rfl
          · exact HN.out j h1
          · exact he
        clear he
        go_wp2_with fail
        go_roundw
        case rel => exact ⟨k + 1, by omega, by go_num, HN2, K2.out⟩
        case measure => simp [intOf]; omega
    · obtain rfl : k = 15 := by omega
      have HI : Hid (i = -1) := by
        rcases H.out with ⟨h1, _⟩ | ⟨j, hj, rfl, h3, h4⟩
        · exact h1
        · exact absurd h3 (HN.out j hj)
      go_wp2_with fail
      refine (hW.out _).mono ?_
      rintro r w1 ⟨g1, rfl, b1, k1⟩
      go_wp2_with fail
      go_ret2
      have e1 := H1.out
      have e2 := H2.out
      rw [HI.out, if_pos (by omega)] at e1
      rw [HI.out, decide_eq_false (by omega)] at e2
      subst e1 e2
      exact ⟨rfl, hK.trans k1⟩

theorem info_fault : (Tryd.prog.info? 22).map (fun i => (i.zero, i.size, i.bytes)) = some (some (i64 0), 1, 8) := by kernel_rfl
def numsF (k : Nat) : List Value := (List.range k).map (fun j : Nat => i64 (j : Int))
theorem numsF_succ (k : Nat) : numsF (k + 1) = numsF k ++ [i64 (k : Int)] := by simp [numsF, List.range_succ]
theorem numsF_length (k : Nat) : (numsF k).length = k := by simp [numsF]
set_option maxHeartbeats 1000000 in
set_option maxRecDepth 100000 in
theorem all_any (w : World) : Calls Tryd.prog 17 #[] w fun e w' => ∃ v, e = .returned v ∧ w'.ownsRow w.heap.size 22 1 v 15 (numsF 15) ∧ Grew w w' := by
  obtain ⟨i0, hi, hz0, hz1, hz2⟩ := info_parts info_fault
  have hW := Lib.hid words_any
  go_enter Tryd.func17, Tryd.ntmps17
  go_wp2_with fail
  refine (hW.out _).mono ?_
  rintro r w1 ⟨rfl, k1⟩
  go_wp2_with fail
  go_loopw [0, 1, 3] (fun o _ i wr => ∃ k : Nat, k ≤ 15 ∧ i = .int .i64 k ∧ Hid (wr.ownsRow w.heap.size 22 1 o k (numsF k)) ∧ Grew w wr) (fun _ _ i _ => 15 - (intOf i).toNat)
  case atStart => exact ⟨0, by omega, rfl, Lib.hid (World.ownsRow_nil _ _ _ _), k1⟩
  case round =>
    clear k1
    obtain ⟨k, hk, rfl, O, hK⟩ := hrel
    by_cases hlt : k < 15
    · have hO := Lib.hid (show (wr.alloc (.cells #[i64 (k : Int)] 22)).ownsRow w.heap.size 22 1 u0 k (numsF k) from O.out.alloc _)
      have hwr := hK.size
      go_wp2_with (at_builtin; refine wpList_append_lies _ rfl (.tmp 6) (.tmp 8) 39 (by rfl) w.heap.size 22 i0 (i64 0) 1 8 Tryd.underlying39 hi hz0 hz1 hz2 (by rfl) (by omega) u0 k (numsF k) (by rfl) hO.out ⟨wr.heap.size, 0, none⟩ 1 1 [i64 (k : Int)] (by rfl) (by rfl) (World.news_of_block (heap_alloc_new _ _)) (by intro u hu; simp at hu; rcases hu with rfl; rfl) (by omega) (by unfold maxLen; omega) (by omega) (by simp; omega) _ rfl ?_; intro g2 cap w2 hown1 hgrow1 hat1 hlt1)
      have hN : Hid (w2.ownsRow w.heap.size 22 1 (.slice (some ⟨g2, 0, none⟩) (k + 1) cap) (k + 1) (numsF (k + 1))) := by
        show w2.ownsRow w.heap.size 22 1 (.slice (some ⟨g2, 0, none⟩) (k + 1) cap) (k + 1) (numsF (k + 1))
        rw [numsF_succ]
        exact hown1
      have hK1 : Grew w w2 := (hK.alloc _).grown hgrow1 (fun q hq => .inr (O.out.lt q hq).1)
      clear hown1 hgrow1 hat1 hlt1 hO
      go_wp2_with fail
      go_roundw
      case rel => exact ⟨k + 1, by omega, by go_num, hN, hK1⟩
      case measure => simp [intOf]; omega
    · obtain rfl : k = 15 := by omega
      go_wp2_with fail
      go_ret
      exact ⟨_, rfl, O.out, hK⟩
end Go.Proofs.YtpoccibneoankaaDoor
