/- Sets of numbers: New and Count. -/
import Derived.Test.YtabddnlcgmbopaaDoorCount
namespace Go.Proofs.YtabddnlcgmbopaaDoor
open Go.RowKit

/-- How many ones there are. -/
def cntW (ws : List Nat) : Nat := (ws.map (pop 64)).sum
theorem cntW_snoc (ws : List Nat) (x : Nat) : cntW (ws ++ [x]) = cntW ws + pop 64 x := by simp [cntW]
theorem cntW_le (ws : List Nat) : cntW ws ≤ 64 * ws.length := by
  induction ws with
  | nil => simp [cntW]
  | cons x ws ih => have := pop_le 64 x; simp only [cntW, List.map_cons, List.sum_cons, List.length_cons] at ih ⊢; omega
theorem count_nil (w : World) : Calls Tryd.prog 13 #[.pointer none] w fun e w' => e = .returned (i64 0) ∧ w = w' := by
  go_enter Tryd.func13, Tryd.ntmps13
  go_wp2_with fail
  go_ret
  exact ⟨rfl, rfl⟩
theorem RowW.slice {w : World} {v : Value} {ws : List Nat} (h : RowW w v ws) : ∃ A c, v = .slice A ws.length c := by
  rcases h with ⟨rfl, V, c, h⟩ | ⟨g, c, cur, rfl, _⟩
  · exact ⟨V, c, h⟩
  · exact ⟨_, c, rfl⟩
set_option maxHeartbeats 1000000 in
theorem count_any (w : World) (S n : Nat) (v : Value) (ws : List Nat) (s : SetB w S n v ws) : Calls Tryd.prog 13 #[pt S] w fun e w' => e = .returned (i64 (cntW ws : Nat)) ∧ w = w' := by
  obtain ⟨A, c, hv⟩ := s.row.slice
  obtain ⟨L, hL⟩ : ∃ L, ws.length = L := ⟨_, rfl⟩
  have hsm := s.small
  have hl := s.len
  rw [hL] at hv hl
  have hL2 : L ≤ 1025 := by omega
  subst hv
  have hb0 := s.box.cell 1
  simp at hb0
  have SS := Lib.hid s
  have HL := Lib.hid hL
  clear s hL hl
  go_enter Tryd.func13, Tryd.ntmps13
  go_wp2_with fail
  go_loop [2, 4, 12] (fun t _ i => ∃ k : Nat, k ≤ L ∧ i = .int .i64 k ∧ t = .int .i64 (cntW (ws.take k) : Nat)) (fun _ _ i => L - (intOf i).toNat)
  case atStart => exact ⟨0, by omega, rfl, rfl⟩
  case round =>
    obtain ⟨k, hk, rfl, rfl⟩ := hrel
    by_cases hlt : k < L
    · obtain ⟨x, hx⟩ : ∃ x, ws[k]? = some x := ⟨_, List.getElem?_eq_getElem (by rw [HL.out]; exact hlt)⟩
      obtain ⟨g, c', cur, hv, hb, hc, hxl, _⟩ := SS.out.word hx
      rw [HL.out] at hv
      cases hv
      have hcx := hb.cell k
      rw [hc] at hcx
      have i0 : (0 : Int) ≤ (k : Int) := by omega
      have i1 : (k : Int) < (L : Int) := by omega
      have hO := Lib.hid (ones_any x w hxl)
      have hT : Hid (cntW (ws.take (k + 1)) = cntW (ws.take k) + pop 64 x) := by
        show cntW (ws.take (k + 1)) = cntW (ws.take k) + pop 64 x
        rw [List.take_add_one, hx]
        exact cntW_snoc _ _
      have hcl := cntW_le (ws.take k)
      have htl : (ws.take k).length ≤ L := by rw [List.length_take]; omega
      have hpl := pop_le 64 x
      obtain ⟨U, hU⟩ : ∃ U, pop 64 x = U := ⟨_, rfl⟩
      rw [hU] at hO hT hpl
      have hTl : cntW (ws.take k) ≤ 65600 := by omega
      clear hx hcl htl hU hb hc
      go_wp2_with fail
      refine hO.out.mono ?_
      rintro r w1 ⟨rfl, rfl⟩
      go_wp2_with fail
      go_round
      case rel => exact ⟨k + 1, by omega, by go_num, by rw [hT.out]; go_num⟩
      case measure => simp [intOf]; omega
    · obtain rfl : L = k := by omega
      have hT : Hid (cntW (ws.take L) = cntW ws) := by
        show cntW (ws.take L) = cntW ws
        rw [List.take_of_length_le (by rw [HL.out]; exact Nat.le_refl _)]
      go_wp2_with fail
      go_ret
      exact ⟨by rw [← hT.out]; rfl, rfl⟩

theorem new_no (n : Int) (w : World) (h : n < 0 ∨ 65536 < n) : Calls Tryd.prog 8 #[i64 n] w fun e w' => e = .returned (.pointer none) ∧ w = w' := by
  rcases Int.lt_or_le n 0 with h0 | h0
  · clear h
    go_enter Tryd.func8, Tryd.ntmps8
    go_wp2_with fail
    go_ret
    exact ⟨rfl, rfl⟩
  · have h1 : 65536 < n := by omega
    clear h
    go_enter Tryd.func8, Tryd.ntmps8
    go_wp2_with fail
    go_ret
    exact ⟨rfl, rfl⟩
theorem info_word : (Tryd.prog.info? 46).map (fun i => (i.zero, i.size, i.bytes)) = some (some (.int .u64 0), 1, 8) := by kernel_rfl
theorem new_yes (n : Nat) (w : World) (hn : n ≤ 65536) : Calls Tryd.prog 8 #[i64 (n : Int)] w fun e w' => ∃ S v, e = .returned (pt S) ∧ SetB w' S n v (List.replicate ((n + 63) / 64) 0) ∧ Grew w w' ∧ ∀ j, SB S v j → w.heap.size ≤ j := by
  obtain ⟨i0, hi, hz0, hz1, hz2⟩ := info_parts info_word
  obtain ⟨k, hk⟩ : ∃ k, (n + 63) / 64 = k := ⟨_, rfl⟩
  have hmk := run_make (P := Tryd.prog) w 43 46 i0 _ Tryd.underlying43 hi hz0 .i64 .i64 (k : Int) (k : Int) (by omega) (Int.le_refl _) (by rw [hz2]; omega) (by omega)
  rw [Int.toNat_natCast, hz1, Nat.mul_one] at hmk
  have n0 : (0 : Int) ≤ (n : Int) := by omega
  have n1 : (n : Int) ≤ 65536 := by omega
  have n2 : decide ((n : Int) < 0) = false := decide_eq_false (by omega)
  have n3 : decide (65536 < n) = false := decide_eq_false (by omega)
  have e1 : ((n : Int) + 64 - 1) / 64 = (k : Int) := by omega
  have e2 : ((n : Int) + 63) / 64 = (k : Int) := by omega
  have HK := Lib.hid hk
  rw [hk]
  clear hk
  go_enter Tryd.func8, Tryd.ntmps8
  go_wp2_with fail
  go_ret
  have hz : ∀ i, (List.replicate k 0).getD i 0 = 0 := fun i => by
    rw [List.getD_eq_getElem?_getD, List.getElem?_replicate]
    split <;> rfl
  refine ⟨_, .slice (some ⟨w.heap.size, 0, none⟩) k k, rfl, ⟨?_, ?_, by rw [List.length_replicate]; exact HK.out.symm, ?_, ?_, hn⟩, ((Kept.refl _ _).alloc _).alloc _, ?_⟩
  · have hb := Blk.new (w.alloc (.cells (madeCells #[.int .u64 0] k) 46)) 45 #[i64 n, .slice (some ⟨w.heap.size, 0, none⟩) k k]
    rw [World.size_alloc] at hb
    exact hb
  · rcases Nat.eq_zero_or_pos k with h0 | h0
    · exact .inl ⟨by rw [h0]; rfl, _, _, by rw [h0]⟩
    · refine .inr ⟨w.heap.size, k, _, by rw [List.length_replicate], by rw [List.length_replicate]; exact h0, (Blk.new w _ _).alloc _, fun j x hj => ?_⟩
      rw [List.getElem?_replicate] at hj
      split at hj
      · rename_i hjk
        cases hj
        simp [madeCells, Value.cells, hjk, Nat.mod_one]
      · cases hj
  · intro x hx
    rw [(List.mem_replicate.1 hx).2]
    decide
  · intro i _
    unfold inW
    rw [hz]
    exact Nat.zero_testBit _
  · rintro j (h | h)
    · rw [h]; simp
    · rcases Nat.eq_zero_or_pos k with h0 | h0
      · rw [h0] at h; cases h
      · obtain ⟨m, hm⟩ : ∃ m, k = m + 1 := ⟨k - 1, by omega⟩
        rw [hm] at h
        obtain rfl : w.heap.size = j := Option.some.inj h
        exact Nat.le_refl _
end Go.Proofs.YtabddnlcgmbopaaDoor
