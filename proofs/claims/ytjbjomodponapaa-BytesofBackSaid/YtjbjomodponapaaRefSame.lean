/- Whether two graphs are the same, by the document. -/
import Derived.Test.YtjbjomodponapaaEdge
namespace Go.Proofs.Ytjbjomodponapaa
open Go.RowKit

set_option maxHeartbeats 2000000 in
set_option maxRecDepth 100000 in
theorem refSame_any (n n' : Int) (A A' : Option Addr) (c c' : Nat) (es es' : List Edg) (w : World) (h : RowE w A es) (h' : RowE w A' es') (hl : es.length ≤ 100000) (hl' : es'.length ≤ 100000) :
    Calls Try.prog 8 #[.agg #[i64 n, .slice A es.length c], .agg #[i64 n', .slice A' es'.length c']] w fun e w' => e = .returned (.bool (decide (n = n' ∧ es = es'))) ∧ Grew w w' := by
  obtain ⟨L, hL⟩ : ∃ L, es.length = L := ⟨_, rfl⟩
  obtain ⟨L', hL'⟩ : ∃ L, es'.length = L := ⟨_, rfl⟩
  have HL := Lib.hid hL
  have HL' := Lib.hid hL'
  rw [hL] at hl
  rw [hL'] at hl'
  rw [hL, hL']
  clear hL hL'
  have hG0 : Blk ((w.alloc (.cells #[i64 n, .slice A L c] 24)).alloc (.cells #[i64 n', .slice A' L' c'] 24)) w.heap.size 24 #[i64 n, .slice A L c] := (Blk.new w _ _).alloc _
  have hD0 : Blk ((w.alloc (.cells #[i64 n, .slice A L c] 24)).alloc (.cells #[i64 n', .slice A' L' c'] 24)) (w.heap.size + 1) 24 #[i64 n', .slice A' L' c'] := by
    have h := Blk.new (w.alloc (.cells #[i64 n, .slice A L c] 24)) 24 #[i64 n', .slice A' L' c']
    rw [World.size_alloc] at h; exact h
  have hKW : Grew w ((w.alloc (.cells #[i64 n, .slice A L c] 24)).alloc (.cells #[i64 n', .slice A' L' c'] 24)) := ((Kept.refl _ _).alloc _).alloc _
  have hE := Lib.hid (h.grew hKW)
  have hE' := Lib.hid (h'.grew hKW)
  clear h h'
  have hc0 := hG0.cell 0
  have hc1 := hG0.cell 1
  have hd0 := hD0.cell 0
  have hd1 := hD0.cell 1
  simp at hc0 hc1 hd0 hd1
  by_cases hn : n = n'
  · by_cases hLL : L = L'
    · subst hn
      subst hLL
      go_enter Try.func8, Try.ntmps8
      go_wp2_with fail
      go_loopw [5] (fun i wr => ∃ (k : Nat), k ≤ L ∧ i = .int .i64 k ∧ Hid (es.take k = es'.take k) ∧ Blk wr w.heap.size 24 #[i64 n, .slice A L c] ∧ Blk wr (w.heap.size + 1) 24 #[i64 n, .slice A' L c'] ∧ Hid (RowE wr A es) ∧ Hid (RowE wr A' es') ∧ Grew w wr) (fun i _ => L - (intOf i).toNat)
      case atStart => exact ⟨0, by omega, rfl, rfl, hG0, hD0, hE, hE', hKW⟩
      case round =>
        obtain ⟨k, hk, rfl, hS, hG, hD, hA, hA', hK⟩ := hrel
        have hg1 := hG.cell 1
        have hg2 := hD.cell 1
        simp at hg1 hg2
        by_cases hlt : k < L
        · obtain ⟨x, hx⟩ : ∃ x, es[k]? = some x := ⟨_, List.getElem?_eq_getElem (by rw [HL.out]; exact hlt)⟩
          obtain ⟨x', hx'⟩ : ∃ x, es'[k]? = some x := ⟨_, List.getElem?_eq_getElem (by rw [HL'.out]; exact hlt)⟩
          obtain ⟨b, off, hAe, hb, h0, h1, h2⟩ := hA.out k x hx
          obtain ⟨b', off', hAe', hb', h0', h1', h2'⟩ := hA'.out k x' hx'
          have HX := Lib.hid hx
          have HX' := Lib.hid hx'
          clear hx hx'
          subst hAe
          subst hAe'
          obtain ⟨p, q, r⟩ := x
          obtain ⟨p', q', r'⟩ := x'
          by_cases he : (p, q, r) = (p', q', r')
          · simp only [Prod.mk.injEq] at he
            obtain ⟨rfl, rfl, rfl⟩ := he
            have hS1 : Hid (es.take (k + 1) = es'.take (k + 1)) := by
              show _ = _
              rw [List.take_add_one, List.take_add_one, hS.out, HX.out, HX'.out]
            go_wp2_with fail
            go_quiet (fail)
            go_wp2
            go_roundw
            case rel => exact ⟨k + 1, by omega, by go_num, hS1, hG.grew ((Kept.refl _ _).drewN _), hD.grew ((Kept.refl _ _).drewN _), Lib.hid (hA.out.grew ((Kept.refl _ _).drewN _)), Lib.hid (hA'.out.grew ((Kept.refl _ _).drewN _)), hK.drewN _⟩
            case measure => simp [intOf]; omega
          · have hne : Hid (decide (es = es') = false) := by
              show decide _ = false
              refine decide_eq_false fun h => he ?_
              have h1 := HX.out
              rw [h, HX'.out] at h1
              exact (Option.some.inj h1).symm
            by_cases hp : p = p'
            · subst hp
              by_cases hq : q = q'
              · subst hq
                have h3 : (r == r') = false := by
                  simp only [beq_eq_false_iff_ne, ne_eq]
                  exact fun h => he (by rw [h])
                clear he
                go_wp2_with fail
                go_quiet (fail)
                go_wp2
                go_ret
                simp only [true_and]
                rw [hne.out]
                exact ⟨rfl, hK.drewN _⟩
              · have h3 : (q == q') = false := by simpa using hq
                clear he
                go_wp2_with fail
                go_quiet (fail)
                go_wp2
                go_ret
                simp only [true_and]
                rw [hne.out]
                exact ⟨rfl, hK.drewN _⟩
            · have h3 : (p == p') = false := by simpa using hp
              clear he
              go_wp2_with fail
              go_quiet (fail)
              go_wp2
              go_ret
              simp only [true_and]
              rw [hne.out]
              exact ⟨rfl, hK.drewN _⟩
        · obtain rfl : k = L := by omega
          have hr1 : Hid (decide (es = es') = true) := by
            show decide _ = true
            refine decide_eq_true ?_
            have h1 := hS.out
            rw [List.take_of_length_le (by rw [HL.out]; exact Nat.le_refl _), List.take_of_length_le (by rw [HL'.out]; exact Nat.le_refl _)] at h1
            exact h1
          go_wp2_with fail
          go_ret
          simp only [true_and]
          rw [hr1.out]
          exact ⟨rfl, hK⟩
    · have hr : Hid (decide (es = es') = false) := by
        show decide _ = false
        refine decide_eq_false fun h => hLL ?_
        rw [← HL.out, ← HL'.out, h]
      subst hn
      go_enter Try.func8, Try.ntmps8
      go_wp2_with fail
      go_ret
      simp only [true_and]
      rw [hr.out]
      exact ⟨rfl, hKW⟩
  · have hr : Hid (decide (n = n' ∧ es = es') = false) := by
      show decide _ = false
      refine decide_eq_false fun h => hn h.1
    go_enter Try.func8, Try.ntmps8
    go_wp2_with fail
    go_ret
    rw [hr.out]
    exact ⟨rfl, hKW⟩
end Go.Proofs.Ytjbjomodponapaa
