/- Whether two hierarchies are the same, by the document. -/
import Derived.Test.YtjbjomodponapaaMade
namespace Go.Proofs.Ytjbjomodponapaa
open Go.RowKit

set_option maxHeartbeats 4000000 in
set_option maxRecDepth 100000 in
theorem refSameH_any (rk rk' : List Int) (ss ss' : List Sc) (Ar Ar' As As' : Option Addr) (cr cr' cs cs' : Nat) (w : World) (hr : RowI w Ar rk) (hr' : RowI w Ar' rk') (hs : RowS w As ss) (hs' : RowS w As' ss')
    (hlr : rk.length ≤ 100000) (hlr' : rk'.length ≤ 100000) (hls : ss.length ≤ 100000) (hls' : ss'.length ≤ 100000) :
    Calls Try.prog 11 #[.agg #[.slice Ar rk.length cr, .slice As ss.length cs], .agg #[.slice Ar' rk'.length cr', .slice As' ss'.length cs']] w fun e w' => SaysB (rk = rk' ∧ ss = ss') e ∧ Grew w w' := by
  obtain ⟨L, hL⟩ : ∃ L, rk.length = L := ⟨_, rfl⟩
  obtain ⟨L', hL'⟩ : ∃ L, rk'.length = L := ⟨_, rfl⟩
  obtain ⟨m, hm⟩ : ∃ L, ss.length = L := ⟨_, rfl⟩
  obtain ⟨m', hm'⟩ : ∃ L, ss'.length = L := ⟨_, rfl⟩
  have HL := Lib.hid hL
  have HL' := Lib.hid hL'
  have HM := Lib.hid hm
  have HM' := Lib.hid hm'
  rw [hL] at hlr
  rw [hL'] at hlr'
  rw [hm] at hls
  rw [hm'] at hls'
  rw [hL, hL', hm, hm']
  clear hL hL' hm hm'
  obtain ⟨r0, hr0⟩ : ∃ r, w.heap.size = r := ⟨_, rfl⟩
  have b0 := (Blk.new w 28 #[.slice Ar L cr, .slice As m cs]).alloc (.cells #[.slice Ar' L' cr', .slice As' m' cs'] 28)
  have b1 := Blk.new (w.alloc (.cells #[.slice Ar L cr, .slice As m cs] 28)) 28 #[.slice Ar' L' cr', .slice As' m' cs']
  rw [World.size_alloc] at b1
  rw [hr0] at b0 b1
  have k0 : Grew w ((w.alloc (.cells #[.slice Ar L cr, .slice As m cs] 28)).alloc (.cells #[.slice Ar' L' cr', .slice As' m' cs'] 28)) := ((Kept.refl _ _).alloc _).alloc _
  have HR := Lib.hid hr
  have HR' := Lib.hid hr'
  have HS := Lib.hid hs
  have HS' := Lib.hid hs'
  clear hr hr' hs hs'
  obtain ⟨W1, hW1⟩ : ∃ W, (w.alloc (.cells #[.slice Ar L cr, .slice As m cs] 28)).alloc (.cells #[.slice Ar' L' cr', .slice As' m' cs'] 28) = W := ⟨_, rfl⟩
  rw [hW1] at b0 b1 k0
  have x0 := b0.cell 0
  have x1 := b0.cell 1
  have y0 := b1.cell 0
  have y1 := b1.cell 1
  simp at x0 x1 y0 y1
  have HB0 := Lib.hid b0
  have HB1 := Lib.hid b1
  have HK0 := Lib.hid k0
  clear b0 b1 k0
  by_cases hLL : L = L'
  rotate_left
  · as_aux_lemma =>
    have hf : Hid (¬ (rk = rk' ∧ ss = ss')) := fun h => hLL (by rw [← HL.out, ← HL'.out, h.1])
    have hb : ((L : Int) != (L' : Int)) = true := by simp; omega
    go_enter Try.func11, Try.ntmps11
    go_wp2_with fail
    go_ret
    exact ⟨.no hf.out, HK0.out⟩
  subst hLL
  by_cases hmm : m = m'
  rotate_left
  · as_aux_lemma =>
    have hf : Hid (¬ (rk = rk' ∧ ss = ss')) := fun h => hmm (by rw [← HM.out, ← HM'.out, h.2])
    have hb : ((m : Int) != (m' : Int)) = true := by simp; omega
    go_enter Try.func11, Try.ntmps11
    go_wp2_with fail
    go_ret
    exact ⟨.no hf.out, HK0.out⟩
  subst hmm
  go_enter Try.func11, Try.ntmps11
  go_wp2_with fail
  go_loopw [5] (fun i wr => ∃ (k : Nat), k ≤ L ∧ i = .int .i64 k ∧ Hid (rk.take k = rk'.take k) ∧ Hid (Grew W1 wr)) (fun i _ => L - (intOf i).toNat)
  case atStart => exact ⟨0, by omega, rfl, rfl, Kept.refl _ _⟩
  case round =>
    clear x0 x1 y0 y1
    obtain ⟨k, hk, rfl, hS, hK1⟩ := hrel
    have x0 := (HB0.out.grew hK1.out).cell 0
    have x1 := (HB0.out.grew hK1.out).cell 1
    have y0 := (HB1.out.grew hK1.out).cell 0
    have y1 := (HB1.out.grew hK1.out).cell 1
    simp at x0 x1 y0 y1
    have hK := Lib.hid (HK0.out.trans hK1.out)
    by_cases hlt : k < L
    · as_aux_lemma =>
      have l0 : (0 : Int) ≤ (k : Int) := by omega
      have l1 : (k : Int) < (L : Int) := by omega
      obtain ⟨x, hx⟩ : ∃ x, rk[k]? = some x := ⟨_, List.getElem?_eq_getElem (by rw [HL.out]; exact hlt)⟩
      obtain ⟨x', hx'⟩ : ∃ x, rk'[k]? = some x := ⟨_, List.getElem?_eq_getElem (by rw [HL'.out]; exact hlt)⟩
      obtain ⟨b, off, hA, hb, h0⟩ := (HR.out.grew hK.out) k x hx
      obtain ⟨b', off', hA', hb', h0'⟩ := (HR'.out.grew hK.out) k x' hx'
      have HX := Lib.hid hx
      have HX' := Lib.hid hx'
      clear hx hx'
      subst hA
      subst hA'
      by_cases he : x = x'
      · subst he
        have hS1 : Hid (rk.take (k + 1) = rk'.take (k + 1)) := by
          show _ = _
          rw [List.take_add_one, List.take_add_one, hS.out, HX.out, HX'.out]
        have hK2 := Lib.hid hK1.out
        clear HX HX' hS
        go_wp2_with fail
        go_quiet (fail)
        go_wp2
        go_roundw
        case rel => exact ⟨k + 1, by omega, by go_num, hS1, Lib.hid (hK2.out.drewN _)⟩
        case measure => simp [intOf]; omega
      · have hne : Hid (¬ (rk = rk' ∧ ss = ss')) := fun h => he (by
          have h1 := HX.out
          rw [h.1, HX'.out] at h1
          exact (Option.some.inj h1).symm)
        have hb : (x != x') = true := by simpa using he
        clear he
        go_wp2_with fail
        go_quiet (fail)
        go_wp2
        go_ret
        exact ⟨.no hne.out, hK.out.drewN _⟩
    · as_aux_lemma =>
      obtain rfl : k = L := by omega
      have hrr : Hid (rk = rk') := by
        have h1 := hS.out
        rw [List.take_of_length_le (by rw [HL.out]; exact Nat.le_refl _), List.take_of_length_le (by rw [HL'.out]; exact Nat.le_refl _)] at h1
        exact h1
      clear hS
      have HB2 := Lib.hid (HB0.out.grew hK1.out)
      have HB3 := Lib.hid (HB1.out.grew hK1.out)
      have HK2 := Lib.hid hK.out
      clear hK hK1
      go_wp2_with fail
      go_loopw [6] (fun i w2 => ∃ (j : Nat), j ≤ m ∧ i = .int .i64 j ∧ Hid (ss.take j = ss'.take j) ∧ Hid (Grew wr w2)) (fun i _ => m - (intOf i).toNat)
      case atStart => exact ⟨0, by omega, rfl, rfl, Kept.refl _ _⟩
      case round =>
        clear x0 x1 y0 y1
        obtain ⟨j, hj, rfl, hS, hK1⟩ := hrel
        have x0 := (HB2.out.grew hK1.out).cell 0
        have x1 := (HB2.out.grew hK1.out).cell 1
        have y0 := (HB3.out.grew hK1.out).cell 0
        have y1 := (HB3.out.grew hK1.out).cell 1
        simp at x0 x1 y0 y1
        have hK := Lib.hid (HK2.out.trans hK1.out)
        by_cases hlt : j < m
        · as_aux_lemma =>
          have l0 : (0 : Int) ≤ (j : Int) := by omega
          have l1 : (j : Int) < (m : Int) := by omega
          obtain ⟨x, hx⟩ : ∃ x, ss[j]? = some x := ⟨_, List.getElem?_eq_getElem (by rw [HM.out]; exact hlt)⟩
          obtain ⟨x', hx'⟩ : ∃ x, ss'[j]? = some x := ⟨_, List.getElem?_eq_getElem (by rw [HM'.out]; exact hlt)⟩
          obtain ⟨b, off, hA, hb, z0, z1, z2, z3, z4, z5⟩ := (HS.out.grew hK.out) j x hx
          obtain ⟨b', off', hA', hb', z0', z1', z2', z3', z4', z5'⟩ := (HS'.out.grew hK.out) j x' hx'
          have HX := Lib.hid hx
          have HX' := Lib.hid hx'
          clear hx hx'
          subst hA
          subst hA'
          by_cases he : x = x'
          · subst he
            have hS1 : Hid (ss.take (j + 1) = ss'.take (j + 1)) := by
              show _ = _
              rw [List.take_add_one, List.take_add_one, hS.out, HX.out, HX'.out]
            have hK3 := Lib.hid hK1.out
            clear HX HX' hS
            go_wp2_with fail
            go_quiet (fail)
            go_wp2
            go_roundw
            case rel => exact ⟨j + 1, by omega, by go_num, hS1, Lib.hid (hK3.out.drewN _)⟩
            case measure => simp [intOf]; omega
          · have hne : Hid (¬ (rk = rk' ∧ ss = ss')) := fun h => he (by
              have h1 := HX.out
              rw [h.2, HX'.out] at h1
              exact (Option.some.inj h1).symm)
            obtain ⟨sf, st, sw, se, sa, sb⟩ := x
            obtain ⟨sf', st', sw', se', sa', sb'⟩ := x'
            simp only at z0 z1 z2 z3 z4 z5 z0' z1' z2' z3' z4' z5'
            by_cases q0 : sf = sf'
            · subst q0
              by_cases q1 : st = st'
              · subst q1
                by_cases q2 : sw = sw'
                · subst q2
                  by_cases q3 : se = se'
                  · subst q3
                    by_cases q4 : sa = sa'
                    · subst q4
                      as_aux_lemma =>
                        have h3 : (sb == sb') = false := by
                          simp only [beq_eq_false_iff_ne, ne_eq]
                          exact fun h => he (by rw [h])
                        clear he
                        go_wp2_with fail
                        go_quiet (fail)
                        go_wp2
                        go_ret
                        exact ⟨.no hne.out, hK.out.drewN _⟩
                    · as_aux_lemma =>
                        have h3 : (sa == sa') = false := by simpa using q4
                        clear he q4
                        go_wp2_with fail
                        go_quiet (fail)
                        go_wp2
                        go_ret
                        exact ⟨.no hne.out, hK.out.drewN _⟩
                  · as_aux_lemma =>
                      have h3 : (se == se') = false := by simpa using q3
                      clear he q3
                      go_wp2_with fail
                      go_quiet (fail)
                      go_wp2
                      go_ret
                      exact ⟨.no hne.out, hK.out.drewN _⟩
                · as_aux_lemma =>
                    have h3 : (sw == sw') = false := by simpa using q2
                    clear he q2
                    go_wp2_with fail
                    go_quiet (fail)
                    go_wp2
                    go_ret
                    exact ⟨.no hne.out, hK.out.drewN _⟩
              · as_aux_lemma =>
                  have h3 : (st == st') = false := by simpa using q1
                  clear he q1
                  go_wp2_with fail
                  go_quiet (fail)
                  go_wp2
                  go_ret
                  exact ⟨.no hne.out, hK.out.drewN _⟩
            · as_aux_lemma =>
                have h3 : (sf == sf') = false := by simpa using q0
                clear he q0
                go_wp2_with fail
                go_quiet (fail)
                go_wp2
                go_ret
                exact ⟨.no hne.out, hK.out.drewN _⟩
        · as_aux_lemma =>
          obtain rfl : j = m := by omega
          have hss : Hid (ss = ss') := by
            have h1 := hS.out
            rw [List.take_of_length_le (by rw [HM.out]; exact Nat.le_refl _), List.take_of_length_le (by rw [HM'.out]; exact Nat.le_refl _)] at h1
            exact h1
          clear hS
          go_wp2_with fail
          go_ret
          exact ⟨.yes ⟨hrr.out, hss.out⟩, hK.out⟩
end Go.Proofs.Ytjbjomodponapaa
