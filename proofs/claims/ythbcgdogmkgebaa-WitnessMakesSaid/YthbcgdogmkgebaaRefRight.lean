/- Which nets may be, by the document. -/
import Derived.Test.YthbcgdogmkgebaaRightN
namespace Go.Proofs.Ythbcgdogmkgebaa
open Go.RowKit

theorem okA_yes {N : Nat} {p q : Int} (h : okA N (p, q) = true) : 0 ≤ p ∧ p < (N : Int) ∧ 1 ≤ q ∧ q ≤ 1125899906842624 := by
  unfold okA at h
  simp at h
  omega
theorem okA_no {N : Nat} {p q : Int} (h : okA N (p, q) = false) : p < 0 ∨ (N : Int) ≤ p ∨ q < 1 ∨ 1125899906842624 < q := by
  by_cases h1 : 0 ≤ p ∧ p < (N : Int)
  · by_cases h2 : 1 ≤ q ∧ q ≤ 1125899906842624
    · unfold okA at h
      rw [decide_eq_true h1, decide_eq_true h2] at h
      cases h
    · omega
  · omega
set_option maxHeartbeats 2000000 in
theorem refRight_any (A V : Option Addr) (c G cG : Nat) (ls : List (List Ar)) (w : World) (h : RowN w A ls) (hl : ls.length ≤ 9223372036854775807) (hG : G ≤ 9223372036854775807) (hls : ls.length ≤ 4096 → ∀ l ∈ ls, l.length ≤ 100000) :
    Calls Try.prog 10 #[.agg #[.slice A ls.length c, .slice V G cG]] w fun e w' => e = .returned (.bool (rightN ls G)) ∧ Grew w w' := by
  have b0 := Blk.new w 25 #[.slice A ls.length c, .slice V G cG]
  have hK0 : Grew w (w.alloc (.cells #[.slice A ls.length c, .slice V G cG] 25)) := (Kept.refl _ _).alloc _
  obtain ⟨N, hN⟩ : ∃ N, ls.length = N := ⟨_, rfl⟩
  have HN := Lib.hid hN
  have HE := Lib.hid h
  have HLS := Lib.hid hls
  have hR : ∀ b : Bool, ls.all (okRow N) = b → (1 ≤ N ∧ N ≤ 4096 ∧ G = N) → rightN ls G = b := fun b hb hd => by
    unfold rightN
    rw [hN, decide_eq_true hd, hb]; rfl
  have hR0 : ¬ (1 ≤ N ∧ N ≤ 4096 ∧ G = N) → rightN ls G = false := fun hd => by
    unfold rightN
    rw [hN, decide_eq_false hd]; rfl
  obtain ⟨rr, hrr⟩ : ∃ rr, rightN ls G = rr := ⟨_, rfl⟩
  rw [hrr] at hR hR0 ⊢
  rw [hN] at b0 hK0 hl ⊢
  clear h hN hrr hls
  have c0 := b0.cell 0
  have c1 := b0.cell 1
  simp at c0 c1
  by_cases h1 : N < 1
  · obtain rfl := hR0 (by omega)
    clear hR hR0
    go_enter Try.func10, Try.ntmps10
    go_wp2_with fail
    go_ret
    exact ⟨rfl, hK0⟩
  by_cases h2 : 4096 < N
  · obtain rfl := hR0 (by omega)
    have h3 : 1 ≤ N := by omega
    clear hR hR0 h1
    go_enter Try.func10, Try.ntmps10
    go_wp2_with fail
    go_ret
    exact ⟨rfl, hK0⟩
  have h3 : 1 ≤ N := by omega
  have h4 : N ≤ 4096 := by omega
  by_cases h5 : G = N
  · have hR1 := Lib.hid (fun b hb => hR b hb ⟨h3, h4, h5⟩)
    clear hR hR0
    subst h5
    have hq : ((G : Int) == (G : Int)) = true := by simp
    have HL := Lib.hid (HLS.out (by rw [HN.out]; exact h4))
    clear h1 h2 HLS
    go_enter Try.func10, Try.ntmps10
    go_wp2_with fail
    go_loopw [3, 4, 5] (fun i u4 u5 wr => ∃ k : Nat, k ≤ G ∧ i = .int .i64 k ∧ Hid ((ls.take k).all (okRow G) = true) ∧ Blk wr w.heap.size 25 #[.slice A G c, .slice V G cG] ∧ Grew w wr) (fun i _ _ _ => G - (intOf i).toNat)
    case atStart => exact ⟨0, by omega, rfl, rfl, b0, hK0⟩
    case round =>
      clear b0 hK0 c0 c1
      obtain ⟨k, hk, rfl, hS, b0, hK⟩ := hrel
      have c0 := b0.cell 0
      simp at c0
      by_cases hlt : k < G
      · obtain ⟨l, hx⟩ : ∃ l, ls[k]? = some l := ⟨_, List.getElem?_eq_getElem (by rw [HN.out]; exact hlt)⟩
        obtain ⟨b, off, Ai, ci, hAe, hb, e0, hRA⟩ := HE.out k l hx
        have hll := HL.out l (List.mem_of_getElem? hx)
        subst hAe
        replace e0 := hK.cell e0
        obtain ⟨n, hn⟩ : ∃ n, l.length = n := ⟨_, rfl⟩
        have Hn := Lib.hid hn
        rw [hn] at e0 hll
        have hRA := Lib.hid hRA
        have HX := Lib.hid hx
        have hbw : b < w.heap.size := hb
        have k0 : (0 : Int) ≤ (k : Int) := by omega
        have k1 : (k : Int) < (G : Int) := by omega
        clear hx hn
        go_wp2_with fail
        go_loopw [4, 5] (fun i u5 wr => ∃ j : Nat, j ≤ n ∧ i = .int .i64 j ∧ Hid ((l.take j).all (okA G) = true) ∧ Blk wr w.heap.size 25 #[.slice (some ⟨b, off, none⟩) G c, .slice V G cG] ∧ Grew w wr ∧ wr.cell? ⟨b, off + k, none⟩ = some (.slice Ai n ci)) (fun i _ _ => n - (intOf i).toNat)
        case atStart => exact ⟨0, by omega, rfl, rfl, b0, hK, e0⟩
        case round =>
          clear b0 hK e0 c0
          obtain ⟨j, hj, rfl, hT, b0, hK, e0⟩ := hrel
          have c0 := b0.cell 0
          simp at c0
          by_cases hjl : j < n
          · obtain ⟨x, hx⟩ : ∃ x, l[j]? = some x := ⟨_, List.getElem?_eq_getElem (by rw [Hn.out]; exact hjl)⟩
            obtain ⟨b', off', hAi, hb', d0, d1⟩ := hRA.out j x hx
            obtain ⟨p, q⟩ := x
            replace d0 := hK.cell d0
            replace d1 := hK.cell d1
            dsimp only at d0 d1
            have hAi' := hAi
            subst hAi
            have bA := Blk.new wr 58 #[i64 p, .int .u64 q]
            have a0 := bA.cell 0
            have a1 := bA.cell 1
            simp at a0 a1
            have j0 : (0 : Int) ≤ (j : Int) := by omega
            have j1 : (j : Int) < (n : Int) := by omega
            have e1 := ((Kept.refl (fun _ => False) wr).alloc (.cells #[i64 p, .int .u64 q] 58)).cell e0 (fun h => h)
            have b1 := b0.alloc (.cells #[i64 p, .int .u64 q] 58)
            have hK1 := hK.alloc (.cells #[i64 p, .int .u64 q] 58)
            have c2 := b1.cell 0
            simp at c2
            by_cases ho : okA G (p, q) = true
            · have hT1 : Hid ((l.take (j + 1)).all (okA G) = true) := all_next hT.out hx ho
              obtain ⟨o1, o2, o3, o4⟩ := okA_yes ho
              have p1 : decide (p < 0) = false := decide_eq_false (by omega)
              have p2 : decide ((G : Int) ≤ p) = false := decide_eq_false (by omega)
              have p3 : decide (q < 1) = false := decide_eq_false (by omega)
              have p4 : decide (1125899906842624 < q) = false := decide_eq_false (by omega)
              clear hx ho hT
              go_wp2_with fail
              go_roundw
              case rel => exact ⟨j + 1, by omega, by go_num, hT1, b1, hK1, e1⟩
              case measure => simp [intOf]; omega
            · have ho' : okA G (p, q) = false := by simpa using ho
              have hrow : okRow G l = false := all_fail hx ho'
              obtain rfl := hR1.out false (all_fail HX.out hrow)
              clear hx ho hT hrow
              rcases okA_no ho' with o1 | o1 | o1 | o1
              · clear ho'
                go_wp2_with fail
                all_goals try go_wp2
                all_goals go_ret
                all_goals exact ⟨rfl, hK1⟩
              · clear ho'
                go_wp2_with fail
                all_goals try go_wp2
                all_goals go_ret
                all_goals exact ⟨rfl, hK1⟩
              · clear ho'
                go_wp2_with fail
                all_goals try go_wp2
                all_goals go_ret
                all_goals exact ⟨rfl, hK1⟩
              · clear ho'
                go_wp2_with fail
                all_goals try go_wp2
                all_goals go_ret
                all_goals exact ⟨rfl, hK1⟩
          · obtain rfl : n = j := by omega
            have hrow : okRow G l = true := by
              have h := hT.out
              rw [List.take_of_length_le (by rw [Hn.out]; exact Nat.le_refl _)] at h
              exact h
            have hS1 : Hid ((ls.take (k + 1)).all (okRow G) = true) := all_next hS.out HX.out hrow
            clear hrow hT
            go_wp2_with fail
            go_roundw
            case rel => exact ⟨k + 1, by omega, by go_num, hS1, b0, hK⟩
            case measure => simp [intOf]; omega
      · obtain rfl : G = k := by omega
        have hall : ls.all (okRow G) = true := by
          have h := hS.out
          rw [List.take_of_length_le (by rw [HN.out]; exact Nat.le_refl _)] at h
          exact h
        obtain rfl := hR1.out true hall
        clear hall hS
        go_wp2_with fail
        go_ret
        exact ⟨rfl, hK⟩
  · obtain rfl := hR0 (by omega)
    have hq : ((G : Int) == (N : Int)) = false := by simp; omega
    have hq2 : ((G : Int) != (N : Int)) = true := by simp; omega
    clear hR hR0 h1 h2 h5
    go_enter Try.func10, Try.ntmps10
    go_wp2_with fail
    go_ret
    exact ⟨rfl, hK0⟩
end Go.Proofs.Ythbcgdogmkgebaa