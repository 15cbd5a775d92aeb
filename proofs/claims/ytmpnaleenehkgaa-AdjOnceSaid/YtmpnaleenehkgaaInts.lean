/- Rows of ints, and whether two are the same. -/
import Derived.Test.YtmpnaleenehkgaaEdge
namespace Go.Proofs.Ytmpnaleenehkgaa
open Go.RowKit
/-- The numbers zs lie from A on. -/
def RowI (w : World) (A : Option Addr) (zs : List Int) : Prop :=
  ∀ (i : Nat) (z : Int), zs[i]? = some z → ∃ b off, A = some ⟨b, off, none⟩ ∧ b < w.heap.size ∧ w.cell? ⟨b, off + i, none⟩ = some (i64 z)
theorem RowI.kept {F : Nat → Prop} {w w' : World} {A : Option Addr} {zs : List Int} (h : RowI w A zs) (hK : Kept F w w') (hF : ∀ a, A = some a → ¬ F a.block) : RowI w' A zs := by
  intro i z hz
  obtain ⟨b, off, hA, hb, h0⟩ := h i z hz
  exact ⟨b, off, hA, Nat.lt_of_lt_of_le hb hK.size, hK.cell h0 (hF ⟨b, off, none⟩ hA)⟩
theorem RowI.grew {w w' : World} {A : Option Addr} {zs : List Int} (h : RowI w A zs) (hK : Grew w w') : RowI w' A zs := h.kept hK fun _ _ h => h
theorem RowI.nil (w : World) (A : Option Addr) : RowI w A [] := by intro i e he; simp at he

set_option maxHeartbeats 1000000 in
theorem sameI_any (A A' : Option Addr) (c c' : Nat) (zs zs' : List Int) (w : World) (h : RowI w A zs) (h' : RowI w A' zs') (hl : zs.length ≤ 100000) (hl' : zs'.length ≤ 100000) :
    Calls Try.prog 11 #[.slice A zs.length c, .slice A' zs'.length c'] w fun e w' => e = .returned (.bool (decide (zs = zs'))) ∧ Grew w w' := by
  obtain ⟨L, hL⟩ : ∃ L, zs.length = L := ⟨_, rfl⟩
  obtain ⟨L', hL'⟩ : ∃ L, zs'.length = L := ⟨_, rfl⟩
  have HL := Lib.hid hL
  have HL' := Lib.hid hL'
  rw [hL] at hl
  rw [hL'] at hl'
  rw [hL, hL']
  clear hL hL'
  have hE := Lib.hid h
  have hE' := Lib.hid h'
  have hK0 : Grew w w := Kept.refl _ _
  clear h h'
  by_cases hLL : L = L'
  · subst hLL
    go_enter Try.func11, Try.ntmps11
    go_wp2_with fail
    go_loopw [5] (fun i wr => ∃ (k : Nat), k ≤ L ∧ i = .int .i64 k ∧ Hid (zs.take k = zs'.take k) ∧ Hid (RowI wr A zs) ∧ Hid (RowI wr A' zs') ∧ Grew w wr) (fun i _ => L - (intOf i).toNat)
    case atStart => exact ⟨0, by omega, rfl, rfl, hE, hE', hK0⟩
    case round =>
      clear hE hE' hK0
      obtain ⟨k, hk, rfl, hS, hA, hA', hK⟩ := hrel
      by_cases hlt : k < L
      · obtain ⟨x, hx⟩ : ∃ x, zs[k]? = some x := ⟨_, List.getElem?_eq_getElem (by rw [HL.out]; exact hlt)⟩
        obtain ⟨x', hx'⟩ : ∃ x, zs'[k]? = some x := ⟨_, List.getElem?_eq_getElem (by rw [HL'.out]; exact hlt)⟩
        obtain ⟨b, off, hAe, hb, h0⟩ := hA.out k x hx
        obtain ⟨b', off', hAe', hb', h0'⟩ := hA'.out k x' hx'
        have HX := Lib.hid hx
        have HX' := Lib.hid hx'
        clear hx hx'
        subst hAe
        subst hAe'
        have hk0 : (0 : Int) ≤ (k : Int) := by omega
        have hk1 : (k : Int) < (L : Int) := by omega
        by_cases he : x = x'
        · subst he
          have hS1 : Hid (zs.take (k + 1) = zs'.take (k + 1)) := by
            show _ = _
            rw [List.take_add_one, List.take_add_one, hS.out, HX.out, HX'.out]
          go_wp2_with fail
          go_quiet (fail)
          go_wp2
          go_roundw
          case rel => exact ⟨k + 1, by omega, by go_num, hS1, Lib.hid (hA.out.grew ((Kept.refl _ _).drewN _)), Lib.hid (hA'.out.grew ((Kept.refl _ _).drewN _)), hK.drewN _⟩
          case measure => simp [intOf]; omega
        · have hne : Hid (decide (zs = zs') = false) := by
            show decide _ = false
            refine decide_eq_false fun h => he ?_
            have h1 := HX.out
            rw [h, HX'.out] at h1
            exact (Option.some.inj h1).symm
          have h3 : (x == x') = false := by simpa using he
          clear he
          go_wp2_with fail
          go_quiet (fail)
          go_wp2
          go_ret
          rw [hne.out]
          exact ⟨rfl, hK.drewN _⟩
      · obtain rfl : k = L := by omega
        have hr1 : Hid (decide (zs = zs') = true) := by
          show decide _ = true
          refine decide_eq_true ?_
          have h1 := hS.out
          rw [List.take_of_length_le (by rw [HL.out]; exact Nat.le_refl _), List.take_of_length_le (by rw [HL'.out]; exact Nat.le_refl _)] at h1
          exact h1
        go_wp2_with fail
        go_ret
        rw [hr1.out]
        exact ⟨rfl, hK⟩
  · have hr : Hid (decide (zs = zs') = false) := by
      show decide _ = false
      refine decide_eq_false fun h => hLL ?_
      rw [← HL.out, ← HL'.out, h]
    have hb : ((L : Int) == (L' : Int)) = false := by simp; omega
    have hb' : ((L : Int) != (L' : Int)) = true := by simp; omega
    go_enter Try.func11, Try.ntmps11
    go_wp2_with fail
    go_ret
    rw [hr.out]
    exact ⟨rfl, hK0⟩
def IntsO (w : World) (B : Nat) (v : Value) (zs : List Int) : Prop := w.ownsRow B 3 1 v zs.length (zs.map i64)

end Go.Proofs.Ytmpnaleenehkgaa
