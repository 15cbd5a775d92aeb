/- What all edges weigh: the walks; rows of numbers. -/
import Derived.Test.YtiialiifjhgcmaaRev
namespace Go.Proofs.Ytiialiifjhgcmaa
open Go.RowKit

theorem right_zero {n : Int} {es : List Edg} (h : rightF n es = 0) : 1 ≤ n ∧ n ≤ 4096 ∧ es.length ≤ 16384 ∧ ∀ (k : Nat) (p q r : Int), es[k]? = some (p, q, r) → 0 ≤ p ∧ p < n ∧ 0 ≤ q ∧ q < n ∧ p ≠ q ∧ 1 ≤ r ∧ r ≤ 4294967296 := by
  unfold rightF at h
  by_cases h1 : n < 1 ∨ 4096 < n
  · rw [if_pos h1] at h; cases h
  rw [if_neg h1] at h
  by_cases h2 : 16384 < es.length
  · rw [if_pos h2] at h; cases h
  rw [if_neg h2] at h
  by_cases h3 : es.all (nodeOk n) = true
  · rw [if_pos h3] at h
    by_cases h4 : es.all wOk = true
    · refine ⟨by omega, by omega, by omega, fun k p q r hk => ?_⟩
      have hm := List.mem_of_getElem? hk
      have a := List.all_eq_true.1 h3 _ hm
      have b := List.all_eq_true.1 h4 _ hm
      simp [nodeOk] at a
      simp [wOk] at b
      omega
    · rw [if_neg h4] at h; cases h
  · rw [if_neg h3] at h; cases h

def sumW (es : List Edg) : Int := (es.map fun e => e.2.2).sum
theorem sumW_step (es : List Edg) (k : Nat) (p q r : Int) (h : es[k]? = some (p, q, r)) : sumW (es.take (k + 1)) = sumW (es.take k) + r := by
  rw [List.take_add_one, h]; simp [sumW]
theorem sumW_bd {n : Int} {es : List Edg} (h : rightF n es = 0) : ∀ k, k ≤ es.length → 0 ≤ sumW (es.take k) ∧ sumW (es.take k) ≤ k * 4294967296
  | 0, _ => by simp [sumW]
  | k + 1, hk => by
    obtain ⟨⟨p, q, r⟩, hx⟩ : ∃ x, es[k]? = some x := ⟨_, List.getElem?_eq_getElem (by omega)⟩
    have ih := sumW_bd h k (by omega)
    have hr := (right_zero h).2.2.2 k p q r hx
    rw [sumW_step es k p q r hx]
    omega
def totalF (n : Int) (es : List Edg) : Int := if rightF n es = 0 then sumW es else 0

set_option maxHeartbeats 1000000 in
theorem total_any (n : Int) (A : Option Addr) (c : Nat) (es : List Edg) (w : World) (h : RowE w A es) (hl : es.length ≤ 100000) :
    Calls Try.prog 20 #[.agg #[i64 n, .slice A es.length c]] w fun e w' => e = .returned (u64 (totalF n es)) ∧ Grew w w' := by
  have b0 : Blk (w.alloc (.cells #[i64 n, .slice A es.length c] 24)) w.heap.size 24 #[i64 n, .slice A es.length c] := Blk.new w _ _
  have hK0 : Grew w (w.alloc (.cells #[i64 n, .slice A es.length c] 24)) := (Kept.refl _ _).alloc _
  have hE := Lib.hid (h.grew hK0)
  have hC := Lib.hid (right_any n A c es _ (h.grew hK0) hl)
  clear h
  by_cases hr : rightF n es = 0
  · have hbd := Lib.hid (sumW_bd hr)
    have hl2 := (right_zero hr).2.2.1
    have hz := Lib.hid (right_zero hr).2.2.2
    have hres : Hid (totalF n es = sumW es) := if_pos hr
    rw [hr] at hC
    obtain ⟨L, hL⟩ : ∃ L, es.length = L := ⟨_, rfl⟩
    have HL := Lib.hid hL
    rw [hL] at b0 hK0 hC hE hl2 hbd
    rw [hL]
    clear hr hL hl
    have c0 := b0.cell 0
    have c1 := b0.cell 1
    simp at c0 c1
    go_enter Try.func20, Try.ntmps20
    go_wp2_with fail
    refine hC.out.mono ?_
    rintro e w1 ⟨rfl, k1⟩
    replace b0 := b0.grew k1
    replace c0 := b0.cell 0
    replace c1 := b0.cell 1
    simp at c0 c1
    have hE1 := Lib.hid (hE.out.grew k1)
    have hK1 := hK0.trans k1
    clear hE hK0 k1 hC
    go_wp2_with fail
    go_loopw [2, 4, 11] (fun s u4 i wr => ∃ (k : Nat) (t : Int), k ≤ L ∧ i = .int .i64 k ∧ s = u64 t ∧ Hid (t = sumW (es.take k)) ∧ Hid (RowE wr A es) ∧ Grew w wr) (fun s u4 i _ => L - (intOf i).toNat)
    case atStart => exact ⟨0, 0, by omega, rfl, rfl, rfl, hE1, hK1⟩
    case round =>
      clear hE1 hK1 b0 c0 c1
      obtain ⟨k, t, hk, rfl, rfl, ht, hE, hK⟩ := hrel
      have hb := hbd.out k hk
      rw [← ht.out] at hb
      have hb1 := hb.1
      have hb2 := hb.2
      clear hb
      by_cases hlt : k < L
      · obtain ⟨x, hx⟩ : ∃ x, es[k]? = some x := ⟨_, List.getElem?_eq_getElem (by rw [HL.out]; exact hlt)⟩
        obtain ⟨b, off, hA, hb, e0, e1, e2⟩ := hE.out k x hx
        obtain ⟨p, q, r⟩ := x
        subst hA
        have hq := hz.out k p q r hx
        have hr1 := hq.2.2.2.2.2.1
        have hr2 := hq.2.2.2.2.2.2
        have ht1 : Hid (t + r = sumW (es.take (k + 1))) := by show _ = _; rw [sumW_step es k p q r hx, ht.out]
        clear hx hq
        go_wp2_with fail
        go_roundw
        case rel => exact ⟨k + 1, _, by omega, by go_num, rfl, ht1, Lib.hid (hE.out.grew ((Kept.refl _ _).alloc _)), hK.alloc _⟩
        case measure => simp [intOf]; omega
      · obtain rfl : k = L := by omega
        have hf : Hid (t = totalF n es) := by
          show _ = _
          rw [hres.out, ht.out, List.take_of_length_le (by rw [HL.out]; omega)]
        go_wp2_with fail
        go_ret
        rw [← hf.out]
        exact ⟨rfl, hK⟩
  · have hres : Hid (totalF n es = 0) := if_neg hr
    obtain ⟨f, hf⟩ : ∃ f, rightF n es = f := ⟨_, rfl⟩
    rw [hf] at hC hr
    have hb : (f == 0) = false := by simpa using hr
    have hb' : (f != 0) = true := by simpa using hr
    obtain ⟨L, hL⟩ : ∃ L, es.length = L := ⟨_, rfl⟩
    rw [hL] at b0 hK0 hC
    rw [hL]
    clear hE hf hr hL hl
    have c0 := b0.cell 0
    have c1 := b0.cell 1
    simp at c0 c1
    go_enter Try.func20, Try.ntmps20
    go_wp2_with fail
    refine hC.out.mono ?_
    rintro e w1 ⟨rfl, k1⟩
    go_wp2_with fail
    go_ret
    rw [hres.out]
    exact ⟨rfl, hK0.trans k1⟩

set_option maxHeartbeats 1000000 in
theorem refTotal_any (n : Int) (A : Option Addr) (c : Nat) (es : List Edg) (w : World) (h : RowE w A es) (hl : es.length ≤ 100000) :
    Calls Try.prog 21 #[.agg #[i64 n, .slice A es.length c]] w fun e w' => e = .returned (u64 (totalF n es)) ∧ Grew w w' := by
  have b0 : Blk (w.alloc (.cells #[i64 n, .slice A es.length c] 24)) w.heap.size 24 #[i64 n, .slice A es.length c] := Blk.new w _ _
  have hK0 : Grew w (w.alloc (.cells #[i64 n, .slice A es.length c] 24)) := (Kept.refl _ _).alloc _
  have hE := Lib.hid (h.grew hK0)
  have hC := Lib.hid (fun W h => refRight_any n A c es W h hl)
  clear h
  by_cases hr : rightF n es = 0
  · have hbd := Lib.hid (sumW_bd hr)
    have hl2 := (right_zero hr).2.2.1
    have hz := Lib.hid (right_zero hr).2.2.2
    have hres : Hid (totalF n es = sumW es) := if_pos hr
    rw [hr] at hC
    obtain ⟨L, hL⟩ : ∃ L, es.length = L := ⟨_, rfl⟩
    have HL := Lib.hid hL
    rw [hL] at b0 hK0 hC hE hl2 hbd
    rw [hL]
    clear hr hL hl
    go_enter Try.func21, Try.ntmps21
    go_wp2_with fail
    go_loopw [3, 4] (fun s i wr => ∃ (k : Nat) (t : Int), k ≤ L ∧ i = .int .i64 k ∧ s = u64 t ∧ Hid (t = sumW (es.take k)) ∧ Blk wr w.heap.size 24 #[i64 n, .slice A L c] ∧ Hid (RowE wr A es) ∧ Grew w wr) (fun s i _ => L - (intOf i).toNat)
    case atStart => exact ⟨0, 0, by omega, rfl, rfl, rfl, b0, hE, hK0⟩
    case round =>
      clear hE hK0 b0
      obtain ⟨k, t, hk, rfl, rfl, ht, b0, hE, hK⟩ := hrel
      have hb := hbd.out k hk
      rw [← ht.out] at hb
      have hb1 := hb.1
      have hb2 := hb.2
      clear hb
      have c0 := b0.cell 0
      have c1 := b0.cell 1
      simp at c0 c1
      by_cases hlt : k < L
      · obtain ⟨x, hx⟩ : ∃ x, es[k]? = some x := ⟨_, List.getElem?_eq_getElem (by rw [HL.out]; exact hlt)⟩
        obtain ⟨b, off, hA, hb, e0, e1, e2⟩ := hE.out k x hx
        obtain ⟨p, q, r⟩ := x
        subst hA
        have hq := hz.out k p q r hx
        have hr1 := hq.2.2.2.2.2.1
        have hr2 := hq.2.2.2.2.2.2
        have ht1 : Hid (t + r = sumW (es.take (k + 1))) := by show _ = _; rw [sumW_step es k p q r hx, ht.out]
        clear hx hq
        go_wp2_with fail
        refine (hC.out _ hE.out).mono ?_
        rintro e w1 ⟨rfl, k1⟩
        replace e2 := Grew.cell k1 e2
        have b1 := b0.grew k1
        replace c0 := b1.cell 0
        replace c1 := b1.cell 1
        simp at c0 c1
        go_wp2_with fail
        go_roundw
        case rel => exact ⟨k + 1, _, by omega, by go_num, rfl, ht1, b1, Lib.hid (hE.out.grew k1), hK.trans k1⟩
        case measure => simp [intOf]; omega
      · obtain rfl : k = L := by omega
        have hf : Hid (t = totalF n es) := by
          show _ = _
          rw [hres.out, ht.out, List.take_of_length_le (by rw [HL.out]; omega)]
        go_wp2_with fail
        go_ret
        rw [← hf.out]
        exact ⟨rfl, hK⟩
  · have hres : Hid (totalF n es = 0) := if_neg hr
    obtain ⟨f, hf⟩ : ∃ f, rightF n es = f := ⟨_, rfl⟩
    rw [hf] at hC hr
    have hb : (f == 0) = false := by simpa using hr
    have hb' : (f != 0) = true := by simpa using hr
    obtain ⟨L, hL⟩ : ∃ L, es.length = L := ⟨_, rfl⟩
    have HL := Lib.hid hL
    rw [hL] at b0 hK0 hC hE hl
    rw [hL]
    clear hf hr hL
    go_enter Try.func21, Try.ntmps21
    go_wp2_with fail
    go_loopw [3, 4] (fun s i wr => i = .int .i64 0 ∧ s = u64 0 ∧ Blk wr w.heap.size 24 #[i64 n, .slice A L c] ∧ Hid (RowE wr A es) ∧ Grew w wr) (fun s i _ => 0)
    case atStart => exact ⟨rfl, rfl, b0, hE, hK0⟩
    case round =>
      clear hE hK0 b0
      obtain ⟨rfl, rfl, b0, hE, hK⟩ := hrel
      have c0 := b0.cell 0
      have c1 := b0.cell 1
      simp at c0 c1
      by_cases hlt : 0 < L
      · go_wp2_with fail
        refine (hC.out _ hE.out).mono ?_
        rintro e w1 ⟨rfl, k1⟩
        go_wp2_with fail
        go_ret
        rw [hres.out]
        exact ⟨rfl, hK.trans k1⟩
      · obtain rfl : L = 0 := by omega
        go_wp2_with fail
        go_ret
        rw [hres.out]
        exact ⟨rfl, hK⟩

theorem reverse_any (n : Int) (A : Option Addr) (c : Nat) (es : List Edg) (w : World) (h : RowE w A es) (hl : es.length ≤ 100000) :
    Calls Try.prog 18 #[.agg #[i64 n, .slice A es.length c]] w fun e w' => ∃ v, e = .returned (.agg #[i64 (if rightF n es = 0 then n else 0), v]) ∧ Edges w' w.heap.size v (if rightF n es = 0 then es.map swp else []) ∧ Grew w w' := by
  by_cases hr : rightF n es = 0
  · simp only [hr, if_true]
    exact reverse_yes n A c es w h hl hr
  · simp only [hr, if_false]
    exact (reverse_no n A c es w h hl hr).mono fun e w' ⟨he, hK⟩ => ⟨_, he, World.ownsRow_nil _ _ _ _, hK⟩
theorem refReverse_any (n : Int) (A : Option Addr) (c : Nat) (es : List Edg) (w : World) (h : RowE w A es) (hl : es.length ≤ 100000) :
    Calls Try.prog 19 #[.agg #[i64 n, .slice A es.length c]] w fun e w' => ∃ v, e = .returned (.agg #[i64 (if rightF n es = 0 then n else 0), v]) ∧ Edges w' w.heap.size v (if rightF n es = 0 then es.map swp else []) ∧ Grew w w' := by
  by_cases hr : rightF n es = 0
  · simp only [hr, if_true]
    exact refReverse_yes n A c es w h hl hr
  · simp only [hr, if_false]
    exact (refReverse_no n A c es w h hl hr).mono fun e w' ⟨he, hK⟩ => ⟨_, he, World.ownsRow_nil _ _ _ _, hK⟩

/-- The numbers zs lie from A on. -/
def RowI (w : World) (A : Option Addr) (zs : List Int) : Prop :=
  ∀ (i : Nat) (z : Int), zs[i]? = some z → ∃ b off, A = some ⟨b, off, none⟩ ∧ b < w.heap.size ∧ w.cell? ⟨b, off + i, none⟩ = some (i64 z)
theorem RowI.kept {F : Nat → Prop} {w w' : World} {A : Option Addr} {zs : List Int} (h : RowI w A zs) (hK : Kept F w w') (hF : ∀ a, A = some a → ¬ F a.block) : RowI w' A zs := by
  intro i z hz
  obtain ⟨b, off, hA, hb, h0⟩ := h i z hz
  exact ⟨b, off, hA, Nat.lt_of_lt_of_le hb hK.size, hK.cell h0 (hF ⟨b, off, none⟩ hA)⟩
theorem RowI.grew {w w' : World} {A : Option Addr} {zs : List Int} (h : RowI w A zs) (hK : Grew w w') : RowI w' A zs := h.kept hK fun _ _ h => h
theorem RowI.nil (w : World) (A : Option Addr) : RowI w A [] := by intro i e he; simp at he

set_option maxHeartbeats 1000000 in
theorem sameI_any (A A' : Option Addr) (c c' : Nat) (zs zs' : List Int) (w : World) (h : RowI w A zs) (h' : RowI w A' zs') (hl : zs.length ≤ 100000) (hl' : zs'.length ≤ 100000) :
    Calls Try.prog 22 #[.slice A zs.length c, .slice A' zs'.length c'] w fun e w' => e = .returned (.bool (decide (zs = zs'))) ∧ Grew w w' := by
  obtain ⟨L, hL⟩ : ∃ L, zs.length = L := ⟨_, rfl⟩
  obtain ⟨L', hL'⟩ : ∃ L, zs'.length = L := ⟨_, rfl⟩
  have HL := Lib.hid hL
  have HL' := Lib.hid hL'
  rw [hL] at hl
  rw [hL'] at hl'
  rw [hL, hL']
  clear hL hL'
  have hE := Lib.hid h
  have hE' := Lib.hid h'
  have hK0 : Grew w w := Kept.refl _ _
  clear h h'
  by_cases hLL : L = L'
  · subst hLL
    go_enter Try.func22, Try.ntmps22
    go_wp2_with fail
    go_loopw [5] (fun i wr => ∃ (k : Nat), k ≤ L ∧ i = .int .i64 k ∧ Hid (zs.take k = zs'.take k) ∧ Hid (RowI wr A zs) ∧ Hid (RowI wr A' zs') ∧ Grew w wr) (fun i _ => L - (intOf i).toNat)
    case atStart => exact ⟨0, by omega, rfl, rfl, hE, hE', hK0⟩
    case round =>
      clear hE hE' hK0
      obtain ⟨k, hk, rfl, hS, hA, hA', hK⟩ := hrel
      by_cases hlt : k < L
      · obtain ⟨x, hx⟩ : ∃ x, zs[k]? = some x := ⟨_, List.getElem?_eq_getElem (by rw [HL.out]; exact hlt)⟩
        obtain ⟨x', hx'⟩ : ∃ x, zs'[k]? = some x := ⟨_, List.getElem?_eq_getElem (by rw [HL'.out]; exact hlt)⟩
        obtain ⟨b, off, hAe, hb, h0⟩ := hA.out k x hx
        obtain ⟨b', off', hAe', hb', h0'⟩ := hA'.out k x' hx'
        have HX := Lib.hid hx
        have HX' := Lib.hid hx'
        clear hx hx'
        subst hAe
        subst hAe'
        have hk0 : (0 : Int) ≤ (k : Int) := by omega
        have hk1 : (k : Int) < (L : Int) := by omega
        by_cases he : x = x'
        · subst he
          have hS1 : Hid (zs.take (k + 1) = zs'.take (k + 1)) := by
            show _ = _
            rw [List.take_add_one, List.take_add_one, hS.out, HX.out, HX'.out]
          go_wp2_with fail
          go_quiet (fail)
          go_wp2
          go_roundw
          case rel => exact ⟨k + 1, by omega, by go_num, hS1, Lib.hid (hA.out.grew ((Kept.refl _ _).drewN _)), Lib.hid (hA'.out.grew ((Kept.refl _ _).drewN _)), hK.drewN _⟩
          case measure => simp [intOf]; omega
        · have hne : Hid (decide (zs = zs') = false) := by
            show decide _ = false
            refine decide_eq_false fun h => he ?_
            have h1 := HX.out
            rw [h, HX'.out] at h1
            exact (Option.some.inj h1).symm
          have h3 : (x == x') = false := by simpa using he
          clear he
          go_wp2_with fail
          go_quiet (fail)
          go_wp2
          go_ret
          rw [hne.out]
          exact ⟨rfl, hK.drewN _⟩
      · obtain rfl : k = L := by omega
        have hr1 : Hid (decide (zs = zs') = true) := by
          show decide _ = true
          refine decide_eq_true ?_
          have h1 := hS.out
          rw [List.take_of_length_le (by rw [HL.out]; exact Nat.le_refl _), List.take_of_length_le (by rw [HL'.out]; exact Nat.le_refl _)] at h1
          exact h1
        go_wp2_with fail
        go_ret
        rw [hr1.out]
        exact ⟨rfl, hK⟩
  · have hr : Hid (decide (zs = zs') = false) := by
      show decide _ = false
      refine decide_eq_false fun h => hLL ?_
      rw [← HL.out, ← HL'.out, h]
    have hb : ((L : Int) == (L' : Int)) = false := by simp; omega
    have hb' : ((L : Int) != (L' : Int)) = true := by simp; omega
    go_enter Try.func22, Try.ntmps22
    go_wp2_with fail
    go_ret
    rw [hr.out]
    exact ⟨rfl, hK0⟩
end Go.Proofs.Ytiialiifjhgcmaa
