/- A reader of bytes: the walks of early, number, below, ends. -/
import Derived.Test.YtjbjomodponapaaNumber
import Derived.Test.YtjbjomodponapaaCodec
import Derived.Test.YtjbjomodponapaaEdge
import Derived.RegionTactic
import Derived.Deep.DeepCutAuto
namespace Go.Proofs.Ytjbjomodponapaa
open Go.RowKit

/-- The bytes that are read. -/
structure Src (w : World) (A : Option Addr) (len cap : Nat) (z : Nat → Int) : Prop where
  row : RowZ w A len z
  cap : len ≤ cap
theorem Src.kept {F : Nat → Prop} {w w' : World} {A : Option Addr} {len cap : Nat} {z : Nat → Int} (h : Src w A len cap z) (k : Kept F w w') (hF : ∀ a, A = some a → ¬ F a.block) : Src w' A len cap z :=
  ⟨⟨h.row.1, fun i hi => by
    obtain ⟨b, off, hA, h1, h2⟩ := h.row.2 i hi
    exact ⟨b, off, hA, k.cell h1 (show ¬ F b from hF _ hA), h2⟩⟩, h.cap⟩
theorem Src.grew {w w' : World} {A : Option Addr} {len cap : Nat} {z : Nat → Int} (h : Src w A len cap z) (k : Grew w w') : Src w' A len cap z := h.kept k fun _ _ h => h
theorem Src.range {w : World} {A : Option Addr} {len cap : Nat} {z : Nat → Int} (h : Src w A len cap z) : ∀ i, i < len → 0 ≤ z i ∧ z i ≤ 255 := fun i hi => by
  obtain ⟨b, off, _, _, h2⟩ := h.row.2 i hi
  exact h2
theorem Src.from' {w : World} {b off len cap p : Nat} {z : Nat → Int} (h : Src w (some ⟨b, off, none⟩) len cap z) : RowZ w (some ⟨b, off + p, none⟩) (len - p) (sh z p) :=
  ⟨by have := h.row.1; omega, fun i hi => by
    obtain ⟨b', off', hA, h1, h2⟩ := h.row.2 (p + i) (by omega)
    cases hA
    exact ⟨b, off + p, rfl, by rw [Nat.add_assoc]; exact h1, h2⟩⟩
theorem rowZ_none (w : World) (A : Option Addr) (z : Nat → Int) : RowZ w A 0 z := ⟨by omega, fun i hi => by omega⟩
/-- A reader of them at place p. -/
abbrev Rd (w : World) (R : Nat) (A : Option Addr) (len cap p : Nat) : Prop := Blk w R 58 #[.slice A len cap, i64 p]
abbrev wrongs (q : Int) : List PanicEntry := [{ v := .iface 60 (.agg #[i64 q]), recovered := false }]

set_option maxHeartbeats 4000000 in
set_option maxRecDepth 100000 in
theorem early_any (R : Nat) (A : Option Addr) (len cap p : Nat) (z : Nat → Int) (w : World) (h : Rd w R A len cap p) (hs : Src w A len cap z) (hp : p ≤ len) (hl : len ≤ 100000) :
    Calls Try.prog 35 #[pt R] w fun e w' => ∃ t, e = .returned (.bool t) ∧ Grew w w' := by
  have c0 := h.cell 0
  have c1 := h.cell 1
  simp at c0 c1
  have hcap := hs.cap
  have p0 : (0 : Int) ≤ (p : Int) := by omega
  have p1 : (p : Int) ≤ (len : Int) := by omega
  have p2 : (len : Int) ≤ (cap : Int) := by omega
  have p3 : (p : Int) ≤ (cap : Int) := by omega
  have wd : IntKind.i64.wrap ((len : Int) - (p : Int)) = (len : Int) - (p : Int) := Go.IntWalk.i64_in _ (by omega)
  have hlc : Hid (len ≤ cap ∧ p ≤ len) := ⟨hcap, hp⟩
  rcases Nat.lt_or_ge p len with hpl | hpl
  · as_aux_lemma =>
    obtain ⟨b, off, rfl, _, _⟩ := hs.row.2 p hpl
    have hZ := Lib.hid (hs.from' (p := p))
    have p4 : (p : Int) < (cap : Int) := by omega
    have p5 : ¬ (cap = p) := by omega
    have p6 : cap - p ≠ 0 := by omega
    have cc0 := c0
    have cc1 := c1

    clear h hs hcap hp
    go_enter Try.func35, Try.ntmps35
    go_wp2_with fail
    refine wp_region_grow [] (fun _ => False) (by kernel_rfl) ?_
    simp only [List.size_toArray, List.length_cons, List.length_nil, Nat.reduceAdd]
    refine wpAnyG_pure 0 5 (v := ?_) rfl (by kernel_rfl) rfl (by rfl) (fun w' => ?_) ?_
    rotate_left
    · go_simp <;> with_reducible rfl
    simp only [List.setIfInBounds_toArray, List.set_cons_zero, List.set_cons_succ]
    refine wpAnyG_pure 1 6 (v := ?_) rfl (by kernel_rfl) rfl (by rfl) (fun w' => ?_) ?_
    rotate_left
    · go_simp <;> with_reducible rfl
    simp only [List.setIfInBounds_toArray, List.set_cons_zero, List.set_cons_succ]
    refine wpAnyG_pure 2 7 (v := ?_) rfl (by kernel_rfl) rfl (by rfl) (fun w' => ?_) ?_
    rotate_left
    · go_simp <;> with_reducible rfl
    simp only [List.setIfInBounds_toArray, List.set_cons_zero, List.set_cons_succ]
    refine wpAnyG_take 3 8 (v := ?_) rfl (by kernel_rfl) rfl (by rfl) (fun w' hG' => ?_) ?_
    rotate_left
    · have hx0 := Grew.cell hG' (show w.drew.cell? _ = _ from c0)
      have hx1 := Grew.cell hG' (show w.drew.cell? _ = _ from c1)
      go_simp <;> with_reducible rfl
    simp only [List.setIfInBounds_toArray, List.set_cons_zero, List.set_cons_succ]
    refine wpAnyG_pure 4 9 (v := ?_) rfl (by kernel_rfl) rfl (by rfl) (fun w' => ?_) ?_
    rotate_left
    · go_simp <;> with_reducible rfl
    simp only [List.setIfInBounds_toArray, List.set_cons_zero, List.set_cons_succ]
    refine wpAnyG_pure 5 10 (v := ?_) rfl (by kernel_rfl) rfl (by rfl) (fun w' => ?_) ?_
    rotate_left
    · go_simp <;> with_reducible rfl
    simp only [List.setIfInBounds_toArray, List.set_cons_zero, List.set_cons_succ]
    refine wpAnyG_pure 6 11 (v := ?_) rfl (by kernel_rfl) rfl (by rfl) (fun w' => ?_) ?_
    rotate_left
    · go_simp <;> with_reducible rfl
    simp only [List.setIfInBounds_toArray, List.set_cons_zero, List.set_cons_succ]
    refine wpAnyG_take 7 12 (v := ?_) rfl (by kernel_rfl) rfl (by rfl) (fun w' hG' => ?_) ?_
    rotate_left
    · have hx0 := Grew.cell hG' (show w.drew.cell? _ = _ from c0)
      have hx1 := Grew.cell hG' (show w.drew.cell? _ = _ from c1)
      go_simp <;> with_reducible rfl
    simp only [List.setIfInBounds_toArray, List.set_cons_zero, List.set_cons_succ]
    refine wpAnyG_pure 8 13 (v := ?_) rfl (by kernel_rfl) rfl (by rfl) (fun w' => ?_) ?_
    rotate_left
    · go_simp <;> with_reducible rfl
    simp only [List.setIfInBounds_toArray, List.set_cons_zero, List.set_cons_succ]
    refine wpAnyG_pure 9 14 (v := ?_) rfl (by kernel_rfl) rfl (by rfl) (fun w' => ?_) ?_
    rotate_left
    · go_simp <;> with_reducible rfl
    simp only [List.setIfInBounds_toArray, List.set_cons_zero, List.set_cons_succ]
    refine wpAnyG_pure 10 15 (v := ?_) rfl (by kernel_rfl) rfl (by rfl) (fun w' => ?_) ?_
    rotate_left
    · go_simp <;> with_reducible rfl
    simp only [List.setIfInBounds_toArray, List.set_cons_zero, List.set_cons_succ]
    refine wpAnyG_done (by kernel_rfl) ?_
    clear c0 c1
    obtain ⟨K, hK⟩ : ∃ K, len - p = K := ⟨_, rfl⟩
    have HKK := Lib.hid hK
    have hK9 : K ≤ 100000 := by omega
    rw [hK] at hZ ⊢
    clear hK
    have hC0 := Lib.hid (show w.cell? _ = _ ∧ w.cell? _ = _ from ⟨cc0, cc1⟩)
    clear cc0 cc1
    go_wp2_with fail
    go_loopw [4, 15] (fun _ i wr => ∃ k : Nat, k ≤ K ∧ i = .int .i64 k ∧ Grew w wr) (fun _ i _ => K - (intOf i).toNat)
    case atStart => exact ⟨0, by omega, rfl, (Kept.refl _ _).drew⟩
    case round =>
      obtain ⟨k, hk, rfl, hG⟩ := hrel
      by_cases hlt : k < K
      · obtain ⟨bb, oo, hAA, x0, x1, x2⟩ := hZ.out.2 k hlt
        cases hAA
        replace x0 := Grew.cell hG x0
        have k0 : (0 : Int) ≤ (k : Int) := by omega
        have k1 : (k : Int) < (K : Int) := by omega
        obtain ⟨v, hv⟩ : ∃ v, sh z p k = v := ⟨_, rfl⟩
        rw [hv] at x0 x1 x2
        clear hv hZ
        by_cases h128 : v < 128
        · go_wp2_with fail
          go_ret
          exact ⟨_, rfl, hG⟩
        · have h128' : (128 : Int) ≤ v := by omega
          go_wp2_with fail
          go_roundw
          case rel => exact ⟨k + 1, by omega, by go_num, hG⟩
          case measure => simp [intOf]; omega
      · obtain rfl : k = K := by omega
        have c0 := Grew.cell hG hC0.out.1
        have c1 := Grew.cell hG hC0.out.2
        go_wp2_with fail
        refine wp_region_grow [] (fun _ => False) (by kernel_rfl) ?_
        simp only [List.size_toArray, List.length_cons, List.length_nil, Nat.reduceAdd]
        refine wpAnyG_pure 0 22 (v := ?_) rfl (by kernel_rfl) rfl (by rfl) (fun w' => ?_) ?_
        rotate_left
        · go_simp <;> with_reducible rfl
        simp only [List.setIfInBounds_toArray, List.set_cons_zero, List.set_cons_succ]
        refine wpAnyG_pure 1 23 (v := ?_) rfl (by kernel_rfl) rfl (by rfl) (fun w' => ?_) ?_
        rotate_left
        · go_simp <;> with_reducible rfl
        simp only [List.setIfInBounds_toArray, List.set_cons_zero, List.set_cons_succ]
        refine wpAnyG_pure 2 24 (v := ?_) rfl (by kernel_rfl) rfl (by rfl) (fun w' => ?_) ?_
        rotate_left
        · go_simp <;> with_reducible rfl
        simp only [List.setIfInBounds_toArray, List.set_cons_zero, List.set_cons_succ]
        refine wpAnyG_take 3 25 (v := ?_) rfl (by kernel_rfl) rfl (by rfl) (fun w' hG' => ?_) ?_
        rotate_left
        · have hx0 := Grew.cell hG' (show wr.drew.cell? _ = _ from c0)
          have hx1 := Grew.cell hG' (show wr.drew.cell? _ = _ from c1)
          go_simp <;> with_reducible rfl
        simp only [List.setIfInBounds_toArray, List.set_cons_zero, List.set_cons_succ]
        refine wpAnyG_pure 4 26 (v := ?_) rfl (by kernel_rfl) rfl (by rfl) (fun w' => ?_) ?_
        rotate_left
        · go_simp <;> with_reducible rfl
        simp only [List.setIfInBounds_toArray, List.set_cons_zero, List.set_cons_succ]
        refine wpAnyG_pure 5 27 (v := ?_) rfl (by kernel_rfl) rfl (by rfl) (fun w' => ?_) ?_
        rotate_left
        · go_simp <;> with_reducible rfl
        simp only [List.setIfInBounds_toArray, List.set_cons_zero, List.set_cons_succ]
        refine wpAnyG_pure 6 28 (v := ?_) rfl (by kernel_rfl) rfl (by rfl) (fun w' => ?_) ?_
        rotate_left
        · go_simp <;> with_reducible rfl
        simp only [List.setIfInBounds_toArray, List.set_cons_zero, List.set_cons_succ]
        refine wpAnyG_pure 7 29 (v := ?_) rfl (by kernel_rfl) rfl (by rfl) (fun w' => ?_) ?_
        rotate_left
        · go_simp <;> with_reducible rfl
        simp only [List.setIfInBounds_toArray, List.set_cons_zero, List.set_cons_succ]
        refine wpAnyG_take 8 30 (v := ?_) rfl (by kernel_rfl) rfl (by rfl) (fun w' hG' => ?_) ?_
        rotate_left
        · have hx0 := Grew.cell hG' (show wr.drew.cell? _ = _ from c0)
          have hx1 := Grew.cell hG' (show wr.drew.cell? _ = _ from c1)
          go_simp <;> with_reducible rfl
        simp only [List.setIfInBounds_toArray, List.set_cons_zero, List.set_cons_succ]
        refine wpAnyG_pure 9 31 (v := ?_) rfl (by kernel_rfl) rfl (by rfl) (fun w' => ?_) ?_
        rotate_left
        · go_simp <;> with_reducible rfl
        simp only [List.setIfInBounds_toArray, List.set_cons_zero, List.set_cons_succ]
        refine wpAnyG_pure 10 32 (v := ?_) rfl (by kernel_rfl) rfl (by rfl) (fun w' => ?_) ?_
        rotate_left
        · go_simp <;> with_reducible rfl
        simp only [List.setIfInBounds_toArray, List.set_cons_zero, List.set_cons_succ]
        refine wpAnyG_pure 11 2 (v := ?_) rfl (by kernel_rfl) rfl (by rfl) (fun w' => ?_) ?_
        rotate_left
        · go_simp <;> with_reducible rfl
        simp only [List.setIfInBounds_toArray, List.set_cons_zero, List.set_cons_succ]
        refine wpAnyG_done (by kernel_rfl) ?_
        go_wp2_with fail
        go_ret
        exact ⟨_, rfl, hG.drew⟩
  · as_aux_lemma =>
    obtain rfl : p = len := by omega
    have hzz : p - p = 0 := by omega
    by_cases hcp : cap = p
    · subst hcp
      have hZ := Lib.hid (rowZ_none w A (sh z cap))
      have cc0 := c0
      have cc1 := c1

      clear h hs hcap hp
      go_enter Try.func35, Try.ntmps35
      go_wp2_with fail
      refine wp_region_grow [] (fun _ => False) (by kernel_rfl) ?_
      simp only [List.size_toArray, List.length_cons, List.length_nil, Nat.reduceAdd]
      refine wpAnyG_pure 0 5 (v := ?_) rfl (by kernel_rfl) rfl (by rfl) (fun w' => ?_) ?_
      rotate_left
      · go_simp <;> with_reducible rfl
      simp only [List.setIfInBounds_toArray, List.set_cons_zero, List.set_cons_succ]
      refine wpAnyG_pure 1 6 (v := ?_) rfl (by kernel_rfl) rfl (by rfl) (fun w' => ?_) ?_
      rotate_left
      · go_simp <;> with_reducible rfl
      simp only [List.setIfInBounds_toArray, List.set_cons_zero, List.set_cons_succ]
      refine wpAnyG_pure 2 7 (v := ?_) rfl (by kernel_rfl) rfl (by rfl) (fun w' => ?_) ?_
      rotate_left
      · go_simp <;> with_reducible rfl
      simp only [List.setIfInBounds_toArray, List.set_cons_zero, List.set_cons_succ]
      refine wpAnyG_take 3 8 (v := ?_) rfl (by kernel_rfl) rfl (by rfl) (fun w' hG' => ?_) ?_
      rotate_left
      · have hx0 := Grew.cell hG' (show w.drew.cell? _ = _ from c0)
        have hx1 := Grew.cell hG' (show w.drew.cell? _ = _ from c1)
        go_simp <;> with_reducible rfl
      simp only [List.setIfInBounds_toArray, List.set_cons_zero, List.set_cons_succ]
      refine wpAnyG_pure 4 9 (v := ?_) rfl (by kernel_rfl) rfl (by rfl) (fun w' => ?_) ?_
      rotate_left
      · go_simp <;> with_reducible rfl
      simp only [List.setIfInBounds_toArray, List.set_cons_zero, List.set_cons_succ]
      refine wpAnyG_pure 5 10 (v := ?_) rfl (by kernel_rfl) rfl (by rfl) (fun w' => ?_) ?_
      rotate_left
      · go_simp <;> with_reducible rfl
      simp only [List.setIfInBounds_toArray, List.set_cons_zero, List.set_cons_succ]
      refine wpAnyG_pure 6 11 (v := ?_) rfl (by kernel_rfl) rfl (by rfl) (fun w' => ?_) ?_
      rotate_left
      · go_simp <;> with_reducible rfl
      simp only [List.setIfInBounds_toArray, List.set_cons_zero, List.set_cons_succ]
      refine wpAnyG_take 7 12 (v := ?_) rfl (by kernel_rfl) rfl (by rfl) (fun w' hG' => ?_) ?_
      rotate_left
      · have hx0 := Grew.cell hG' (show w.drew.cell? _ = _ from c0)
        have hx1 := Grew.cell hG' (show w.drew.cell? _ = _ from c1)
        go_simp <;> with_reducible rfl
      simp only [List.setIfInBounds_toArray, List.set_cons_zero, List.set_cons_succ]
      refine wpAnyG_pure 8 13 (v := ?_) rfl (by kernel_rfl) rfl (by rfl) (fun w' => ?_) ?_
      rotate_left
      · go_simp <;> with_reducible rfl
      simp only [List.setIfInBounds_toArray, List.set_cons_zero, List.set_cons_succ]
      refine wpAnyG_pure 9 14 (v := ?_) rfl (by kernel_rfl) rfl (by rfl) (fun w' => ?_) ?_
      rotate_left
      · go_simp <;> with_reducible rfl
      simp only [List.setIfInBounds_toArray, List.set_cons_zero, List.set_cons_succ]
      refine wpAnyG_pure 10 15 (v := ?_) rfl (by kernel_rfl) rfl (by rfl) (fun w' => ?_) ?_
      rotate_left
      · go_simp <;> with_reducible rfl
      simp only [List.setIfInBounds_toArray, List.set_cons_zero, List.set_cons_succ]
      refine wpAnyG_done (by kernel_rfl) ?_
      clear c0 c1
      have hC0 := Lib.hid (show w.cell? _ = _ ∧ w.cell? _ = _ from ⟨cc0, cc1⟩)
      clear cc0 cc1
      go_wp2_with fail
      go_loopw [4, 15] (fun _ i wr => i = .int .i64 0 ∧ Grew w wr) (fun _ _ _ => 0)
      case atStart => exact ⟨rfl, (Kept.refl _ _).drew⟩
      case round =>
        obtain ⟨rfl, hG⟩ := hrel
        have c0 := Grew.cell hG hC0.out.1
        have c1 := Grew.cell hG hC0.out.2
        go_wp2_with fail
        refine wp_region_grow [] (fun _ => False) (by kernel_rfl) ?_
        simp only [List.size_toArray, List.length_cons, List.length_nil, Nat.reduceAdd]
        refine wpAnyG_pure 0 22 (v := ?_) rfl (by kernel_rfl) rfl (by rfl) (fun w' => ?_) ?_
        rotate_left
        · go_simp <;> with_reducible rfl
        simp only [List.setIfInBounds_toArray, List.set_cons_zero, List.set_cons_succ]
        refine wpAnyG_pure 1 23 (v := ?_) rfl (by kernel_rfl) rfl (by rfl) (fun w' => ?_) ?_
        rotate_left
        · go_simp <;> with_reducible rfl
        simp only [List.setIfInBounds_toArray, List.set_cons_zero, List.set_cons_succ]
        refine wpAnyG_pure 2 24 (v := ?_) rfl (by kernel_rfl) rfl (by rfl) (fun w' => ?_) ?_
        rotate_left
        · go_simp <;> with_reducible rfl
        simp only [List.setIfInBounds_toArray, List.set_cons_zero, List.set_cons_succ]
        refine wpAnyG_take 3 25 (v := ?_) rfl (by kernel_rfl) rfl (by rfl) (fun w' hG' => ?_) ?_
        rotate_left
        · have hx0 := Grew.cell hG' (show wr.drew.cell? _ = _ from c0)
          have hx1 := Grew.cell hG' (show wr.drew.cell? _ = _ from c1)
          go_simp <;> with_reducible rfl
        simp only [List.setIfInBounds_toArray, List.set_cons_zero, List.set_cons_succ]
        refine wpAnyG_pure 4 26 (v := ?_) rfl (by kernel_rfl) rfl (by rfl) (fun w' => ?_) ?_
        rotate_left
        · go_simp <;> with_reducible rfl
        simp only [List.setIfInBounds_toArray, List.set_cons_zero, List.set_cons_succ]
        refine wpAnyG_pure 5 27 (v := ?_) rfl (by kernel_rfl) rfl (by rfl) (fun w' => ?_) ?_
        rotate_left
        · go_simp <;> with_reducible rfl
        simp only [List.setIfInBounds_toArray, List.set_cons_zero, List.set_cons_succ]
        refine wpAnyG_pure 6 28 (v := ?_) rfl (by kernel_rfl) rfl (by rfl) (fun w' => ?_) ?_
        rotate_left
        · go_simp <;> with_reducible rfl
        simp only [List.setIfInBounds_toArray, List.set_cons_zero, List.set_cons_succ]
        refine wpAnyG_pure 7 29 (v := ?_) rfl (by kernel_rfl) rfl (by rfl) (fun w' => ?_) ?_
        rotate_left
        · go_simp <;> with_reducible rfl
        simp only [List.setIfInBounds_toArray, List.set_cons_zero, List.set_cons_succ]
        refine wpAnyG_take 8 30 (v := ?_) rfl (by kernel_rfl) rfl (by rfl) (fun w' hG' => ?_) ?_
        rotate_left
        · have hx0 := Grew.cell hG' (show wr.drew.cell? _ = _ from c0)
          have hx1 := Grew.cell hG' (show wr.drew.cell? _ = _ from c1)
          go_simp <;> with_reducible rfl
        simp only [List.setIfInBounds_toArray, List.set_cons_zero, List.set_cons_succ]
        refine wpAnyG_pure 9 31 (v := ?_) rfl (by kernel_rfl) rfl (by rfl) (fun w' => ?_) ?_
        rotate_left
        · go_simp <;> with_reducible rfl
        simp only [List.setIfInBounds_toArray, List.set_cons_zero, List.set_cons_succ]
        refine wpAnyG_pure 10 32 (v := ?_) rfl (by kernel_rfl) rfl (by rfl) (fun w' => ?_) ?_
        rotate_left
        · go_simp <;> with_reducible rfl
        simp only [List.setIfInBounds_toArray, List.set_cons_zero, List.set_cons_succ]
        refine wpAnyG_pure 11 2 (v := ?_) rfl (by kernel_rfl) rfl (by rfl) (fun w' => ?_) ?_
        rotate_left
        · go_simp <;> with_reducible rfl
        simp only [List.setIfInBounds_toArray, List.set_cons_zero, List.set_cons_succ]
        refine wpAnyG_done (by kernel_rfl) ?_
        go_wp2_with fail
        go_ret
        exact ⟨_, rfl, hG.drew⟩
    · have p4 : (p : Int) < (cap : Int) := by omega
      have p6 : cap - p ≠ 0 := by omega
      cases A with
      | none => as_aux_lemma =>
        have hZ := Lib.hid (rowZ_none w none (sh z p))
        have cc0 := c0
        have cc1 := c1

        clear h hs hcap hp
        go_enter Try.func35, Try.ntmps35
        go_wp2_with fail
        refine wp_region_grow [] (fun _ => False) (by kernel_rfl) ?_
        simp only [List.size_toArray, List.length_cons, List.length_nil, Nat.reduceAdd]
        refine wpAnyG_pure 0 5 (v := ?_) rfl (by kernel_rfl) rfl (by rfl) (fun w' => ?_) ?_
        rotate_left
        · go_simp <;> with_reducible rfl
        simp only [List.setIfInBounds_toArray, List.set_cons_zero, List.set_cons_succ]
        refine wpAnyG_pure 1 6 (v := ?_) rfl (by kernel_rfl) rfl (by rfl) (fun w' => ?_) ?_
        rotate_left
        · go_simp <;> with_reducible rfl
        simp only [List.setIfInBounds_toArray, List.set_cons_zero, List.set_cons_succ]
        refine wpAnyG_pure 2 7 (v := ?_) rfl (by kernel_rfl) rfl (by rfl) (fun w' => ?_) ?_
        rotate_left
        · go_simp <;> with_reducible rfl
        simp only [List.setIfInBounds_toArray, List.set_cons_zero, List.set_cons_succ]
        refine wpAnyG_take 3 8 (v := ?_) rfl (by kernel_rfl) rfl (by rfl) (fun w' hG' => ?_) ?_
        rotate_left
        · have hx0 := Grew.cell hG' (show w.drew.cell? _ = _ from c0)
          have hx1 := Grew.cell hG' (show w.drew.cell? _ = _ from c1)
          go_simp <;> with_reducible rfl
        simp only [List.setIfInBounds_toArray, List.set_cons_zero, List.set_cons_succ]
        refine wpAnyG_pure 4 9 (v := ?_) rfl (by kernel_rfl) rfl (by rfl) (fun w' => ?_) ?_
        rotate_left
        · go_simp <;> with_reducible rfl
        simp only [List.setIfInBounds_toArray, List.set_cons_zero, List.set_cons_succ]
        refine wpAnyG_pure 5 10 (v := ?_) rfl (by kernel_rfl) rfl (by rfl) (fun w' => ?_) ?_
        rotate_left
        · go_simp <;> with_reducible rfl
        simp only [List.setIfInBounds_toArray, List.set_cons_zero, List.set_cons_succ]
        refine wpAnyG_pure 6 11 (v := ?_) rfl (by kernel_rfl) rfl (by rfl) (fun w' => ?_) ?_
        rotate_left
        · go_simp <;> with_reducible rfl
        simp only [List.setIfInBounds_toArray, List.set_cons_zero, List.set_cons_succ]
        refine wpAnyG_take 7 12 (v := ?_) rfl (by kernel_rfl) rfl (by rfl) (fun w' hG' => ?_) ?_
        rotate_left
        · have hx0 := Grew.cell hG' (show w.drew.cell? _ = _ from c0)
          have hx1 := Grew.cell hG' (show w.drew.cell? _ = _ from c1)
          go_simp <;> with_reducible rfl
        simp only [List.setIfInBounds_toArray, List.set_cons_zero, List.set_cons_succ]
        refine wpAnyG_pure 8 13 (v := ?_) rfl (by kernel_rfl) rfl (by rfl) (fun w' => ?_) ?_
        rotate_left
        · go_simp <;> with_reducible rfl
        simp only [List.setIfInBounds_toArray, List.set_cons_zero, List.set_cons_succ]
        refine wpAnyG_pure 9 14 (v := ?_) rfl (by kernel_rfl) rfl (by rfl) (fun w' => ?_) ?_
        rotate_left
        · go_simp <;> with_reducible rfl
        simp only [List.setIfInBounds_toArray, List.set_cons_zero, List.set_cons_succ]
        refine wpAnyG_pure 10 15 (v := ?_) rfl (by kernel_rfl) rfl (by rfl) (fun w' => ?_) ?_
        rotate_left
        · go_simp <;> with_reducible rfl
        simp only [List.setIfInBounds_toArray, List.set_cons_zero, List.set_cons_succ]
        refine wpAnyG_done (by kernel_rfl) ?_
        clear c0 c1
        have hC0 := Lib.hid (show w.cell? _ = _ ∧ w.cell? _ = _ from ⟨cc0, cc1⟩)
        clear cc0 cc1
        go_wp2_with fail
        go_loopw [4, 15] (fun _ i wr => i = .int .i64 0 ∧ Grew w wr) (fun _ _ _ => 0)
        case atStart => exact ⟨rfl, (Kept.refl _ _).drew⟩
        case round =>
          obtain ⟨rfl, hG⟩ := hrel
          have c0 := Grew.cell hG hC0.out.1
          have c1 := Grew.cell hG hC0.out.2
          go_wp2_with fail
          refine wp_region_grow [] (fun _ => False) (by kernel_rfl) ?_
          simp only [List.size_toArray, List.length_cons, List.length_nil, Nat.reduceAdd]
          refine wpAnyG_pure 0 22 (v := ?_) rfl (by kernel_rfl) rfl (by rfl) (fun w' => ?_) ?_
          rotate_left
          · go_simp <;> with_reducible rfl
          simp only [List.setIfInBounds_toArray, List.set_cons_zero, List.set_cons_succ]
          refine wpAnyG_pure 1 23 (v := ?_) rfl (by kernel_rfl) rfl (by rfl) (fun w' => ?_) ?_
          rotate_left
          · go_simp <;> with_reducible rfl
          simp only [List.setIfInBounds_toArray, List.set_cons_zero, List.set_cons_succ]
          refine wpAnyG_pure 2 24 (v := ?_) rfl (by kernel_rfl) rfl (by rfl) (fun w' => ?_) ?_
          rotate_left
          · go_simp <;> with_reducible rfl
          simp only [List.setIfInBounds_toArray, List.set_cons_zero, List.set_cons_succ]
          refine wpAnyG_take 3 25 (v := ?_) rfl (by kernel_rfl) rfl (by rfl) (fun w' hG' => ?_) ?_
          rotate_left
          · have hx0 := Grew.cell hG' (show wr.drew.cell? _ = _ from c0)
            have hx1 := Grew.cell hG' (show wr.drew.cell? _ = _ from c1)
            go_simp <;> with_reducible rfl
          simp only [List.setIfInBounds_toArray, List.set_cons_zero, List.set_cons_succ]
          refine wpAnyG_pure 4 26 (v := ?_) rfl (by kernel_rfl) rfl (by rfl) (fun w' => ?_) ?_
          rotate_left
          · go_simp <;> with_reducible rfl
          simp only [List.setIfInBounds_toArray, List.set_cons_zero, List.set_cons_succ]
          refine wpAnyG_pure 5 27 (v := ?_) rfl (by kernel_rfl) rfl (by rfl) (fun w' => ?_) ?_
          rotate_left
          · go_simp <;> with_reducible rfl
          simp only [List.setIfInBounds_toArray, List.set_cons_zero, List.set_cons_succ]
          refine wpAnyG_pure 6 28 (v := ?_) rfl (by kernel_rfl) rfl (by rfl) (fun w' => ?_) ?_
          rotate_left
          · go_simp <;> with_reducible rfl
          simp only [List.setIfInBounds_toArray, List.set_cons_zero, List.set_cons_succ]
          refine wpAnyG_pure 7 29 (v := ?_) rfl (by kernel_rfl) rfl (by rfl) (fun w' => ?_) ?_
          rotate_left
          · go_simp <;> with_reducible rfl
          simp only [List.setIfInBounds_toArray, List.set_cons_zero, List.set_cons_succ]
          refine wpAnyG_take 8 30 (v := ?_) rfl (by kernel_rfl) rfl (by rfl) (fun w' hG' => ?_) ?_
          rotate_left
          · have hx0 := Grew.cell hG' (show wr.drew.cell? _ = _ from c0)
            have hx1 := Grew.cell hG' (show wr.drew.cell? _ = _ from c1)
            go_simp <;> with_reducible rfl
          simp only [List.setIfInBounds_toArray, List.set_cons_zero, List.set_cons_succ]
          refine wpAnyG_pure 9 31 (v := ?_) rfl (by kernel_rfl) rfl (by rfl) (fun w' => ?_) ?_
          rotate_left
          · go_simp <;> with_reducible rfl
          simp only [List.setIfInBounds_toArray, List.set_cons_zero, List.set_cons_succ]
          refine wpAnyG_pure 10 32 (v := ?_) rfl (by kernel_rfl) rfl (by rfl) (fun w' => ?_) ?_
          rotate_left
          · go_simp <;> with_reducible rfl
          simp only [List.setIfInBounds_toArray, List.set_cons_zero, List.set_cons_succ]
          refine wpAnyG_pure 11 2 (v := ?_) rfl (by kernel_rfl) rfl (by rfl) (fun w' => ?_) ?_
          rotate_left
          · go_simp <;> with_reducible rfl
          simp only [List.setIfInBounds_toArray, List.set_cons_zero, List.set_cons_succ]
          refine wpAnyG_done (by kernel_rfl) ?_
          go_wp2_with fail
          go_ret
          exact ⟨_, rfl, hG.drew⟩
      | some a => as_aux_lemma =>
        have hZ := Lib.hid (rowZ_none w (some (a.add p)) (sh z p))
        have cc0 := c0
        have cc1 := c1

        clear h hs hcap hp
        go_enter Try.func35, Try.ntmps35
        go_wp2_with fail
        refine wp_region_grow [] (fun _ => False) (by kernel_rfl) ?_
        simp only [List.size_toArray, List.length_cons, List.length_nil, Nat.reduceAdd]
        refine wpAnyG_pure 0 5 (v := ?_) rfl (by kernel_rfl) rfl (by rfl) (fun w' => ?_) ?_
        rotate_left
        · go_simp <;> with_reducible rfl
        simp only [List.setIfInBounds_toArray, List.set_cons_zero, List.set_cons_succ]
        refine wpAnyG_pure 1 6 (v := ?_) rfl (by kernel_rfl) rfl (by rfl) (fun w' => ?_) ?_
        rotate_left
        · go_simp <;> with_reducible rfl
        simp only [List.setIfInBounds_toArray, List.set_cons_zero, List.set_cons_succ]
        refine wpAnyG_pure 2 7 (v := ?_) rfl (by kernel_rfl) rfl (by rfl) (fun w' => ?_) ?_
        rotate_left
        · go_simp <;> with_reducible rfl
        simp only [List.setIfInBounds_toArray, List.set_cons_zero, List.set_cons_succ]
        refine wpAnyG_take 3 8 (v := ?_) rfl (by kernel_rfl) rfl (by rfl) (fun w' hG' => ?_) ?_
        rotate_left
        · have hx0 := Grew.cell hG' (show w.drew.cell? _ = _ from c0)
          have hx1 := Grew.cell hG' (show w.drew.cell? _ = _ from c1)
          go_simp <;> with_reducible rfl
        simp only [List.setIfInBounds_toArray, List.set_cons_zero, List.set_cons_succ]
        refine wpAnyG_pure 4 9 (v := ?_) rfl (by kernel_rfl) rfl (by rfl) (fun w' => ?_) ?_
        rotate_left
        · go_simp <;> with_reducible rfl
        simp only [List.setIfInBounds_toArray, List.set_cons_zero, List.set_cons_succ]
        refine wpAnyG_pure 5 10 (v := ?_) rfl (by kernel_rfl) rfl (by rfl) (fun w' => ?_) ?_
        rotate_left
        · go_simp <;> with_reducible rfl
        simp only [List.setIfInBounds_toArray, List.set_cons_zero, List.set_cons_succ]
        refine wpAnyG_pure 6 11 (v := ?_) rfl (by kernel_rfl) rfl (by rfl) (fun w' => ?_) ?_
        rotate_left
        · go_simp <;> with_reducible rfl
        simp only [List.setIfInBounds_toArray, List.set_cons_zero, List.set_cons_succ]
        refine wpAnyG_take 7 12 (v := ?_) rfl (by kernel_rfl) rfl (by rfl) (fun w' hG' => ?_) ?_
        rotate_left
        · have hx0 := Grew.cell hG' (show w.drew.cell? _ = _ from c0)
          have hx1 := Grew.cell hG' (show w.drew.cell? _ = _ from c1)
          go_simp <;> with_reducible rfl
        simp only [List.setIfInBounds_toArray, List.set_cons_zero, List.set_cons_succ]
        refine wpAnyG_pure 8 13 (v := ?_) rfl (by kernel_rfl) rfl (by rfl) (fun w' => ?_) ?_
        rotate_left
        · go_simp <;> with_reducible rfl
        simp only [List.setIfInBounds_toArray, List.set_cons_zero, List.set_cons_succ]
        refine wpAnyG_pure 9 14 (v := ?_) rfl (by kernel_rfl) rfl (by rfl) (fun w' => ?_) ?_
        rotate_left
        · go_simp <;> with_reducible rfl
        simp only [List.setIfInBounds_toArray, List.set_cons_zero, List.set_cons_succ]
        refine wpAnyG_pure 10 15 (v := ?_) rfl (by kernel_rfl) rfl (by rfl) (fun w' => ?_) ?_
        rotate_left
        · go_simp <;> with_reducible rfl
        simp only [List.setIfInBounds_toArray, List.set_cons_zero, List.set_cons_succ]
        refine wpAnyG_done (by kernel_rfl) ?_
        clear c0 c1
        have hC0 := Lib.hid (show w.cell? _ = _ ∧ w.cell? _ = _ from ⟨cc0, cc1⟩)
        clear cc0 cc1
        go_wp2_with fail
        go_loopw [4, 15] (fun _ i wr => i = .int .i64 0 ∧ Grew w wr) (fun _ _ _ => 0)
        case atStart => exact ⟨rfl, (Kept.refl _ _).drew⟩
        case round =>
          obtain ⟨rfl, hG⟩ := hrel
          have c0 := Grew.cell hG hC0.out.1
          have c1 := Grew.cell hG hC0.out.2
          go_wp2_with fail
          refine wp_region_grow [] (fun _ => False) (by kernel_rfl) ?_
          simp only [List.size_toArray, List.length_cons, List.length_nil, Nat.reduceAdd]
          refine wpAnyG_pure 0 22 (v := ?_) rfl (by kernel_rfl) rfl (by rfl) (fun w' => ?_) ?_
          rotate_left
          · go_simp <;> with_reducible rfl
          simp only [List.setIfInBounds_toArray, List.set_cons_zero, List.set_cons_succ]
          refine wpAnyG_pure 1 23 (v := ?_) rfl (by kernel_rfl) rfl (by rfl) (fun w' => ?_) ?_
          rotate_left
          · go_simp <;> with_reducible rfl
          simp only [List.setIfInBounds_toArray, List.set_cons_zero, List.set_cons_succ]
          refine wpAnyG_pure 2 24 (v := ?_) rfl (by kernel_rfl) rfl (by rfl) (fun w' => ?_) ?_
          rotate_left
          · go_simp <;> with_reducible rfl
          simp only [List.setIfInBounds_toArray, List.set_cons_zero, List.set_cons_succ]
          refine wpAnyG_take 3 25 (v := ?_) rfl (by kernel_rfl) rfl (by rfl) (fun w' hG' => ?_) ?_
          rotate_left
          · have hx0 := Grew.cell hG' (show wr.drew.cell? _ = _ from c0)
            have hx1 := Grew.cell hG' (show wr.drew.cell? _ = _ from c1)
            go_simp <;> with_reducible rfl
          simp only [List.setIfInBounds_toArray, List.set_cons_zero, List.set_cons_succ]
          refine wpAnyG_pure 4 26 (v := ?_) rfl (by kernel_rfl) rfl (by rfl) (fun w' => ?_) ?_
          rotate_left
          · go_simp <;> with_reducible rfl
          simp only [List.setIfInBounds_toArray, List.set_cons_zero, List.set_cons_succ]
          refine wpAnyG_pure 5 27 (v := ?_) rfl (by kernel_rfl) rfl (by rfl) (fun w' => ?_) ?_
          rotate_left
          · go_simp <;> with_reducible rfl
          simp only [List.setIfInBounds_toArray, List.set_cons_zero, List.set_cons_succ]
          refine wpAnyG_pure 6 28 (v := ?_) rfl (by kernel_rfl) rfl (by rfl) (fun w' => ?_) ?_
          rotate_left
          · go_simp <;> with_reducible rfl
          simp only [List.setIfInBounds_toArray, List.set_cons_zero, List.set_cons_succ]
          refine wpAnyG_pure 7 29 (v := ?_) rfl (by kernel_rfl) rfl (by rfl) (fun w' => ?_) ?_
          rotate_left
          · go_simp <;> with_reducible rfl
          simp only [List.setIfInBounds_toArray, List.set_cons_zero, List.set_cons_succ]
          refine wpAnyG_take 8 30 (v := ?_) rfl (by kernel_rfl) rfl (by rfl) (fun w' hG' => ?_) ?_
          rotate_left
          · have hx0 := Grew.cell hG' (show wr.drew.cell? _ = _ from c0)
            have hx1 := Grew.cell hG' (show wr.drew.cell? _ = _ from c1)
            go_simp <;> with_reducible rfl
          simp only [List.setIfInBounds_toArray, List.set_cons_zero, List.set_cons_succ]
          refine wpAnyG_pure 9 31 (v := ?_) rfl (by kernel_rfl) rfl (by rfl) (fun w' => ?_) ?_
          rotate_left
          · go_simp <;> with_reducible rfl
          simp only [List.setIfInBounds_toArray, List.set_cons_zero, List.set_cons_succ]
          refine wpAnyG_pure 10 32 (v := ?_) rfl (by kernel_rfl) rfl (by rfl) (fun w' => ?_) ?_
          rotate_left
          · go_simp <;> with_reducible rfl
          simp only [List.setIfInBounds_toArray, List.set_cons_zero, List.set_cons_succ]
          refine wpAnyG_pure 11 2 (v := ?_) rfl (by kernel_rfl) rfl (by rfl) (fun w' => ?_) ?_
          rotate_left
          · go_simp <;> with_reducible rfl
          simp only [List.setIfInBounds_toArray, List.set_cons_zero, List.set_cons_succ]
          refine wpAnyG_done (by kernel_rfl) ?_
          go_wp2_with fail
          go_ret
          exact ⟨_, rfl, hG.drew⟩

/-- What number answers: the number there, if it is one, and may be; else it panics. -/
def NumE (z : Nat → Int) (len p least most R : Nat) (A : Option Addr) (cap : Nat) (w : World) (e : Ending) (w' : World) : Prop :=
  (∃ n p', Tk z len p n p' ∧ least ≤ n ∧ n ≤ most ∧ e = .returned (.int .u64 n) ∧ Rd w' R A len cap p' ∧ Kept (· = R) w w') ∨
  ((∀ n p', Tk z len p n p' → ¬ (least ≤ n ∧ n ≤ most)) ∧ ∃ q, e = .panicked (wrongs q) ∧ Kept (· = R) w w')
set_option maxHeartbeats 4000000 in
set_option maxRecDepth 100000 in
theorem number_read (R : Nat) (A : Option Addr) (len cap p least most : Nat) (z : Nat → Int) (w : World) (h : Rd w R A len cap p) (hs : Src w A len cap z) (hp : p ≤ len) (hl : len ≤ 100000) :
    Calls Try.prog 20 #[pt R, .int .u64 least, .int .u64 most] w fun e w' => NumE z len p least most R A cap w e w' := by
  have c0 := h.cell 0
  have c1 := h.cell 1
  have f1 := h.frozen 1
  simp at c0 c1
  have hcap := hs.cap
  have p0 : (0 : Int) ≤ (p : Int) := by omega
  have p1 : (p : Int) ≤ (len : Int) := by omega
  have p2 : (len : Int) ≤ (cap : Int) := by omega
  have p3 : (p : Int) ≤ (cap : Int) := by omega
  have hEar := Lib.hid (fun W (g : Grew w W) => early_any R A len cap p z W (h.grew g) (hs.grew g) hp hl)
  have hH := Lib.hid h
  rcases Nat.lt_or_ge p len with hpl | hpl
  · as_aux_lemma =>
    obtain ⟨b, off, rfl, _, _⟩ := hs.row.2 p hpl
    have hZ := Lib.hid (hs.from' (p := p))
    have p4 : (p : Int) < (cap : Int) := by omega
    have p5 : ¬ (cap = p) := by omega
    have p6 : cap - p ≠ 0 := by omega
    rcases tk_or z len p hp hs.range with hsome | hnone
    · as_aux_lemma =>
      obtain ⟨n, p', hTk, hq⟩ := hsome
      have hpp := hTk.2
      have hT : Hid (Calls Try.prog 14 #[.slice (some ⟨b, off + p, none⟩) (len - p) (cap - p)] w.drew fun e w' => e = .returned (.tuple #[.int .u64 n, .int .i64 ((p' - p : Nat) : Int), .bool true]) ∧ w.drew = w') := by
        have := take_any ((some ⟨b, off + p, none⟩)) (len - p) (cap - p) (sh z p) w.drew hZ.out
        rw [show takeF (sh z p) (len - p) = ((n : Int), ((p' - p : Nat) : Int), true) from hq] at this
        exact this
      obtain ⟨sz, hsz⟩ : ∃ s, p' - p = s := ⟨_, rfl⟩
      rw [hsz] at hT
      have HTk := Lib.hid hTk
      have esum : (p : Int) + (sz : Int) = (p' : Int) := by omega
      have wsum : IntKind.i64.wrap (p' : Int) = (p' : Int) := Go.IntWalk.i64_in _ (by omega)
      clear hq hTk hZ hEar hsz
      by_cases h1 : n < least
      · as_aux_lemma =>
        have l1 : (n : Int) < (least : Int) := by omega
        have l2 : decide (n < least) = true := decide_eq_true h1
        have hno : Hid (∀ m q, Tk z len p m q → ¬ (least ≤ m ∧ m ≤ most)) := fun m q hm hh => by
          have := (HTk.out.same hm).1
          omega
        clear HTk
        clear h hs hcap hp
        go_enter Try.func20, Try.ntmps20
        go_wp2_with fail
        refine wp_region_grow [] (fun _ => False) (by kernel_rfl) ?_
        simp only [List.size_toArray, List.length_cons, List.length_nil, Nat.reduceAdd]
        refine wpAnyG_pure 0 11 (v := ?_) rfl (by kernel_rfl) rfl (by rfl) (fun w' => ?_) ?_
        rotate_left
        · go_simp <;> with_reducible rfl
        simp only [List.setIfInBounds_toArray, List.set_cons_zero, List.set_cons_succ]
        refine wpAnyG_pure 1 12 (v := ?_) rfl (by kernel_rfl) rfl (by rfl) (fun w' => ?_) ?_
        rotate_left
        · go_simp <;> with_reducible rfl
        simp only [List.setIfInBounds_toArray, List.set_cons_zero, List.set_cons_succ]
        refine wpAnyG_pure 2 13 (v := ?_) rfl (by kernel_rfl) rfl (by rfl) (fun w' => ?_) ?_
        rotate_left
        · go_simp <;> with_reducible rfl
        simp only [List.setIfInBounds_toArray, List.set_cons_zero, List.set_cons_succ]
        refine wpAnyG_take 3 14 (v := ?_) rfl (by kernel_rfl) rfl (by rfl) (fun w' hG' => ?_) ?_
        rotate_left
        · have hx0 := Grew.cell hG' (show w.drew.cell? _ = _ from c0)
          have hx1 := Grew.cell hG' (show w.drew.cell? _ = _ from c1)
          go_simp <;> with_reducible rfl
        simp only [List.setIfInBounds_toArray, List.set_cons_zero, List.set_cons_succ]
        refine wpAnyG_pure 4 15 (v := ?_) rfl (by kernel_rfl) rfl (by rfl) (fun w' => ?_) ?_
        rotate_left
        · go_simp <;> with_reducible rfl
        simp only [List.setIfInBounds_toArray, List.set_cons_zero, List.set_cons_succ]
        refine wpAnyG_pure 5 16 (v := ?_) rfl (by kernel_rfl) rfl (by rfl) (fun w' => ?_) ?_
        rotate_left
        · go_simp <;> with_reducible rfl
        simp only [List.setIfInBounds_toArray, List.set_cons_zero, List.set_cons_succ]
        refine wpAnyG_pure 6 17 (v := ?_) rfl (by kernel_rfl) rfl (by rfl) (fun w' => ?_) ?_
        rotate_left
        · go_simp <;> with_reducible rfl
        simp only [List.setIfInBounds_toArray, List.set_cons_zero, List.set_cons_succ]
        refine wpAnyG_take 7 18 (v := ?_) rfl (by kernel_rfl) rfl (by rfl) (fun w' hG' => ?_) ?_
        rotate_left
        · have hx0 := Grew.cell hG' (show w.drew.cell? _ = _ from c0)
          have hx1 := Grew.cell hG' (show w.drew.cell? _ = _ from c1)
          go_simp <;> with_reducible rfl
        simp only [List.setIfInBounds_toArray, List.set_cons_zero, List.set_cons_succ]
        refine wpAnyG_pure 8 19 (v := ?_) rfl (by kernel_rfl) rfl (by rfl) (fun w' => ?_) ?_
        rotate_left
        · go_simp <;> with_reducible rfl
        simp only [List.setIfInBounds_toArray, List.set_cons_zero, List.set_cons_succ]
        refine wpAnyG_step 9 20 rfl (by kernel_rfl) rfl (by rfl) (fun K hK' => ?_)
        go_simp
        refine hT.out.mono ?_
        rintro e wS ⟨rfl, rfl⟩
        refine hK' _ _ (fun _ => Kept.refl _ _) ?_
        clear hK'
        simp only [List.setIfInBounds_toArray, List.set_cons_zero, List.set_cons_succ]
        refine wpAnyG_pure 10 10 (v := ?_) rfl (by kernel_rfl) rfl (by rfl) (fun w' => ?_) ?_
        rotate_left
        · go_simp <;> with_reducible rfl
        simp only [List.setIfInBounds_toArray, List.set_cons_zero, List.set_cons_succ]
        refine wpAnyG_pure 11 21 (v := ?_) rfl (by kernel_rfl) rfl (by rfl) (fun w' => ?_) ?_
        rotate_left
        · go_simp <;> with_reducible rfl
        simp only [List.setIfInBounds_toArray, List.set_cons_zero, List.set_cons_succ]
        refine wpAnyG_pure 12 22 (v := ?_) rfl (by kernel_rfl) rfl (by rfl) (fun w' => ?_) ?_
        rotate_left
        · go_simp <;> with_reducible rfl
        simp only [List.setIfInBounds_toArray, List.set_cons_zero, List.set_cons_succ]
        refine wpAnyG_pure 13 23 (v := ?_) rfl (by kernel_rfl) rfl (by rfl) (fun w' => ?_) ?_
        rotate_left
        · go_simp <;> with_reducible rfl
        simp only [List.setIfInBounds_toArray, List.set_cons_zero, List.set_cons_succ]
        refine wpAnyG_pure 14 7 (v := ?_) rfl (by kernel_rfl) rfl (by rfl) (fun w' => ?_) ?_
        rotate_left
        · go_simp <;> with_reducible rfl
        simp only [List.setIfInBounds_toArray, List.set_cons_zero, List.set_cons_succ]
        refine wpAnyG_pure 15 8 (v := ?_) rfl (by kernel_rfl) rfl (by rfl) (fun w' => ?_) ?_
        rotate_left
        · go_simp <;> with_reducible rfl
        simp only [List.setIfInBounds_toArray, List.set_cons_zero, List.set_cons_succ]
        refine wpAnyG_pure 16 9 (v := ?_) rfl (by kernel_rfl) rfl (by rfl) (fun w' => ?_) ?_
        rotate_left
        · go_simp <;> with_reducible rfl
        simp only [List.setIfInBounds_toArray, List.set_cons_zero, List.set_cons_succ]
        refine wpAnyG_done (by kernel_rfl) ?_
        go_wp2_with fail
        exact ⟨rfl, .inr ⟨hno.out, _, rfl, Grew.kept (Kept.refl _ _).drew⟩⟩
      · by_cases h2 : most < n
        · as_aux_lemma =>
          have l1 : (least : Int) ≤ (n : Int) := by omega
          have l2 : (most : Int) < (n : Int) := by omega
          have l3 : decide (n < least) = false := decide_eq_false h1
          have l4 : decide (most < n) = true := decide_eq_true h2
          have hno : Hid (∀ m q, Tk z len p m q → ¬ (least ≤ m ∧ m ≤ most)) := fun m q hm hh => by
            have := (HTk.out.same hm).1
            omega
          clear HTk
          clear h hs hcap hp
          go_enter Try.func20, Try.ntmps20
          go_wp2_with fail
          refine wp_region_grow [] (fun _ => False) (by kernel_rfl) ?_
          simp only [List.size_toArray, List.length_cons, List.length_nil, Nat.reduceAdd]
          refine wpAnyG_pure 0 11 (v := ?_) rfl (by kernel_rfl) rfl (by rfl) (fun w' => ?_) ?_
          rotate_left
          · go_simp <;> with_reducible rfl
          simp only [List.setIfInBounds_toArray, List.set_cons_zero, List.set_cons_succ]
          refine wpAnyG_pure 1 12 (v := ?_) rfl (by kernel_rfl) rfl (by rfl) (fun w' => ?_) ?_
          rotate_left
          · go_simp <;> with_reducible rfl
          simp only [List.setIfInBounds_toArray, List.set_cons_zero, List.set_cons_succ]
          refine wpAnyG_pure 2 13 (v := ?_) rfl (by kernel_rfl) rfl (by rfl) (fun w' => ?_) ?_
          rotate_left
          · go_simp <;> with_reducible rfl
          simp only [List.setIfInBounds_toArray, List.set_cons_zero, List.set_cons_succ]
          refine wpAnyG_take 3 14 (v := ?_) rfl (by kernel_rfl) rfl (by rfl) (fun w' hG' => ?_) ?_
          rotate_left
          · have hx0 := Grew.cell hG' (show w.drew.cell? _ = _ from c0)
            have hx1 := Grew.cell hG' (show w.drew.cell? _ = _ from c1)
            go_simp <;> with_reducible rfl
          simp only [List.setIfInBounds_toArray, List.set_cons_zero, List.set_cons_succ]
          refine wpAnyG_pure 4 15 (v := ?_) rfl (by kernel_rfl) rfl (by rfl) (fun w' => ?_) ?_
          rotate_left
          · go_simp <;> with_reducible rfl
          simp only [List.setIfInBounds_toArray, List.set_cons_zero, List.set_cons_succ]
          refine wpAnyG_pure 5 16 (v := ?_) rfl (by kernel_rfl) rfl (by rfl) (fun w' => ?_) ?_
          rotate_left
          · go_simp <;> with_reducible rfl
          simp only [List.setIfInBounds_toArray, List.set_cons_zero, List.set_cons_succ]
          refine wpAnyG_pure 6 17 (v := ?_) rfl (by kernel_rfl) rfl (by rfl) (fun w' => ?_) ?_
          rotate_left
          · go_simp <;> with_reducible rfl
          simp only [List.setIfInBounds_toArray, List.set_cons_zero, List.set_cons_succ]
          refine wpAnyG_take 7 18 (v := ?_) rfl (by kernel_rfl) rfl (by rfl) (fun w' hG' => ?_) ?_
          rotate_left
          · have hx0 := Grew.cell hG' (show w.drew.cell? _ = _ from c0)
            have hx1 := Grew.cell hG' (show w.drew.cell? _ = _ from c1)
            go_simp <;> with_reducible rfl
          simp only [List.setIfInBounds_toArray, List.set_cons_zero, List.set_cons_succ]
          refine wpAnyG_pure 8 19 (v := ?_) rfl (by kernel_rfl) rfl (by rfl) (fun w' => ?_) ?_
          rotate_left
          · go_simp <;> with_reducible rfl
          simp only [List.setIfInBounds_toArray, List.set_cons_zero, List.set_cons_succ]
          refine wpAnyG_step 9 20 rfl (by kernel_rfl) rfl (by rfl) (fun K hK' => ?_)
          go_simp
          refine hT.out.mono ?_
          rintro e wS ⟨rfl, rfl⟩
          refine hK' _ _ (fun _ => Kept.refl _ _) ?_
          clear hK'
          simp only [List.setIfInBounds_toArray, List.set_cons_zero, List.set_cons_succ]
          refine wpAnyG_pure 10 10 (v := ?_) rfl (by kernel_rfl) rfl (by rfl) (fun w' => ?_) ?_
          rotate_left
          · go_simp <;> with_reducible rfl
          simp only [List.setIfInBounds_toArray, List.set_cons_zero, List.set_cons_succ]
          refine wpAnyG_pure 11 21 (v := ?_) rfl (by kernel_rfl) rfl (by rfl) (fun w' => ?_) ?_
          rotate_left
          · go_simp <;> with_reducible rfl
          simp only [List.setIfInBounds_toArray, List.set_cons_zero, List.set_cons_succ]
          refine wpAnyG_pure 12 22 (v := ?_) rfl (by kernel_rfl) rfl (by rfl) (fun w' => ?_) ?_
          rotate_left
          · go_simp <;> with_reducible rfl
          simp only [List.setIfInBounds_toArray, List.set_cons_zero, List.set_cons_succ]
          refine wpAnyG_pure 13 23 (v := ?_) rfl (by kernel_rfl) rfl (by rfl) (fun w' => ?_) ?_
          rotate_left
          · go_simp <;> with_reducible rfl
          simp only [List.setIfInBounds_toArray, List.set_cons_zero, List.set_cons_succ]
          refine wpAnyG_pure 14 7 (v := ?_) rfl (by kernel_rfl) rfl (by rfl) (fun w' => ?_) ?_
          rotate_left
          · go_simp <;> with_reducible rfl
          simp only [List.setIfInBounds_toArray, List.set_cons_zero, List.set_cons_succ]
          refine wpAnyG_pure 15 8 (v := ?_) rfl (by kernel_rfl) rfl (by rfl) (fun w' => ?_) ?_
          rotate_left
          · go_simp <;> with_reducible rfl
          simp only [List.setIfInBounds_toArray, List.set_cons_zero, List.set_cons_succ]
          refine wpAnyG_pure 16 9 (v := ?_) rfl (by kernel_rfl) rfl (by rfl) (fun w' => ?_) ?_
          rotate_left
          · go_simp <;> with_reducible rfl
          simp only [List.setIfInBounds_toArray, List.set_cons_zero, List.set_cons_succ]
          refine wpAnyG_done (by kernel_rfl) ?_
          go_wp2_with fail
          exact ⟨rfl, .inr ⟨hno.out, _, rfl, Grew.kept (Kept.refl _ _).drew⟩⟩
        · as_aux_lemma =>
          have l1 : (least : Int) ≤ (n : Int) := by omega
          have l2 : (n : Int) ≤ (most : Int) := by omega
          have l3 : decide (n < least) = false := decide_eq_false h1
          have l4 : decide (most < n) = false := decide_eq_false h2
          have hfin : Hid (NumE z len p least most R (some ⟨b, off, none⟩) cap w (.returned (.int .u64 n)) (w.drew.setCell ⟨R, 1, none⟩ (i64 p'))) := by
            have hb := hH.out.drew.set 1 (i64 p')
            simp at hb
            exact .inl ⟨n, p', HTk.out, by omega, by omega, rfl, hb, (Kept.refl (· = R) w).drew.setCell (p := ⟨R, 1, none⟩) (.inl rfl) _⟩
          clear HTk hH
          clear h hs hcap hp
          go_enter Try.func20, Try.ntmps20
          go_wp2_with fail
          refine wp_region_grow [] (fun _ => False) (by kernel_rfl) ?_
          simp only [List.size_toArray, List.length_cons, List.length_nil, Nat.reduceAdd]
          refine wpAnyG_pure 0 11 (v := ?_) rfl (by kernel_rfl) rfl (by rfl) (fun w' => ?_) ?_
          rotate_left
          · go_simp <;> with_reducible rfl
          simp only [List.setIfInBounds_toArray, List.set_cons_zero, List.set_cons_succ]
          refine wpAnyG_pure 1 12 (v := ?_) rfl (by kernel_rfl) rfl (by rfl) (fun w' => ?_) ?_
          rotate_left
          · go_simp <;> with_reducible rfl
          simp only [List.setIfInBounds_toArray, List.set_cons_zero, List.set_cons_succ]
          refine wpAnyG_pure 2 13 (v := ?_) rfl (by kernel_rfl) rfl (by rfl) (fun w' => ?_) ?_
          rotate_left
          · go_simp <;> with_reducible rfl
          simp only [List.setIfInBounds_toArray, List.set_cons_zero, List.set_cons_succ]
          refine wpAnyG_take 3 14 (v := ?_) rfl (by kernel_rfl) rfl (by rfl) (fun w' hG' => ?_) ?_
          rotate_left
          · have hx0 := Grew.cell hG' (show w.drew.cell? _ = _ from c0)
            have hx1 := Grew.cell hG' (show w.drew.cell? _ = _ from c1)
            go_simp <;> with_reducible rfl
          simp only [List.setIfInBounds_toArray, List.set_cons_zero, List.set_cons_succ]
          refine wpAnyG_pure 4 15 (v := ?_) rfl (by kernel_rfl) rfl (by rfl) (fun w' => ?_) ?_
          rotate_left
          · go_simp <;> with_reducible rfl
          simp only [List.setIfInBounds_toArray, List.set_cons_zero, List.set_cons_succ]
          refine wpAnyG_pure 5 16 (v := ?_) rfl (by kernel_rfl) rfl (by rfl) (fun w' => ?_) ?_
          rotate_left
          · go_simp <;> with_reducible rfl
          simp only [List.setIfInBounds_toArray, List.set_cons_zero, List.set_cons_succ]
          refine wpAnyG_pure 6 17 (v := ?_) rfl (by kernel_rfl) rfl (by rfl) (fun w' => ?_) ?_
          rotate_left
          · go_simp <;> with_reducible rfl
          simp only [List.setIfInBounds_toArray, List.set_cons_zero, List.set_cons_succ]
          refine wpAnyG_take 7 18 (v := ?_) rfl (by kernel_rfl) rfl (by rfl) (fun w' hG' => ?_) ?_
          rotate_left
          · have hx0 := Grew.cell hG' (show w.drew.cell? _ = _ from c0)
            have hx1 := Grew.cell hG' (show w.drew.cell? _ = _ from c1)
            go_simp <;> with_reducible rfl
          simp only [List.setIfInBounds_toArray, List.set_cons_zero, List.set_cons_succ]
          refine wpAnyG_pure 8 19 (v := ?_) rfl (by kernel_rfl) rfl (by rfl) (fun w' => ?_) ?_
          rotate_left
          · go_simp <;> with_reducible rfl
          simp only [List.setIfInBounds_toArray, List.set_cons_zero, List.set_cons_succ]
          refine wpAnyG_step 9 20 rfl (by kernel_rfl) rfl (by rfl) (fun K hK' => ?_)
          go_simp
          refine hT.out.mono ?_
          rintro e wS ⟨rfl, rfl⟩
          refine hK' _ _ (fun _ => Kept.refl _ _) ?_
          clear hK'
          simp only [List.setIfInBounds_toArray, List.set_cons_zero, List.set_cons_succ]
          refine wpAnyG_pure 10 10 (v := ?_) rfl (by kernel_rfl) rfl (by rfl) (fun w' => ?_) ?_
          rotate_left
          · go_simp <;> with_reducible rfl
          simp only [List.setIfInBounds_toArray, List.set_cons_zero, List.set_cons_succ]
          refine wpAnyG_pure 11 21 (v := ?_) rfl (by kernel_rfl) rfl (by rfl) (fun w' => ?_) ?_
          rotate_left
          · go_simp <;> with_reducible rfl
          simp only [List.setIfInBounds_toArray, List.set_cons_zero, List.set_cons_succ]
          refine wpAnyG_pure 12 22 (v := ?_) rfl (by kernel_rfl) rfl (by rfl) (fun w' => ?_) ?_
          rotate_left
          · go_simp <;> with_reducible rfl
          simp only [List.setIfInBounds_toArray, List.set_cons_zero, List.set_cons_succ]
          refine wpAnyG_pure 13 23 (v := ?_) rfl (by kernel_rfl) rfl (by rfl) (fun w' => ?_) ?_
          rotate_left
          · go_simp <;> with_reducible rfl
          simp only [List.setIfInBounds_toArray, List.set_cons_zero, List.set_cons_succ]
          refine wpAnyG_pure 14 7 (v := ?_) rfl (by kernel_rfl) rfl (by rfl) (fun w' => ?_) ?_
          rotate_left
          · go_simp <;> with_reducible rfl
          simp only [List.setIfInBounds_toArray, List.set_cons_zero, List.set_cons_succ]
          refine wpAnyG_pure 15 8 (v := ?_) rfl (by kernel_rfl) rfl (by rfl) (fun w' => ?_) ?_
          rotate_left
          · go_simp <;> with_reducible rfl
          simp only [List.setIfInBounds_toArray, List.set_cons_zero, List.set_cons_succ]
          refine wpAnyG_pure 16 9 (v := ?_) rfl (by kernel_rfl) rfl (by rfl) (fun w' => ?_) ?_
          rotate_left
          · go_simp <;> with_reducible rfl
          simp only [List.setIfInBounds_toArray, List.set_cons_zero, List.set_cons_succ]
          refine wpAnyG_done (by kernel_rfl) ?_
          go_wp2_with fail
          go_ret
          exact hfin.out
    · as_aux_lemma =>
      obtain ⟨⟨v, s, hq⟩, hno⟩ := hnone
      have hT : Hid (Calls Try.prog 14 #[.slice (some ⟨b, off + p, none⟩) (len - p) (cap - p)] w.drew fun e w' => e = .returned (.tuple #[.int .u64 v, .int .i64 s, .bool false]) ∧ w.drew = w') := by
        have := take_any ((some ⟨b, off + p, none⟩)) (len - p) (cap - p) (sh z p) w.drew hZ.out
        rw [show takeF (sh z p) (len - p) = (v, s, false) from hq] at this
        exact this
      have HNO := Lib.hid hno
      have hKD : Grew w w.drew := (Kept.refl _ _).drew
      have hE := Lib.hid (hEar.out w.drew hKD)
      clear hq hno hZ hEar

      clear h hs hcap hp
      go_enter Try.func20, Try.ntmps20
      go_wp2_with fail
      refine wp_region_grow [] (fun _ => False) (by kernel_rfl) ?_
      simp only [List.size_toArray, List.length_cons, List.length_nil, Nat.reduceAdd]
      refine wpAnyG_pure 0 11 (v := ?_) rfl (by kernel_rfl) rfl (by rfl) (fun w' => ?_) ?_
      rotate_left
      · go_simp <;> with_reducible rfl
      simp only [List.setIfInBounds_toArray, List.set_cons_zero, List.set_cons_succ]
      refine wpAnyG_pure 1 12 (v := ?_) rfl (by kernel_rfl) rfl (by rfl) (fun w' => ?_) ?_
      rotate_left
      · go_simp <;> with_reducible rfl
      simp only [List.setIfInBounds_toArray, List.set_cons_zero, List.set_cons_succ]
      refine wpAnyG_pure 2 13 (v := ?_) rfl (by kernel_rfl) rfl (by rfl) (fun w' => ?_) ?_
      rotate_left
      · go_simp <;> with_reducible rfl
      simp only [List.setIfInBounds_toArray, List.set_cons_zero, List.set_cons_succ]
      refine wpAnyG_take 3 14 (v := ?_) rfl (by kernel_rfl) rfl (by rfl) (fun w' hG' => ?_) ?_
      rotate_left
      · have hx0 := Grew.cell hG' (show w.drew.cell? _ = _ from c0)
        have hx1 := Grew.cell hG' (show w.drew.cell? _ = _ from c1)
        go_simp <;> with_reducible rfl
      simp only [List.setIfInBounds_toArray, List.set_cons_zero, List.set_cons_succ]
      refine wpAnyG_pure 4 15 (v := ?_) rfl (by kernel_rfl) rfl (by rfl) (fun w' => ?_) ?_
      rotate_left
      · go_simp <;> with_reducible rfl
      simp only [List.setIfInBounds_toArray, List.set_cons_zero, List.set_cons_succ]
      refine wpAnyG_pure 5 16 (v := ?_) rfl (by kernel_rfl) rfl (by rfl) (fun w' => ?_) ?_
      rotate_left
      · go_simp <;> with_reducible rfl
      simp only [List.setIfInBounds_toArray, List.set_cons_zero, List.set_cons_succ]
      refine wpAnyG_pure 6 17 (v := ?_) rfl (by kernel_rfl) rfl (by rfl) (fun w' => ?_) ?_
      rotate_left
      · go_simp <;> with_reducible rfl
      simp only [List.setIfInBounds_toArray, List.set_cons_zero, List.set_cons_succ]
      refine wpAnyG_take 7 18 (v := ?_) rfl (by kernel_rfl) rfl (by rfl) (fun w' hG' => ?_) ?_
      rotate_left
      · have hx0 := Grew.cell hG' (show w.drew.cell? _ = _ from c0)
        have hx1 := Grew.cell hG' (show w.drew.cell? _ = _ from c1)
        go_simp <;> with_reducible rfl
      simp only [List.setIfInBounds_toArray, List.set_cons_zero, List.set_cons_succ]
      refine wpAnyG_pure 8 19 (v := ?_) rfl (by kernel_rfl) rfl (by rfl) (fun w' => ?_) ?_
      rotate_left
      · go_simp <;> with_reducible rfl
      simp only [List.setIfInBounds_toArray, List.set_cons_zero, List.set_cons_succ]
      refine wpAnyG_step 9 20 rfl (by kernel_rfl) rfl (by rfl) (fun K hK' => ?_)
      go_simp
      refine hT.out.mono ?_
      rintro e wS ⟨rfl, rfl⟩
      refine hK' _ _ (fun _ => Kept.refl _ _) ?_
      clear hK'
      simp only [List.setIfInBounds_toArray, List.set_cons_zero, List.set_cons_succ]
      refine wpAnyG_pure 10 10 (v := ?_) rfl (by kernel_rfl) rfl (by rfl) (fun w' => ?_) ?_
      rotate_left
      · go_simp <;> with_reducible rfl
      simp only [List.setIfInBounds_toArray, List.set_cons_zero, List.set_cons_succ]
      refine wpAnyG_pure 11 21 (v := ?_) rfl (by kernel_rfl) rfl (by rfl) (fun w' => ?_) ?_
      rotate_left
      · go_simp <;> with_reducible rfl
      simp only [List.setIfInBounds_toArray, List.set_cons_zero, List.set_cons_succ]
      refine wpAnyG_pure 12 22 (v := ?_) rfl (by kernel_rfl) rfl (by rfl) (fun w' => ?_) ?_
      rotate_left
      · go_simp <;> with_reducible rfl
      simp only [List.setIfInBounds_toArray, List.set_cons_zero, List.set_cons_succ]
      refine wpAnyG_pure 13 23 (v := ?_) rfl (by kernel_rfl) rfl (by rfl) (fun w' => ?_) ?_
      rotate_left
      · go_simp <;> with_reducible rfl
      simp only [List.setIfInBounds_toArray, List.set_cons_zero, List.set_cons_succ]
      refine wpAnyG_pure 14 7 (v := ?_) rfl (by kernel_rfl) rfl (by rfl) (fun w' => ?_) ?_
      rotate_left
      · go_simp <;> with_reducible rfl
      simp only [List.setIfInBounds_toArray, List.set_cons_zero, List.set_cons_succ]
      refine wpAnyG_pure 15 8 (v := ?_) rfl (by kernel_rfl) rfl (by rfl) (fun w' => ?_) ?_
      rotate_left
      · go_simp <;> with_reducible rfl
      simp only [List.setIfInBounds_toArray, List.set_cons_zero, List.set_cons_succ]
      refine wpAnyG_pure 16 9 (v := ?_) rfl (by kernel_rfl) rfl (by rfl) (fun w' => ?_) ?_
      rotate_left
      · go_simp <;> with_reducible rfl
      simp only [List.setIfInBounds_toArray, List.set_cons_zero, List.set_cons_succ]
      refine wpAnyG_done (by kernel_rfl) ?_

      go_wp2_with fail
      refine hE.out.mono ?_
      rintro e w2 ⟨t, rfl, k2⟩
      replace c0 := Grew.cell k2 (show w.drew.cell? _ = _ from c0)
      replace c1 := Grew.cell k2 (show w.drew.cell? _ = _ from c1)
      have hK2 := Lib.hid (show Kept (· = R) w w2 from Grew.kept (hKD.trans k2))
      clear hE k2 hT
      cases t with
      | true =>
        go_wp2_with fail
        exact ⟨rfl, .inr ⟨fun n q h => absurd h (HNO.out n q), _, rfl, hK2.out⟩⟩
      | false =>
        go_wp2_with fail
        exact ⟨rfl, .inr ⟨fun n q h => absurd h (HNO.out n q), _, rfl, hK2.out⟩⟩
  · as_aux_lemma =>
    obtain rfl : p = len := by omega
    have hzz : p - p = 0 := by omega
    by_cases hcp : cap = p
    · subst hcp
      have hZ := Lib.hid (rowZ_none w A (sh z cap))
      have hnone : (∃ v s, takeF (sh z cap) 0 = (v, s, false)) ∧ ∀ n p', ¬ Tk z cap cap n p' := ⟨⟨0, 0, rfl⟩, fun n p' h => by have := h.2; omega⟩
      obtain ⟨⟨v, s, hq⟩, hno⟩ := hnone
      have hT : Hid (Calls Try.prog 14 #[.slice A (0) (0)] w.drew fun e w' => e = .returned (.tuple #[.int .u64 v, .int .i64 s, .bool false]) ∧ w.drew = w') := by
        have := take_any (A) (0) (0) (sh z cap) w.drew hZ.out
        rw [show takeF (sh z cap) (0) = (v, s, false) from hq] at this
        exact this
      have HNO := Lib.hid hno
      have hKD : Grew w w.drew := (Kept.refl _ _).drew
      have hE := Lib.hid (hEar.out w.drew hKD)
      clear hq hno hZ hEar

      clear h hs hcap hp
      go_enter Try.func20, Try.ntmps20
      go_wp2_with fail
      refine wp_region_grow [] (fun _ => False) (by kernel_rfl) ?_
      simp only [List.size_toArray, List.length_cons, List.length_nil, Nat.reduceAdd]
      refine wpAnyG_pure 0 11 (v := ?_) rfl (by kernel_rfl) rfl (by rfl) (fun w' => ?_) ?_
      rotate_left
      · go_simp <;> with_reducible rfl
      simp only [List.setIfInBounds_toArray, List.set_cons_zero, List.set_cons_succ]
      refine wpAnyG_pure 1 12 (v := ?_) rfl (by kernel_rfl) rfl (by rfl) (fun w' => ?_) ?_
      rotate_left
      · go_simp <;> with_reducible rfl
      simp only [List.setIfInBounds_toArray, List.set_cons_zero, List.set_cons_succ]
      refine wpAnyG_pure 2 13 (v := ?_) rfl (by kernel_rfl) rfl (by rfl) (fun w' => ?_) ?_
      rotate_left
      · go_simp <;> with_reducible rfl
      simp only [List.setIfInBounds_toArray, List.set_cons_zero, List.set_cons_succ]
      refine wpAnyG_take 3 14 (v := ?_) rfl (by kernel_rfl) rfl (by rfl) (fun w' hG' => ?_) ?_
      rotate_left
      · have hx0 := Grew.cell hG' (show w.drew.cell? _ = _ from c0)
        have hx1 := Grew.cell hG' (show w.drew.cell? _ = _ from c1)
        go_simp <;> with_reducible rfl
      simp only [List.setIfInBounds_toArray, List.set_cons_zero, List.set_cons_succ]
      refine wpAnyG_pure 4 15 (v := ?_) rfl (by kernel_rfl) rfl (by rfl) (fun w' => ?_) ?_
      rotate_left
      · go_simp <;> with_reducible rfl
      simp only [List.setIfInBounds_toArray, List.set_cons_zero, List.set_cons_succ]
      refine wpAnyG_pure 5 16 (v := ?_) rfl (by kernel_rfl) rfl (by rfl) (fun w' => ?_) ?_
      rotate_left
      · go_simp <;> with_reducible rfl
      simp only [List.setIfInBounds_toArray, List.set_cons_zero, List.set_cons_succ]
      refine wpAnyG_pure 6 17 (v := ?_) rfl (by kernel_rfl) rfl (by rfl) (fun w' => ?_) ?_
      rotate_left
      · go_simp <;> with_reducible rfl
      simp only [List.setIfInBounds_toArray, List.set_cons_zero, List.set_cons_succ]
      refine wpAnyG_take 7 18 (v := ?_) rfl (by kernel_rfl) rfl (by rfl) (fun w' hG' => ?_) ?_
      rotate_left
      · have hx0 := Grew.cell hG' (show w.drew.cell? _ = _ from c0)
        have hx1 := Grew.cell hG' (show w.drew.cell? _ = _ from c1)
        go_simp <;> with_reducible rfl
      simp only [List.setIfInBounds_toArray, List.set_cons_zero, List.set_cons_succ]
      refine wpAnyG_pure 8 19 (v := ?_) rfl (by kernel_rfl) rfl (by rfl) (fun w' => ?_) ?_
      rotate_left
      · go_simp <;> with_reducible rfl
      simp only [List.setIfInBounds_toArray, List.set_cons_zero, List.set_cons_succ]
      refine wpAnyG_step 9 20 rfl (by kernel_rfl) rfl (by rfl) (fun K hK' => ?_)
      go_simp
      refine hT.out.mono ?_
      rintro e wS ⟨rfl, rfl⟩
      refine hK' _ _ (fun _ => Kept.refl _ _) ?_
      clear hK'
      simp only [List.setIfInBounds_toArray, List.set_cons_zero, List.set_cons_succ]
      refine wpAnyG_pure 10 10 (v := ?_) rfl (by kernel_rfl) rfl (by rfl) (fun w' => ?_) ?_
      rotate_left
      · go_simp <;> with_reducible rfl
      simp only [List.setIfInBounds_toArray, List.set_cons_zero, List.set_cons_succ]
      refine wpAnyG_pure 11 21 (v := ?_) rfl (by kernel_rfl) rfl (by rfl) (fun w' => ?_) ?_
      rotate_left
      · go_simp <;> with_reducible rfl
      simp only [List.setIfInBounds_toArray, List.set_cons_zero, List.set_cons_succ]
      refine wpAnyG_pure 12 22 (v := ?_) rfl (by kernel_rfl) rfl (by rfl) (fun w' => ?_) ?_
      rotate_left
      · go_simp <;> with_reducible rfl
      simp only [List.setIfInBounds_toArray, List.set_cons_zero, List.set_cons_succ]
      refine wpAnyG_pure 13 23 (v := ?_) rfl (by kernel_rfl) rfl (by rfl) (fun w' => ?_) ?_
      rotate_left
      · go_simp <;> with_reducible rfl
      simp only [List.setIfInBounds_toArray, List.set_cons_zero, List.set_cons_succ]
      refine wpAnyG_pure 14 7 (v := ?_) rfl (by kernel_rfl) rfl (by rfl) (fun w' => ?_) ?_
      rotate_left
      · go_simp <;> with_reducible rfl
      simp only [List.setIfInBounds_toArray, List.set_cons_zero, List.set_cons_succ]
      refine wpAnyG_pure 15 8 (v := ?_) rfl (by kernel_rfl) rfl (by rfl) (fun w' => ?_) ?_
      rotate_left
      · go_simp <;> with_reducible rfl
      simp only [List.setIfInBounds_toArray, List.set_cons_zero, List.set_cons_succ]
      refine wpAnyG_pure 16 9 (v := ?_) rfl (by kernel_rfl) rfl (by rfl) (fun w' => ?_) ?_
      rotate_left
      · go_simp <;> with_reducible rfl
      simp only [List.setIfInBounds_toArray, List.set_cons_zero, List.set_cons_succ]
      refine wpAnyG_done (by kernel_rfl) ?_

      go_wp2_with fail
      refine hE.out.mono ?_
      rintro e w2 ⟨t, rfl, k2⟩
      replace c0 := Grew.cell k2 (show w.drew.cell? _ = _ from c0)
      replace c1 := Grew.cell k2 (show w.drew.cell? _ = _ from c1)
      have hK2 := Lib.hid (show Kept (· = R) w w2 from Grew.kept (hKD.trans k2))
      clear hE k2 hT
      cases t with
      | true =>
        go_wp2_with fail
        exact ⟨rfl, .inr ⟨fun n q h => absurd h (HNO.out n q), _, rfl, hK2.out⟩⟩
      | false =>
        go_wp2_with fail
        exact ⟨rfl, .inr ⟨fun n q h => absurd h (HNO.out n q), _, rfl, hK2.out⟩⟩
    · have p4 : (p : Int) < (cap : Int) := by omega
      have p6 : cap - p ≠ 0 := by omega
      cases A with
      | none => as_aux_lemma =>
        have hZ := Lib.hid (rowZ_none w none (sh z p))
        have hnone : (∃ v s, takeF (sh z p) 0 = (v, s, false)) ∧ ∀ n p', ¬ Tk z p p n p' := ⟨⟨0, 0, rfl⟩, fun n p' h => by have := h.2; omega⟩
        obtain ⟨⟨v, s, hq⟩, hno⟩ := hnone
        have hT : Hid (Calls Try.prog 14 #[.slice none (0) (cap - p)] w.drew fun e w' => e = .returned (.tuple #[.int .u64 v, .int .i64 s, .bool false]) ∧ w.drew = w') := by
          have := take_any (none) (0) (cap - p) (sh z p) w.drew hZ.out
          rw [show takeF (sh z p) (0) = (v, s, false) from hq] at this
          exact this
        have HNO := Lib.hid hno
        have hKD : Grew w w.drew := (Kept.refl _ _).drew
        have hE := Lib.hid (hEar.out w.drew hKD)
        clear hq hno hZ hEar

        clear h hs hcap hp
        go_enter Try.func20, Try.ntmps20
        go_wp2_with fail
        refine wp_region_grow [] (fun _ => False) (by kernel_rfl) ?_
        simp only [List.size_toArray, List.length_cons, List.length_nil, Nat.reduceAdd]
        refine wpAnyG_pure 0 11 (v := ?_) rfl (by kernel_rfl) rfl (by rfl) (fun w' => ?_) ?_
        rotate_left
        · go_simp <;> with_reducible rfl
        simp only [List.setIfInBounds_toArray, List.set_cons_zero, List.set_cons_succ]
        refine wpAnyG_pure 1 12 (v := ?_) rfl (by kernel_rfl) rfl (by rfl) (fun w' => ?_) ?_
        rotate_left
        · go_simp <;> with_reducible rfl
        simp only [List.setIfInBounds_toArray, List.set_cons_zero, List.set_cons_succ]
        refine wpAnyG_pure 2 13 (v := ?_) rfl (by kernel_rfl) rfl (by rfl) (fun w' => ?_) ?_
        rotate_left
        · go_simp <;> with_reducible rfl
        simp only [List.setIfInBounds_toArray, List.set_cons_zero, List.set_cons_succ]
        refine wpAnyG_take 3 14 (v := ?_) rfl (by kernel_rfl) rfl (by rfl) (fun w' hG' => ?_) ?_
        rotate_left
        · have hx0 := Grew.cell hG' (show w.drew.cell? _ = _ from c0)
          have hx1 := Grew.cell hG' (show w.drew.cell? _ = _ from c1)
          go_simp <;> with_reducible rfl
        simp only [List.setIfInBounds_toArray, List.set_cons_zero, List.set_cons_succ]
        refine wpAnyG_pure 4 15 (v := ?_) rfl (by kernel_rfl) rfl (by rfl) (fun w' => ?_) ?_
        rotate_left
        · go_simp <;> with_reducible rfl
        simp only [List.setIfInBounds_toArray, List.set_cons_zero, List.set_cons_succ]
        refine wpAnyG_pure 5 16 (v := ?_) rfl (by kernel_rfl) rfl (by rfl) (fun w' => ?_) ?_
        rotate_left
        · go_simp <;> with_reducible rfl
        simp only [List.setIfInBounds_toArray, List.set_cons_zero, List.set_cons_succ]
        refine wpAnyG_pure 6 17 (v := ?_) rfl (by kernel_rfl) rfl (by rfl) (fun w' => ?_) ?_
        rotate_left
        · go_simp <;> with_reducible rfl
        simp only [List.setIfInBounds_toArray, List.set_cons_zero, List.set_cons_succ]
        refine wpAnyG_take 7 18 (v := ?_) rfl (by kernel_rfl) rfl (by rfl) (fun w' hG' => ?_) ?_
        rotate_left
        · have hx0 := Grew.cell hG' (show w.drew.cell? _ = _ from c0)
          have hx1 := Grew.cell hG' (show w.drew.cell? _ = _ from c1)
          go_simp <;> with_reducible rfl
        simp only [List.setIfInBounds_toArray, List.set_cons_zero, List.set_cons_succ]
        refine wpAnyG_pure 8 19 (v := ?_) rfl (by kernel_rfl) rfl (by rfl) (fun w' => ?_) ?_
        rotate_left
        · go_simp <;> with_reducible rfl
        simp only [List.setIfInBounds_toArray, List.set_cons_zero, List.set_cons_succ]
        refine wpAnyG_step 9 20 rfl (by kernel_rfl) rfl (by rfl) (fun K hK' => ?_)
        go_simp
        refine hT.out.mono ?_
        rintro e wS ⟨rfl, rfl⟩
        refine hK' _ _ (fun _ => Kept.refl _ _) ?_
        clear hK'
        simp only [List.setIfInBounds_toArray, List.set_cons_zero, List.set_cons_succ]
        refine wpAnyG_pure 10 10 (v := ?_) rfl (by kernel_rfl) rfl (by rfl) (fun w' => ?_) ?_
        rotate_left
        · go_simp <;> with_reducible rfl
        simp only [List.setIfInBounds_toArray, List.set_cons_zero, List.set_cons_succ]
        refine wpAnyG_pure 11 21 (v := ?_) rfl (by kernel_rfl) rfl (by rfl) (fun w' => ?_) ?_
        rotate_left
        · go_simp <;> with_reducible rfl
        simp only [List.setIfInBounds_toArray, List.set_cons_zero, List.set_cons_succ]
        refine wpAnyG_pure 12 22 (v := ?_) rfl (by kernel_rfl) rfl (by rfl) (fun w' => ?_) ?_
        rotate_left
        · go_simp <;> with_reducible rfl
        simp only [List.setIfInBounds_toArray, List.set_cons_zero, List.set_cons_succ]
        refine wpAnyG_pure 13 23 (v := ?_) rfl (by kernel_rfl) rfl (by rfl) (fun w' => ?_) ?_
        rotate_left
        · go_simp <;> with_reducible rfl
        simp only [List.setIfInBounds_toArray, List.set_cons_zero, List.set_cons_succ]
        refine wpAnyG_pure 14 7 (v := ?_) rfl (by kernel_rfl) rfl (by rfl) (fun w' => ?_) ?_
        rotate_left
        · go_simp <;> with_reducible rfl
        simp only [List.setIfInBounds_toArray, List.set_cons_zero, List.set_cons_succ]
        refine wpAnyG_pure 15 8 (v := ?_) rfl (by kernel_rfl) rfl (by rfl) (fun w' => ?_) ?_
        rotate_left
        · go_simp <;> with_reducible rfl
        simp only [List.setIfInBounds_toArray, List.set_cons_zero, List.set_cons_succ]
        refine wpAnyG_pure 16 9 (v := ?_) rfl (by kernel_rfl) rfl (by rfl) (fun w' => ?_) ?_
        rotate_left
        · go_simp <;> with_reducible rfl
        simp only [List.setIfInBounds_toArray, List.set_cons_zero, List.set_cons_succ]
        refine wpAnyG_done (by kernel_rfl) ?_

        go_wp2_with fail
        refine hE.out.mono ?_
        rintro e w2 ⟨t, rfl, k2⟩
        replace c0 := Grew.cell k2 (show w.drew.cell? _ = _ from c0)
        replace c1 := Grew.cell k2 (show w.drew.cell? _ = _ from c1)
        have hK2 := Lib.hid (show Kept (· = R) w w2 from Grew.kept (hKD.trans k2))
        clear hE k2 hT
        cases t with
        | true =>
          go_wp2_with fail
          exact ⟨rfl, .inr ⟨fun n q h => absurd h (HNO.out n q), _, rfl, hK2.out⟩⟩
        | false =>
          go_wp2_with fail
          exact ⟨rfl, .inr ⟨fun n q h => absurd h (HNO.out n q), _, rfl, hK2.out⟩⟩
      | some a => as_aux_lemma =>
        have hZ := Lib.hid (rowZ_none w (some (a.add p)) (sh z p))
        have hnone : (∃ v s, takeF (sh z p) 0 = (v, s, false)) ∧ ∀ n p', ¬ Tk z p p n p' := ⟨⟨0, 0, rfl⟩, fun n p' h => by have := h.2; omega⟩
        obtain ⟨⟨v, s, hq⟩, hno⟩ := hnone
        have hT : Hid (Calls Try.prog 14 #[.slice (some (a.add p)) (0) (cap - p)] w.drew fun e w' => e = .returned (.tuple #[.int .u64 v, .int .i64 s, .bool false]) ∧ w.drew = w') := by
          have := take_any ((some (a.add p))) (0) (cap - p) (sh z p) w.drew hZ.out
          rw [show takeF (sh z p) (0) = (v, s, false) from hq] at this
          exact this
        have HNO := Lib.hid hno
        have hKD : Grew w w.drew := (Kept.refl _ _).drew
        have hE := Lib.hid (hEar.out w.drew hKD)
        clear hq hno hZ hEar

        clear h hs hcap hp
        go_enter Try.func20, Try.ntmps20
        go_wp2_with fail
        refine wp_region_grow [] (fun _ => False) (by kernel_rfl) ?_
        simp only [List.size_toArray, List.length_cons, List.length_nil, Nat.reduceAdd]
        refine wpAnyG_pure 0 11 (v := ?_) rfl (by kernel_rfl) rfl (by rfl) (fun w' => ?_) ?_
        rotate_left
        · go_simp <;> with_reducible rfl
        simp only [List.setIfInBounds_toArray, List.set_cons_zero, List.set_cons_succ]
        refine wpAnyG_pure 1 12 (v := ?_) rfl (by kernel_rfl) rfl (by rfl) (fun w' => ?_) ?_
        rotate_left
        · go_simp <;> with_reducible rfl
        simp only [List.setIfInBounds_toArray, List.set_cons_zero, List.set_cons_succ]
        refine wpAnyG_pure 2 13 (v := ?_) rfl (by kernel_rfl) rfl (by rfl) (fun w' => ?_) ?_
        rotate_left
        · go_simp <;> with_reducible rfl
        simp only [List.setIfInBounds_toArray, List.set_cons_zero, List.set_cons_succ]
        refine wpAnyG_take 3 14 (v := ?_) rfl (by kernel_rfl) rfl (by rfl) (fun w' hG' => ?_) ?_
        rotate_left
        · have hx0 := Grew.cell hG' (show w.drew.cell? _ = _ from c0)
          have hx1 := Grew.cell hG' (show w.drew.cell? _ = _ from c1)
          go_simp <;> with_reducible rfl
        simp only [List.setIfInBounds_toArray, List.set_cons_zero, List.set_cons_succ]
        refine wpAnyG_pure 4 15 (v := ?_) rfl (by kernel_rfl) rfl (by rfl) (fun w' => ?_) ?_
        rotate_left
        · go_simp <;> with_reducible rfl
        simp only [List.setIfInBounds_toArray, List.set_cons_zero, List.set_cons_succ]
        refine wpAnyG_pure 5 16 (v := ?_) rfl (by kernel_rfl) rfl (by rfl) (fun w' => ?_) ?_
        rotate_left
        · go_simp <;> with_reducible rfl
        simp only [List.setIfInBounds_toArray, List.set_cons_zero, List.set_cons_succ]
        refine wpAnyG_pure 6 17 (v := ?_) rfl (by kernel_rfl) rfl (by rfl) (fun w' => ?_) ?_
        rotate_left
        · go_simp <;> with_reducible rfl
        simp only [List.setIfInBounds_toArray, List.set_cons_zero, List.set_cons_succ]
        refine wpAnyG_take 7 18 (v := ?_) rfl (by kernel_rfl) rfl (by rfl) (fun w' hG' => ?_) ?_
        rotate_left
        · have hx0 := Grew.cell hG' (show w.drew.cell? _ = _ from c0)
          have hx1 := Grew.cell hG' (show w.drew.cell? _ = _ from c1)
          go_simp <;> with_reducible rfl
        simp only [List.setIfInBounds_toArray, List.set_cons_zero, List.set_cons_succ]
        refine wpAnyG_pure 8 19 (v := ?_) rfl (by kernel_rfl) rfl (by rfl) (fun w' => ?_) ?_
        rotate_left
        · go_simp <;> with_reducible rfl
        simp only [List.setIfInBounds_toArray, List.set_cons_zero, List.set_cons_succ]
        refine wpAnyG_step 9 20 rfl (by kernel_rfl) rfl (by rfl) (fun K hK' => ?_)
        go_simp
        refine hT.out.mono ?_
        rintro e wS ⟨rfl, rfl⟩
        refine hK' _ _ (fun _ => Kept.refl _ _) ?_
        clear hK'
        simp only [List.setIfInBounds_toArray, List.set_cons_zero, List.set_cons_succ]
        refine wpAnyG_pure 10 10 (v := ?_) rfl (by kernel_rfl) rfl (by rfl) (fun w' => ?_) ?_
        rotate_left
        · go_simp <;> with_reducible rfl
        simp only [List.setIfInBounds_toArray, List.set_cons_zero, List.set_cons_succ]
        refine wpAnyG_pure 11 21 (v := ?_) rfl (by kernel_rfl) rfl (by rfl) (fun w' => ?_) ?_
        rotate_left
        · go_simp <;> with_reducible rfl
        simp only [List.setIfInBounds_toArray, List.set_cons_zero, List.set_cons_succ]
        refine wpAnyG_pure 12 22 (v := ?_) rfl (by kernel_rfl) rfl (by rfl) (fun w' => ?_) ?_
        rotate_left
        · go_simp <;> with_reducible rfl
        simp only [List.setIfInBounds_toArray, List.set_cons_zero, List.set_cons_succ]
        refine wpAnyG_pure 13 23 (v := ?_) rfl (by kernel_rfl) rfl (by rfl) (fun w' => ?_) ?_
        rotate_left
        · go_simp <;> with_reducible rfl
        simp only [List.setIfInBounds_toArray, List.set_cons_zero, List.set_cons_succ]
        refine wpAnyG_pure 14 7 (v := ?_) rfl (by kernel_rfl) rfl (by rfl) (fun w' => ?_) ?_
        rotate_left
        · go_simp <;> with_reducible rfl
        simp only [List.setIfInBounds_toArray, List.set_cons_zero, List.set_cons_succ]
        refine wpAnyG_pure 15 8 (v := ?_) rfl (by kernel_rfl) rfl (by rfl) (fun w' => ?_) ?_
        rotate_left
        · go_simp <;> with_reducible rfl
        simp only [List.setIfInBounds_toArray, List.set_cons_zero, List.set_cons_succ]
        refine wpAnyG_pure 16 9 (v := ?_) rfl (by kernel_rfl) rfl (by rfl) (fun w' => ?_) ?_
        rotate_left
        · go_simp <;> with_reducible rfl
        simp only [List.setIfInBounds_toArray, List.set_cons_zero, List.set_cons_succ]
        refine wpAnyG_done (by kernel_rfl) ?_

        go_wp2_with fail
        refine hE.out.mono ?_
        rintro e w2 ⟨t, rfl, k2⟩
        replace c0 := Grew.cell k2 (show w.drew.cell? _ = _ from c0)
        replace c1 := Grew.cell k2 (show w.drew.cell? _ = _ from c1)
        have hK2 := Lib.hid (show Kept (· = R) w w2 from Grew.kept (hKD.trans k2))
        clear hE k2 hT
        cases t with
        | true =>
          go_wp2_with fail
          exact ⟨rfl, .inr ⟨fun n q h => absurd h (HNO.out n q), _, rfl, hK2.out⟩⟩
        | false =>
          go_wp2_with fail
          exact ⟨rfl, .inr ⟨fun n q h => absurd h (HNO.out n q), _, rfl, hK2.out⟩⟩

/-- What below answers. -/
def BelE (z : Nat → Int) (len p R : Nat) (A : Option Addr) (cap : Nat) (lim : Int) (w : World) (e : Ending) (w' : World) : Prop :=
  (∃ n p', Tk z len p n p' ∧ (n : Int) < lim ∧ e = .returned (i64 n) ∧ Rd w' R A len cap p' ∧ Kept (· = R) w w') ∨
  ((∀ n p', Tk z len p n p' → ¬ ((n : Int) < lim)) ∧ ∃ q, e = .panicked (wrongs q) ∧ Kept (· = R) w w')
set_option maxHeartbeats 2000000 in
theorem below_read (R : Nat) (A : Option Addr) (len cap p : Nat) (lim : Int) (z : Nat → Int) (w : World) (h : Rd w R A len cap p) (hs : Src w A len cap z) (hp : p ≤ len) (hl : len ≤ 100000) (hlim : lim ≤ 1000000) :
    Calls Try.prog 19 #[pt R, i64 lim] w fun e w' => BelE z len p R A cap lim w e w' := by
  by_cases h1 : lim < 1
  · have hC := Lib.hid (number_read R A len cap p 1 0 z w h hs hp hl)
    clear h hs
    go_enter Try.func19, Try.ntmps19
    go_wp2_with fail
    refine hC.out.mono ?_
    rintro e w2 (⟨n, p', _, a, b, _⟩ | ⟨hno, q, rfl, k⟩)
    · omega
    · have hK := Lib.hid k
      clear hC k hno
      go_wp2_with fail
      exact ⟨rfl, .inr ⟨fun n p' _ hn => by omega, q, rfl, hK.out⟩⟩
  · obtain ⟨L, hL⟩ := Int.eq_ofNat_of_zero_le (show 0 ≤ lim - 1 by omega)
    have hC := Lib.hid (number_read R A len cap p 0 L z w h hs hp hl)
    have e1 : (lim : Int) - 1 = (L : Int) := hL
    have w1 : IntKind.i64.wrap (L : Int) = (L : Int) := Go.IntWalk.i64_in _ (by omega)
    have w2 : IntKind.u64.wrap (L : Int) = (L : Int) := Go.IntWalk.u64_in _ (by omega)
    have h1' : (1 : Int) ≤ lim := by omega
    have hLim := Lib.hid hL
    clear h hs h1 hL
    go_enter Try.func19, Try.ntmps19
    go_wp2_with fail
    refine hC.out.mono ?_
    rintro e w3 (⟨n, p', hTk, a, b, rfl, hR, k⟩ | ⟨hno, q, rfl, k⟩)
    · have w4 : IntKind.i64.wrap (n : Int) = (n : Int) := Go.IntWalk.i64_in _ (by omega)
      have hF : Hid (BelE z len p R A cap lim w (.returned (i64 n)) w3) := .inl ⟨n, p', hTk, by have := hLim.out; omega, rfl, hR, k⟩
      clear hC hTk hR k
      go_wp2_with fail
      go_ret
      exact hF.out
    · have hF : Hid (BelE z len p R A cap lim w (.panicked (wrongs q)) w3) := .inr ⟨fun n p' h hn => hno n p' h ⟨by omega, by have := hLim.out; omega⟩, q, rfl, k⟩
      clear hC hno k
      go_wp2_with fail
      exact ⟨rfl, hF.out⟩
set_option maxHeartbeats 2000000 in
theorem ends_read (R : Nat) (A : Option Addr) (len cap p : Nat) (w : World) (h : Rd w R A len cap p) (hp : p ≤ len) (hl : len ≤ 100000) :
    Calls Try.prog 34 #[pt R] w fun e w' => Grew w w' ∧ ((p = len ∧ e = .returned (.tuple #[])) ∨ (p < len ∧ e = .panicked (wrongs p))) := by
  have c0 := h.cell 0
  have c1 := h.cell 1
  simp at c0 c1
  clear h
  by_cases h1 : p < len
  · have l1 : (p : Int) < (len : Int) := by omega
    go_enter Try.func34, Try.ntmps34
    go_wp2_with fail
    refine wp_region_grow [] (fun _ => False) (by kernel_rfl) ?_
    simp only [List.size_toArray, List.length_cons, List.length_nil, Nat.reduceAdd]
    refine wpAnyG_pure 0 2 (v := ?_) rfl (by kernel_rfl) rfl (by rfl) (fun w' => ?_) ?_
    rotate_left
    · go_simp <;> with_reducible rfl
    simp only [List.setIfInBounds_toArray, List.set_cons_zero, List.set_cons_succ]
    refine wpAnyG_pure 1 3 (v := ?_) rfl (by kernel_rfl) rfl (by rfl) (fun w' => ?_) ?_
    rotate_left
    · go_simp <;> with_reducible rfl
    simp only [List.setIfInBounds_toArray, List.set_cons_zero, List.set_cons_succ]
    refine wpAnyG_pure 2 4 (v := ?_) rfl (by kernel_rfl) rfl (by rfl) (fun w' => ?_) ?_
    rotate_left
    · go_simp <;> with_reducible rfl
    simp only [List.setIfInBounds_toArray, List.set_cons_zero, List.set_cons_succ]
    refine wpAnyG_take 3 5 (v := ?_) rfl (by kernel_rfl) rfl (by rfl) (fun w' hG' => ?_) ?_
    rotate_left
    · have hx0 := Grew.cell hG' (show w.drew.cell? _ = _ from c0)
      have hx1 := Grew.cell hG' (show w.drew.cell? _ = _ from c1)
      go_simp <;> with_reducible rfl
    simp only [List.setIfInBounds_toArray, List.set_cons_zero, List.set_cons_succ]
    refine wpAnyG_pure 4 6 (v := ?_) rfl (by kernel_rfl) rfl (by rfl) (fun w' => ?_) ?_
    rotate_left
    · go_simp <;> with_reducible rfl
    simp only [List.setIfInBounds_toArray, List.set_cons_zero, List.set_cons_succ]
    refine wpAnyG_pure 5 7 (v := ?_) rfl (by kernel_rfl) rfl (by rfl) (fun w' => ?_) ?_
    rotate_left
    · go_simp <;> with_reducible rfl
    simp only [List.setIfInBounds_toArray, List.set_cons_zero, List.set_cons_succ]
    refine wpAnyG_pure 6 8 (v := ?_) rfl (by kernel_rfl) rfl (by rfl) (fun w' => ?_) ?_
    rotate_left
    · go_simp <;> with_reducible rfl
    simp only [List.setIfInBounds_toArray, List.set_cons_zero, List.set_cons_succ]
    refine wpAnyG_take 7 9 (v := ?_) rfl (by kernel_rfl) rfl (by rfl) (fun w' hG' => ?_) ?_
    rotate_left
    · have hx0 := Grew.cell hG' (show w.drew.cell? _ = _ from c0)
      have hx1 := Grew.cell hG' (show w.drew.cell? _ = _ from c1)
      go_simp <;> with_reducible rfl
    simp only [List.setIfInBounds_toArray, List.set_cons_zero, List.set_cons_succ]
    refine wpAnyG_pure 8 10 (v := ?_) rfl (by kernel_rfl) rfl (by rfl) (fun w' => ?_) ?_
    rotate_left
    · go_simp <;> with_reducible rfl
    simp only [List.setIfInBounds_toArray, List.set_cons_zero, List.set_cons_succ]
    refine wpAnyG_pure 9 11 (v := ?_) rfl (by kernel_rfl) rfl (by rfl) (fun w' => ?_) ?_
    rotate_left
    · go_simp <;> with_reducible rfl
    simp only [List.setIfInBounds_toArray, List.set_cons_zero, List.set_cons_succ]
    refine wpAnyG_done (by kernel_rfl) ?_
    go_wp2_with fail
    exact ⟨rfl, (Kept.refl _ _).drew, .inr ⟨h1, rfl⟩⟩
  · obtain rfl : p = len := by omega
    go_enter Try.func34, Try.ntmps34
    go_wp2_with fail
    refine wp_region_grow [] (fun _ => False) (by kernel_rfl) ?_
    simp only [List.size_toArray, List.length_cons, List.length_nil, Nat.reduceAdd]
    refine wpAnyG_pure 0 2 (v := ?_) rfl (by kernel_rfl) rfl (by rfl) (fun w' => ?_) ?_
    rotate_left
    · go_simp <;> with_reducible rfl
    simp only [List.setIfInBounds_toArray, List.set_cons_zero, List.set_cons_succ]
    refine wpAnyG_pure 1 3 (v := ?_) rfl (by kernel_rfl) rfl (by rfl) (fun w' => ?_) ?_
    rotate_left
    · go_simp <;> with_reducible rfl
    simp only [List.setIfInBounds_toArray, List.set_cons_zero, List.set_cons_succ]
    refine wpAnyG_pure 2 4 (v := ?_) rfl (by kernel_rfl) rfl (by rfl) (fun w' => ?_) ?_
    rotate_left
    · go_simp <;> with_reducible rfl
    simp only [List.setIfInBounds_toArray, List.set_cons_zero, List.set_cons_succ]
    refine wpAnyG_take 3 5 (v := ?_) rfl (by kernel_rfl) rfl (by rfl) (fun w' hG' => ?_) ?_
    rotate_left
    · have hx0 := Grew.cell hG' (show w.drew.cell? _ = _ from c0)
      have hx1 := Grew.cell hG' (show w.drew.cell? _ = _ from c1)
      go_simp <;> with_reducible rfl
    simp only [List.setIfInBounds_toArray, List.set_cons_zero, List.set_cons_succ]
    refine wpAnyG_pure 4 6 (v := ?_) rfl (by kernel_rfl) rfl (by rfl) (fun w' => ?_) ?_
    rotate_left
    · go_simp <;> with_reducible rfl
    simp only [List.setIfInBounds_toArray, List.set_cons_zero, List.set_cons_succ]
    refine wpAnyG_pure 5 7 (v := ?_) rfl (by kernel_rfl) rfl (by rfl) (fun w' => ?_) ?_
    rotate_left
    · go_simp <;> with_reducible rfl
    simp only [List.setIfInBounds_toArray, List.set_cons_zero, List.set_cons_succ]
    refine wpAnyG_pure 6 8 (v := ?_) rfl (by kernel_rfl) rfl (by rfl) (fun w' => ?_) ?_
    rotate_left
    · go_simp <;> with_reducible rfl
    simp only [List.setIfInBounds_toArray, List.set_cons_zero, List.set_cons_succ]
    refine wpAnyG_take 7 9 (v := ?_) rfl (by kernel_rfl) rfl (by rfl) (fun w' hG' => ?_) ?_
    rotate_left
    · have hx0 := Grew.cell hG' (show w.drew.cell? _ = _ from c0)
      have hx1 := Grew.cell hG' (show w.drew.cell? _ = _ from c1)
      go_simp <;> with_reducible rfl
    simp only [List.setIfInBounds_toArray, List.set_cons_zero, List.set_cons_succ]
    refine wpAnyG_pure 8 10 (v := ?_) rfl (by kernel_rfl) rfl (by rfl) (fun w' => ?_) ?_
    rotate_left
    · go_simp <;> with_reducible rfl
    simp only [List.setIfInBounds_toArray, List.set_cons_zero, List.set_cons_succ]
    refine wpAnyG_pure 9 11 (v := ?_) rfl (by kernel_rfl) rfl (by rfl) (fun w' => ?_) ?_
    rotate_left
    · go_simp <;> with_reducible rfl
    simp only [List.setIfInBounds_toArray, List.set_cons_zero, List.set_cons_succ]
    refine wpAnyG_done (by kernel_rfl) ?_
    go_wp2_with fail
    go_end0
    exact ⟨(Kept.refl _ _).drew, .inl ⟨trivial, rfl⟩⟩
end Go.Proofs.Ytjbjomodponapaa
