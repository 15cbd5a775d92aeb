/- Whether a shortcut is an edge. -/
import Derived.Test.YtjbjomodponapaaRankR
import Derived.Test.YtjbjomodponapaaMeets
namespace Go.Proofs.Ytjbjomodponapaa
open Go.RowKit

theorem gedge_any (n : Int) (A : Option Addr) (L c : Nat) (v : Int) (w : World) (hL : L ≤ 100000) : Calls Try.prog 39 #[.agg #[i64 n, .slice A L c], i64 v] w fun e w' => e = .returned (.bool (decide (0 ≤ v ∧ v < (L : Int)))) ∧ Grew w w' := by
  have hk : Grew w (w.alloc (.cells #[i64 n, .slice A L c] 24)) := (Kept.refl _ _).alloc _
  rcases Int.lt_or_le v 0 with h1 | h1
  · have hr : decide (0 ≤ v ∧ v < (L : Int)) = false := decide_eq_false (by omega)
    rw [hr]
    clear hr
    have h2 : ¬ 0 ≤ v := by omega
    go_enter Try.func39, Try.ntmps39
    go_wp2_with fail
    go_ret
    exact ⟨rfl, hk⟩
  · rcases Int.lt_or_le v L with h2 | h2
    · have hr : decide (0 ≤ v ∧ v < (L : Int)) = true := decide_eq_true (by omega)
      rw [hr]
      clear hr
      go_enter Try.func39, Try.ntmps39
      go_wp2_with fail
      go_ret
      exact ⟨rfl, hk⟩
    · have hr : decide (0 ≤ v ∧ v < (L : Int)) = false := decide_eq_false (by omega)
      rw [hr]
      clear hr
      have h3 : ¬ v < (L : Int) := by omega
      go_enter Try.func39, Try.ntmps39
      go_wp2_with fail
      go_ret
      exact ⟨by simp, hk⟩
theorem there_any (G : Nat) (A : Option Addr) (L c : Nat) (v : Int) (w : World) (hL : L ≤ 100000) (hG : Blk w G 26 #[.slice A L c]) : Calls Try.prog 40 #[i64 v, pt G] w fun e w' => e = .returned (.bool (decide (0 ≤ v ∧ v < (L : Int)))) ∧ w = w' := by
  have c0 := hG.cell 0
  simp at c0
  clear hG
  rcases Int.lt_or_le v 0 with h1 | h1
  · have hr : decide (0 ≤ v ∧ v < (L : Int)) = false := decide_eq_false (by omega)
    rw [hr]
    clear hr
    have h2 : ¬ 0 ≤ v := by omega
    go_enter Try.func40, Try.ntmps40
    go_wp2_with fail
    go_ret
    exact ⟨rfl, rfl⟩
  · rcases Int.lt_or_le v L with h2 | h2
    · have hr : decide (0 ≤ v ∧ v < (L : Int)) = true := decide_eq_true (by omega)
      rw [hr]
      clear hr
      go_enter Try.func40, Try.ntmps40
      go_wp2_with fail
      go_ret
      exact ⟨rfl, rfl⟩
    · have hr : decide (0 ≤ v ∧ v < (L : Int)) = false := decide_eq_false (by omega)
      rw [hr]
      clear hr
      have h3 : ¬ v < (L : Int) := by omega
      go_enter Try.func40, Try.ntmps40
      go_wp2_with fail
      go_ret
      exact ⟨by simp, rfl⟩
set_option maxHeartbeats 4000000 in
set_option maxRecDepth 100000 in
theorem hedge_any (n : Int) (A : Option Addr) (c : Nat) (es : List Edg) (s : Sc) (w : World) (h : RowE w A es) (hl : es.length ≤ 100000) :
    Calls Try.prog 36 #[.agg #[i64 n, .slice A es.length c], scV s] w fun e w' => SaysB (edgeOk es s) e ∧ Grew w w' := by
  obtain ⟨sf, st, sw, se, sa, sb⟩ := s
  obtain ⟨L, hL⟩ : ∃ L, es.length = L := ⟨_, rfl⟩
  have HL := Lib.hid hL
  rw [hL] at hl ⊢
  clear hL
  have k0 : Grew w ((w.alloc (.cells #[i64 n, .slice A L c] 24)).alloc (.cells #[i64 sf, i64 st, .int .u64 sw, i64 se, i64 sa, i64 sb] 66)) := ((Kept.refl _ _).alloc _).alloc _
  have bG := (Blk.new w 24 #[i64 n, .slice A L c]).alloc (.cells #[i64 sf, i64 st, .int .u64 sw, i64 se, i64 sa, i64 sb] 66)
  have bS := Blk.new (w.alloc (.cells #[i64 n, .slice A L c] 24)) 66 #[i64 sf, i64 st, .int .u64 sw, i64 se, i64 sa, i64 sb]
  rw [World.size_alloc] at bS
  have HC := Lib.hid (gedge_any n A L c se ((w.alloc (.cells #[i64 n, .slice A L c] 24)).alloc (.cells #[i64 sf, i64 st, .int .u64 sw, i64 se, i64 sa, i64 sb] 66)) hl)
  have HE := Lib.hid h
  have HK := Lib.hid k0
  have g0 := bG.cell 0
  have g1 := bG.cell 1
  have s3 := bS.cell 3
  simp at g0 g1 s3
  have HbG := Lib.hid bG
  have HbS := Lib.hid bS
  clear h k0 bG bS
  show Calls Try.prog 36 #[.agg #[i64 n, .slice A L c], .agg #[i64 sf, i64 st, .int .u64 sw, i64 se, i64 sa, i64 sb]] w fun e w' => SaysB (edgeOk es ⟨sf, st, sw, se, sa, sb⟩) e ∧ Grew w w'
  go_enter Try.func36, Try.ntmps36
  go_wp2_with fail
  refine HC.out.mono ?_
  rintro e w1 ⟨rfl, k1⟩
  have HK1 := Lib.hid (HK.out.trans k1)
  have bG := HbG.out.grew k1
  have bS := HbS.out.grew k1
  have g0 := bG.cell 0
  have g1 := bG.cell 1
  have s0 := bS.cell 0
  have s1 := bS.cell 1
  have s2 := bS.cell 2
  have s3 := bS.cell 3
  have s4 := bS.cell 4
  have s5 := bS.cell 5
  simp at g0 g1 s0 s1 s2 s3 s4 s5
  clear bG bS HbG HbS HC k1
  by_cases hin : 0 ≤ se ∧ se < (L : Int)
  rotate_left
  · as_aux_lemma =>
    rw [decide_eq_false hin]
    have hf : Hid (¬ edgeOk es ⟨sf, st, sw, se, sa, sb⟩) := fun ho => hin ⟨ho.1, by have := get_lt ho.2.2.2; have h0 := ho.1; rw [HL.out] at this; simp only at this h0; omega⟩
    clear hin
    go_wp2_with fail
    go_ret
    exact ⟨.no hf.out, HK1.out⟩
  rw [decide_eq_true hin]
  obtain ⟨i, rfl⟩ := Int.eq_ofNat_of_zero_le hin.1
  have i1 : (i : Int) < (L : Int) := hin.2
  have i0 : (0 : Int) ≤ (i : Int) := by omega
  clear hin
  by_cases ha : sa = -1
  rotate_left
  · as_aux_lemma =>
    have hf : Hid (¬ edgeOk es ⟨sf, st, sw, i, sa, sb⟩) := fun ho => ha ho.2.1
    have hq : (sa != -1) = true := by simpa using ha
    clear ha
    go_wp2_with fail
    go_ret
    exact ⟨.no hf.out, HK1.out⟩
  by_cases hb : sb = -1
  rotate_left
  · as_aux_lemma =>
    have hf : Hid (¬ edgeOk es ⟨sf, st, sw, i, sa, sb⟩) := fun ho => hb ho.2.2.1
    have hq : (sb != -1) = true := by simpa using hb
    subst ha
    have hq2 : ((-1 : Int) != -1) = false := rfl
    clear hb
    go_wp2_with fail
    go_ret
    exact ⟨.no hf.out, HK1.out⟩
  subst ha
  subst hb
  have hq2 : ((-1 : Int) != -1) = false := rfl
  obtain ⟨⟨p, q, r⟩, hx⟩ : ∃ x, es[i]? = some x := ⟨_, List.getElem?_eq_getElem (by rw [HL.out]; omega)⟩
  obtain ⟨b, off, hAe, hb, e0, e1, e2⟩ := HE.out i _ hx
  have HX := Lib.hid hx
  subst hAe
  replace e0 := Grew.cell HK1.out e0
  replace e1 := Grew.cell HK1.out e1
  replace e2 := Grew.cell HK1.out e2
  dsimp only at e0 e1 e2
  clear hx
  have hiff : Hid (edgeOk es ⟨sf, st, sw, i, -1, -1⟩ ↔ (p, q, r) = (sf, st, sw)) := by
    show _ ↔ _
    unfold edgeOk
    simp only [Int.toNat_natCast, HX.out]
    constructor
    · intro h; exact Option.some.inj h.2.2.2
    · intro h; exact ⟨i0, trivial, trivial, by rw [h]⟩
  by_cases he : (p, q, r) = (sf, st, sw)
  · as_aux_lemma =>
    have hf : Hid (edgeOk es ⟨sf, st, sw, i, -1, -1⟩) := hiff.out.2 he
    simp only [Prod.mk.injEq] at he
    obtain ⟨rfl, rfl, rfl⟩ := he
    clear hiff
    go_wp2_with fail
    go_quiet (fail)
    go_wp2
    go_ret
    exact ⟨.yes hf.out, HK1.out.drewN _⟩
  · have hf : Hid (¬ edgeOk es ⟨sf, st, sw, i, -1, -1⟩) := fun h => he (hiff.out.1 h)
    clear hiff
    by_cases hp : p = sf
    · subst hp
      by_cases hq : q = st
      · as_aux_lemma =>
        subst hq
        have h3 : (r == sw) = false := by
          simp only [beq_eq_false_iff_ne, ne_eq]
          exact fun h => he (by rw [h])
        clear he
        go_wp2_with fail
        go_quiet (fail)
        go_wp2
        go_ret
        exact ⟨.no hf.out, HK1.out.drewN _⟩
      · as_aux_lemma =>
        have h3 : (q == st) = false := by simpa using hq
        clear he
        go_wp2_with fail
        go_quiet (fail)
        go_wp2
        go_ret
        exact ⟨.no hf.out, HK1.out.drewN _⟩
    · as_aux_lemma =>
      have h3 : (p == sf) = false := by simpa using hp
      clear he
      go_wp2_with fail
      go_quiet (fail)
      go_wp2
      go_ret
      exact ⟨.no hf.out, HK1.out.drewN _⟩
end Go.Proofs.Ytjbjomodponapaa
