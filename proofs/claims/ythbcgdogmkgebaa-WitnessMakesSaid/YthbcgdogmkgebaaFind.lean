/- Find. -/
import Derived.Test.YthbcgdogmkgebaaSearch
namespace Go.Proofs.Ythbcgdogmkgebaa
open Go.RowKit

set_option maxHeartbeats 1000000 in
theorem node_any (p : Int) (A V : Option Addr) (N c G cG Gb : Nat) (w : World) (hB : Blk w Gb 33 #[.slice A N c, .slice V G cG]) (hN : N ≤ 4096) :
    Calls Try.prog 21 #[i64 p, pt Gb] w fun e w' => e = .returned (.bool (decide (0 ≤ p ∧ p < (N : Int)))) ∧ w = w' := by
  have c0 := hB.cell 0
  simp at c0
  obtain ⟨r, hr⟩ : ∃ r, decide (0 ≤ p ∧ p < (N : Int)) = r := ⟨_, rfl⟩
  rw [hr]
  rcases Int.lt_or_le p 0 with h1 | h1
  · have HR : r = false := by rw [← hr]; exact decide_eq_false (by omega)
    subst HR
    clear hr
    go_enter Try.func21, Try.ntmps21
    go_wp2_with fail
    go_ret
    first
    | exact ⟨rfl, rfl⟩
    | exact ⟨by simp <;> omega, rfl⟩
  · rcases Int.lt_or_le p (N : Int) with h2 | h2
    · have HR : r = true := by rw [← hr]; exact decide_eq_true ⟨h1, h2⟩
      subst HR
      clear hr
      go_enter Try.func21, Try.ntmps21
      go_wp2_with fail
      go_ret
      first
      | exact ⟨rfl, rfl⟩
      | exact ⟨by simp <;> omega, rfl⟩
    · have HR : r = false := by rw [← hr]; exact decide_eq_false (by omega)
      subst HR
      clear hr
      go_enter Try.func21, Try.ntmps21
      go_wp2_with fail
      go_ret
      first
      | exact ⟨rfl, rfl⟩
      | exact ⟨by simp <;> omega, rfl⟩
theorem ok_right {ls : List (List Ar)} {G : Nat} (h : rightN ls G = true) : G = ls.length ∧ NetOk ls.length (arcsL ls) := by
  unfold rightN at h
  rw [Bool.and_eq_true] at h
  have h1 := of_decide_eq_true h.1
  refine ⟨h1.2.2, ⟨fun v u c hm => ?_⟩⟩
  unfold arcsL at hm
  split at hm
  · rw [List.getD_eq_getElem?_getD] at hm
    cases hr : ls[v.toNat]? with
    | none => rw [hr] at hm; simp at hm
    | some row =>
      rw [hr] at hm
      have h2 := List.all_eq_true.1 h.2 row (List.mem_of_getElem? hr)
      have h3 := List.all_eq_true.1 h2 (u, c) hm
      unfold okA at h3
      rw [Bool.and_eq_true] at h3
      have a := of_decide_eq_true h3.1
      have b := of_decide_eq_true h3.2
      simp only at a b
      omega
  · simp at hm
def okF (ls : List (List Ar)) (G : Nat) (s t : Int) : Prop := rightN ls G = true ∧ (0 ≤ s ∧ s < (ls.length : Int)) ∧ (0 ≤ t ∧ t < (ls.length : Int)) ∧ s ≠ t
def FindE (N G : Nat) (ls : List (List Ar)) (gs : List Bool) (s t below hops settles : Int) (w : World) (e : Ending) (w' : World) : Prop :=
  (okF ls G s t → FoundE N (arcsL ls) (goneL gs) s t below (decide ((N : Int) ≤ hops ∧ (N : Int) ≤ settles)) w e w') ∧ (¬ okF ls G s t → e = .returned (.tuple #[u64 0, .bool false]) ∧ Grew w w')
set_option maxHeartbeats 4000000 in
theorem find_any (A V : Option Addr) (c cG N G : Nat) (ls : List (List Ar)) (gs : List Bool) (s t below hops settles : Int) (w : World) (h : RowN w A ls) (hG : RowB w V gs) (hls : ls.length = N) (hgs : gs.length = G) (hN : N ≤ 30) (hGb : G ≤ 100) (h30 : ∀ l ∈ ls, l.length ≤ 30) (hb : 0 ≤ below) :
    Calls Try.prog 8 #[.agg #[.slice A N c, .slice V G cG], i64 s, i64 t, u64 below, i64 hops, i64 settles] w fun e w' => FindE N G ls gs s t below hops settles w e w' := by
  have b0 := Blk.new w 33 #[.slice A N c, .slice V G cG]
  have hK0 : Grew w (w.alloc (.cells #[.slice A N c, .slice V G cG] 33)) := (Kept.refl _ _).alloc _
  obtain ⟨w1, hw1⟩ : ∃ w1, w.alloc (.cells #[.slice A N c, .slice V G cG] 33) = w1 := ⟨_, rfl⟩
  have hR := right_any A V c G cG ls w1 (by rw [← hw1]; exact h.grew hK0) (by omega) (by omega) (fun _ l hl => by have := h30 l hl; omega)
  rw [hls] at hR
  have hN' := Lib.hid (fun (p : Int) W (k : Grew w1 W) => node_any p A V N c G cG w.heap.size W ((by rw [← hw1]; exact b0 : Blk w1 w.heap.size _ _).grew k) (by omega))
  have hno : ¬ okF ls G s t → Hid (∀ W, Grew w1 W → FindE N G ls gs s t below hops settles w (.returned (.tuple #[u64 0, .bool false])) W) := fun hn => Lib.hid fun W k => ⟨fun h => absurd h hn, fun _ => ⟨rfl, by rw [← hw1] at k; exact hK0.trans k⟩⟩
  have h1N : ∀ {q : Prop}, (∃ b, b = true ∧ q) → q := fun h => h.elim fun _ h => h.2
  clear h1N
  obtain ⟨r, hr⟩ : ∃ r, rightN ls G = r := ⟨_, rfl⟩
  rw [hr] at hR
  have hR := Lib.hid hR
  have c0 : w1.cell? ⟨w.heap.size, 0, none⟩ = some (.slice A N c) := by
    have := b0.cell 0
    rw [hw1] at this
    simpa using this
  have c1 : w1.cell? ⟨w.heap.size, 1, none⟩ = some (.slice V G cG) := by
    have := b0.cell 1
    rw [hw1] at this
    simpa using this
  have B0 : Blk w1 w.heap.size 33 #[.slice A N c, .slice V G cG] := by rw [← hw1]; exact b0
  have HK0 : Grew w w1 := by rw [← hw1]; exact hK0
  clear b0 hK0
  cases r with
  | false =>
    have hX := hno (fun h => by have := h.1.symm.trans hr; cases this)
    clear hno hr h hG hls hgs h30 hN'
    go_enter Try.func8, Try.ntmps8
    go_wp2_with fail
    refine hR.out.mono ?_
    rintro e w2 ⟨rfl, k2⟩
    go_wp2_with fail
    go_ret2
    exact hX.out _ k2
  | true =>
    obtain ⟨hGN, hok⟩ := ok_right hr
    rw [hls] at hGN hok
    subst hGN
    obtain ⟨b1, hb1⟩ : ∃ b, decide (0 ≤ s ∧ s < (G : Int)) = b := ⟨_, rfl⟩
    obtain ⟨b2, hb2⟩ : ∃ b, decide (0 ≤ t ∧ t < (G : Int)) = b := ⟨_, rfl⟩
    have hN1 : Hid (∀ W, Grew w1 W → Calls Try.prog 21 #[i64 s, pt w.heap.size] W fun e w' => e = .returned (.bool b1) ∧ W = w') := Lib.hid (fun W k => by have := hN'.out s W k; rw [hb1] at this; exact this)
    have hN2 : Hid (∀ W, Grew w1 W → Calls Try.prog 21 #[i64 t, pt w.heap.size] W fun e w' => e = .returned (.bool b2) ∧ W = w') := Lib.hid (fun W k => by have := hN'.out t W k; rw [hb2] at this; exact this)
    cases b1 with
    | false =>
      have hX := hno (fun h => absurd h.2.1 (by rw [hls]; exact of_decide_eq_false hb1))
      clear hno hr h hG hls hgs h30 hN' hb1 hb2 hok hN2
      go_enter Try.func8, Try.ntmps8
      go_wp2_with fail
      refine hR.out.mono ?_
      rintro e w2 ⟨rfl, k2⟩
      have hN1 := Lib.hid (hN1.out _ k2)
      go_wp2_with fail
      refine hN1.out.mono ?_
      rintro e w3 ⟨rfl, rfl⟩
      go_wp2_with fail
      go_ret2
      exact hX.out _ k2
    | true =>
    cases b2 with
    | false =>
      have hX := hno (fun h => absurd h.2.2.1 (by rw [hls]; exact of_decide_eq_false hb2))
      clear hno hr h hG hls hgs h30 hN' hb1 hb2 hok
      go_enter Try.func8, Try.ntmps8
      go_wp2_with fail
      refine hR.out.mono ?_
      rintro e w2 ⟨rfl, k2⟩
      have hN1 := Lib.hid (hN1.out _ k2)
      have hN2 := Lib.hid (hN2.out _ k2)
      go_wp2_with fail
      refine hN1.out.mono ?_
      rintro e w3 ⟨rfl, rfl⟩
      go_wp2_with fail
      refine hN2.out.mono ?_
      rintro e w3 ⟨rfl, rfl⟩
      go_wp2_with fail
      go_ret2
      exact hX.out _ k2
    | true =>
    by_cases hst : s = t
    · have hX := hno (fun h => h.2.2.2 hst)
      subst hst
      have hq : (s == s) = true := by simp
      clear hno hr h hG hls hgs h30 hN' hb1 hb2 hok
      go_enter Try.func8, Try.ntmps8
      go_wp2_with fail
      refine hR.out.mono ?_
      rintro e w2 ⟨rfl, k2⟩
      have hN1 := Lib.hid (hN1.out _ k2)
      go_wp2_with fail
      refine hN1.out.mono ?_
      rintro e w3 ⟨rfl, rfl⟩
      have hN2 := Lib.hid (hN2.out _ k2)
      go_wp2_with fail
      refine hN2.out.mono ?_
      rintro e w3 ⟨rfl, rfl⟩
      go_wp2_with fail
      go_ret2
      exact hX.out _ k2
    · have hs := of_decide_eq_true hb1
      have ht := of_decide_eq_true hb2
      have hokF : Hid (okF ls G s t) := ⟨hr, by rw [hls]; exact hs, by rw [hls]; exact ht, hst⟩
      obtain ⟨sn, rfl⟩ := Int.eq_ofNat_of_zero_le hs.1
      obtain ⟨tn, rfl⟩ := Int.eq_ofNat_of_zero_le ht.1
      have hS := Lib.hid (fun W (k : Grew w W) => search_any A V c cG G sn tn ls gs below hops settles W (h.grew k) (hG.grew k) hls hgs (by omega) (by omega) (by omega) hN h30 hok hb)
      have hq : ((sn : Int) == (tn : Int)) = false := by simp; omega
      clear hno hr h hG hls hgs h30 hN' hb1 hb2 hok hs ht hst
      go_enter Try.func8, Try.ntmps8
      go_wp2_with fail
      refine hR.out.mono ?_
      rintro e w2 ⟨rfl, k2⟩
      have hN1 := Lib.hid (hN1.out _ k2)
      go_wp2_with fail
      refine hN1.out.mono ?_
      rintro e w3 ⟨rfl, rfl⟩
      have hN2 := Lib.hid (hN2.out _ k2)
      go_wp2_with fail
      refine hN2.out.mono ?_
      rintro e w3 ⟨rfl, rfl⟩
      have c0 := (B0.grew k2).cell 0
      have c1 := (B0.grew k2).cell 1
      simp at c0 c1
      go_wp2_with fail
      refine (hS.out _ (HK0.trans k2)).mono ?_
      rintro e w3 hE
      obtain ⟨x, is, rfl, rest⟩ := hE
      have hfin : Hid (FindE G G ls gs (sn : Int) (tn : Int) below hops settles w (.returned (.tuple #[u64 x, .bool is])) w3) := ⟨fun _ => ⟨x, is, rfl, (HK0.trans k2).trans rest.1, rest.2⟩, fun h => absurd hokF.out h⟩
      clear rest
      go_wp2_with fail
      go_ret2
      exact hfin.out
end Go.Proofs.Ythbcgdogmkgebaa
