/- Arcs cloned, sorted, and merged. -/
import Derived.Test.YthbcgdogmkgebaaStable
import Derived.Test.YthbcgdogmkgebaaCompact
import Derived.Test.YthbcgdogmkgebaaArcs
namespace Go.Proofs.Ythbcgdogmkgebaa
open Go.RowKit

theorem arc_empty (w : World) (B : Nat) (hB : B ≤ w.heap.size) : (w.alloc (.cells #[] 56)).ownsRow B 56 2 (.slice (some ⟨w.heap.size, 0, none⟩) 0 0) 0 [] :=
  ⟨rfl, .inr ⟨w.heap.size, 0, #[], rfl, hB, heap_alloc_new w _, Nat.le_refl _, by unfold maxLen; omega, rfl, rfl⟩⟩
/-- The cells of a row of arcs, one by one. -/
theorem RowA.cells {w : World} {b off : Nat} {l : List Ar} (h : RowA w (some ⟨b, off, none⟩) l) (j : Nat) (u : Value) (hj : (cellsA l)[j]? = some u) : w.cell? ⟨b, off + j, none⟩ = some u := by
  have hjl : j < l.length * 2 := by rw [← cellsA_length]; exact (List.getElem?_eq_some_iff.1 hj).1
  obtain ⟨e, he⟩ : ∃ e, l[j / 2]? = some e := ⟨_, List.getElem?_eq_getElem (by omega)⟩
  obtain ⟨b', off', ha, _, c0, c1⟩ := h (j / 2) e he
  cases ha
  rcases (show j = j / 2 * 2 ∨ j = j / 2 * 2 + 1 by omega) with q | q
  · have := cellsA_get l (j / 2) 0 e he (by omega)
    rw [Nat.add_zero, ← q, hj] at this
    rw [q, c0]
    exact this.symm
  · have := cellsA_get l (j / 2) 1 e he (by omega)
    rw [← q, hj] at this
    rw [q, ← Nat.add_assoc, c1]
    exact this.symm
set_option maxHeartbeats 1000000 in
theorem aclone_any (w : World) (B : Nat) (u : Value) (l : List Ar) (h : OwnA w B u l) (hl : l.length ≤ 70000) : Calls Try.prog 28 #[u] w fun e w' => ∃ v', e = .returned v' ∧ OwnA w' w.heap.size v' l ∧ Grew w w' := by
  obtain ⟨i0, hi, hz0, hz1, hz2⟩ := info_parts info_arc
  have hq := fun w a n c => Lib.run_eql_slice_nil (P := Try.prog) w 48 56 a n c 0 0 Try.underlying48
  obtain ⟨A, c, rfl, hr⟩ := h.row
  by_cases hA : A = none
  · subst hA
    have h0 : l = [] := by
      rcases h.2 with ⟨hv, h0⟩ | ⟨g, cap, cur, hv, _⟩
      · exact List.eq_nil_of_length_eq_zero h0
      · cases hv
    subst h0
    clear h hr
    simp only [List.length_nil]
    go_enter Try.func28, Try.ntmps28
    go_wp2
    go_ret
    exact ⟨_, rfl, World.ownsRow_nil _ _ _ _, Kept.refl _ _⟩
  · obtain ⟨g, hg⟩ : ∃ g, A = some ⟨g, 0, none⟩ := by
      rcases h.2 with ⟨hv, h0⟩ | ⟨g, cap, cur, hv, _⟩
      · exact absurd (Value.slice.inj hv).1 hA
      · cases hv; exact ⟨g, rfl⟩
    subst hg
    have hn : Hid (∀ j u, (cellsA l)[j]? = some u → (w.alloc (.cells #[] 56)).cell? ((⟨g, 0, none⟩ : Addr).add j) = some u) := by
      intro j u hj
      have ha : (⟨g, 0, none⟩ : Addr).add j = ⟨g, 0 + j, none⟩ := by unfold Addr.add; split <;> simp_all
      rw [ha]
      exact Grew.cell ((Kept.refl _ _).alloc _) (hr.cells j u hj)
    have hE := Lib.hid (arc_empty w w.heap.size (Nat.le_refl _))
    have h1 := Lib.hid (cellsA_one l)
    have hL := Lib.hid (cellsA_length l)
    clear h hA hr
    go_enter Try.func28, Try.ntmps28
    go_wp2_with (at_builtin; refine wpList_append_own _ rfl (.tmp 5) (.tmp 6) 48 (by rfl) w.heap.size 56 i0 (.agg #[i64 0, u64 0]) 2 16 Try.underlying48 hi hz0 hz1 hz2 (by rfl) (by omega) _ 0 [] rfl hE.out ⟨g, 0, none⟩ l.length c (cellsA l) rfl hL.out hn.out h1.out (by unfold maxLen; omega) (by omega) (by simp) ?_; intro v' w1 hown hg _)
    rw [Nat.zero_add, List.nil_append] at hown
    go_wp2_with fail
    go_ret
    exact ⟨_, rfl, hown, ((Kept.refl (fun _ => False) w).alloc _).grown hg (fun k hk => by cases hk; exact .inr (Nat.le_refl _))⟩

/-! ### Nothing, sorted and merged -/
set_option maxHeartbeats 1000000 in
theorem insertion_nil (w : World) : Calls Try.prog 60 #[.slice none 0 0, i64 0, i64 0, (.func (.func 30) #[] #[])] w fun e w' => e = .returned (.tuple #[]) ∧ w = w' := by
  go_enter Try.func60, Try.ntmps60
  go_wp2_with fail
  go_loopw [8, 9] (fun i _ wr => i = .int .i64 1 ∧ w = wr) (fun _ _ _ => 0)
  case atStart => exact ⟨rfl, rfl⟩
  case round =>
    obtain ⟨rfl, rfl⟩ := hrel
    go_wp2_with fail
    go_end0
    exact ⟨rfl, rfl⟩
set_option maxHeartbeats 2000000 in
theorem stable_nil (w : World) : Calls Try.prog 51 #[.slice none 0 0, i64 0, (.func (.func 30) #[] #[])] w fun e w' => e = .returned (.tuple #[]) ∧ w = w' := by
  have hI := Lib.hid (insertion_nil w)
  go_enter Try.func51, Try.ntmps51
  go_wp2_with fail
  go_loopw [7, 8] (fun a b wr => a = .int .i64 0 ∧ b = .int .i64 20 ∧ w = wr) (fun _ _ _ => 0)
  case atStart => exact ⟨rfl, rfl, rfl⟩
  case round =>
    obtain ⟨rfl, rfl, rfl⟩ := hrel
    go_wp2_with fail
    refine hI.out.mono ?_
    rintro e w2 ⟨rfl, rfl⟩
    go_wp2_with fail
    go_loopw [6, 7, 8, 9] (fun s _ _ _ wr => s = .int .i64 20 ∧ w = wr) (fun _ _ _ _ _ => 0)
    case atStart => exact ⟨rfl, rfl⟩
    case round =>
      obtain ⟨rfl, rfl⟩ := hrel
      go_wp2_with fail
      go_end0
      exact ⟨rfl, rfl⟩
set_option maxHeartbeats 1000000 in
theorem sort_nil (w : World) : Calls Try.prog 29 #[.slice none 0 0, (.func (.func 30) #[] #[])] w fun e w' => e = .returned (.tuple #[]) ∧ w = w' := by
  have hC := Lib.hid (stable_nil w)
  go_enter Try.func29, Try.ntmps29
  go_wp2_with fail
  refine hC.out.mono ?_
  rintro e w2 ⟨rfl, rfl⟩
  go_wp2_with fail
  go_end0
  exact ⟨rfl, rfl⟩
set_option maxHeartbeats 1000000 in
theorem compact_nil (w : World) : Calls Try.prog 34 #[.slice none 0 0, (.func (.func 35) #[] #[])] w fun e w' => e = .returned (.slice none 0 0) ∧ w = w' := by
  go_enter Try.func34, Try.ntmps34
  go_wp2_with fail
  go_ret
  exact ⟨rfl, rfl⟩

theorem Kp_le (f : Row) : ∀ n, (Kp f n).length ≤ n
  | 0 => Nat.le_refl _
  | n + 1 => by
    have := Kp_le f n
    unfold Kp
    split
    · rw [List.length_append]; simp; omega
    · omega
def rowOf (l : List Ar) : Row := fun i => l.getD i (0, 0)
theorem OwnA.rowF {w : World} {B g c : Nat} {l : List Ar} (h : OwnA w B (.slice (some ⟨g, 0, none⟩) l.length c) l) : B ≤ g ∧ l.length ≤ c ∧ RowF w g l.length (rowOf l) := by
  rcases h.2 with ⟨hv, _⟩ | ⟨g', cap, cur, hv, hb, hg, h1, h2, h3, h4⟩
  · cases hv
  · cases hv
    refine ⟨hb, h1, cur, hg, fun i hi => ?_⟩
    have he : l[i]? = some (rowOf l i) := by unfold rowOf; rw [List.getD_eq_getElem?_getD, List.getElem?_eq_getElem hi]; rfl
    have q0 := cellsA_get l i 0 _ he (by omega)
    have q1 := cellsA_get l i 1 _ he (by omega)
    rw [← h4, List.getElem?_take, if_pos (by omega)] at q0 q1
    rw [← Array.getElem?_toList, ← Array.getElem?_toList]
    exact ⟨q0, q1⟩
theorem Kept2.nil {out : List Ar} (h : Kept2 [] 0 out) : out = [] := by
  cases out with
  | nil => rfl
  | cons x t =>
    obtain ⟨i, h1, _⟩ := (h.mem x).1 (by simp)
    omega
set_option maxHeartbeats 2000000 in
theorem merged_any (w : World) (B : Nat) (u : Value) (l : List Ar) (h : OwnA w B u l) (hl : l.length ≤ 60) : Calls Try.prog 16 #[u] w fun e w' => ∃ A c out, e = .returned (.slice A (List.length out) c) ∧ RowA w' A out ∧ List.length out ≤ 60 ∧ (∀ out', Kept2 l l.length out' → out = out') ∧ Grew w w' := by
  have hC := Lib.hid (aclone_any w B u l h (by omega))
  obtain ⟨L, hL⟩ : ∃ L, l.length = L := ⟨_, rfl⟩
  have HL := Lib.hid hL
  have hS := Lib.hid (fun g cap f w h => sort_any g L cap f w h (by omega))
  have hK := Lib.hid (fun g cap f w h h' => compact_any g L cap f w h (by omega) h')
  go_enter Try.func16, Try.ntmps16
  go_wp2_with fail
  refine hC.out.mono ?_
  rintro e w1 ⟨v, rfl, hown, k1⟩
  obtain ⟨A, c, rfl, hr⟩ := hown.row
  by_cases hA : A = none
  · subst hA
    have h0 : l = [] := by
      rcases hown.2 with ⟨hv, h0⟩ | ⟨g, cap, cur, hv, _⟩
      · exact List.eq_nil_of_length_eq_zero h0
      · cases hv
    have hc : c = 0 := by
      rcases hown.2 with ⟨hv, h0⟩ | ⟨g, cap, cur, hv, _⟩
      · exact (Value.slice.inj hv).2.2
      · cases hv
    subst h0
    subst hc
    have h1 := Lib.hid (sort_nil w1)
    have h2 := Lib.hid (compact_nil w1)
    clear hC hS hK h hown hr HL hL
    simp only [List.length_nil]
    go_wp2_with fail
    refine h1.out.mono ?_
    rintro e w2 ⟨rfl, rfl⟩
    go_wp2_with fail
    refine h2.out.mono ?_
    rintro e w2 ⟨rfl, rfl⟩
    go_wp2_with fail
    go_ret
    exact ⟨none, 0, [], rfl, RowA.nil _ _, by simp, fun out' h => h.nil.symm, k1⟩
  · obtain ⟨g, hg⟩ : ∃ g, A = some ⟨g, 0, none⟩ := by
      rcases hown.2 with ⟨hv, h0⟩ | ⟨g, cap, cur, hv, _⟩
      · exact absurd (Value.slice.inj hv).1 hA
      · cases hv; exact ⟨g, rfl⟩
    subst hg
    obtain ⟨hB, hcl, hrow⟩ := hown.rowF
    have hs := Lib.hid (hS.out g c (rowOf l) w1 (by rw [← hL]; exact hrow))
    have k1' := Lib.hid k1
    rw [hL] at hcl ⊢
    clear hC hS h hown hr hA hrow k1 hL
    go_wp2_with fail
    refine hs.out.mono ?_
    rintro e w2 ⟨rfl, f2, hf2, k2, s2, t2⟩
    have hk := Lib.hid (hK.out g c f2 w2 hf2 hcl)
    have hfin : Hid ((Kp f2 L).length ≤ 60 ∧ (∀ out', Kept2 l L out' → Kp f2 L = out')) := ⟨by have := Kp_le f2 L; have := HL.out; omega, fun out' h => merged_same HL.out (fun i hi => by unfold rowOf; rw [List.getD_eq_getElem?_getD, List.getElem?_eq_getElem (by rw [HL.out]; exact hi)]; rfl) s2 t2 h⟩
    clear hs hK hf2 s2 t2
    go_wp2_with fail
    refine hk.out.mono ?_
    rintro e w3 ⟨rfl, r3, k3⟩
    clear hk
    go_wp2_with fail
    go_ret
    exact ⟨_, c, Kp f2 L, rfl, r3, hfin.out.1, fun out' h => hfin.out.2 out' (by rw [← HL.out]; exact h), k1'.out.then (k2.trans k3) (fun i hi h => by have h : i = g := h; omega)⟩
end Go.Proofs.Ythbcgdogmkgebaa
