/- Sets of numbers: Clone. -/
import Derived.Test.YtabddnlcgmbopaaDoorNew
import Derived.Lib.SliceRun
namespace Go.Proofs.YtabddnlcgmbopaaDoor
open Go.RowKit

def wordV (ws : List Nat) : List Value := ws.map (fun x : Nat => u64 x)
theorem words_one (ws : List Nat) : ∀ u ∈ wordV ws, u.oneCell' = true := by
  intro u hu
  obtain ⟨x, _, rfl⟩ := List.mem_map.1 hu
  rfl
theorem RowW.of_own {w : World} {B : Nat} {v : Value} {ws : List Nat} (h : w.ownsRow B 46 1 v ws.length (wordV ws)) : RowW w v ws ∧ ∀ j, ownW v = some j → B ≤ j := by
  rcases h.2 with ⟨hv, h0⟩ | ⟨g, cap, cur, hv, hb, hg, h1, h2, h3, h4⟩
  · have := List.eq_nil_of_length_eq_zero h0
    subst this
    exact ⟨.inl ⟨rfl, none, 0, hv⟩, fun j hj => by rw [hv] at hj; cases hj⟩
  · rcases Nat.eq_zero_or_pos ws.length with h0 | h0
    · have := List.eq_nil_of_length_eq_zero h0
      subst this
      exact ⟨.inl ⟨rfl, _, cap, hv⟩, fun j hj => by rw [hv] at hj; cases hj⟩
    · refine ⟨.inr ⟨g, cap, cur, hv, h0, hg, fun j x hj => ?_⟩, fun j hj => ?_⟩
      · have hjl := (List.getElem?_eq_some_iff.1 hj).1
        have h5 : (cur.toList.take (ws.length * 1))[j]? = (wordV ws)[j]? := by rw [h4]
        rw [List.getElem?_take, if_pos (by omega)] at h5
        rw [← Array.getElem?_toList, h5]
        unfold wordV
        rw [List.getElem?_map, hj]
        rfl
      · obtain ⟨m, hm⟩ : ∃ m, ws.length = m + 1 := ⟨ws.length - 1, by omega⟩
        rw [hv, hm] at hj
        obtain rfl : g = j := Option.some.inj hj
        exact hb
theorem word_empty (w : World) (B : Nat) (hB : B ≤ w.heap.size) : (w.alloc (.cells #[] 46)).ownsRow B 46 1 (.slice (some ⟨w.heap.size, 0, none⟩) 0 0) 0 [] :=
  ⟨rfl, .inr ⟨w.heap.size, 0, #[], rfl, hB, heap_alloc_new w _, Nat.le_refl _, by unfold maxLen; omega, rfl, rfl⟩⟩
set_option maxHeartbeats 1000000 in
theorem sclone_any (w : World) (v : Value) (ws : List Nat) (h : RowW w v ws) (hl : ws.length ≤ 1025) : Calls Tryd.prog 24 #[v] w fun e w' => ∃ v', e = .returned v' ∧ RowW w' v' ws ∧ Grew w w' ∧ ∀ j, ownW v' = some j → w.heap.size ≤ j := by
  obtain ⟨i0, hi, hz0, hz1, hz2⟩ := info_parts info_word
  obtain ⟨A, c, hv⟩ := h.slice
  subst hv
  have hq := fun w a n c => Lib.run_eql_slice_nil (P := Tryd.prog) w 43 46 a n c 0 0 Tryd.underlying43
  cases A with
  | none =>
    obtain rfl : ws = [] := by
      rcases h with ⟨h, _⟩ | ⟨g, c, cur, hv, _⟩
      · exact h
      · cases hv
    clear h
    simp only [List.length_nil]
    go_enter Tryd.func24, Tryd.ntmps24
    go_wp2
    go_ret
    exact ⟨_, rfl, .inl ⟨rfl, _, _, rfl⟩, Kept.refl _ _, fun j hj => by cases hj⟩
  | some a =>
    have hn : Hid (∀ j u, (wordV ws)[j]? = some u → (w.alloc (.cells #[] 46)).cell? (a.add j) = some u) := by
      intro j u hj
      unfold wordV at hj
      rw [List.getElem?_map] at hj
      obtain ⟨x, hx, rfl⟩ := Option.map_eq_some_iff.1 hj
      rcases h with ⟨h, _⟩ | ⟨g, c1, cur, hv, h0, hb, hc⟩
      · rw [h] at hx; simp at hx
      · cases hv
        have ha : (⟨g, 0, none⟩ : Addr).add j = ⟨g, j, none⟩ := by unfold Addr.add; split <;> simp_all
        rw [ha, (hb.alloc _).cell j]
        exact hc j x hx
    have hE := Lib.hid (word_empty w w.heap.size (Nat.le_refl _))
    have h1 := Lib.hid (words_one ws)
    have hL := Lib.hid (show (wordV ws).length = ws.length * 1 by unfold wordV; rw [List.length_map, Nat.mul_one])
    clear h
    go_enter Tryd.func24, Tryd.ntmps24
    go_wp2_with (at_builtin; refine wpList_append_own _ rfl (.tmp 5) (.tmp 6) 43 (by rfl) w.heap.size 46 i0 (.int .u64 0) 1 8 Tryd.underlying43 hi hz0 hz1 hz2 (by rfl) (by omega) _ 0 [] rfl hE.out a ws.length c (wordV ws) rfl hL.out hn.out h1.out (by unfold maxLen; omega) (by omega) (by simp) ?_; intro v' w1 hown hg _)
    rw [Nat.zero_add, List.nil_append] at hown
    go_wp2_with fail
    go_ret
    have hR := RowW.of_own hown
    exact ⟨_, rfl, hR.1, ((Kept.refl (fun _ => False) w).alloc _).grown hg (fun k hk => by cases hk; exact .inr (Nat.le_refl _)), hR.2⟩
theorem clone_nil (w : World) : Calls Tryd.prog 15 #[.pointer none] w fun e w' => e = .returned (.pointer none) ∧ w = w' := by
  go_enter Tryd.func15, Tryd.ntmps15
  go_wp2_with fail
  go_ret
  exact ⟨rfl, rfl⟩
end Go.Proofs.YtabddnlcgmbopaaDoor
