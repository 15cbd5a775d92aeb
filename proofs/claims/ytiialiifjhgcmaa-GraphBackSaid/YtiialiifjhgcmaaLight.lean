/- Which graphs are light; the chapter's example. -/
import Derived.Test.YtiialiifjhgcmaaRev
namespace Go.Proofs.Ytiialiifjhgcmaa
open Go.RowKit

theorem light_yes (n : Int) (A : Option Addr) (L c : Nat) (w : World) (h : n ≤ 100 ∨ 4096 < n) (hL : L ≤ 300) : Calls Try.prog 7 #[.agg #[i64 n, .slice A L c]] w fun e w' => e = .returned (.bool true) ∧ Grew w w' := by
  have hK : Grew w (w.alloc (.cells #[i64 n, .slice A L c] 24)) := (Kept.refl _ _).alloc _
  rcases Int.lt_or_le 100 n with h1 | h1
  · have h2 : 4096 < n := by omega
    clear h
    go_enter Try.func7, Try.ntmps7
    go_wp2
    go_ret
    exact ⟨by simp <;> omega, hK⟩
  · clear h
    go_enter Try.func7, Try.ntmps7
    go_wp2
    go_ret
    exact ⟨by simp <;> omega, hK⟩
theorem light_no (n : Int) (A : Option Addr) (L c : Nat) (w : World) (hm : L ≤ 9223372036854775807) (h : ¬ ((n ≤ 100 ∨ 4096 < n) ∧ L ≤ 300)) : Calls Try.prog 7 #[.agg #[i64 n, .slice A L c]] w fun e w' => e = .returned (.bool false) ∧ Grew w w' := by
  have hK : Grew w (w.alloc (.cells #[i64 n, .slice A L c] 24)) := (Kept.refl _ _).alloc _
  rcases Int.lt_or_le 100 n with h1 | h1
  · rcases Int.lt_or_le 4096 n with h2 | h2
    · have h3 : ¬ L ≤ 300 := by omega
      have h4 : (300 : Int) < (L : Int) := by omega
      clear h
      go_enter Try.func7, Try.ntmps7
      go_wp2
      go_ret
      exact ⟨by simp <;> omega, hK⟩
    · clear h
      go_enter Try.func7, Try.ntmps7
      go_wp2
      go_ret
      exact ⟨by simp <;> omega, hK⟩
  · have h3 : ¬ L ≤ 300 := by omega
    have h4 : (300 : Int) < (L : Int) := by omega
    clear h
    go_enter Try.func7, Try.ntmps7
    go_wp2
    go_ret
    exact ⟨by simp <;> omega, hK⟩

set_option maxHeartbeats 1000000 in
theorem alive_any (w : World) : Calls Try.prog 8 #[] w fun e w' => e = .returned (.bool true) ∧ Grew w w' := by
  have bE := Blk.new w 46 #[i64 0, i64 1, u64 5]
  have hK0 : Grew w (w.alloc (.cells #[i64 0, i64 1, u64 5] 46)) := (Kept.refl _ _).alloc _
  have hR : RowE (w.alloc (.cells #[i64 0, i64 1, u64 5] 46)) (some ⟨w.heap.size, 0, none⟩) [(0, 1, 5)] := by
    intro i e he
    have hi := (List.getElem?_eq_some_iff.1 he).1
    obtain rfl : i = 0 := by simp at hi; omega
    simp at he
    subst he
    exact ⟨_, _, rfl, by simp, bE.cell 0, bE.cell 1, bE.cell 2⟩
  have hv := Lib.hid (reverse_yes 2 _ 1 [(0, 1, 5)] _ hR (by decide) (by decide))
  have hr := Lib.hid (fun A c W h => right_any 2 A c [(1, 0, 5)] W h (by decide))
  rw [show rightF 2 [(1, 0, 5)] = 0 by decide] at hr
  go_enter Try.func8, Try.ntmps8
  go_wp2_with fail
  refine hv.out.mono ?_
  rintro e w1 ⟨v, rfl, hown, k1⟩
  obtain ⟨A1, cc, rfl⟩ := hown.len
  obtain ⟨g, hg⟩ : ∃ g, A1 = some ⟨g, 0, none⟩ := by
    obtain ⟨g, c', hx⟩ := own_form hown (by decide)
    cases hx
    exact ⟨g, rfl⟩
  subst hg
  have hown1 := Grew.own ((Kept.refl (fun _ => False) w1).alloc (.cells #[i64 2, .slice (some ⟨g, 0, none⟩) 1 cc] 24)) hown
  obtain ⟨e0, e1, e2⟩ := Edges.at3 (es := [(1, 0, 5)]) hown1 rfl (k := 0) rfl
  simp at e0 e1 e2
  have hR1 : RowE (w1.alloc (.cells #[i64 2, .slice (some ⟨g, 0, none⟩) 1 cc] 24)) (some ⟨g, 0, none⟩) [(1, 0, 5)] := by
    obtain ⟨A, c, hx, hrow⟩ := Edges.row (es := [(1, 0, 5)]) hown1
    cases hx
    exact hrow
  have bG := Blk.new w1 24 #[i64 2, .slice (some ⟨g, 0, none⟩) 1 cc]
  have hrx := Lib.hid (hr.out _ cc _ hR1)
  have hK1 := (hK0.trans k1).alloc (.cells #[i64 2, .slice (some ⟨g, 0, none⟩) 1 cc] 24)
  clear hown hown1 hR1 hR hr k1 hv bE hK0
  go_wp2_with fail
  refine hrx.out.mono ?_
  rintro e w2 ⟨rfl, k2⟩
  go_wp2_with fail
  go_ret
  exact ⟨rfl, hK1.trans k2⟩
end Go.Proofs.Ytiialiifjhgcmaa
