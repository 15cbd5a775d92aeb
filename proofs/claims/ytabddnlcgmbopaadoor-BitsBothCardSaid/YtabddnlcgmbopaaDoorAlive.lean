/- Rows of ints that are the same; the chapter's example. -/
import Derived.Test.YtabddnlcgmbopaaDoorAllL
namespace Go.Proofs.YtabddnlcgmbopaaDoor
open Go.RowKit

theorem lit_own (w : World) (zs : List Int) (hl : zs.length ≤ 100000) : OwnI (w.alloc (.cells (zs.map i64).toArray 3)) w.heap.size (.slice (some ⟨w.heap.size, 0, none⟩) zs.length zs.length) zs :=
  ⟨by simp, .inr ⟨w.heap.size, zs.length, (zs.map i64).toArray, rfl, Nat.le_refl _, heap_alloc_new w _, Nat.le_refl _, by unfold maxLen; omega, by simp, by simp; exact List.take_of_length_le (by simp)⟩⟩
theorem same_own (v v' : Value) (B B' : Nat) (zs zs' : List Int) (w : World) (h : OwnI w B v zs) (h' : OwnI w B' v' zs') (hl : zs.length ≤ 70000) (hl' : zs'.length ≤ 70000) :
    Calls Tryd.prog 17 #[v, v'] w fun e w' => e = .returned (.bool (decide (zs = zs'))) ∧ Grew w w' := by
  obtain ⟨A, c, rfl, r⟩ := h.row
  obtain ⟨A', c', rfl, r'⟩ := h'.row
  exact sameI_any A A' c c' zs zs' w r r' (by omega) (by omega)
theorem same_yes (v v' : Value) (B B' : Nat) (zs zs' : List Int) (w : World) (h : OwnI w B v zs) (h' : OwnI w B' v' zs') (hl : zs.length ≤ 70000) (he : zs = zs') :
    Calls Tryd.prog 17 #[v, v'] w fun e w' => e = .returned (.bool true) ∧ Grew w w' := by
  subst he
  have := same_own v v' B B' zs zs w h h' hl hl
  rwa [decide_eq_true rfl] at this
theorem ex_ins : insI (ofL 5 [1, 3, 9] (fun _ => false)) 5 = [1, 3] := by decide +kernel

set_option maxHeartbeats 1000000 in
theorem alive_any (w : World) (hT : TabB w) : Calls Tryd.prog 6 #[] w fun e w' => e = .returned (.bool true) ∧ Grew w w' := by
  have hO := Lib.hid (fun (W : World) => of_yes 5 (some ⟨W.heap.size, 0, none⟩) 3 [1, 3, 9] (W.alloc (.cells #[i64 1, i64 3, i64 9] 3)) (by omega) (by decide) (by obtain ⟨A, c, h, r⟩ := (lit_own W [1, 3, 9] (by decide)).row; cases h; exact r))
  have HT := Lib.hid hT
  clear hT
  go_enter Tryd.func6, Tryd.ntmps6
  go_wp2_with fail
  refine (hO.out _).mono ?_
  rintro e w1 ⟨S, v, rfl, s1, k1, _⟩
  have k1 : Grew w w1 := ((Kept.refl _ _).alloc _).trans k1
  have hA := Lib.hid (all_any w1 S 5 v _ s1 (HT.out.grew k1))
  rw [ex_ins] at hA
  clear s1
  go_wp2_with fail
  refine hA.out.mono ?_
  rintro e w2 ⟨u, rfl, o2, k2⟩
  have k2 := k1.trans k2
  have hl := Lib.hid (lit_own w2 [1, 3] (by decide))
  have hS := Lib.hid (same_yes u _ _ _ _ _ _ (o2.grew ((Kept.refl _ w2).alloc _)) hl.out (by decide) rfl)
  clear hA o2
  go_wp2_with fail
  refine hS.out.mono ?_
  rintro e w3 ⟨rfl, k3⟩
  have k3 : Grew w w3 := (k2.alloc _).trans k3
  go_wp2_with fail
  refine (hO.out _).mono ?_
  rintro e w4 ⟨S', v', rfl, s4, k4, _⟩
  have k4 : Grew w w4 := (k3.alloc _).trans k4
  have hC := Lib.hid (count_F w4 S' 5 v' _ s4)
  rw [ex_ins] at hC
  clear s4
  go_wp2_with fail
  refine hC.out.mono ?_
  rintro e w5 ⟨rfl, rfl⟩
  go_wp2_with fail
  go_ret
  exact ⟨rfl, k4⟩
end Go.Proofs.YtabddnlcgmbopaaDoor
