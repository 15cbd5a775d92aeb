/- The chapter's example; the law AdjNils. -/
import Derived.Test.YtmpnaleenehkgaaNilA
namespace Go.Proofs.Ytmpnaleenehkgaa
open Go.RowKit Go.Shelf
attribute [local go_sem] Oper.semAt_some

set_option maxRecDepth 100000 in
set_option maxHeartbeats 4000000 in
theorem walked_nil (v : Int) (back : Bool) (w : World) : Calls Try.prog 13 #[.pointer none, .agg #[i64 0, .slice none 0 0], i64 v, .bool back] w fun e w' => e = .returned (.tuple #[.slice none 0 0, .bool true]) ∧ Grew w w' := by
  have hM := Lib.hid (fun W => each_made v back W)
  have hq := func_nil
  refine (callsIn_wide (n := 9)).1 ?_
  refine callsIn_of_wp_marks Try.func13 rfl trivial ?_ rfl
  simp only [Try.ntmps13, List.size_toArray, List.length_cons, List.length_nil, Nat.reduceAdd, Nat.reduceSub, Array.replicate_succ, Array.replicate_zero, List.push_toArray, List.append_toArray, List.nil_append, List.cons_append]
  refine wpIn_wide.2 ?_
  go_wp2_with fail
  refine (hM.out _).mono ?_
  rintro e w2 ⟨rfl, rfl⟩
  go_wp2_with fail
  obtain ⟨W1, hW1⟩ : ∃ W1, ((w.alloc (.cells #[i64 0, .slice none 0 0] 24)).alloc (.cells #[.slice none 0 0] 32)).alloc (.cells #[.bool true] 4) = W1 := ⟨_, rfl⟩
  have kT1 := (three' w (.cells #[i64 0, .slice none 0 0] 24) (.cells #[.slice none 0 0] 32) (.cells #[.bool true] 4)).2
  have hz : W1.heap.size = w.heap.size + 1 + 1 + 1 := by rw [← hW1]; simp
  rw [hW1] at kT1 ⊢
  obtain ⟨t5, t10, t11, k1⟩ := kT1
  rw [← hz]
  clear hW1
  have kT := (three' W1 (.cells #[.pointer none] 29) (.cells #[i64 v] 3) (.cells #[.bool back] 4)).2
  obtain ⟨W0, hW0⟩ : ∃ W0, ((W1.alloc (.cells #[.pointer none] 29)).alloc (.cells #[i64 v] 3)).alloc (.cells #[.bool back] 4) = W0 := ⟨_, rfl⟩
  rw [hW0] at kT ⊢
  clear hW0
  obtain ⟨ta, tb, tc, k2⟩ := kT
  have b10 := (show Blk W1 (w.heap.size + 1) 32 #[.slice none 0 0] from t10).grew k2
  have b11 := (show Blk W1 (w.heap.size + 1 + 1) 4 #[.bool true] from t11).grew k2
  have k0 := k1.trans k2
  have hz0 := k0.size
  refine (wpIn_wide (n := 9)).1 ?_
  refine wpIn_rangeFunc_ownH rfl (by omega) (gf := 36) (lb := #[.pointer (some ⟨W1.heap.size, 0, none⟩), .pointer (some ⟨W1.heap.size + 1, 0, none⟩), .pointer (some ⟨W1.heap.size + 1 + 1, 0, none⟩)]) rfl trivial (enters_of Try.func36 (by kernel_rfl) rfl)
    (stops_nil _ _ _ _ v back W0 (Blk.cell ta 0) (Blk.cell tb 0) (Blk.cell tc 0)) belowK_t (belowK_b (Nat.le_refl _)) (Below.refl _ _) (fun _ => rfl)
    (fun pre W => Blk W (w.heap.size + 1) 32 #[.slice none 0 0] ∧ Blk W (w.heap.size + 1 + 1) 4 #[.bool true] ∧ Grew w W ∧ W0.heap.size ≤ W.heap.size)
    (fun _ _ _ => False)
    (fun s A B row hs hg hr => ⟨own_blk _ _ _ (fun _ => #[.slice none 0 0]) s A B row hs.1 hg hr, own_blk _ _ _ (fun _ => #[.bool true]) s A B row hs.2.1 hg hr, own_grew hz0 s A B row hs.2.2.1 hg hr, Nat.le_trans hs.2.2.2 hg.size⟩)
    (fun _ _ _ _ _ hs _ _ => hs)
    ⟨b10, b11, k0, Nat.le_refl _⟩ (fun _ _ _ => True) (fun _ _ _ _ _ _ _ _ _ => trivial) ?assign ?body ?done ?stop
  case assign =>
    rintro l pre x W K ⟨h1, h2, h3, h4⟩ hK
    gi_wp2
    exact hK _ _ ((KeepsOthers.alloc _ _).from _) ((Below.refl _ W).alloc h4 _) ⟨h1.alloc _, h2.alloc _, h3.alloc _, Nat.le_trans h4 (by simp)⟩ trivial
  case body => exact fun l pre x a' W _ _ _ _ h => absurd h (Nat.not_lt_zero _)
  case stop =>
    rintro D c pre W _ _ h _
    exact h.elim
  case done =>
    rintro D ys W hD rfl ⟨c10, c11, hK, hsz⟩ hDd
    have d0 := c10.cell 0
    have d1 := c11.cell 0
    simp at d0 d1
    clear hq hM
    go_wp2_with fail
    go_quiet (fail)
    go_wp2
    refine ⟨by simp, .inl ⟨_, _, rfl, run_takeDeferred (w := W.drewN nq) hDd, ?_⟩⟩
    refine ⟨.tuple #[.slice none 0 0, .bool true], by simp [results, Try.f13, go_sem], rfl, ?_⟩
    exact (hK.drewN nq).putObj D _ (.inr (by omega))

theorem alive_row (w : World) : RowE (w.alloc (.cells #[i64 0, i64 1, u64 1, i64 0, i64 1, u64 2] 36)) (some ⟨w.heap.size, 0, none⟩) [(0, 1, 1), (0, 1, 2)] := by
  have bE := Blk.new w 36 #[i64 0, i64 1, u64 1, i64 0, i64 1, u64 2]
  intro i e he
  have hi := (List.getElem?_eq_some_iff.1 he).1
  simp only [List.length_cons, List.length_nil] at hi
  rcases (show i = 0 ∨ i = 1 by omega) with rfl | rfl
  · simp at he
    subst he
    exact ⟨_, _, rfl, by simp, bE.cell 0, bE.cell 1, bE.cell 2⟩
  · simp at he
    subst he
    exact ⟨_, _, rfl, by simp, bE.cell 3, bE.cell 4, bE.cell 5⟩
set_option maxHeartbeats 1000000 in
theorem alive_any (w : World) : Calls Try.prog 7 #[] w fun e w' => e = .returned (.bool true) ∧ Grew w w' := by
  have hN := Lib.hid (new_yes 2 _ 2 [(0, 1, 1), (0, 1, 2)] _ (alive_row w) (by decide))
  have hO := Lib.hid (fun W B a (h : AdjB W B a 2 [(0, 1, 1), (0, 1, 2)]) => out_any W B a 2 0 _ h (by omega) (by omega) (by decide))
  rw [show rowI (keyF [(0, 1, 1), (0, 1, 2)]) 0 (List.length [((0 : Int), (1 : Int), (1 : Int)), (0, 1, 2)]) = [0, 1] by decide] at hO
  have hE := Lib.hid (fun W B a (h : AdjB W B a 2 [(0, 1, 1), (0, 1, 2)]) => edges_any W B a 2 _ h)
  go_enter Try.func7, Try.ntmps7
  go_wp2_with fail
  refine hN.out.mono ?_
  rintro e w1 ⟨a, rfl, hA, k1⟩
  have k1 : Grew w w1 := ((Kept.refl _ _).alloc _).trans k1
  have hA := Lib.hid hA
  clear hN
  go_wp2_with fail
  refine (hO.out _ _ _ hA.out).mono ?_
  rintro e w2 ⟨u, rfl, o2, k2⟩
  have hl := Lib.hid (lit_own w2 [0, 1] (by decide))
  have hS := Lib.hid (same_yes u _ _ _ _ _ _ (o2.grew ((Kept.refl _ w2).alloc _)) hl.out (by decide) rfl)
  have hA2 := Lib.hid (hA.out.grew (k2.alloc (.cells #[i64 0, i64 1] 3)))
  replace k2 := (k1.trans k2).alloc (.cells #[i64 0, i64 1] 3)
  clear o2 hA k1
  go_wp2_with fail
  refine hS.out.mono ?_
  rintro e w3 ⟨rfl, k3⟩
  have hA3 := Lib.hid (hA2.out.grew k3)
  clear hA2
  go_wp2_with fail
  refine (hE.out _ _ _ hA3.out).mono ?_
  rintro e w4 ⟨rfl, rfl⟩
  simp only [List.length_cons, List.length_nil]
  go_wp2_with fail
  go_ret
  exact ⟨rfl, k2.trans k3⟩

theorem field_n (w : World) : (Instr.field 24 (.agg #[i64 0, .slice none 0 0]) 0).run Try.prog w = .ok (i64 0) w := by kernel_rfl
set_option maxHeartbeats 1000000 in
theorem nils_law (v : Int) (back : Bool) (w : World) : Calls Try.prog 4 #[i64 v, .bool back] w fun e w' => e = .returned (.bool true) ∧ Grew w w' := by
  have hW := Lib.hid (walked_nil v back)
  have hEd := Lib.hid (edge_nil v)
  have hN := Lib.hid nodes_nil
  have hE := Lib.hid edges_nil
  have hO := Lib.hid (out_nil v)
  have hI := Lib.hid (in_nil v)
  have hB := Lib.hid (between_nil v v)
  have hG := Lib.hid graph_nil
  have hA := Lib.hid alive_any
  have hf := field_n
  go_enter Try.func4, Try.ntmps4
  go_wp2_with fail
  refine (hW.out _).mono ?_
  rintro e w1 ⟨rfl, k1⟩
  go_wp2_with fail
  refine (hEd.out _).mono ?_
  rintro e w2 ⟨rfl, k2⟩
  replace k2 := (k1.trans k2)
  go_wp2_with fail
  refine (hN.out _).mono ?_
  rintro e w3 ⟨rfl, rfl⟩
  go_wp2_with fail
  refine (hE.out _).mono ?_
  rintro e w3 ⟨rfl, rfl⟩
  go_wp2_with fail
  refine (hO.out _).mono ?_
  rintro e w3 ⟨A3, c3, rfl, k3⟩
  go_wp2_with fail
  refine (hI.out _).mono ?_
  rintro e w4 ⟨A4, c4, rfl, k4⟩
  go_wp2_with fail
  refine (hB.out _).mono ?_
  rintro e w5 ⟨rfl, k5⟩
  go_wp2_with fail
  refine (hG.out _).mono ?_
  rintro e w6 ⟨rfl, k6⟩
  go_wp2_with fail
  refine (hA.out _).mono ?_
  rintro e w7 ⟨rfl, k7⟩
  go_wp2_with fail
  go_ret
  exact ⟨rfl, (((((k2.alloc _).trans k3).trans k4).trans k5).trans k6).trans k7⟩
end Go.Proofs.Ytmpnaleenehkgaa
