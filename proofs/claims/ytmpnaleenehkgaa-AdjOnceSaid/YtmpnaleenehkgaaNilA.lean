/- What a nil Adj says; the chapter's example; the law AdjNils. -/
import Derived.Test.YtmpnaleenehkgaaOut
import Derived.Test.YtmpnaleenehkgaaIter
import Derived.RangeFuncNested
import Derived.RangeFuncBox
namespace Go.Proofs.Ytmpnaleenehkgaa
open Go.RowKit Go.Shelf
attribute [local go_sem] Oper.semAt_some

theorem nodes_nil (w : World) : Calls Try.prog 15 #[.pointer none] w fun e w' => e = .returned (i64 0) ∧ w = w' := by
  go_enter Try.func15, Try.ntmps15
  go_wp2_with fail
  go_ret
  exact ⟨rfl, rfl⟩
theorem edges_nil (w : World) : Calls Try.prog 16 #[.pointer none] w fun e w' => e = .returned (i64 0) ∧ w = w' := by
  go_enter Try.func16, Try.ntmps16
  go_wp2_with fail
  go_ret
  exact ⟨rfl, rfl⟩
theorem row_nil (v : Int) (back : Bool) (w : World) : Calls Try.prog 27 #[.pointer none, i64 v, .bool back] w fun e w' => e = .returned (.slice none 0 0) ∧ w = w' := by
  go_enter Try.func27, Try.ntmps27
  go_wp2_with fail
  go_ret
  exact ⟨rfl, rfl⟩
theorem clone_none (w : World) : Calls Try.prog 26 #[.slice none 0 0] w fun e w' => ∃ v', e = .returned v' ∧ OwnI w' w.heap.size v' [] ∧ Grew w w' := iclone_any w none 0 [] (fun i z h => by simp at h) (fun _ => rfl) (by simp)
theorem out_nil (v : Int) (w : World) : Calls Try.prog 9 #[.pointer none, i64 v] w fun e w' => ∃ A c, e = .returned (.slice A 0 c) ∧ Grew w w' := by
  have hR := Lib.hid (row_nil v false w)
  have hC := Lib.hid (clone_none w)
  go_enter Try.func9, Try.ntmps9
  go_wp2_with fail
  refine hR.out.mono ?_
  rintro e w1 ⟨rfl, rfl⟩
  go_wp2_with fail
  refine hC.out.mono ?_
  rintro e w1 ⟨u, rfl, ho, k⟩
  obtain ⟨A, c, rfl, _⟩ := ho.row
  go_wp2_with fail
  go_ret
  exact ⟨A, c, rfl, k⟩
theorem in_nil (v : Int) (w : World) : Calls Try.prog 10 #[.pointer none, i64 v] w fun e w' => ∃ A c, e = .returned (.slice A 0 c) ∧ Grew w w' := by
  have hR := Lib.hid (row_nil v true w)
  have hC := Lib.hid (clone_none w)
  go_enter Try.func10, Try.ntmps10
  go_wp2_with fail
  refine hR.out.mono ?_
  rintro e w1 ⟨rfl, rfl⟩
  go_wp2_with fail
  refine hC.out.mono ?_
  rintro e w1 ⟨u, rfl, ho, k⟩
  obtain ⟨A, c, rfl, _⟩ := ho.row
  go_wp2_with fail
  go_ret
  exact ⟨A, c, rfl, k⟩
theorem each_made (v : Int) (back : Bool) (w : World) : Calls Try.prog 28 #[.pointer none, i64 v, .bool back] w fun e w' =>
    e = .returned (.func (.func 36) #[] #[.pointer (some ⟨w.heap.size, 0, none⟩), .pointer (some ⟨w.heap.size + 1, 0, none⟩), .pointer (some ⟨w.heap.size + 1 + 1, 0, none⟩)]) ∧ w' = ((w.alloc (.cells #[.pointer none] 29)).alloc (.cells #[i64 v] 3)).alloc (.cells #[.bool back] 4) := by
  go_enter Try.func28, Try.ntmps28
  go_wp2
  go_ret
  exact ⟨rfl, rfl⟩
theorem edge_nil (v : Int) (w : World) : Calls Try.prog 14 #[.pointer none, i64 v] w fun e w' => e = .returned (.tuple #[.agg #[i64 0, i64 0, u64 0], .bool false]) ∧ Grew w w' := by
  have hE := Lib.hid edges_nil
  rcases Int.lt_or_le v 0 with h0 | h0
  · go_enter Try.func14, Try.ntmps14
    go_wp2_with fail
    have b := Blk.new w 36 #[i64 0, i64 0, u64 0]
    have c0 := b.cell 0
    have c1 := b.cell 1
    have c2 := b.cell 2
    simp at c0 c1 c2
    exact bodyPost_ret (v := .tuple #[.agg #[i64 0, i64 0, u64 0], .bool false]) (by simp [results, Try.results14, go_sem, c0, c1, c2]) rfl ⟨rfl, (Kept.refl _ _).alloc _⟩
  · go_enter Try.func14, Try.ntmps14
    go_wp2_with fail
    refine (hE.out _).mono ?_
    rintro e w1 ⟨rfl, rfl⟩
    go_wp2_with fail
    have b := Blk.new w 36 #[i64 0, i64 0, u64 0]
    have c0 := b.cell 0
    have c1 := b.cell 1
    have c2 := b.cell 2
    simp at c0 c1 c2
    exact bodyPost_ret (v := .tuple #[.agg #[i64 0, i64 0, u64 0], .bool false]) (by simp [results, Try.results14, go_sem, c0, c1, c2]) rfl ⟨rfl, (Kept.refl _ _).alloc _⟩
theorem graph_nil (w : World) : Calls Try.prog 18 #[.pointer none] w fun e w' => e = .returned (.agg #[i64 0, .slice none 0 0]) ∧ Grew w w' := by
  go_enter Try.func18, Try.ntmps18
  go_wp2_with fail
  have b := Blk.new w 24 #[i64 0, .slice none 0 0]
  have c0 := b.cell 0
  have c1 := b.cell 1
  simp at c0 c1
  exact bodyPost_ret (v := .agg #[i64 0, .slice none 0 0]) (by simp [results, Try.results18, go_sem, c0, c1]) rfl ⟨rfl, (Kept.refl _ _).alloc _⟩

theorem func_nil (w : World) (a b c : Nat) : (binOp .eql 59 (.func (.func 36) #[] #[.pointer (some ⟨a, 0, none⟩), .pointer (some ⟨b, 0, none⟩), .pointer (some ⟨c, 0, none⟩)]) Value.nilFunc).run Try.prog w = .ok (.bool false) w := by kernel_rfl
theorem hDd_kept {w w' : World} {D : Nat} {o : Obj} (h : w.heap[D]? = some o) (k : Grew w w') : w'.heap[D]? = some o :=
  (k.block D (Array.getElem?_eq_some_iff.1 h).1 (fun h => h)).trans h
abbrev pairV (x : Int × Edg) : Array Value := #[i64 x.1, .agg #[i64 x.2.1, i64 x.2.2.1, u64 x.2.2.2]]

set_option maxHeartbeats 1000000 in
theorem each1_nil (n l a b c : Nat) (v : Int) (back : Bool) (W : World) (J : List (Int × Edg) → World → Prop) (ha : W.cell? ⟨a, 0, none⟩ = some (.pointer none)) (hb : W.cell? ⟨b, 0, none⟩ = some (i64 v)) (hc : W.cell? ⟨c, 0, none⟩ = some (.bool back)) (h0 : J [] W) :
    CallsIn Fence.wide n Try.prog 36 #[.func (.yield l) #[] #[], .pointer (some ⟨a, 0, none⟩), .pointer (some ⟨b, 0, none⟩), .pointer (some ⟨c, 0, none⟩)] W fun e W' => (∃ v, e = .returned v) ∧ J [] W' := by
  have hR := Lib.hid (row_nil v back W)
  refine callsIn_of_wp Try.func36 rfl trivial ?_ rfl
  simp only [Try.ntmps36, List.size_toArray, List.length_cons, List.length_nil, Nat.reduceAdd, Nat.reduceSub, Array.replicate_succ, Array.replicate_zero, List.push_toArray, List.append_toArray, List.nil_append, List.cons_append]
  refine wpIn_wide.2 ?_
  go_wp2_with fail
  refine hR.out.mono ?_
  rintro e w1 ⟨rfl, rfl⟩
  go_wp2_with fail
  refine (wpIn_wide (n := n)).1 ?_
  gi_loopw [6, 12] (fun u6 i wr => i = .int .i64 0 ∧ J [] wr) (fun _ i wr => 0)
  case atStart => exact ⟨rfl, h0⟩
  case round =>
    obtain ⟨rfl, hJ⟩ := hrel
    gi_wp2
    go_end0
    exact ⟨⟨_, rfl⟩, hJ⟩

theorem stops_nil (n a b c : Nat) (v : Int) (back : Bool) (w : World) (ha : w.cell? ⟨a, 0, none⟩ = some (.pointer none)) (hb : w.cell? ⟨b, 0, none⟩ = some (i64 v)) (hc : w.cell? ⟨c, 0, none⟩ = some (.bool back)) :
    SeqStopsK Fence.wide n Try.prog 36 #[.pointer (some ⟨a, 0, none⟩), .pointer (some ⟨b, 0, none⟩), .pointer (some ⟨c, 0, none⟩)] pairV (Below w.heap.size) (fun xs => xs = []) (fun _ => False) 0 w := fun l J Jx W hW _ _ hY h0 => by
  have hg := Grew.of_below hW
  exact (each1_nil n l a b c v back W J (hg.cell ha) (hg.cell hb) (hg.cell hc) h0).mono fun e W' ⟨he, hj⟩ => ⟨he, .inl ⟨_, rfl, hj⟩⟩

theorem three' (w : World) (o1 o2 o3 : Obj) : ((w.alloc o1).alloc o2).alloc o3 = ((w.alloc o1).alloc o2).alloc o3 ∧ (((w.alloc o1).alloc o2).alloc o3).heap[w.heap.size]? = some o1 ∧ (((w.alloc o1).alloc o2).alloc o3).heap[w.heap.size + 1]? = some o2 ∧ (((w.alloc o1).alloc o2).alloc o3).heap[w.heap.size + 1 + 1]? = some o3 ∧ Grew w (((w.alloc o1).alloc o2).alloc o3) := by
  have h := three w o1 o2 o3
  exact ⟨rfl, h.1, h.2.1, h.2.2.1, (((Kept.refl _ _).alloc _).alloc _).alloc _⟩
set_option maxRecDepth 100000 in
set_option maxHeartbeats 4000000 in
theorem between_nil (u v : Int) (w : World) : Calls Try.prog 17 #[.pointer none, i64 u, i64 v] w fun e w' => e = .returned (.slice none 0 0) ∧ Grew w w' := by
  have hM := Lib.hid (fun W => each_made u false W)
  refine (callsIn_wide (n := 9)).1 ?_
  refine callsIn_of_wp_marks Try.func17 rfl trivial ?_ rfl
  simp only [Try.ntmps17, List.size_toArray, List.length_cons, List.length_nil, Nat.reduceAdd, Nat.reduceSub, Array.replicate_succ, Array.replicate_zero, List.push_toArray, List.append_toArray, List.nil_append, List.cons_append]
  refine wpIn_wide.2 ?_
  go_wp2_with fail
  refine (hM.out _).mono ?_
  rintro e w2 ⟨rfl, rfl⟩
  go_wp2_with fail
  obtain ⟨W1, hW1⟩ : ∃ W1, (w.alloc (.cells #[i64 v] 3)).alloc (.cells #[.slice none 0 0] 32) = W1 := ⟨_, rfl⟩
  have k1 : Grew w W1 := by rw [← hW1]; exact ((Kept.refl _ _).alloc _).alloc _
  have b6 : Blk W1 (w.heap.size + 1) 32 #[.slice none 0 0] := by
    rw [← hW1]
    have h := Blk.new (w.alloc (.cells #[i64 v] 3)) 32 #[.slice none 0 0]
    rw [World.size_alloc] at h; exact h
  have hz : W1.heap.size = w.heap.size + 1 + 1 := by rw [← hW1]; simp
  rw [hW1]
  rw [← hz]
  clear hW1
  have kT := (three' W1 (.cells #[.pointer none] 29) (.cells #[i64 u] 3) (.cells #[.bool false] 4)).2
  obtain ⟨W0, hW0⟩ : ∃ W0, ((W1.alloc (.cells #[.pointer none] 29)).alloc (.cells #[i64 u] 3)).alloc (.cells #[.bool false] 4) = W0 := ⟨_, rfl⟩
  rw [hW0] at kT ⊢
  clear hW0
  obtain ⟨ta, tb, tc, k2⟩ := kT
  have b60 := b6.grew k2
  have k0 := k1.trans k2
  have hz0 := k0.size
  refine (wpIn_wide (n := 9)).1 ?_
  refine wpIn_rangeFunc_ownH rfl (by omega) (gf := 36) (lb := #[.pointer (some ⟨W1.heap.size, 0, none⟩), .pointer (some ⟨W1.heap.size + 1, 0, none⟩), .pointer (some ⟨W1.heap.size + 1 + 1, 0, none⟩)]) rfl trivial (enters_of Try.func36 (by kernel_rfl) rfl)
    (stops_nil _ _ _ _ u false W0 (Blk.cell ta 0) (Blk.cell tb 0) (Blk.cell tc 0)) belowK_t (belowK_b (Nat.le_refl _)) (Below.refl _ _) (fun _ => rfl)
    (fun pre W => Blk W (w.heap.size + 1) 32 #[.slice none 0 0] ∧ Grew w W ∧ W0.heap.size ≤ W.heap.size)
    (fun _ _ _ => False)
    (fun s A B row hs hg hr => ⟨own_blk _ _ _ (fun _ => #[.slice none 0 0]) s A B row hs.1 hg hr, own_grew hz0 s A B row hs.2.1 hg hr, Nat.le_trans hs.2.2 hg.size⟩)
    (fun _ _ _ _ _ hs _ _ => hs)
    ⟨b60, k0, Nat.le_refl _⟩ (fun _ _ _ => True) (fun _ _ _ _ _ _ _ _ _ => trivial) ?assign ?body ?done ?stop
  case assign =>
    rintro l pre x W K ⟨h1, h2, h3⟩ hK
    gi_wp2
    exact hK _ _ ((KeepsOthers.alloc _ _).from _) ((Below.refl _ W).alloc h3 _) ⟨h1.alloc _, h2.alloc _, Nat.le_trans h3 (by simp)⟩ trivial
  case body => exact fun l pre x a' W _ _ _ _ h => absurd h (Nat.not_lt_zero _)
  case stop =>
    rintro D c pre W _ _ h _
    exact h.elim
  case done =>
    rintro D ys W hD rfl ⟨c6, hK, hsz⟩ hDd
    have d0 := c6.cell 0
    have f0 := c6.frozen 0
    simp at d0
    go_wp2_with fail
    have hDn : w.heap.size + 1 ≠ D := by have := c6.lt; have := b60.lt; omega
    have hx : (W.setCell ⟨w.heap.size + 1, 0, none⟩ (.slice none 0 0)).heap[D]? = some (.deferred (some [])) := (Below.heap_setCell W ⟨w.heap.size + 1, 0, none⟩ (.slice none 0 0) D (fun e => hDn e.symm)).trans hDd
    have T5 := (c6.set 0 (.slice none 0 0)).grown (grownBy_putObj' _ D (.deferred none)) (fun e => hDn (Option.some.inj e))
    have c5 := T5.cell 0
    simp at c5
    refine ⟨by simp, .inl ⟨_, _, rfl, run_takeDeferred hx, ?_⟩⟩
    refine ⟨.slice none 0 0, by simp [results, Try.f17, go_sem, c5], rfl, ?_⟩
    exact (hK.setCell (p := ⟨w.heap.size + 1, 0, none⟩) (.inr (by show w.heap.size ≤ w.heap.size + 1; omega)) _).putObj D _ (.inr (by omega))
end Go.Proofs.Ytmpnaleenehkgaa
