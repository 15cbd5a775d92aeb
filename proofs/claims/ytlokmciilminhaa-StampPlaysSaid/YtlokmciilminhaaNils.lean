/- A nil row: what each call says of it, and the law StampNils. -/
import Derived.Test.YtlokmciilminhaaAgain
import Derived.Test.YtlokmciilminhaaIter
namespace Go.Proofs.Ytlokmciilminhaa
open Go.RowKit Go.Shelf
attribute [local go_sem] Oper.semAt_some

theorem len_nil (w : World) : Calls Try.prog 15 #[.pointer none] w fun e w' => e = .returned (i64 0) ∧ w = w' := by
  go_enter Try.func15, Try.ntmps15
  go_wp2
  go_ret
  exact ⟨rfl, rfl⟩
theorem count_nil (w : World) : Calls Try.prog 10 #[.pointer none] w fun e w' => e = .returned (i64 0) ∧ w = w' := by
  go_enter Try.func10, Try.ntmps10
  go_wp2
  go_ret
  exact ⟨rfl, rfl⟩
theorem forget_nil (w : World) : Calls Try.prog 9 #[.pointer none] w fun e w' => e = .returned (.tuple #[]) ∧ w = w' := by
  go_enter Try.func9, Try.ntmps9
  go_wp2
  go_end0
  exact ⟨rfl, rfl⟩
theorem at_nil (i : Int) (w : World) : Calls Try.prog 18 #[.pointer none, i64 i] w fun e w' => e = .returned (.pointer none) ∧ w = w' := by
  have hL := Lib.hid len_nil
  rcases Int.lt_or_le i 0 with h0 | h0
  · go_enter Try.func18, Try.ntmps18
    go_wp2_with fail
    go_ret
    exact ⟨rfl, rfl⟩
  · go_enter Try.func18, Try.ntmps18
    go_wp2_with fail
    refine (hL.out _).mono ?_
    rintro e w1 ⟨rfl, rfl⟩
    go_wp2_with fail
    go_ret
    exact ⟨rfl, rfl⟩
theorem get_nil (i : Int) (w : World) : Calls Try.prog 11 #[.pointer none, i64 i] w fun e w' => e = .returned (.tuple #[u64 0, .bool false]) ∧ Grew w w' := by
  have hL := Lib.hid (at_nil i)
  go_enter Try.func11, Try.ntmps11
  go_wp2_with fail
  refine (hL.out _).mono ?_
  rintro e w1 ⟨rfl, rfl⟩
  go_wp2_with fail
  go_quiet (fail)
  go_wp2
  go_ret2
  exact ⟨rfl, (Kept.refl _ _).drewN _⟩
theorem put_nil (i v : Int) (w : World) : Calls Try.prog 16 #[.pointer none, i64 i, u64 v] w fun e w' => e = .returned (.bool false) ∧ Grew w w' := by
  have hL := Lib.hid (at_nil i)
  go_enter Try.func16, Try.ntmps16
  go_wp2_with fail
  refine (hL.out _).mono ?_
  rintro e w1 ⟨rfl, rfl⟩
  go_wp2_with fail
  go_ret
  exact ⟨rfl, Kept.refl _ _⟩
theorem least_nil (i v : Int) (w : World) : Calls Try.prog 17 #[.pointer none, i64 i, u64 v] w fun e w' => e = .returned (.bool false) ∧ Grew w w' := by
  have hL := Lib.hid (get_nil i)
  have hP := Lib.hid (put_nil i v)
  go_enter Try.func17, Try.ntmps17
  go_wp2_with fail
  refine (hL.out _).mono ?_
  rintro e w1 ⟨rfl, hK⟩
  go_wp2_with fail
  refine (hP.out _).mono ?_
  rintro e w1 ⟨rfl, hK2⟩
  go_wp2_with fail
  go_ret
  exact ⟨rfl, hK.trans hK2⟩
theorem all_made (p : Option Addr) (w : World) : Calls Try.prog 14 #[.pointer p] w fun e w' =>
    e = .returned (.func (.func 19) #[] #[.pointer (some ⟨w.heap.size, 0, none⟩)]) ∧ w' = w.alloc (.cells #[.pointer p] 24) := by
  go_enter Try.func14, Try.ntmps14
  go_wp2
  go_ret
  exact ⟨rfl, rfl⟩

theorem func_nil (w : World) (b : Nat) : (binOp .eql 40 (.func (.func 19) #[] #[.pointer (some ⟨b, 0, none⟩)]) Value.nilFunc).run Try.prog w = .ok (.bool false) w := by kernel_rfl

theorem hDd_kept {w w' : World} {D : Nat} {o : Obj} (h : w.heap[D]? = some o) (k : Grew w w') : w'.heap[D]? = some o :=
  (k.block D (Array.getElem?_eq_some_iff.1 h).1 (fun h => h)).trans h

abbrev pairV (x : Int × Int) : Array Value := #[i64 x.1, u64 x.2]

set_option maxHeartbeats 1000000 in
theorem all1_nil (n l Bs : Nat) (W : World) (J : List (Int × Int) → World → Prop) (hBs : W.cell? ⟨Bs, 0, none⟩ = some (.pointer none)) (h0 : J [] W) :
    CallsIn Fence.wide n Try.prog 19 #[.func (.yield l) #[] #[], .pointer (some ⟨Bs, 0, none⟩)] W fun e W' => (∃ v, e = .returned v) ∧ J [] W' := by
  refine callsIn_of_wp Try.func19 rfl trivial ?_ rfl
  simp only [Try.ntmps19, List.size_toArray, List.length_cons, List.length_nil, Nat.reduceAdd, Nat.reduceSub, Array.replicate_succ, Array.replicate_zero, List.push_toArray, List.append_toArray, List.nil_append, List.cons_append]
  refine wpIn_scope_wide ?_
  gi_wp2
  rw [Exit.noGoto_ret]
  refine bodyPost_ret (results_none rfl _ _ _) rfl ?_
  exact ⟨⟨_, rfl⟩, h0⟩

theorem stops_nil (n Bs : Nat) (w : World) (hBs : Bs < w.heap.size) (hc : w.cell? ⟨Bs, 0, none⟩ = some (.pointer none)) :
    SeqStopsK Fence.wide n Try.prog 19 #[.pointer (some ⟨Bs, 0, none⟩)] pairV (Below w.heap.size) (fun xs => xs = []) (fun _ => False) 0 w := fun l J Jx W hW _ _ hY h0 => by
  have hc' := (hW.cell (p := ⟨Bs, 0, none⟩) hBs).trans hc
  exact (all1_nil n l Bs W J hc' h0).mono fun e W' ⟨he, hj⟩ => ⟨he, .inl ⟨_, rfl, hj⟩⟩

set_option maxRecDepth 100000 in
set_option maxHeartbeats 4000000 in
theorem nils_law (i v : Int) (w : World) : Calls Try.prog 5 #[i64 i, u64 v] w fun e w' => e = .returned (.bool true) ∧ Grew w w' := by
  have hF := Lib.hid forget_nil
  have hG := Lib.hid (get_nil i)
  have hM := Lib.hid (all_made none)
  have hA := Lib.hid alive_any
  have hP := Lib.hid (put_nil i v)
  have hL := Lib.hid (least_nil i v)
  have hq := func_nil
  refine (callsIn_wide (n := 9)).1 ?_
  refine callsIn_of_wp_marks Try.func5 rfl trivial ?_ rfl
  simp only [Try.ntmps5, List.size_toArray, List.length_cons, List.length_nil, Nat.reduceAdd, Nat.reduceSub, Array.replicate_succ, Array.replicate_zero, List.push_toArray, List.append_toArray, List.nil_append, List.cons_append]
  refine wpIn_wide.2 ?_
  go_wp2_with fail
  refine (hF.out _).mono ?_
  rintro e w1 ⟨rfl, rfl⟩
  go_wp2_with fail
  refine (hG.out _).mono ?_
  rintro e w1 ⟨rfl, hK1⟩
  go_wp2_with fail
  refine (hM.out _).mono ?_
  rintro e w2 ⟨rfl, rfl⟩
  go_wp2_with fail
  refine (wpIn_wide (n := 9)).1 ?_
  have b0 := (Blk.new w1 3 #[i64 0]).alloc (.cells #[.pointer none] 24)
  have b1 := Blk.new (w1.alloc (.cells #[i64 0] 3)) 24 #[.pointer none]
  rw [World.size_alloc] at b1
  have hsz := hK1.size
  refine wpIn_rangeFunc_ownF rfl (by omega) (gf := 19) (lb := #[.pointer (some ⟨w1.heap.size + 1, 0, none⟩)]) rfl trivial (enters_of Try.func19 (by kernel_rfl) rfl)
    (stops_nil _ (w1.heap.size + 1) _ (by simp) (b1.cell 0)) belowK_t (belowK_b (Nat.le_refl _)) (Below.refl _ _) (fun _ => rfl)
    (fun pre W => Blk W w1.heap.size 3 #[i64 0] ∧ Grew w W)
    (fun _ _ _ => False)
    (OwnFrom.and (own_blk _ _ _ (fun _ => #[i64 0])) (own_grew (by simp; omega)))
    (fun _ _ _ _ _ hs _ _ => hs)
    ⟨b0, (hK1.alloc _).alloc _⟩ ?a1 ?assign ?body ?done ?stop
  case assign =>
    intro l x W K hK
    gi_wp2
    exact hK
  case body => exact fun l pre x W _ h => absurd h (Nat.not_lt_zero _)
  case stop =>
    rintro D c pre W _ _ h _
    exact h.elim
  case done =>
    rintro D ys W hD rfl ⟨b0, hK⟩ hDd
    have hN := Lib.hid len_nil
    have hC := Lib.hid count_nil
    clear hq hG hF hM
    go_wp2_with fail
    refine (hN.out _).mono ?_
    rintro e w2 ⟨rfl, rfl⟩
    go_wp2_with fail
    refine (hP.out _).mono ?_
    rintro e w2 ⟨rfl, k2⟩
    go_wp2_with fail
    refine (hL.out _).mono ?_
    rintro e w3 ⟨rfl, k3⟩
    have b3 := (b0.grew k2).grew k3
    have hc := b3.cell 0
    simp at hc
    go_wp2_with fail
    refine (hC.out _).mono ?_
    rintro e w4 ⟨rfl, rfl⟩
    go_wp2_with fail
    refine (hA.out _).mono ?_
    rintro e w4 ⟨rfl, k4⟩
    go_wp2_with fail
    have hx := (hDd_kept hDd ((k2.trans k3).trans k4))
    refine ⟨by simp, .inl ⟨_, _, rfl, run_takeDeferred hx, ?_⟩⟩
    exact ⟨_, results_tmp rfl _ _ _, rfl, (((hK.trans k2).trans k3).trans k4).putObj D _ (.inr (by simp at hD; omega))⟩
end Go.Proofs.Ytlokmciilminhaa
