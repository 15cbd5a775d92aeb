/- The law BytesofNumbers returns true. -/
import Derived.Test.YtgbddffmbmielaaNumber
import Derived.Test.YtgbddffmbmielaaGrow
namespace Go.Proofs.Ytgbddffmbmielaa
open Go.RowKit

theorem rowZ_own {w : World} {base g c : Nat} {l : List Int} (h : w.ownsRow base 5 1 (.slice (some ⟨g, 0, none⟩) l.length c) l.length (l.map B8)) (hl : l.length ≤ 100) (hb : ∀ x ∈ l, 0 ≤ x ∧ x ≤ 255) :
    RowZ w (some ⟨g, 0, none⟩) l.length (fun i => l.getD i 0) := by
  refine ⟨by omega, fun i hi => ⟨g, 0, rfl, ?_, ?_⟩⟩
  · have := h.cellAt i (by omega)
    rw [Nat.zero_add, this]
    simp [B8, List.getElem?_eq_getElem hi]
  · have := hb _ (List.getElem_mem hi)
    simpa [List.getElem?_eq_getElem hi] using this

set_option maxRecDepth 100000 in
theorem alive_any (w : World) : Calls Try.prog 8 #[] w fun e w' => e = .returned (.bool true) ∧ Below w.heap.size w w' := by
  have hn := Lib.hid (number_any 300 w (show (300 : Nat) < 18446744073709551616 by decide))
  have hd : digs 10 300 = [172, 2] := rfl
  rw [hd] at hn
  go_enter Try.func8, Try.ntmps8
  go_wp2_with fail
  refine hn.out.mono ?_
  rintro e w1 ⟨v, rfl, hown, hb⟩
  obtain ⟨g, c, rfl⟩ := own_form hown (by decide)
  have hz := rowZ_own (l := [172, 2]) hown (by decide) (by decide)
  have hc0 := hown.cellAt 0 (by decide)
  have hc1 := hown.cellAt 1 (by decide)
  simp [B8] at hc0 hc1
  go_wp2_with fail
  refine (take_any _ _ _ _ _ hz).mono ?_
  rintro e w2 ⟨he, rfl⟩
  have he2 : e = .returned (.tuple #[.int .u64 300, .int .i64 2, .bool true]) := he
  clear he
  subst he2
  go_wp2
  go_ret
  exact ⟨rfl, hb⟩

theorem string_own {w : World} {base g c : Nat} {l : List Int} (h : w.ownsRow base 5 1 (.slice (some ⟨g, 0, none⟩) l.length c) l.length (l.map B8)) :
    (convert 23 9 (.slice (some ⟨g, 0, none⟩) l.length c)).run Try.prog w = .ok (.string (strOfNums l)) w := by
  refine run_convert_bytes_arg w _ _ Try.underlying23 Try.underlying5 g 0 l.length c l rfl (fun i hi => ?_) _ Try.underlying9
  rw [Nat.zero_add, h.cellAt i (by omega)]
  simp [B8, List.getElem?_eq_getElem hi]

set_option maxRecDepth 100000 in
set_option maxRecDepth 100000 in
set_option maxHeartbeats 1000000 in
theorem law_any (n : Nat) (A : Option Addr) (len cap : Nat) (z : Nat → Int) (w : World) (hn : Hid (n < 18446744073709551616)) (hz : RowZ w A len z) :
    Calls Try.prog 3 #[.int .u64 n, .slice A len cap] w fun e w' => e = .returned (.bool true) ∧ Below w.heap.size w w' := by
  obtain ⟨x, hx⟩ : ∃ x, takeE (takeF z len) = x := ⟨_, rfl⟩
  have ht := Lib.hid (take_any A len cap z w hz)
  have hr := Lib.hid (refTake_any A len cap z w hz)
  clear hz
  obtain ⟨a, c, d, hE⟩ : ∃ a c d, takeE (takeF z len) = .returned (.tuple #[.int .u64 a, .int .i64 c, .bool d]) := ⟨_, _, _, rfl⟩
  rw [hE] at ht hr
  clear hE
  go_enter Try.func3, Try.ntmps3
  go_wp2_with fail
  refine ht.out.mono ?_
  rintro e w1 ⟨rfl, rfl⟩
  go_wp2_with fail
  refine hr.out.mono ?_
  rintro e w1 ⟨rfl, rfl⟩
  go_wp2_with fail
  have hN := Lib.hid (fun W => number_any n W hn)
  have hR := Lib.hid (fun W => refNumber_any 10 n W (by omega) (by omega) (show n < 128 ^ 10 by have := hn.out; omega) hn)
  have hA := Lib.hid alive_any
  refine wp_region_grow (by kernel_rfl) ?_
  simp only [List.size_toArray, List.length_cons, List.length_nil, Nat.reduceAdd]
  -- REGION 3 OF 3 highroad/highroadlaw37.BytesofNumbers: 26 operations
  refine wpAnyG_take 0 23 (v := ?_) rfl (by kernel_rfl) rfl (by rfl) (fun w' hG => ?_) ?_
  rotate_left
  · go_simp <;> with_reducible rfl
  simp only [List.setIfInBounds_toArray, List.set_cons_zero, List.set_cons_succ]
  refine wpAnyG_take 3 26 (v := ?_) rfl (by kernel_rfl) rfl (by rfl) (fun w' hG => ?_) ?_
  rotate_left
  · go_simp <;> with_reducible rfl
  simp only [List.setIfInBounds_toArray, List.set_cons_zero, List.set_cons_succ]
  refine wpAnyG_step 1 24 rfl (by kernel_rfl) rfl (by rfl) (fun K hK => ?_)
  go_simp
  -- 24 call 6 - [law.go:25]
  refine (hN.out _).mono ?_
  rintro e w1 ⟨v1, rfl, hown1, hb1⟩
  obtain ⟨g1, c1, rfl⟩ := own_form hown1 (digs_pos _ _)
  refine hK _ _ hb1 ?_
  clear hK
  simp only [List.setIfInBounds_toArray, List.set_cons_zero, List.set_cons_succ]
  refine wpAnyG_take 2 25 (v := ?_) rfl (by kernel_rfl) rfl (by rfl) (fun w' hG => ?_) ?_
  rotate_left
  · have hx := string_own (own_below hown1 hG)
    go_simp <;> with_reducible rfl
  simp only [List.setIfInBounds_toArray, List.set_cons_zero, List.set_cons_succ]
  refine wpAnyG_step 4 27 rfl (by kernel_rfl) rfl (by rfl) (fun K hK => ?_)
  go_simp
  -- 27 call 7 - [law.go:25]
  refine (hR.out _).mono ?_
  rintro e w2 ⟨g2, c2, rfl, hown2, hb2⟩
  refine hK _ _ hb2 ?_
  clear hK
  simp only [List.setIfInBounds_toArray, List.set_cons_zero, List.set_cons_succ]
  refine wpAnyG_take 5 28 (v := ?_) rfl (by kernel_rfl) rfl (by rfl) (fun w' hG => ?_) ?_
  rotate_left
  · have hx := string_own (own_below hown2 hG)
    go_simp <;> with_reducible rfl
  simp only [List.setIfInBounds_toArray, List.set_cons_zero, List.set_cons_succ]
  refine wpAnyG_take 6 29 (v := ?_) rfl (by kernel_rfl) rfl (by rfl) (fun w' hG => ?_) ?_
  rotate_left
  · go_simp <;> with_reducible rfl
  simp only [List.setIfInBounds_toArray, List.set_cons_zero, List.set_cons_succ]
  refine wpAnyG_take 7 30 (v := ?_) rfl (by kernel_rfl) rfl (by rfl) (fun w' hG => ?_) ?_
  rotate_left
  · go_simp <;> with_reducible rfl
  simp only [List.setIfInBounds_toArray, List.set_cons_zero, List.set_cons_succ]
  refine wpAnyG_take 8 31 (v := ?_) rfl (by kernel_rfl) rfl (by rfl) (fun w' hG => ?_) ?_
  rotate_left
  · go_simp <;> with_reducible rfl
  simp only [List.setIfInBounds_toArray, List.set_cons_zero, List.set_cons_succ]
  refine wpAnyG_take 9 32 (v := ?_) rfl (by kernel_rfl) rfl (by rfl) (fun w' hG => ?_) ?_
  rotate_left
  · go_simp <;> with_reducible rfl
  simp only [List.setIfInBounds_toArray, List.set_cons_zero, List.set_cons_succ]
  refine wpAnyG_take 10 33 (v := ?_) rfl (by kernel_rfl) rfl (by rfl) (fun w' hG => ?_) ?_
  rotate_left
  · go_simp <;> with_reducible rfl
  simp only [List.setIfInBounds_toArray, List.set_cons_zero, List.set_cons_succ]
  refine wpAnyG_take 11 34 (v := ?_) rfl (by kernel_rfl) rfl (by rfl) (fun w' hG => ?_) ?_
  rotate_left
  · go_simp <;> with_reducible rfl
  simp only [List.setIfInBounds_toArray, List.set_cons_zero, List.set_cons_succ]
  refine wpAnyG_take 12 35 (v := ?_) rfl (by kernel_rfl) rfl (by rfl) (fun w' hG => ?_) ?_
  rotate_left
  · go_simp <;> with_reducible rfl
  simp only [List.setIfInBounds_toArray, List.set_cons_zero, List.set_cons_succ]
  refine wpAnyG_take 13 36 (v := ?_) rfl (by kernel_rfl) rfl (by rfl) (fun w' hG => ?_) ?_
  rotate_left
  · go_simp <;> with_reducible rfl
  simp only [List.setIfInBounds_toArray, List.set_cons_zero, List.set_cons_succ]
  refine wpAnyG_take 14 37 (v := ?_) rfl (by kernel_rfl) rfl (by rfl) (fun w' hG => ?_) ?_
  rotate_left
  · go_simp <;> with_reducible rfl
  simp only [List.setIfInBounds_toArray, List.set_cons_zero, List.set_cons_succ]
  refine wpAnyG_take 15 38 (v := ?_) rfl (by kernel_rfl) rfl (by rfl) (fun w' hG => ?_) ?_
  rotate_left
  · go_simp <;> with_reducible rfl
  simp only [List.setIfInBounds_toArray, List.set_cons_zero, List.set_cons_succ]
  refine wpAnyG_take 16 39 (v := ?_) rfl (by kernel_rfl) rfl (by rfl) (fun w' hG => ?_) ?_
  rotate_left
  · go_simp <;> with_reducible rfl
  simp only [List.setIfInBounds_toArray, List.set_cons_zero, List.set_cons_succ]
  refine wpAnyG_take 17 40 (v := ?_) rfl (by kernel_rfl) rfl (by rfl) (fun w' hG => ?_) ?_
  rotate_left
  · go_simp <;> with_reducible rfl
  simp only [List.setIfInBounds_toArray, List.set_cons_zero, List.set_cons_succ]
  refine wpAnyG_take 18 41 (v := ?_) rfl (by kernel_rfl) rfl (by rfl) (fun w' hG => ?_) ?_
  rotate_left
  · go_simp <;> with_reducible rfl
  simp only [List.setIfInBounds_toArray, List.set_cons_zero, List.set_cons_succ]
  refine wpAnyG_take 19 42 (v := ?_) rfl (by kernel_rfl) rfl (by rfl) (fun w' hG => ?_) ?_
  rotate_left
  · go_simp <;> with_reducible rfl
  simp only [List.setIfInBounds_toArray, List.set_cons_zero, List.set_cons_succ]
  refine wpAnyG_take 20 43 (v := ?_) rfl (by kernel_rfl) rfl (by rfl) (fun w' hG => ?_) ?_
  rotate_left
  · go_simp <;> with_reducible rfl
  simp only [List.setIfInBounds_toArray, List.set_cons_zero, List.set_cons_succ]
  refine wpAnyG_take 21 44 (v := ?_) rfl (by kernel_rfl) rfl (by rfl) (fun w' hG => ?_) ?_
  rotate_left
  · go_simp <;> with_reducible rfl
  simp only [List.setIfInBounds_toArray, List.set_cons_zero, List.set_cons_succ]
  refine wpAnyG_take 22 45 (v := ?_) rfl (by kernel_rfl) rfl (by rfl) (fun w' hG => ?_) ?_
  rotate_left
  · go_simp <;> with_reducible rfl
  simp only [List.setIfInBounds_toArray, List.set_cons_zero, List.set_cons_succ]
  refine wpAnyG_step 23 46 rfl (by kernel_rfl) rfl (by rfl) (fun K hK => ?_)
  go_simp
  -- 46 call 8 guard 22 true [law.go:25]
  refine (hA.out _).mono ?_
  rintro e w3 ⟨rfl, hb3⟩
  refine hK _ _ hb3 ?_
  clear hK
  simp only [List.setIfInBounds_toArray, List.set_cons_zero, List.set_cons_succ]
  refine wpAnyG_take 24 47 (v := ?_) rfl (by kernel_rfl) rfl (by rfl) (fun w' hG => ?_) ?_
  rotate_left
  · go_simp <;> with_reducible rfl
  simp only [List.setIfInBounds_toArray, List.set_cons_zero, List.set_cons_succ]
  refine wpAnyG_take 25 4 (v := ?_) rfl (by kernel_rfl) rfl (by rfl) (fun w' hG => ?_) ?_
  rotate_left
  · go_simp <;> with_reducible rfl
  simp only [List.setIfInBounds_toArray, List.set_cons_zero, List.set_cons_succ]
  refine wpAnyG_done (by kernel_rfl) ?_
  go_wp2
  go_ret
  exact ⟨rfl, ((Grew.drew w).trans hb1).trans (Grew.trans hb2 hb3)⟩
end Go.Proofs.Ytgbddffmbmielaa
