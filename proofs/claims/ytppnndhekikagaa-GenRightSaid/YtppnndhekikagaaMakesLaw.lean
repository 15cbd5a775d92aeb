/- The law GenMakes: the walk. -/
import Derived.Test.YtppnndhekikagaaSame
import Derived.Test.YtppnndhekikagaaDiceLaw
namespace Go.Proofs.Ytppnndhekikagaa
open Go.RowKit

theorem same_yes (n : Int) (A A' : Option Addr) (c c' : Nat) (es : List Edg) (w : World) (h : RowE w A es) (h' : RowE w A' es) (hl : es.length ≤ 100000) :
    Calls Try.prog 16 #[.agg #[i64 n, .slice A es.length c], .agg #[i64 n, .slice A' es.length c']] w fun e w' => e = .returned (.bool true) ∧ Grew w w' :=
  (same_any n n A A' c c' es es w h h' hl hl).mono fun e w' ⟨he, hK⟩ => ⟨by rw [he]; simp, hK⟩

/-- What a maker of graphs answers. -/
def Maker (f : Nat) (args : Array Value) (n0 : Int) (es : List Edg) (f0 : Int) : Prop :=
  ∀ w, Calls Try.prog f args w fun e w' => ∃ A c, e = .returned (.tuple #[.agg #[i64 n0, .slice A es.length c], i64 f0]) ∧ RowE w' A es ∧ Grew w w'

theorem Maker.yes {f : Nat} {args : Array Value} {n0 : Int} {es : List Edg} (h : ∀ w, Calls Try.prog f args w fun e w' => ∃ v, e = .returned (.tuple #[.agg #[i64 n0, v], i64 0]) ∧ Edges w' w.heap.size v es ∧ Grew w w') : Maker f args n0 es 0 := by
  intro w
  refine (h w).mono ?_
  rintro e w' ⟨v, rfl, hE, hK⟩
  obtain ⟨A, c, rfl, hr⟩ := hE.row
  exact ⟨A, c, rfl, hr, hK⟩
theorem Maker.no {f : Nat} {args : Array Value} {f0 : Int} (h : ∀ w, Calls Try.prog f args w fun e w' => e = .returned (.tuple #[.agg #[i64 0, .slice none 0 0], i64 f0]) ∧ Grew w w') : Maker f args 0 [] f0 := by
  intro w
  refine (h w).mono ?_
  rintro e w' ⟨rfl, hK⟩
  exact ⟨none, 0, rfl, RowE.nil _ _, hK⟩

theorem ring_both (n wt : Int) : ∃ n0 es f0, es.length ≤ 100000 ∧ Maker 17 #[i64 n, u64 wt] n0 es f0 ∧ Maker 18 #[i64 n, u64 wt] n0 es f0 := by
  by_cases h : n < 2 ∨ 4096 < n ∨ wt < 1 ∨ 4294967296 < wt
  · exact ⟨_, _, _, by simp, Maker.no fun w => ring_no n wt w h, Maker.no fun w => refRing_no n wt w h⟩
  · obtain ⟨k, rfl⟩ := Int.eq_ofNat_of_zero_le (show 0 ≤ n by omega)
    exact ⟨_, _, _, by rw [ringL_length]; omega, Maker.yes fun w => ring_yes k wt w (by omega) (by omega) (by omega) (by omega), Maker.yes fun w => refRing_yes k wt w (by omega) (by omega) (by omega) (by omega)⟩
theorem ladder_both (n : Int) : ∃ n0 es f0, es.length ≤ 100000 ∧ Maker 19 #[i64 n] n0 es f0 ∧ Maker 20 #[i64 n] n0 es f0 := by
  by_cases h : n < 1 ∨ 4096 ≤ n
  · exact ⟨_, _, _, by simp, Maker.no fun w => ladder_no n w h, Maker.no fun w => refLadder_no n w h⟩
  · obtain ⟨k, rfl⟩ := Int.eq_ofNat_of_zero_le (show 0 ≤ n by omega)
    exact ⟨_, _, _, by rw [ladL_length]; omega, Maker.yes fun w => ladder_yes k w (by omega) (by omega), Maker.yes fun w => refLadder_yes k w (by omega) (by omega)⟩
theorem random_both (n m seed most : Int) : ∃ n0 es f0, es.length ≤ 100000 ∧ Maker 21 #[i64 n, i64 m, u64 seed, i64 most] n0 es f0 ∧ Maker 22 #[i64 n, i64 m, u64 seed, i64 most] n0 es f0 := by
  by_cases h : n < 2 ∨ m < 0 ∨ most < 1 ∨ 4294967296 < most ∨ 4096 < n ∨ 16384 < m
  · exact ⟨_, _, _, by simp, Maker.no fun w => random_no n m seed most w h, Maker.no fun w => refRandom_no n m seed most w h⟩
  · obtain ⟨k, rfl⟩ := Int.eq_ofNat_of_zero_le (show 0 ≤ n by omega)
    obtain ⟨j, rfl⟩ := Int.eq_ofNat_of_zero_le (show 0 ≤ m by omega)
    exact ⟨_, _, _, by rw [rndS_length]; omega, Maker.yes fun w => random_yes k j seed most w (by omega) (by omega) (by omega) (by omega) (by omega), Maker.yes fun w => refRandom_yes k j seed most w (by omega) (by omega) (by omega) (by omega) (by omega)⟩

theorem great_yes (n l : Int) (w : World) (h1 : 30 < n) (h2 : n ≤ l) : Calls Try.prog 13 #[i64 n, i64 l] w fun e w' => e = .returned (.bool true) ∧ w = w' := by
  go_enter Try.func13, Try.ntmps13
  go_wp2
  go_ret
  exact ⟨rfl, rfl⟩
theorem great_no (n l : Int) (w : World) (h : n ≤ 30 ∨ l < n) : Calls Try.prog 13 #[i64 n, i64 l] w fun e w' => e = .returned (.bool false) ∧ w = w' := by
  rcases Int.lt_or_le 30 n with h1 | h1
  · have h2 : ¬ n ≤ l := by omega
    clear h
    go_enter Try.func13, Try.ntmps13
    go_wp2
    go_ret
    exact ⟨by simp [h2], rfl⟩
  · clear h
    go_enter Try.func13, Try.ntmps13
    go_wp2
    go_ret
    exact ⟨rfl, rfl⟩


set_option maxHeartbeats 2000000 in
set_option maxRecDepth 100000 in
theorem makes_law (n m seed most wt : Int) (w : World) : Calls Try.prog 5 #[i64 n, i64 m, u64 seed, i64 most, u64 wt] w fun e w' => e = .returned (.bool true) ∧ Grew w w' := by
  have hA := Lib.hid alive_any
  obtain ⟨n0, es0, f0, hl0, hR1, hR2⟩ := ring_both n wt
  obtain ⟨n1, es1, f1, hl1, hL1, hL2⟩ := ladder_both n
  obtain ⟨n2, es2, f2, hl2, hX1, hX2⟩ := random_both n m seed most
  have HR1 := Lib.hid hR1
  have HR2 := Lib.hid hR2
  have HL1 := Lib.hid hL1
  have HL2 := Lib.hid hL2
  have HX1 := Lib.hid hX1
  have HX2 := Lib.hid hX2
  clear hR1 hR2 hL1 hL2 hX1 hX2
  by_cases hg : 30 < n ∧ n ≤ 4096
  · have hG := Lib.hid (fun W => great_yes n 4096 W hg.1 hg.2)
    clear hg
    go_enter Try.func5, Try.ntmps5
    go_wp2_with fail
    refine (hG.out _).mono ?_
    rintro e w1 ⟨rfl, rfl⟩
    go_wp2_with fail
    refine (hA.out _).mono ?_
    rintro e w1 ⟨rfl, hK⟩
    go_wp2_with fail
    go_ret
    exact ⟨rfl, hK⟩
  · have hG := Lib.hid (fun W => great_no n 4096 W (by omega))
    clear hg
    by_cases hg : 30 < m ∧ m ≤ 16384
    · have hG2 := Lib.hid (fun W => great_yes m 16384 W hg.1 hg.2)
      clear hg
      go_enter Try.func5, Try.ntmps5
      go_wp2_with fail
      refine (hG.out _).mono ?_
      rintro e w1 ⟨rfl, rfl⟩
      go_wp2_with fail
      refine (hG2.out _).mono ?_
      rintro e w1 ⟨rfl, rfl⟩
      go_wp2_with fail
      refine (hA.out _).mono ?_
      rintro e w1 ⟨rfl, hK⟩
      go_wp2_with fail
      go_ret
      exact ⟨rfl, hK⟩
    · have hG2 := Lib.hid (fun W => great_no m 16384 W (by omega))
      clear hg
      go_enter Try.func5, Try.ntmps5
      go_wp2_with fail
      refine (hG.out _).mono ?_
      rintro e w1 ⟨rfl, rfl⟩
      go_wp2_with fail
      refine (hG2.out _).mono ?_
      rintro e w1 ⟨rfl, rfl⟩
      go_wp2_with fail
      refine (HR1.out _).mono ?_
      rintro e y1 ⟨A1, c1, rfl, e1, k1⟩
      have hK := k1.alloc (.cells #[i64 n0, .slice A1 es0.length c1] 37)
      replace e1 := Lib.hid (e1.grew ((Kept.refl _ _).alloc (.cells #[i64 n0, .slice A1 es0.length c1] 37)))
      have b1 := Blk.new y1 37 #[i64 n0, .slice A1 es0.length c1]
      go_wp2_with fail
      refine (HR2.out _).mono ?_
      rintro e y2 ⟨A2, c2, rfl, e2, k2⟩
      replace hK := (hK.trans k2).alloc (.cells #[i64 n0, .slice A2 es0.length c2] 37)
      replace e1 := (Lib.hid ((e1.out.grew k2).grew ((Kept.refl _ _).alloc (.cells #[i64 n0, .slice A2 es0.length c2] 37))))
      replace b1 := (b1.grew k2).alloc (.cells #[i64 n0, .slice A2 es0.length c2] 37)
      replace e2 := Lib.hid (e2.grew ((Kept.refl _ _).alloc (.cells #[i64 n0, .slice A2 es0.length c2] 37)))
      have b2 := Blk.new y2 37 #[i64 n0, .slice A2 es0.length c2]
      go_wp2_with fail
      refine (HL1.out _).mono ?_
      rintro e y3 ⟨A3, c3, rfl, e3, k3⟩
      replace hK := (hK.trans k3).alloc (.cells #[i64 n1, .slice A3 es1.length c3] 37)
      replace e1 := (Lib.hid ((e1.out.grew k3).grew ((Kept.refl _ _).alloc (.cells #[i64 n1, .slice A3 es1.length c3] 37))))
      replace b1 := (b1.grew k3).alloc (.cells #[i64 n1, .slice A3 es1.length c3] 37)
      replace e2 := (Lib.hid ((e2.out.grew k3).grew ((Kept.refl _ _).alloc (.cells #[i64 n1, .slice A3 es1.length c3] 37))))
      replace b2 := (b2.grew k3).alloc (.cells #[i64 n1, .slice A3 es1.length c3] 37)
      replace e3 := Lib.hid (e3.grew ((Kept.refl _ _).alloc (.cells #[i64 n1, .slice A3 es1.length c3] 37)))
      have b3 := Blk.new y3 37 #[i64 n1, .slice A3 es1.length c3]
      go_wp2_with fail
      refine (HL2.out _).mono ?_
      rintro e y4 ⟨A4, c4, rfl, e4, k4⟩
      replace hK := (hK.trans k4).alloc (.cells #[i64 n1, .slice A4 es1.length c4] 37)
      replace e1 := (Lib.hid ((e1.out.grew k4).grew ((Kept.refl _ _).alloc (.cells #[i64 n1, .slice A4 es1.length c4] 37))))
      replace b1 := (b1.grew k4).alloc (.cells #[i64 n1, .slice A4 es1.length c4] 37)
      replace e2 := (Lib.hid ((e2.out.grew k4).grew ((Kept.refl _ _).alloc (.cells #[i64 n1, .slice A4 es1.length c4] 37))))
      replace b2 := (b2.grew k4).alloc (.cells #[i64 n1, .slice A4 es1.length c4] 37)
      replace e3 := (Lib.hid ((e3.out.grew k4).grew ((Kept.refl _ _).alloc (.cells #[i64 n1, .slice A4 es1.length c4] 37))))
      replace b3 := (b3.grew k4).alloc (.cells #[i64 n1, .slice A4 es1.length c4] 37)
      replace e4 := Lib.hid (e4.grew ((Kept.refl _ _).alloc (.cells #[i64 n1, .slice A4 es1.length c4] 37)))
      have b4 := Blk.new y4 37 #[i64 n1, .slice A4 es1.length c4]
      go_wp2_with fail
      refine (HX1.out _).mono ?_
      rintro e y5 ⟨A5, c5, rfl, e5, k5⟩
      replace hK := (hK.trans k5).alloc (.cells #[i64 n2, .slice A5 es2.length c5] 37)
      replace e1 := (Lib.hid ((e1.out.grew k5).grew ((Kept.refl _ _).alloc (.cells #[i64 n2, .slice A5 es2.length c5] 37))))
      replace b1 := (b1.grew k5).alloc (.cells #[i64 n2, .slice A5 es2.length c5] 37)
      replace e2 := (Lib.hid ((e2.out.grew k5).grew ((Kept.refl _ _).alloc (.cells #[i64 n2, .slice A5 es2.length c5] 37))))
      replace b2 := (b2.grew k5).alloc (.cells #[i64 n2, .slice A5 es2.length c5] 37)
      replace e3 := (Lib.hid ((e3.out.grew k5).grew ((Kept.refl _ _).alloc (.cells #[i64 n2, .slice A5 es2.length c5] 37))))
      replace b3 := (b3.grew k5).alloc (.cells #[i64 n2, .slice A5 es2.length c5] 37)
      replace e4 := (Lib.hid ((e4.out.grew k5).grew ((Kept.refl _ _).alloc (.cells #[i64 n2, .slice A5 es2.length c5] 37))))
      replace b4 := (b4.grew k5).alloc (.cells #[i64 n2, .slice A5 es2.length c5] 37)
      replace e5 := Lib.hid (e5.grew ((Kept.refl _ _).alloc (.cells #[i64 n2, .slice A5 es2.length c5] 37)))
      have b5 := Blk.new y5 37 #[i64 n2, .slice A5 es2.length c5]
      go_wp2_with fail
      refine (HX2.out _).mono ?_
      rintro e y6 ⟨A6, c6, rfl, e6, k6⟩
      replace hK := (hK.trans k6).alloc (.cells #[i64 n2, .slice A6 es2.length c6] 37)
      replace e1 := (Lib.hid ((e1.out.grew k6).grew ((Kept.refl _ _).alloc (.cells #[i64 n2, .slice A6 es2.length c6] 37))))
      replace b1 := (b1.grew k6).alloc (.cells #[i64 n2, .slice A6 es2.length c6] 37)
      replace e2 := (Lib.hid ((e2.out.grew k6).grew ((Kept.refl _ _).alloc (.cells #[i64 n2, .slice A6 es2.length c6] 37))))
      replace b2 := (b2.grew k6).alloc (.cells #[i64 n2, .slice A6 es2.length c6] 37)
      replace e3 := (Lib.hid ((e3.out.grew k6).grew ((Kept.refl _ _).alloc (.cells #[i64 n2, .slice A6 es2.length c6] 37))))
      replace b3 := (b3.grew k6).alloc (.cells #[i64 n2, .slice A6 es2.length c6] 37)
      replace e4 := (Lib.hid ((e4.out.grew k6).grew ((Kept.refl _ _).alloc (.cells #[i64 n2, .slice A6 es2.length c6] 37))))
      replace b4 := (b4.grew k6).alloc (.cells #[i64 n2, .slice A6 es2.length c6] 37)
      replace e5 := (Lib.hid ((e5.out.grew k6).grew ((Kept.refl _ _).alloc (.cells #[i64 n2, .slice A6 es2.length c6] 37))))
      replace b5 := (b5.grew k6).alloc (.cells #[i64 n2, .slice A6 es2.length c6] 37)
      replace e6 := Lib.hid (e6.grew ((Kept.refl _ _).alloc (.cells #[i64 n2, .slice A6 es2.length c6] 37)))
      have b6 := Blk.new y6 37 #[i64 n2, .slice A6 es2.length c6]
      have p1 := b1.cell 0
      have q1 := b1.cell 1
      have p2 := b2.cell 0
      have q2 := b2.cell 1
      have p3 := b3.cell 0
      have q3 := b3.cell 1
      have p4 := b4.cell 0
      have q4 := b4.cell 1
      have p5 := b5.cell 0
      have q5 := b5.cell 1
      have p6 := b6.cell 0
      have q6 := b6.cell 1
      simp at p1 q1 p2 q2 p3 q3 p4 q4 p5 q5 p6 q6
      have hS0 := Lib.hid (fun W (hW : RowE W A1 es0) (hW' : RowE W A2 es0) => same_yes n0 A1 A2 c1 c2 es0 W hW hW' hl0)
      have hS1 := Lib.hid (fun W (hW : RowE W A3 es1) (hW' : RowE W A4 es1) => same_yes n1 A3 A4 c3 c4 es1 W hW hW' hl1)
      have hS2 := Lib.hid (fun W (hW : RowE W A5 es2) (hW' : RowE W A6 es2) => same_yes n2 A5 A6 c5 c6 es2 W hW hW' hl2)
      go_wp2_with fail
      refine (hS0.out _ e1.out e2.out).mono ?_
      rintro e z0 ⟨rfl, k⟩
      replace hK := hK.trans k
      replace e3 := Lib.hid (e3.out.grew k)
      replace b3 := b3.grew k
      replace p3 := b3.cell 0
      replace q3 := b3.cell 1
      replace e4 := Lib.hid (e4.out.grew k)
      replace b4 := b4.grew k
      replace p4 := b4.cell 0
      replace q4 := b4.cell 1
      replace e5 := Lib.hid (e5.out.grew k)
      replace b5 := b5.grew k
      replace p5 := b5.cell 0
      replace q5 := b5.cell 1
      replace e6 := Lib.hid (e6.out.grew k)
      replace b6 := b6.grew k
      replace p6 := b6.cell 0
      replace q6 := b6.cell 1
      simp at p3 q3 p4 q4 p5 q5 p6 q6
      clear k p1 q1 b1 e1 p2 q2 b2 e2
      go_wp2_with fail
      refine (hS1.out _ e3.out e4.out).mono ?_
      rintro e z1 ⟨rfl, k⟩
      replace hK := hK.trans k
      replace e5 := Lib.hid (e5.out.grew k)
      replace b5 := b5.grew k
      replace p5 := b5.cell 0
      replace q5 := b5.cell 1
      replace e6 := Lib.hid (e6.out.grew k)
      replace b6 := b6.grew k
      replace p6 := b6.cell 0
      replace q6 := b6.cell 1
      simp at p5 q5 p6 q6
      clear k p3 q3 b3 e3 p4 q4 b4 e4
      go_wp2_with fail
      refine (hS2.out _ e5.out e6.out).mono ?_
      rintro e z2 ⟨rfl, k⟩
      replace hK := hK.trans k
      clear k p5 q5 b5 e5 p6 q6 b6 e6
      go_wp2_with fail
      refine (hA.out _).mono ?_
      rintro e z ⟨rfl, k⟩
      go_wp2_with fail
      go_ret
      exact ⟨rfl, hK.trans k⟩
end Go.Proofs.Ytppnndhekikagaa
