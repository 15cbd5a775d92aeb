/- A case of the law GenRight. -/
import Derived.Test.YtppnndhekikagaaRightPlain
namespace Go.Proofs.Ytppnndhekikagaa
open Go.RowKit

set_option maxHeartbeats 16000000 in
set_option maxRecDepth 100000 in
theorem right_0111 (n m seed most : Int) (w : World) (h30 : n ≤ 30 ∨ 4096 < n) (m30 : m ≤ 30 ∨ 16384 < m)
    (n1 f1 : Int) (es1 : List Edg) (hl1 : es1.length ≤ 100000) (hM1 : Maker 21 #[i64 n, i64 m, u64 seed, i64 most] n1 es1 f1)
    (hg1 : n1 = 0 ∧ es1 = [] ∧ ¬ f1 = 0)
    (n2 f2 : Int) (es2 : List Edg) (hl2 : es2.length ≤ 100000) (hM2 : Maker 17 #[i64 n, u64 seed] n2 es2 f2)
    (hg2 : f2 = 0 ∧ rightF n2 es2 = 0)
    (n3 f3 : Int) (es3 : List Edg) (hl3 : es3.length ≤ 100000) (hM3 : Maker 19 #[i64 n] n3 es3 f3)
    (hg3 : f3 = 0 ∧ rightF n3 es3 = 0)
    (n4 f4 : Int) (es4 : List Edg) (L : Nat) (ps : List Plc) (hl4 : es4.length ≤ 100000) (hlL : L ≤ 100000) (hps : ps.length = L) (hM4 : MakerG 14 #[i64 n, i64 3, u64 seed, i64 most] n4 es4 ps f4)
    (hg4 : f4 = 0 ∧ n4 = (L : Int) ∧ rightF n4 es4 = 0) :
    Calls Try.prog 6 #[i64 n, i64 m, u64 seed, i64 most] w fun e w' => e = .returned (.bool true) ∧ Grew w w' := by
  have hA := Lib.hid alive_any
  have hG := Lib.hid (fun W => great_no n 4096 W (by omega))
  have hG2 := Lib.hid (fun W => great_no m 16384 W (by omega))
  have HM1 := Lib.hid hM1
  have Hg1 := Lib.hid hg1
  have HM2 := Lib.hid hM2
  have Hg2 := Lib.hid hg2
  have HM3 := Lib.hid hM3
  have Hg3 := Lib.hid hg3
  have HM4 := Lib.hid hM4
  have Hg4 := Lib.hid hg4
  clear hM1 hM2 hM3 hM4 hg1 hg2 hg3 hg4 h30 m30
  go_enter Try.func6, Try.ntmps6
  go_wp2_with fail
  refine (hG.out _).mono ?_
  rintro e w1 ⟨rfl, rfl⟩
  go_wp2_with fail
  refine (hG2.out _).mono ?_
  rintro e w1 ⟨rfl, rfl⟩
  go_wp2_with fail
  refine (HM1.out _).mono ?_
  rintro e y1 ⟨A1, c1, rfl, e1, k1⟩
  have hK := k1.alloc (.cells #[i64 n1, .slice A1 es1.length c1] 37)
  replace e1 := Lib.hid (e1.grew ((Kept.refl _ _).alloc (.cells #[i64 n1, .slice A1 es1.length c1] 37)))
  have b1 := Lib.hid (Blk.new y1 37 #[i64 n1, .slice A1 es1.length c1])
  go_wp2_with fail
  refine (HM2.out _).mono ?_
  rintro e y2 ⟨A2, c2, rfl, e2, k2⟩
  replace hK := (hK.trans k2).alloc (.cells #[i64 n2, .slice A2 es2.length c2] 37)
  replace e1 := (Lib.hid ((e1.out.grew k2).grew ((Kept.refl _ _).alloc (.cells #[i64 n2, .slice A2 es2.length c2] 37))))
  replace b1 := Lib.hid ((b1.out.grew k2).alloc (.cells #[i64 n2, .slice A2 es2.length c2] 37))
  replace e2 := Lib.hid (e2.grew ((Kept.refl _ _).alloc (.cells #[i64 n2, .slice A2 es2.length c2] 37)))
  have b2 := Lib.hid (Blk.new y2 37 #[i64 n2, .slice A2 es2.length c2])
  go_wp2_with fail
  refine (HM3.out _).mono ?_
  rintro e y3 ⟨A3, c3, rfl, e3, k3⟩
  replace hK := (hK.trans k3).alloc (.cells #[i64 n3, .slice A3 es3.length c3] 37)
  replace e1 := (Lib.hid ((e1.out.grew k3).grew ((Kept.refl _ _).alloc (.cells #[i64 n3, .slice A3 es3.length c3] 37))))
  replace b1 := Lib.hid ((b1.out.grew k3).alloc (.cells #[i64 n3, .slice A3 es3.length c3] 37))
  replace e2 := (Lib.hid ((e2.out.grew k3).grew ((Kept.refl _ _).alloc (.cells #[i64 n3, .slice A3 es3.length c3] 37))))
  replace b2 := Lib.hid ((b2.out.grew k3).alloc (.cells #[i64 n3, .slice A3 es3.length c3] 37))
  replace e3 := Lib.hid (e3.grew ((Kept.refl _ _).alloc (.cells #[i64 n3, .slice A3 es3.length c3] 37)))
  have b3 := Lib.hid (Blk.new y3 37 #[i64 n3, .slice A3 es3.length c3])
  go_wp2_with fail
  refine (HM4.out _).mono ?_
  rintro e y4 ⟨A4, c4, B4, d4, rfl, e4, _, k4⟩
  rw [hps]
  clear hps
  replace hK := (hK.trans k4).alloc (.cells #[i64 n4, .slice A4 es4.length c4] 37)
  replace e1 := (Lib.hid ((e1.out.grew k4).grew ((Kept.refl _ _).alloc (.cells #[i64 n4, .slice A4 es4.length c4] 37))))
  replace b1 := Lib.hid ((b1.out.grew k4).alloc (.cells #[i64 n4, .slice A4 es4.length c4] 37))
  replace e2 := (Lib.hid ((e2.out.grew k4).grew ((Kept.refl _ _).alloc (.cells #[i64 n4, .slice A4 es4.length c4] 37))))
  replace b2 := Lib.hid ((b2.out.grew k4).alloc (.cells #[i64 n4, .slice A4 es4.length c4] 37))
  replace e3 := (Lib.hid ((e3.out.grew k4).grew ((Kept.refl _ _).alloc (.cells #[i64 n4, .slice A4 es4.length c4] 37))))
  replace b3 := Lib.hid ((b3.out.grew k4).alloc (.cells #[i64 n4, .slice A4 es4.length c4] 37))
  replace e4 := Lib.hid (e4.grew ((Kept.refl _ _).alloc (.cells #[i64 n4, .slice A4 es4.length c4] 37)))
  have b4 := Lib.hid (Blk.new y4 37 #[i64 n4, .slice A4 es4.length c4])
  obtain ⟨rfl, rfl, hf1⟩ := Hg1.out
  clear Hg1
  obtain ⟨rfl, hr2⟩ := Hg2.out
  clear Hg2
  have HR2 := Lib.hid hr2
  clear hr2
  obtain ⟨rfl, hr3⟩ := Hg3.out
  clear Hg3
  have HR3 := Lib.hid hr3
  clear hr3
  obtain ⟨rfl, rfl, hr4⟩ := Hg4.out
  clear Hg4
  have HR4 := Lib.hid hr4
  clear hr4
  have p1 := b1.out.cell 0
  have q1 := b1.out.cell 1
  have p2 := b2.out.cell 0
  have q2 := b2.out.cell 1
  have p3 := b3.out.cell 0
  have q3 := b3.out.cell 1
  have p4 := b4.out.cell 0
  have q4 := b4.out.cell 1
  simp at p1 q1 p2 q2 p3 q3 p4 q4
  go_wp2_with fail
  all_goals try exact nomatch (‹some undef = some (Value.bool _)›)
  refine (right_any _ A2 c2 es2 _ e2.out hl2).mono ?_
  rintro e z2 ⟨rfl, k0⟩
  rw [HR2.out]
  replace hK := hK.trans k0
  clear e2 b2 p2 q2 HR2
  replace e3 := Lib.hid (e3.out.grew k0)
  replace b3 := Lib.hid (b3.out.grew k0)
  replace p3 := b3.out.cell 0
  replace q3 := b3.out.cell 1
  replace e4 := Lib.hid (e4.out.grew k0)
  replace b4 := Lib.hid (b4.out.grew k0)
  replace p4 := b4.out.cell 0
  replace q4 := b4.out.cell 1
  simp at p3 q3 p4 q4
  clear k0
  go_wp2_with fail
  all_goals try exact nomatch (‹some undef = some (Value.bool _)›)
  refine (right_any _ A3 c3 es3 _ e3.out hl3).mono ?_
  rintro e z3 ⟨rfl, k0⟩
  rw [HR3.out]
  replace hK := hK.trans k0
  clear e3 b3 p3 q3 HR3
  replace e4 := Lib.hid (e4.out.grew k0)
  replace b4 := Lib.hid (b4.out.grew k0)
  replace p4 := b4.out.cell 0
  replace q4 := b4.out.cell 1
  simp at p4 q4
  clear k0
  go_wp2_with fail
  all_goals try exact nomatch (‹some undef = some (Value.bool _)›)
  refine (right_any _ A4 c4 es4 _ e4.out hl4).mono ?_
  rintro e z4 ⟨rfl, k0⟩
  rw [HR4.out]
  replace hK := hK.trans k0
  replace b4 := Lib.hid (b4.out.grew k0)
  replace p4 := b4.out.cell 0
  simp at p4
  clear e4 HR4
  clear k0
  go_wp2_with fail
  all_goals try exact nomatch (‹some undef = some (Value.bool _)›)
  refine (hA.out _).mono ?_
  rintro e z ⟨rfl, k0⟩
  go_wp2_with fail
  all_goals try exact nomatch (‹some undef = some (Value.bool _)›)
  go_ret
  exact ⟨rfl, hK.trans k0⟩
end Go.Proofs.Ytppnndhekikagaa
