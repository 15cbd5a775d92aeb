/- The law GraphChanges. -/
import Derived.Test.YtiialiifjhgcmaaSub
import Derived.Test.YtiialiifjhgcmaaRefWith
import Derived.Test.YtiialiifjhgcmaaLight
namespace Go.Proofs.Ytiialiifjhgcmaa
open Go.RowKit

def wCode (n : Int) (es : List Edg) (e x : Int) : Int := if rightF n es = 0 then (if 0 ≤ e ∧ e < es.length then (if 1 ≤ x ∧ x ≤ 4294967296 then 0 else 2) else 8) else 1
def WithE (n : Int) (es : List Edg) (e x : Int) (r : Ending) (w w' : World) : Prop := ∃ v, r = .returned (.tuple #[.agg #[i64 (if wCode n es e x = 0 then n else 0), v], i64 (wCode n es e x)]) ∧ Edges w' w.heap.size v (if wCode n es e x = 0 then setW es e.toNat x else []) ∧ Grew w w'
theorem withE_no {n : Int} {es : List Edg} {e x k : Int} {r : Ending} {w w' : World} (hc : wCode n es e x = k) (hk : k ≠ 0) (h : r = .returned (.tuple #[.agg #[i64 0, .slice none 0 0], i64 k]) ∧ Grew w w') : WithE n es e x r w w' := by
  unfold WithE
  rw [hc, if_neg hk, if_neg hk]
  exact ⟨_, h.1, World.ownsRow_nil _ _ _ _, h.2⟩
theorem with_any (n : Int) (A : Option Addr) (c : Nat) (es : List Edg) (e x : Int) (w : World) (h : RowE w A es) (hl : es.length ≤ 100000) :
    Calls Try.prog 23 #[.agg #[i64 n, .slice A es.length c], i64 e, u64 x] w fun r w' => WithE n es e x r w w' := by
  by_cases hr : rightF n es = 0
  · by_cases he : 0 ≤ e ∧ e < es.length
    · obtain ⟨k, rfl⟩ := Int.eq_ofNat_of_zero_le he.1
      by_cases hx : 1 ≤ x ∧ x ≤ 4294967296
      · have hc : wCode n es k x = 0 := by unfold wCode; rw [if_pos hr, if_pos he, if_pos hx]
        refine (with_yes n A c es k x w h hl hr (by omega) hx).mono fun r w' hh => ?_
        unfold WithE
        rw [hc, if_pos rfl, if_pos rfl]
        exact hh
      · exact (with_no3 n A c es k x w h hl hr (by omega) hx).mono fun r w' hh => withE_no (by unfold wCode; rw [if_pos hr, if_pos he, if_neg hx]) (by decide) hh
    · exact (with_no2 n A c es e x w h hl hr he).mono fun r w' hh => withE_no (by unfold wCode; rw [if_pos hr, if_neg he]) (by decide) hh
  · exact (with_no1 n A c es e x w h hl hr).mono fun r w' hh => withE_no (by unfold wCode; rw [if_neg hr]) (by decide) hh
theorem refWith_any (n : Int) (A : Option Addr) (c : Nat) (es : List Edg) (e x : Int) (w : World) (h : RowE w A es) (hl : es.length ≤ 100000) :
    Calls Try.prog 24 #[.agg #[i64 n, .slice A es.length c], i64 e, u64 x] w fun r w' => WithE n es e x r w w' := by
  by_cases hr : rightF n es = 0
  · by_cases he : 0 ≤ e ∧ e < es.length
    · obtain ⟨k, rfl⟩ := Int.eq_ofNat_of_zero_le he.1
      by_cases hx : 1 ≤ x ∧ x ≤ 4294967296
      · have hc : wCode n es k x = 0 := by unfold wCode; rw [if_pos hr, if_pos he, if_pos hx]
        refine (refWith_yes n A c es k x w h hl hr (by omega) hx).mono fun r w' hh => ?_
        unfold WithE
        rw [hc, if_pos rfl, if_pos rfl]
        exact hh
      · exact (refWith_no3 n A c es k x w h hl hr (by omega) hx).mono fun r w' hh => withE_no (by unfold wCode; rw [if_pos hr, if_pos he, if_neg hx]) (by decide) hh
    · rcases Int.lt_or_le e 0 with h0 | h0
      · exact (refWith_no2a n A c es e x w h hl hr h0).mono fun r w' hh => withE_no (by unfold wCode; rw [if_pos hr, if_neg he]) (by decide) hh
      · exact (refWith_no2b n A c es e x w h hl hr ⟨h0, by omega⟩).mono fun r w' hh => withE_no (by unfold wCode; rw [if_pos hr, if_neg he]) (by decide) hh
  · exact (refWith_no1 n A c es e x w h hl hr).mono fun r w' hh => withE_no (by unfold wCode; rw [if_neg hr]) (by decide) hh
theorem sub_any (n : Int) (A K : Option Addr) (c d m : Nat) (es : List Edg) (kp : Nat → Bool) (w : World) (h : RowE w A es) (hk : RowB w K m kp) (hl : es.length ≤ 100000) (hm : m ≤ 100000) :
    Calls Try.prog 25 #[.agg #[i64 n, .slice A es.length c], .slice K m d] w fun e w' => SubE n es kp m e w w' := by
  by_cases hr : rightF n es = 0
  · by_cases hmn : (m : Int) = n
    · subst hmn
      exact sub_yes m A K c d es kp w h hk hl hr
    · exact sub_no2 n A K c d m es kp w h hl hm ⟨hr, hmn⟩
  · exact sub_no1 n A K c d m es kp w h hl hm hr
theorem refSub_any (n : Int) (A K : Option Addr) (c d m : Nat) (es : List Edg) (kp : Nat → Bool) (w : World) (h : RowE w A es) (hk : RowB w K m kp) (hl : es.length ≤ 100000) (hm : m ≤ 100000) :
    Calls Try.prog 26 #[.agg #[i64 n, .slice A es.length c], .slice K m d] w fun e w' => SubE n es kp m e w w' := by
  by_cases hr : rightF n es = 0
  · by_cases hmn : (m : Int) = n
    · subst hmn
      exact refSub_yes m A K c d es kp w h hk hl hr
    · exact refSub_no2 n A K c d m es kp w h hl hm ⟨hr, hmn⟩
  · exact refSub_no1 n A K c d m es kp w h hl hm hr

theorem sameE_yes (n : Int) (es : List Edg) (hl : es.length ≤ 100000) (W : World) (A : Option Addr) (c : Nat) (A' : Option Addr) (c' : Nat) (h : RowE W A es) (h' : RowE W A' es) :
    Calls Try.prog 14 #[.agg #[i64 n, .slice A es.length c], .agg #[i64 n, .slice A' es.length c']] W fun e w' => e = .returned (.bool true) ∧ Grew W w' := by
  have hh := refSame_any n n A A' c c' es es W h h' hl hl
  simpa using hh
theorem sameI_yes (zs : List Int) (hl : zs.length ≤ 100000) (W : World) (A : Option Addr) (c : Nat) (A' : Option Addr) (c' : Nat) (h : RowI W A zs) (h' : RowI W A' zs) :
    Calls Try.prog 22 #[.slice A zs.length c, .slice A' zs.length c'] W fun e w' => e = .returned (.bool true) ∧ Grew W w' := by
  have hh := sameI_any A A' c c' zs zs W h h' hl hl
  simpa using hh

set_option maxHeartbeats 4000000 in
set_option maxRecDepth 100000 in
theorem changes_yes (n : Int) (A K : Option Addr) (c d m : Nat) (es : List Edg) (kp : Nat → Bool) (e x : Int) (w : World) (hRow : RowE w A es) (hRB : RowB w K m kp) (hl : es.length ≤ 300) (hn : n ≤ 100 ∨ 4096 < n) (hm : m ≤ 200) :
    Calls Try.prog 5 #[.agg #[i64 n, .slice A es.length c], i64 e, u64 x, .slice K m d] w fun e w' => e = .returned (.bool true) ∧ Grew w w' := by
  have hA := Lib.hid alive_any
  have hLA := Lib.hid (fun W => light_yes n A es.length c W hn hl)
  have hW := Lib.hid (fun W h => with_any n A c es e x W h (by omega))
  have hWR := Lib.hid (fun W h => refWith_any n A c es e x W h (by omega))
  have hSu := Lib.hid (fun W h hk => sub_any n A K c d m es kp W h hk (by omega) (by omega))
  have hSR := Lib.hid (fun W h hk => refSub_any n A K c d m es kp W h hk (by omega) (by omega))
  unfold WithE at hW hWR
  unfold SubE at hSu hSR
  obtain ⟨f, hf⟩ : ∃ f, wCode n es e x = f := ⟨_, rfl⟩
  rw [hf] at hW hWR
  obtain ⟨n1, hn1⟩ : ∃ k, (if f = 0 then n else 0) = k := ⟨_, rfl⟩
  obtain ⟨E1, hE1⟩ : ∃ k, (if f = 0 then setW es e.toNat x else []) = k := ⟨_, rfl⟩
  obtain ⟨n2, hn2⟩ : ∃ k, (if rightF n es = 0 ∧ (m : Int) = n then (idxK kp m : Int) else 0) = k := ⟨_, rfl⟩
  obtain ⟨E2, hE2⟩ : ∃ k, (if rightF n es = 0 ∧ (m : Int) = n then subE kp es else []) = k := ⟨_, rfl⟩
  obtain ⟨Z2, hZ2⟩ : ∃ k, (if rightF n es = 0 ∧ (m : Int) = n then wasL kp m else []) = k := ⟨_, rfl⟩
  have hl1 : E1.length ≤ 100000 := by
    rw [← hE1]
    split
    · rw [setW_length]; omega
    · simp
  have hl2 : E2.length ≤ 100000 := by
    rw [← hE2]
    split
    · have := subE_len kp es; omega
    · simp
  have hl3 : Z2.length ≤ 100000 := by
    rw [← hZ2]
    split
    · rw [wasL_length]; have := idxK_le kp m; omega
    · simp
  rw [hn1, hE1] at hW hWR
  rw [hn2, hE2, hZ2] at hSu hSR
  have hS1 := Lib.hid (sameE_yes n1 E1 hl1)
  have hS2 := Lib.hid (sameE_yes n2 E2 hl2)
  have hI := Lib.hid (sameI_yes Z2 hl3)
  clear hf hn1 hE1 hn2 hE2 hZ2 hl1 hl2 hl3
  obtain ⟨L, hL⟩ : ∃ L, es.length = L := ⟨_, rfl⟩
  obtain ⟨L1, hL1⟩ : ∃ L, E1.length = L := ⟨_, rfl⟩
  obtain ⟨L2, hL2⟩ : ∃ L, E2.length = L := ⟨_, rfl⟩
  obtain ⟨L3, hL3⟩ : ∃ L, Z2.length = L := ⟨_, rfl⟩
  have H1 := Lib.hid hL1
  have H2 := Lib.hid hL2
  have H3 := Lib.hid hL3
  rw [hL] at hl hLA hW hWR hSu hSR
  rw [hL1] at hS1
  rw [hL2] at hS2
  rw [hL3] at hI
  rw [hL]
  clear hn hL hL1 hL2 hL3
  have bA := Blk.new w 24 #[i64 n, .slice A L c]
  have hK : Grew w (w.alloc (.cells #[i64 n, .slice A L c] 24)) := (Kept.refl _ _).alloc _
  have eA := Lib.hid (hRow.grew hK)
  have rB := Lib.hid (hRB.grew hK)
  clear hRow hRB
  have c0 := bA.cell 0
  have c1 := bA.cell 1
  simp at c0 c1
  go_enter Try.func5, Try.ntmps5
  go_wp2_with fail
  refine (hLA.out _).mono ?_
  rintro e wa ⟨rfl, ka⟩
  replace hK := hK.trans ka
  replace bA := bA.grew ka
  replace eA := Lib.hid (eA.out.grew ka)
  replace rB := Lib.hid (rB.out.grew ka)
  replace c0 := bA.cell 0
  replace c1 := bA.cell 1
  simp at c0 c1
  go_wp2_with fail
  refine (hW.out _ eA.out).mono ?_
  rintro e w1 ⟨v1, rfl, o1, k1⟩
  obtain ⟨X1, y1, hv, x1⟩ := o1.row
  rw [H1.out] at hv
  subst hv
  replace bA := bA.grew k1
  replace bA := bA.alloc (.cells #[i64 n1, .slice X1 L1 y1] 24)
  replace eA := Lib.hid (eA.out.grew k1)
  replace eA := Lib.hid (eA.out.grew ((Kept.refl _ _).alloc (.cells #[i64 n1, .slice X1 L1 y1] 24)))
  replace rB := Lib.hid (rB.out.grew k1)
  replace rB := Lib.hid (rB.out.grew ((Kept.refl _ _).alloc (.cells #[i64 n1, .slice X1 L1 y1] 24)))
  replace hK := (hK.trans k1).alloc (.cells #[i64 n1, .slice X1 L1 y1] 24)
  have x1 := Lib.hid (x1.grew ((Kept.refl _ _).alloc (.cells #[i64 n1, .slice X1 L1 y1] 24)))
  have b1 := Blk.new w1 24 #[i64 n1, .slice X1 L1 y1]
  clear o1 k1
  replace c0 := bA.cell 0
  replace c1 := bA.cell 1
  simp at c0 c1
  go_wp2_with fail
  refine (hWR.out _ eA.out).mono ?_
  rintro e w2 ⟨v2, rfl, o2, k2⟩
  obtain ⟨X2, y2, hv, x2⟩ := o2.row
  rw [H1.out] at hv
  subst hv
  replace bA := bA.grew k2
  replace bA := bA.alloc (.cells #[i64 n1, .slice X2 L1 y2] 24)
  replace eA := Lib.hid (eA.out.grew k2)
  replace eA := Lib.hid (eA.out.grew ((Kept.refl _ _).alloc (.cells #[i64 n1, .slice X2 L1 y2] 24)))
  replace rB := Lib.hid (rB.out.grew k2)
  replace rB := Lib.hid (rB.out.grew ((Kept.refl _ _).alloc (.cells #[i64 n1, .slice X2 L1 y2] 24)))
  replace x1 := Lib.hid (x1.out.grew k2)
  replace x1 := Lib.hid (x1.out.grew ((Kept.refl _ _).alloc (.cells #[i64 n1, .slice X2 L1 y2] 24)))
  replace b1 := b1.grew k2
  replace b1 := b1.alloc (.cells #[i64 n1, .slice X2 L1 y2] 24)
  replace hK := (hK.trans k2).alloc (.cells #[i64 n1, .slice X2 L1 y2] 24)
  have x2 := Lib.hid (x2.grew ((Kept.refl _ _).alloc (.cells #[i64 n1, .slice X2 L1 y2] 24)))
  have b2 := Blk.new w2 24 #[i64 n1, .slice X2 L1 y2]
  clear o2 k2
  replace c0 := bA.cell 0
  replace c1 := bA.cell 1
  simp at c0 c1
  go_wp2_with fail
  refine (hSu.out _ eA.out rB.out).mono ?_
  rintro e w3 ⟨v3, u63, rfl, o3, p3, k3⟩
  obtain ⟨X3, y3, hv, x3⟩ := o3.row
  rw [H2.out] at hv
  subst hv
  obtain ⟨Y3, z3, hv, r3⟩ := p3.row
  rw [H3.out] at hv
  subst hv
  replace bA := bA.grew k3
  replace bA := bA.alloc (.cells #[i64 n2, .slice X3 L2 y3] 24)
  replace eA := Lib.hid (eA.out.grew k3)
  replace eA := Lib.hid (eA.out.grew ((Kept.refl _ _).alloc (.cells #[i64 n2, .slice X3 L2 y3] 24)))
  replace rB := Lib.hid (rB.out.grew k3)
  replace rB := Lib.hid (rB.out.grew ((Kept.refl _ _).alloc (.cells #[i64 n2, .slice X3 L2 y3] 24)))
  replace x1 := Lib.hid (x1.out.grew k3)
  replace x1 := Lib.hid (x1.out.grew ((Kept.refl _ _).alloc (.cells #[i64 n2, .slice X3 L2 y3] 24)))
  replace b1 := b1.grew k3
  replace b1 := b1.alloc (.cells #[i64 n2, .slice X3 L2 y3] 24)
  replace x2 := Lib.hid (x2.out.grew k3)
  replace x2 := Lib.hid (x2.out.grew ((Kept.refl _ _).alloc (.cells #[i64 n2, .slice X3 L2 y3] 24)))
  replace b2 := b2.grew k3
  replace b2 := b2.alloc (.cells #[i64 n2, .slice X3 L2 y3] 24)
  replace hK := (hK.trans k3).alloc (.cells #[i64 n2, .slice X3 L2 y3] 24)
  have x3 := Lib.hid (x3.grew ((Kept.refl _ _).alloc (.cells #[i64 n2, .slice X3 L2 y3] 24)))
  have b3 := Blk.new w3 24 #[i64 n2, .slice X3 L2 y3]
  have r3 := Lib.hid (r3.grew ((Kept.refl _ _).alloc (.cells #[i64 n2, .slice X3 L2 y3] 24)))
  clear o3 k3 p3
  replace c0 := bA.cell 0
  replace c1 := bA.cell 1
  simp at c0 c1
  go_wp2_with fail
  refine (hSR.out _ eA.out rB.out).mono ?_
  rintro e w4 ⟨v4, u64, rfl, o4, p4, k4⟩
  obtain ⟨X4, y4, hv, x4⟩ := o4.row
  rw [H2.out] at hv
  subst hv
  obtain ⟨Y4, z4, hv, r4⟩ := p4.row
  rw [H3.out] at hv
  subst hv
  replace bA := bA.grew k4
  replace bA := bA.alloc (.cells #[i64 n2, .slice X4 L2 y4] 24)
  replace eA := Lib.hid (eA.out.grew k4)
  replace eA := Lib.hid (eA.out.grew ((Kept.refl _ _).alloc (.cells #[i64 n2, .slice X4 L2 y4] 24)))
  replace rB := Lib.hid (rB.out.grew k4)
  replace rB := Lib.hid (rB.out.grew ((Kept.refl _ _).alloc (.cells #[i64 n2, .slice X4 L2 y4] 24)))
  replace x1 := Lib.hid (x1.out.grew k4)
  replace x1 := Lib.hid (x1.out.grew ((Kept.refl _ _).alloc (.cells #[i64 n2, .slice X4 L2 y4] 24)))
  replace b1 := b1.grew k4
  replace b1 := b1.alloc (.cells #[i64 n2, .slice X4 L2 y4] 24)
  replace x2 := Lib.hid (x2.out.grew k4)
  replace x2 := Lib.hid (x2.out.grew ((Kept.refl _ _).alloc (.cells #[i64 n2, .slice X4 L2 y4] 24)))
  replace b2 := b2.grew k4
  replace b2 := b2.alloc (.cells #[i64 n2, .slice X4 L2 y4] 24)
  replace x3 := Lib.hid (x3.out.grew k4)
  replace x3 := Lib.hid (x3.out.grew ((Kept.refl _ _).alloc (.cells #[i64 n2, .slice X4 L2 y4] 24)))
  replace b3 := b3.grew k4
  replace b3 := b3.alloc (.cells #[i64 n2, .slice X4 L2 y4] 24)
  replace r3 := Lib.hid (r3.out.grew k4)
  replace r3 := Lib.hid (r3.out.grew ((Kept.refl _ _).alloc (.cells #[i64 n2, .slice X4 L2 y4] 24)))
  replace hK := (hK.trans k4).alloc (.cells #[i64 n2, .slice X4 L2 y4] 24)
  have x4 := Lib.hid (x4.grew ((Kept.refl _ _).alloc (.cells #[i64 n2, .slice X4 L2 y4] 24)))
  have b4 := Blk.new w4 24 #[i64 n2, .slice X4 L2 y4]
  have r4 := Lib.hid (r4.grew ((Kept.refl _ _).alloc (.cells #[i64 n2, .slice X4 L2 y4] 24)))
  clear o4 k4 p4
  replace c0 := bA.cell 0
  replace c1 := bA.cell 1
  simp at c0 c1
  have c10 := b1.cell 0
  have c11 := b1.cell 1
  simp at c10 c11
  have c20 := b2.cell 0
  have c21 := b2.cell 1
  simp at c20 c21
  have c30 := b3.cell 0
  have c31 := b3.cell 1
  simp at c30 c31
  have c40 := b4.cell 0
  have c41 := b4.cell 1
  simp at c40 c41
  go_wp2_with fail
  refine (hS1.out _ _ _ _ _ x1.out x2.out).mono ?_
  rintro e w5 ⟨rfl, k5⟩
  replace x3 := Lib.hid (x3.out.grew k5)
  replace x4 := Lib.hid (x4.out.grew k5)
  replace b3 := b3.grew k5
  replace b4 := b4.grew k5
  replace r3 := Lib.hid (r3.out.grew k5)
  replace r4 := Lib.hid (r4.out.grew k5)
  replace c30 := b3.cell 0
  replace c31 := b3.cell 1
  simp at c30 c31
  replace c40 := b4.cell 0
  replace c41 := b4.cell 1
  simp at c40 c41
  go_wp2_with fail
  refine (hS2.out _ _ _ _ _ x3.out x4.out).mono ?_
  rintro e w6 ⟨rfl, k6⟩
  replace r3 := Lib.hid (r3.out.grew k6)
  replace r4 := Lib.hid (r4.out.grew k6)
  go_wp2_with fail
  refine (hI.out _ _ _ _ _ r3.out r4.out).mono ?_
  rintro e w7 ⟨rfl, k7⟩
  go_wp2_with fail
  refine (hA.out _).mono ?_
  rintro e w8 ⟨rfl, k8⟩
  go_wp2_with fail
  go_ret
  exact ⟨rfl, (((hK.trans k5).trans k6).trans k7).trans k8⟩

theorem changes_law (n : Int) (A K : Option Addr) (c d m : Nat) (es : List Edg) (kp : Nat → Bool) (e x : Int) (w : World) (hRow : RowE w A es) (hRB : RowB w K m kp) (hl : es.length ≤ 9223372036854775807) (hm : m ≤ 9223372036854775807) :
    Calls Try.prog 5 #[.agg #[i64 n, .slice A es.length c], i64 e, u64 x, .slice K m d] w fun e w' => e = .returned (.bool true) ∧ Grew w w' := by
  by_cases h1 : (n ≤ 100 ∨ 4096 < n) ∧ es.length ≤ 300
  · by_cases h2 : m ≤ 200
    · exact changes_yes n A K c d m es kp e x w hRow hRB h1.2 h1.1 h2
    · have hA := Lib.hid alive_any
      have hLA := Lib.hid (fun W => light_yes n A es.length c W h1.1 h1.2)
      have h3 : 200 < m := by omega
      clear hRow h1 h2 hl hRB
      obtain ⟨L, hL⟩ : ∃ L, es.length = L := ⟨_, rfl⟩
      rw [hL] at hLA
      rw [hL]
      clear hL
      have hK0 : Grew w (w.alloc (.cells #[i64 n, .slice A L c] 24)) := (Kept.refl _ _).alloc _
      go_enter Try.func5, Try.ntmps5
      go_wp2_with fail
      refine (hLA.out _).mono ?_
      rintro e wa ⟨rfl, ka⟩
      go_wp2_with fail
      refine (hA.out _).mono ?_
      rintro e wc ⟨rfl, kc⟩
      go_wp2_with fail
      go_ret
      exact ⟨rfl, (hK0.trans ka).trans kc⟩
  · have hA := Lib.hid alive_any
    have hLA := Lib.hid (fun W => light_no n A es.length c W hl h1)
    clear hRow h1 hl hRB
    obtain ⟨L, hL⟩ : ∃ L, es.length = L := ⟨_, rfl⟩
    rw [hL] at hLA
    rw [hL]
    clear hL
    have hK0 : Grew w (w.alloc (.cells #[i64 n, .slice A L c] 24)) := (Kept.refl _ _).alloc _
    go_enter Try.func5, Try.ntmps5
    go_wp2_with fail
    refine (hLA.out _).mono ?_
    rintro e wa ⟨rfl, ka⟩
    go_wp2_with fail
    refine (hA.out _).mono ?_
    rintro e wc ⟨rfl, kc⟩
    go_wp2_with fail
    go_ret
    exact ⟨rfl, (hK0.trans ka).trans kc⟩
end Go.Proofs.Ytiialiifjhgcmaa
