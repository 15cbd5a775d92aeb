/- The law WitnessMakes. -/
import Derived.Test.YthbcgdogmkgebaaROf
import Derived.Test.YthbcgdogmkgebaaSame
import Derived.Test.YthbcgdogmkgebaaAlive
namespace Go.Proofs.Ythbcgdogmkgebaa
open Go.RowKit
open Gr (Edg RowE rightF)

set_option maxHeartbeats 8000000 in
set_option maxRecDepth 100000 in
theorem makes_heavy (n : Int) (A : Option Addr) (c : Nat) (es : List Edg) (V : Option Addr) (cV : Nat) (l : List Ar) (w : World) (h : RowE w A es) (hv : RowA w V l) (hl : es.length ≤ 9223372036854775807) (hll : l.length ≤ 9223372036854775807) (hz : ¬ ((n ≤ 100 ∨ 4096 < n) ∧ es.length ≤ 300)) :
    Calls Try.prog 5 #[.agg #[i64 n, .slice A es.length c], .slice V l.length cV] w fun e w' => e = .returned (.bool true) ∧ Grew w w' := by
  have b0 := Blk.new w 41 #[i64 n, .slice A es.length c]
  have k0 : Grew w (w.alloc (.cells #[i64 n, .slice A es.length c] 41)) := (Kept.refl _ _).alloc _
  obtain ⟨w0, hw0⟩ : ∃ W, w.alloc (.cells #[i64 n, .slice A es.length c] 41) = W := ⟨_, rfl⟩
  rw [hw0] at b0 k0
  have HA := Lib.hid alive_any
  have HC := Lib.hid (Gr.light_no n A es.length c w0 hl hz)
  obtain ⟨L, hL⟩ : ∃ L, es.length = L := ⟨_, rfl⟩
  obtain ⟨M, hM⟩ : ∃ M, l.length = M := ⟨_, rfl⟩
  rw [hL] at b0 HC hw0 ⊢
  rw [hM]
  have c0 := b0.cell 0
  have c1 := b0.cell 1
  simp at c0 c1
  clear h hv hL hM hl hll hz
  go_enter Try.func5, Try.ntmps5
  go_wp2_with fail
  refine HC.out.mono ?_
  rintro e w1 ⟨rfl, k1⟩
  go_wp2_with fail
  refine (HA.out w1).mono ?_
  rintro e w2 ⟨rfl, k2⟩
  go_wp2_with fail
  go_ret
  exact ⟨rfl, (k0.trans k1).trans k2⟩

set_option maxHeartbeats 8000000 in
set_option maxRecDepth 100000 in
theorem makes_long (n : Int) (A : Option Addr) (c : Nat) (es : List Edg) (V : Option Addr) (cV : Nat) (l : List Ar) (w : World) (h : RowE w A es) (hv : RowA w V l) (hl : es.length ≤ 9223372036854775807) (hll : l.length ≤ 9223372036854775807) (hz : (n ≤ 100 ∨ 4096 < n) ∧ es.length ≤ 300) (hz2 : 60 < l.length) :
    Calls Try.prog 5 #[.agg #[i64 n, .slice A es.length c], .slice V l.length cV] w fun e w' => e = .returned (.bool true) ∧ Grew w w' := by
  have b0 := Blk.new w 41 #[i64 n, .slice A es.length c]
  have k0 : Grew w (w.alloc (.cells #[i64 n, .slice A es.length c] 41)) := (Kept.refl _ _).alloc _
  obtain ⟨w0, hw0⟩ : ∃ W, w.alloc (.cells #[i64 n, .slice A es.length c] 41) = W := ⟨_, rfl⟩
  rw [hw0] at b0 k0
  have HA := Lib.hid alive_any
  have HC := Lib.hid (Gr.light_yes n A es.length c w0 hz.1 hz.2)
  obtain ⟨L, hL⟩ : ∃ L, es.length = L := ⟨_, rfl⟩
  obtain ⟨M, hM⟩ : ∃ M, l.length = M := ⟨_, rfl⟩
  rw [hL] at b0 HC hw0 ⊢
  rw [hM] at hz2 ⊢
  have l1 : (60 : Int) < (M : Int) := by omega
  have c0 := b0.cell 0
  have c1 := b0.cell 1
  simp at c0 c1
  clear h hv hL hM hl hll hz
  go_enter Try.func5, Try.ntmps5
  go_wp2_with fail
  refine HC.out.mono ?_
  rintro e w1 ⟨rfl, k1⟩
  go_wp2_with fail
  refine (HA.out w1).mono ?_
  rintro e w2 ⟨rfl, k2⟩
  go_wp2_with fail
  go_ret
  exact ⟨rfl, (k0.trans k1).trans k2⟩

set_option maxHeartbeats 8000000 in
set_option maxRecDepth 100000 in
theorem makes_no (n : Int) (A : Option Addr) (c : Nat) (es : List Edg) (V : Option Addr) (cV : Nat) (l : List Ar) (w : World) (h : RowE w A es) (hv : RowA w V l) (hl : es.length ≤ 9223372036854775807) (hll : l.length ≤ 9223372036854775807) (hz : (n ≤ 100 ∨ 4096 < n) ∧ es.length ≤ 300) (hz2 : l.length ≤ 60) (hr : ¬ rightF n es = 0) :
    Calls Try.prog 5 #[.agg #[i64 n, .slice A es.length c], .slice V l.length cV] w fun e w' => e = .returned (.bool true) ∧ Grew w w' := by
  have b0 := Blk.new w 41 #[i64 n, .slice A es.length c]
  have k0 : Grew w (w.alloc (.cells #[i64 n, .slice A es.length c] 41)) := (Kept.refl _ _).alloc _
  obtain ⟨w0, hw0⟩ : ∃ W, w.alloc (.cells #[i64 n, .slice A es.length c] 41) = W := ⟨_, rfl⟩
  rw [hw0] at b0 k0
  have HA := Lib.hid alive_any
  have HC := Lib.hid (Gr.light_yes n A es.length c w0 hz.1 hz.2)
  have HE := Lib.hid h
  have HV := Lib.hid hv
  have HAr := Lib.hid (fun W (g : Grew w W) => arcs_any V cV l W (hv.grew g) (by omega))
  have HRM := Lib.hid (fun W (g : Grew w W) => refMerged_any V cV l W (hv.grew g) hz2)
  have HMg := Lib.hid (fun W B u (h : OwnA W B u l) => merged_any W B u l h hz2)
  have HRR := Lib.hid (fun W (g : Grew w W) => Gr.refRight_any n A c es W (h.grew g) (by omega))
  have HOF := Lib.hid (fun W (g : Grew w W) => wof_no n A c es W (h.grew g) (by omega) hr)
  obtain ⟨f, hf⟩ : ∃ f, rightF n es = f := ⟨_, rfl⟩
  have hb' : (f != 0) = true := by rw [← hf]; simpa using hr
  rw [hf] at HRR
  clear hf hr
  obtain ⟨L, hL⟩ : ∃ L, es.length = L := ⟨_, rfl⟩
  obtain ⟨M, hM⟩ : ∃ M, l.length = M := ⟨_, rfl⟩
  have HL := Lib.hid hL
  have HM := Lib.hid hM
  rw [hL] at b0 HC hw0 HRR HOF ⊢
  rw [hM] at hz2 HAr HRM HMg ⊢
  have l1 : (M : Int) ≤ 60 := by omega
  have hL3 : L ≤ 300 := by rw [← hL]; exact hz.2
  have c0 := b0.cell 0
  have c1 := b0.cell 1
  simp at c0 c1
  clear h hv hL hM hl hll hz
  go_enter Try.func5, Try.ntmps5
  go_wp2_with fail
  refine HC.out.mono ?_
  rintro e w1 ⟨rfl, k1⟩
  replace c0 := k1.cell c0
  replace c1 := k1.cell c1
  have K1 := Lib.hid (k0.trans k1)
  have B1 := Lib.hid (b0.grew k1)
  clear k1 HC b0 k0 hw0
  go_wp2_with fail
  refine (HOF.out w1 K1.out).mono ?_
  rintro e w2 ⟨rfl, k2⟩
  replace c0 := k2.cell c0
  replace c1 := k2.cell c1
  have gB : Grew w2 (w2.alloc (.cells #[.slice none 0 0, .slice none 0 0] 33)) := (Kept.refl _ _).alloc _
  have bN := Blk.new w2 33 #[.slice none 0 0, .slice none 0 0]
  have d0 : (w2.alloc (.cells #[.slice none 0 0, .slice none 0 0] 33)).cell? ⟨w2.heap.size, 0, none⟩ = some (.slice none 0 0) := bN.cell 0
  replace c0 := Grew.cell gB c0
  replace c1 := Grew.cell gB c1
  have K2 := Lib.hid ((K1.out.trans k2).trans gB)
  clear gB k2 K1 HOF bN
  go_wp2_with fail
  refine (HAr.out _ K2.out).mono ?_
  rintro e w3 ⟨u, rfl, ou, k3⟩
  have HMu := Lib.hid (HMg.out w3 _ u ou)
  have K3 := Lib.hid (K2.out.trans k3)
  replace c0 := k3.cell c0
  replace c1 := k3.cell c1
  replace d0 := Grew.cell k3 d0
  clear ou k3 HAr HMg K2
  go_wp2_with fail
  refine HMu.out.mono ?_
  rintro e w4 ⟨A4, c4, out, rfl, r4, l4, f4, k4⟩
  have HRu := Lib.hid (HRM.out w4 (K3.out.trans k4))
  have K4 := Lib.hid (K3.out.trans k4)
  replace c0 := k4.cell c0
  replace c1 := k4.cell c1
  replace d0 := k4.cell d0
  have R4 := Lib.hid r4
  have F4 := Lib.hid f4
  clear r4 f4 k4 HMu HRM K3
  go_wp2_with fail
  refine HRu.out.mono ?_
  rintro e w5 ⟨A5, c5, out5, rfl, r5, l5, f5, k5⟩
  have heq : Hid (out = out5) := F4.out out5 f5
  have HSa := Lib.hid (same_any A4 A5 c4 c5 out out5 w5 (R4.out.grew k5) r5 (by omega) (by omega))
  have K5 := Lib.hid (K4.out.trans k5)
  rw [decide_eq_true heq.out] at HSa
  replace c0 := k5.cell c0
  replace c1 := k5.cell c1
  replace d0 := k5.cell d0
  clear r5 f5 k5 HRu R4 F4 heq K4
  go_wp2_with fail
  refine HSa.out.mono ?_
  rintro e w6 ⟨rfl, k6⟩
  have HRu := Lib.hid (HRR.out w6 (K5.out.trans k6))
  have K6 := Lib.hid (K5.out.trans k6)
  replace c0 := k6.cell c0
  replace c1 := k6.cell c1
  replace d0 := k6.cell d0
  clear HSa k6 HRR K5
  go_wp2_with fail
  refine HRu.out.mono ?_
  rintro e w7 ⟨rfl, k7⟩
  have K7 := Lib.hid (K6.out.trans k7)
  replace c0 := k7.cell c0
  replace c1 := k7.cell c1
  replace d0 := k7.cell d0
  clear HRu k7 K6
  go_wp2_with fail
  refine (HA.out _).mono ?_
  rintro e w8 ⟨rfl, k8⟩
  go_wp2_with fail
  go_ret
  exact ⟨rfl, K7.out.trans k8⟩

set_option maxHeartbeats 8000000 in
set_option maxRecDepth 100000 in
theorem makes_yes (n : Int) (A : Option Addr) (c : Nat) (es : List Edg) (V : Option Addr) (cV : Nat) (l : List Ar) (w : World) (h : RowE w A es) (hv : RowA w V l) (hl : es.length ≤ 9223372036854775807) (hll : l.length ≤ 9223372036854775807) (hz : (n ≤ 100 ∨ 4096 < n) ∧ es.length ≤ 300) (hz2 : l.length ≤ 60) (hr : rightF n es = 0) :
    Calls Try.prog 5 #[.agg #[i64 n, .slice A es.length c], .slice V l.length cV] w fun e w' => e = .returned (.bool true) ∧ Grew w w' := by
  obtain ⟨N, rfl⟩ := Int.eq_ofNat_of_zero_le (show 0 ≤ n by have := (right_zero hr).1; omega)
  have hN1 : N ≤ 100 := by have := (right_zero hr).1; have := (right_zero hr).2.1; have := hz.1; omega
  have b0 := Blk.new w 41 #[i64 N, .slice A es.length c]
  have k0 : Grew w (w.alloc (.cells #[i64 N, .slice A es.length c] 41)) := (Kept.refl _ _).alloc _
  obtain ⟨w0, hw0⟩ : ∃ W, w.alloc (.cells #[i64 N, .slice A es.length c] 41) = W := ⟨_, rfl⟩
  rw [hw0] at b0 k0
  have HA := Lib.hid alive_any
  have HC := Lib.hid (Gr.light_yes N A es.length c w0 hz.1 hz.2)
  have HE := Lib.hid h
  have HV := Lib.hid hv
  have HAr := Lib.hid (fun W (g : Grew w W) => arcs_any V cV l W (hv.grew g) (by omega))
  have HRM := Lib.hid (fun W (g : Grew w W) => refMerged_any V cV l W (hv.grew g) hz2)
  have HMg := Lib.hid (fun W B u (h : OwnA W B u l) => merged_any W B u l h hz2)
  have HRR := Lib.hid (fun W (g : Grew w W) => Gr.refRight_any N A c es W (h.grew g) (by omega))
  have HOF := Lib.hid (fun W (g : Grew w W) => wof_yes N A c es W (h.grew g) hz.2 hN1 hr)
  have HRO := Lib.hid (fun W (g : Grew w W) => rof_any N A c es W (h.grew g) hz.2 hN1 hr)
  rw [hr] at HRR
  clear hr
  obtain ⟨L, hL⟩ : ∃ L, es.length = L := ⟨_, rfl⟩
  obtain ⟨M, hM⟩ : ∃ M, l.length = M := ⟨_, rfl⟩
  have HL := Lib.hid hL
  have HM := Lib.hid hM
  rw [hL] at b0 HC hw0 HRR HOF HRO ⊢
  rw [hM] at hz2 HAr HRM HMg ⊢
  have l1 : (M : Int) ≤ 60 := by omega
  have hL3 : L ≤ 300 := by rw [← hL]; exact hz.2
  have c0 := b0.cell 0
  have c1 := b0.cell 1
  simp at c0 c1
  clear h hv hL hM hl hll hz
  go_enter Try.func5, Try.ntmps5
  go_wp2_with fail
  refine HC.out.mono ?_
  rintro e w1 ⟨rfl, k1⟩
  replace c0 := k1.cell c0
  replace c1 := k1.cell c1
  have K1 := Lib.hid (k0.trans k1)
  have B1 := Lib.hid (b0.grew k1)
  clear k1 HC b0 k0 hw0
  go_wp2_with fail
  refine (HOF.out w1 K1.out).mono ?_
  rintro e w2 ⟨gO, gB, rfl, rO, rB, k2⟩
  replace c0 := k2.cell c0
  replace c1 := k2.cell c1
  have gE : Grew w2 (w2.alloc (.cells #[.slice (some ⟨gO, 0, none⟩) N N, .slice (some ⟨gB, 0, none⟩) N N] 33)) := (Kept.refl _ _).alloc _
  have bN := Blk.new w2 33 #[.slice (some ⟨gO, 0, none⟩) N N, .slice (some ⟨gB, 0, none⟩) N N]
  have d0 : (w2.alloc (.cells #[.slice (some ⟨gO, 0, none⟩) N N, .slice (some ⟨gB, 0, none⟩) N N] 33)).cell? ⟨w2.heap.size, 0, none⟩ = some (.slice (some ⟨gO, 0, none⟩) N N) := bN.cell 0
  have d1 : (w2.alloc (.cells #[.slice (some ⟨gO, 0, none⟩) N N, .slice (some ⟨gB, 0, none⟩) N N] 33)).cell? ⟨w2.heap.size, 1, none⟩ = some (.slice (some ⟨gB, 0, none⟩) N N) := bN.cell 1
  have RO := Lib.hid (rO.grew gE)
  have RB := Lib.hid (rB.grew gE)
  replace c0 := Grew.cell gE c0
  replace c1 := Grew.cell gE c1
  have K2 := Lib.hid ((K1.out.trans k2).trans gE)
  clear gE k2 K1 HOF bN rO rB
  go_wp2_with fail
  refine (HAr.out _ K2.out).mono ?_
  rintro e w3 ⟨u, rfl, ou, k3⟩
  have HMu := Lib.hid (HMg.out w3 _ u ou)
  have K3 := Lib.hid (K2.out.trans k3)
  replace c0 := k3.cell c0
  replace c1 := k3.cell c1
  replace d0 := Grew.cell k3 d0
  replace d1 := Grew.cell k3 d1
  replace RO := Lib.hid (RO.out.grew k3)
  replace RB := Lib.hid (RB.out.grew k3)
  clear ou k3 HAr HMg K2
  go_wp2_with fail
  refine HMu.out.mono ?_
  rintro e w4 ⟨A4, c4, out, rfl, r4, l4, f4, k4⟩
  have HRu := Lib.hid (HRM.out w4 (K3.out.trans k4))
  have K4 := Lib.hid (K3.out.trans k4)
  replace c0 := k4.cell c0
  replace c1 := k4.cell c1
  replace d0 := k4.cell d0
  replace d1 := k4.cell d1
  replace RO := Lib.hid (RO.out.grew k4)
  replace RB := Lib.hid (RB.out.grew k4)
  have R4 := Lib.hid r4
  have F4 := Lib.hid f4
  clear r4 f4 k4 HMu HRM K3
  go_wp2_with fail
  refine HRu.out.mono ?_
  rintro e w5 ⟨A5, c5, out5, rfl, r5, l5, f5, k5⟩
  have heq : Hid (out = out5) := F4.out out5 f5
  have HSa := Lib.hid (same_any A4 A5 c4 c5 out out5 w5 (R4.out.grew k5) r5 (by omega) (by omega))
  have K5 := Lib.hid (K4.out.trans k5)
  rw [decide_eq_true heq.out] at HSa
  replace c0 := k5.cell c0
  replace c1 := k5.cell c1
  replace d0 := k5.cell d0
  replace d1 := k5.cell d1
  replace RO := Lib.hid (RO.out.grew k5)
  replace RB := Lib.hid (RB.out.grew k5)
  clear r5 f5 k5 HRu R4 F4 heq K4
  go_wp2_with fail
  refine HSa.out.mono ?_
  rintro e w6 ⟨rfl, k6⟩
  have HRu := Lib.hid (HRR.out w6 (K5.out.trans k6))
  have K6 := Lib.hid (K5.out.trans k6)
  replace c0 := k6.cell c0
  replace c1 := k6.cell c1
  replace d0 := k6.cell d0
  replace d1 := k6.cell d1
  replace RO := Lib.hid (RO.out.grew k6)
  replace RB := Lib.hid (RB.out.grew k6)
  clear HSa k6 HRR K5
  go_wp2_with fail
  refine HRu.out.mono ?_
  rintro e w7 ⟨rfl, k7⟩
  have K7 := Lib.hid (K6.out.trans k7)
  replace c0 := k7.cell c0
  replace c1 := k7.cell c1
  replace d0 := k7.cell d0
  replace d1 := k7.cell d1
  replace RO := Lib.hid (RO.out.grew k7)
  replace RB := Lib.hid (RB.out.grew k7)
  clear HRu k7 K6
  go_wp2_with fail
  refine (HRO.out w7 K7.out).mono ?_
  rintro e w8 ⟨A8, c8, g8, rfl, r8, k8⟩
  replace c0 := k8.cell c0
  replace c1 := k8.cell c1
  replace d0 := k8.cell d0
  replace d1 := k8.cell d1
  have gE : Grew w8 (w8.alloc (.cells #[.slice A8 N c8, .slice (some ⟨g8, 0, none⟩) N N] 25)) := (Kept.refl _ _).alloc _
  have bN := Blk.new w8 25 #[.slice A8 N c8, .slice (some ⟨g8, 0, none⟩) N N]
  have x0 : (w8.alloc (.cells #[.slice A8 N c8, .slice (some ⟨g8, 0, none⟩) N N] 25)).cell? ⟨w8.heap.size, 0, none⟩ = some (.slice A8 N c8) := bN.cell 0
  have R8 := Lib.hid (r8.grew gE)
  replace RO := Lib.hid ((RO.out.grew k8).grew gE)
  replace RB := Lib.hid ((RB.out.grew k8).grew gE)
  replace c0 := Grew.cell gE c0
  replace c1 := Grew.cell gE c1
  replace d0 := Grew.cell gE d0
  replace d1 := Grew.cell gE d1
  have K8 := Lib.hid ((K7.out.trans k8).trans gE)
  clear gE k8 K7 HRO bN r8 HE HV
  go_wp2_with fail
  obtain ⟨wL, hwL⟩ : ∃ W, w8.alloc (.cells #[.slice A8 N c8, .slice (some ⟨g8, 0, none⟩) N N] 25) = W := ⟨_, rfl⟩
  rw [hwL] at RO RB R8 c0 c1 d0 d1 x0 K8 ⊢
  clear hwL
  go_loopw [8] (fun i wr => ∃ v : Nat, v ≤ N ∧ i = .int .i64 v ∧ Hid (Grew wL wr)) (fun i _ => N - (intOf i).toNat)
  case atStart => exact ⟨0, by omega, rfl, Kept.refl _ _⟩
  case round =>
    obtain ⟨v, hv, rfl, hG⟩ := hrel
    replace c0 := Grew.cell hG.out c0
    replace d0 := Grew.cell hG.out d0
    replace d1 := Grew.cell hG.out d1
    replace x0 := Grew.cell hG.out x0
    by_cases hlt : v < N
    · have v0 : (0 : Int) ≤ (v : Int) := by omega
      have v1 : (v : Int) < (N : Int) := by omega
      have hget : ((List.range N).map (rowG es))[v]? = some (rowG es v) := by simp [hlt]
      obtain ⟨b1, o1, A1, c1', e1, _, x1, row1⟩ := (RO.out.grew hG.out) v _ hget
      obtain ⟨b2, o2, A2, c2', e2, _, x2, row2⟩ := (R8.out.grew hG.out) v _ hget
      obtain ⟨b3, o3, e3, _, x3⟩ := (RB.out.grew hG.out) v false (by simp [hlt])
      cases e1
      cases e3
      subst e2
      rw [Nat.zero_add] at x1 x3
      have hle : (rowG es v).length ≤ 300 := Nat.le_trans (rowG_le es v) (by rw [HL.out]; omega)
      obtain ⟨m, hm⟩ : ∃ m, (rowG es v).length = m := ⟨_, rfl⟩
      have hC := Lib.hid (same_any A1 A2 c1' c2' (rowG es v) (rowG es v) wr.drew (row1.grew (Kept.refl _ _).drew) (row2.grew (Kept.refl _ _).drew) (by omega) (by omega))
      rw [decide_eq_true rfl, hm] at hC
      rw [hm] at x1 x2
      clear row1 row2 hm hget hle
      go_wp2_with fail
      refine wp_region_grow [] (fun _ => False) (by kernel_rfl) ?_
      simp only [List.size_toArray, List.length_cons, List.length_nil, Nat.reduceAdd]
      refine wpAnyG_pure 0 70 (v := ?_) rfl (by kernel_rfl) rfl (by rfl) (fun w' => ?_) ?_
      rotate_left
      · go_simp <;> with_reducible rfl
      simp only [List.setIfInBounds_toArray, List.set_cons_zero, List.set_cons_succ]
      refine wpAnyG_take 1 71 (v := ?_) rfl (by kernel_rfl) rfl (by rfl) (fun w' hG' => ?_) ?_
      rotate_left
      · have hx0 := Grew.cell hG' (show wr.drew.cell? _ = _ from d0)
        have hx1 := Grew.cell hG' (show wr.drew.cell? _ = _ from d1)
        have hx2 := Grew.cell hG' (show wr.drew.cell? _ = _ from x0)
        have hx3 := Grew.cell hG' (show wr.drew.cell? _ = _ from x1)
        have hx4 := Grew.cell hG' (show wr.drew.cell? _ = _ from x2)
        have hx5 := Grew.cell hG' (show wr.drew.cell? _ = _ from x3)
        go_simp <;> with_reducible rfl
      simp only [List.setIfInBounds_toArray, List.set_cons_zero, List.set_cons_succ]
      refine wpAnyG_pure 2 72 (v := ?_) rfl (by kernel_rfl) rfl (by rfl) (fun w' => ?_) ?_
      rotate_left
      · go_simp <;> with_reducible rfl
      simp only [List.setIfInBounds_toArray, List.set_cons_zero, List.set_cons_succ]
      refine wpAnyG_pure 3 73 (v := ?_) rfl (by kernel_rfl) rfl (by rfl) (fun w' => ?_) ?_
      rotate_left
      · go_simp <;> with_reducible rfl
      simp only [List.setIfInBounds_toArray, List.set_cons_zero, List.set_cons_succ]
      refine wpAnyG_take 4 74 (v := ?_) rfl (by kernel_rfl) rfl (by rfl) (fun w' hG' => ?_) ?_
      rotate_left
      · have hx0 := Grew.cell hG' (show wr.drew.cell? _ = _ from d0)
        have hx1 := Grew.cell hG' (show wr.drew.cell? _ = _ from d1)
        have hx2 := Grew.cell hG' (show wr.drew.cell? _ = _ from x0)
        have hx3 := Grew.cell hG' (show wr.drew.cell? _ = _ from x1)
        have hx4 := Grew.cell hG' (show wr.drew.cell? _ = _ from x2)
        have hx5 := Grew.cell hG' (show wr.drew.cell? _ = _ from x3)
        go_simp <;> with_reducible rfl
      simp only [List.setIfInBounds_toArray, List.set_cons_zero, List.set_cons_succ]
      refine wpAnyG_pure 5 75 (v := ?_) rfl (by kernel_rfl) rfl (by rfl) (fun w' => ?_) ?_
      rotate_left
      · go_simp <;> with_reducible rfl
      simp only [List.setIfInBounds_toArray, List.set_cons_zero, List.set_cons_succ]
      refine wpAnyG_take 6 76 (v := ?_) rfl (by kernel_rfl) rfl (by rfl) (fun w' hG' => ?_) ?_
      rotate_left
      · have hx0 := Grew.cell hG' (show wr.drew.cell? _ = _ from d0)
        have hx1 := Grew.cell hG' (show wr.drew.cell? _ = _ from d1)
        have hx2 := Grew.cell hG' (show wr.drew.cell? _ = _ from x0)
        have hx3 := Grew.cell hG' (show wr.drew.cell? _ = _ from x1)
        have hx4 := Grew.cell hG' (show wr.drew.cell? _ = _ from x2)
        have hx5 := Grew.cell hG' (show wr.drew.cell? _ = _ from x3)
        go_simp <;> with_reducible rfl
      simp only [List.setIfInBounds_toArray, List.set_cons_zero, List.set_cons_succ]
      refine wpAnyG_pure 7 77 (v := ?_) rfl (by kernel_rfl) rfl (by rfl) (fun w' => ?_) ?_
      rotate_left
      · go_simp <;> with_reducible rfl
      simp only [List.setIfInBounds_toArray, List.set_cons_zero, List.set_cons_succ]
      refine wpAnyG_pure 8 78 (v := ?_) rfl (by kernel_rfl) rfl (by rfl) (fun w' => ?_) ?_
      rotate_left
      · go_simp <;> with_reducible rfl
      simp only [List.setIfInBounds_toArray, List.set_cons_zero, List.set_cons_succ]
      refine wpAnyG_take 9 79 (v := ?_) rfl (by kernel_rfl) rfl (by rfl) (fun w' hG' => ?_) ?_
      rotate_left
      · have hx0 := Grew.cell hG' (show wr.drew.cell? _ = _ from d0)
        have hx1 := Grew.cell hG' (show wr.drew.cell? _ = _ from d1)
        have hx2 := Grew.cell hG' (show wr.drew.cell? _ = _ from x0)
        have hx3 := Grew.cell hG' (show wr.drew.cell? _ = _ from x1)
        have hx4 := Grew.cell hG' (show wr.drew.cell? _ = _ from x2)
        have hx5 := Grew.cell hG' (show wr.drew.cell? _ = _ from x3)
        go_simp <;> with_reducible rfl
      simp only [List.setIfInBounds_toArray, List.set_cons_zero, List.set_cons_succ]
      refine wpAnyG_step 10 80 rfl (by kernel_rfl) rfl (by rfl) (fun K hK' => ?_)
      go_simp
      refine hC.out.mono ?_
      rintro e wS ⟨rfl, kS⟩
      refine hK' _ _ (fun _ => kS) ?_
      clear hK'
      simp only [List.setIfInBounds_toArray, List.set_cons_zero, List.set_cons_succ]
      refine wpAnyG_pure 11 81 (v := ?_) rfl (by kernel_rfl) rfl (by rfl) (fun w' => ?_) ?_
      rotate_left
      · go_simp <;> with_reducible rfl
      simp only [List.setIfInBounds_toArray, List.set_cons_zero, List.set_cons_succ]
      refine wpAnyG_pure 12 82 (v := ?_) rfl (by kernel_rfl) rfl (by rfl) (fun w' => ?_) ?_
      rotate_left
      · go_simp <;> with_reducible rfl
      simp only [List.setIfInBounds_toArray, List.set_cons_zero, List.set_cons_succ]
      refine wpAnyG_pure 13 83 (v := ?_) rfl (by kernel_rfl) rfl (by rfl) (fun w' => ?_) ?_
      rotate_left
      · go_simp <;> with_reducible rfl
      simp only [List.setIfInBounds_toArray, List.set_cons_zero, List.set_cons_succ]
      refine wpAnyG_take 14 84 (v := ?_) rfl (by kernel_rfl) rfl (by rfl) (fun w' hG' => ?_) ?_
      rotate_left
      · have hx0 := Grew.cell (Kept.trans kS hG') (show wr.drew.cell? _ = _ from d0)
        have hx1 := Grew.cell (Kept.trans kS hG') (show wr.drew.cell? _ = _ from d1)
        have hx2 := Grew.cell (Kept.trans kS hG') (show wr.drew.cell? _ = _ from x0)
        have hx3 := Grew.cell (Kept.trans kS hG') (show wr.drew.cell? _ = _ from x1)
        have hx4 := Grew.cell (Kept.trans kS hG') (show wr.drew.cell? _ = _ from x2)
        have hx5 := Grew.cell (Kept.trans kS hG') (show wr.drew.cell? _ = _ from x3)
        go_simp <;> with_reducible rfl
      simp only [List.setIfInBounds_toArray, List.set_cons_zero, List.set_cons_succ]
      refine wpAnyG_pure 15 85 (v := ?_) rfl (by kernel_rfl) rfl (by rfl) (fun w' => ?_) ?_
      rotate_left
      · go_simp <;> with_reducible rfl
      simp only [List.setIfInBounds_toArray, List.set_cons_zero, List.set_cons_succ]
      refine wpAnyG_pure 16 86 (v := ?_) rfl (by kernel_rfl) rfl (by rfl) (fun w' => ?_) ?_
      rotate_left
      · go_simp <;> with_reducible rfl
      simp only [List.setIfInBounds_toArray, List.set_cons_zero, List.set_cons_succ]
      refine wpAnyG_take 17 87 (v := ?_) rfl (by kernel_rfl) rfl (by rfl) (fun w' hG' => ?_) ?_
      rotate_left
      · have hx0 := Grew.cell (Kept.trans kS hG') (show wr.drew.cell? _ = _ from d0)
        have hx1 := Grew.cell (Kept.trans kS hG') (show wr.drew.cell? _ = _ from d1)
        have hx2 := Grew.cell (Kept.trans kS hG') (show wr.drew.cell? _ = _ from x0)
        have hx3 := Grew.cell (Kept.trans kS hG') (show wr.drew.cell? _ = _ from x1)
        have hx4 := Grew.cell (Kept.trans kS hG') (show wr.drew.cell? _ = _ from x2)
        have hx5 := Grew.cell (Kept.trans kS hG') (show wr.drew.cell? _ = _ from x3)
        go_simp <;> with_reducible rfl
      simp only [List.setIfInBounds_toArray, List.set_cons_zero, List.set_cons_succ]
      refine wpAnyG_pure 18 88 (v := ?_) rfl (by kernel_rfl) rfl (by rfl) (fun w' => ?_) ?_
      rotate_left
      · go_simp <;> with_reducible rfl
      simp only [List.setIfInBounds_toArray, List.set_cons_zero, List.set_cons_succ]
      refine wpAnyG_done (by kernel_rfl) ?_
      have hG2 : Hid (Grew wL wS) := (hG.out.drew).trans kS
      clear hG kS c0 c1 d0 d1 x0 x1 x2 x3 hC
      go_wp2_with fail
      go_roundw
      case rel => exact ⟨v + 1, by omega, by go_num, hG2⟩
      case measure => simp [intOf]; omega
    · obtain rfl : v = N := by omega
      have hK := Lib.hid (K8.out.trans hG.out)
      clear hG
      go_wp2_with fail
      refine (HA.out _).mono ?_
      rintro e w9 ⟨rfl, k9⟩
      go_wp2_with fail
      go_ret
      exact ⟨rfl, hK.out.trans k9⟩
theorem makes_law (n : Int) (A : Option Addr) (c : Nat) (es : List Edg) (V : Option Addr) (cV : Nat) (l : List Ar) (w : World) (h : RowE w A es) (hv : RowA w V l) (hl : es.length ≤ 9223372036854775807) (hll : l.length ≤ 9223372036854775807) :
    Calls Try.prog 5 #[.agg #[i64 n, .slice A es.length c], .slice V l.length cV] w fun e w' => e = .returned (.bool true) ∧ Grew w w' := by
  by_cases hz : (n ≤ 100 ∨ 4096 < n) ∧ es.length ≤ 300
  · rcases Nat.lt_or_ge 60 l.length with h2 | h2
    · exact makes_long n A c es V cV l w h hv hl hll hz h2
    · by_cases hr : rightF n es = 0
      · exact makes_yes n A c es V cV l w h hv hl hll hz h2 hr
      · exact makes_no n A c es V cV l w h hv hl hll hz h2 hr
  · exact makes_heavy n A c es V cV l w h hv hl hll hz
end Go.Proofs.Ythbcgdogmkgebaa
