/- How far, by the document: the walk. -/
import Derived.Test.YthbcgdogmkgebaaFind
import Derived.Test.YthbcgdogmkgebaaFarP
namespace Go.Proofs.Ythbcgdogmkgebaa
open Go.RowKit

/-- Block g holds n unsigned numbers: f. -/
def UsF (w : World) (g n : Nat) (f : Int → Int) : Prop := ∃ cur, Blk w g 26 cur ∧ ∀ i : Nat, i < n → cur[i]? = some (u64 (f (i : Int)))
theorem UsF.cell {w : World} {g n i : Nat} {f : Int → Int} (h : UsF w g n f) (hi : i < n) : w.cell? ⟨g, i, none⟩ = some (u64 (f (i : Int))) := by
  obtain ⟨cur, h, hc⟩ := h
  rw [h.cell i, hc i hi]
theorem UsF.frozen {w : World} {g n : Nat} {f : Int → Int} (h : UsF w g n f) (i : Nat) : w.frozen? ⟨g, i, none⟩ = false := h.elim fun _ h => h.1.frozen i
theorem UsF.lt {w : World} {g n : Nat} {f : Int → Int} (h : UsF w g n f) : g < w.heap.size := h.elim fun _ h => h.1.lt
theorem UsF.grew {w w' : World} {g n : Nat} {f : Int → Int} (h : UsF w g n f) (k : Grew w w') : UsF w' g n f := h.imp fun _ h => ⟨h.1.grew k, h.2⟩
theorem UsF.congr {w : World} {g n : Nat} {f f' : Int → Int} (h : UsF w g n f) (hf : ∀ i : Nat, i < n → f (i : Int) = f' (i : Int)) : UsF w g n f' := h.imp fun _ h => ⟨h.1, fun i hi => by rw [h.2 i hi, hf i hi]⟩
theorem UsF.set {w : World} {g n i : Nat} {f : Int → Int} (h : UsF w g n f) (hi : i < n) (b : Int) : UsF (w.setCell ⟨g, i, none⟩ (u64 b)) g n (upd f (i : Int) b) := by
  obtain ⟨cur, h, hc⟩ := h
  refine ⟨_, h.set i (u64 b), fun j hj => ?_⟩
  by_cases hji : j = i
  · subst hji
    have hs := (Array.getElem?_eq_some_iff.1 (hc j hj)).1
    rw [Array.getElem?_setIfInBounds_self_of_lt hs, upd_same]
  · rw [Array.getElem?_setIfInBounds_ne (fun e => hji e.symm), hc j hj, upd_other _ _ (by omega)]
theorem usF_made {W : World} {g m : Nat} (h : Blk W g 26 (madeCells #[u64 0] m)) : UsF W g m (fun _ => 0) := ⟨_, h, fun i hi => by simp [madeCells, Value.cells, hi, Nat.mod_one]⟩
theorem info_u64 : (Try.prog.info? 26).map (fun i => (i.zero, i.size, i.bytes)) = some (some (u64 0), 1, 8) := by kernel_rfl
/-- What the search holds by the document. -/
structure FS (w wr : World) (r3 gD N : Nat) (bx : Array Value) (d : Int → Int) : Prop where
  us : UsF wr gD N d
  box : Blk wr r3 25 bx
  kept : Grew w wr
  new : w.heap.size ≤ gD
  ne : gD ≠ r3
theorem FS.grew {w wr w' : World} {r3 gD N : Nat} {bx : Array Value} {d : Int → Int} (h : FS w wr r3 gD N bx d) (k : Grew wr w') : FS w w' r3 gD N bx d := ⟨h.us.grew k, h.box.grew k, h.kept.trans k, h.new, h.ne⟩
theorem FS.set {w wr : World} {r3 gD N : Nat} {bx : Array Value} {d : Int → Int} (h : FS w wr r3 gD N bx d) {i : Nat} (hi : i < N) (b : Int) : FS w (wr.setCell ⟨gD, i, none⟩ (u64 b)) r3 gD N bx (upd d (i : Int) b) :=
  ⟨h.us.set hi b, h.box.far (p := ⟨gD, i, none⟩) (fun e => h.ne e.symm) _, h.kept.setCell (p := ⟨gD, i, none⟩) (.inr h.new) _, h.new, h.ne⟩
theorem FS.congr {w wr : World} {r3 gD N : Nat} {bx : Array Value} {d d' : Int → Int} (h : FS w wr r3 gD N bx d) (hf : ∀ i : Nat, i < N → d (i : Int) = d' (i : Int)) : FS w wr r3 gD N bx d' := ⟨h.us.congr hf, h.box, h.kept, h.new, h.ne⟩
theorem fill_next (N k : Nat) (i : Nat) : upd (fun u => if u < (k : Int) then 4611686018427387904 else 0) (k : Int) 4611686018427387904 (i : Int) = (if (i : Int) < ((k + 1 : Nat) : Int) then (4611686018427387904 : Int) else 0) := by
  by_cases h : (i : Int) = (k : Int)
  · rw [h, upd_same, if_pos (by omega)]
  · rw [upd_other _ _ h]
    by_cases h2 : (i : Int) < (k : Int)
    · rw [if_pos h2, if_pos (by omega)]
    · rw [if_neg h2, if_neg (by omega)]

/-- How far t is from s, by the document. -/
def FarE (N : Nat) (arcs : Arcs) (gone : Int → Bool) (s t : Int) (w : World) (e : Ending) (w' : World) : Prop :=
  ∃ x : Int, e = .returned (u64 x) ∧ Grew w w' ∧ 0 ≤ x ∧ x ≤ 4611686018427387904 ∧ (gone s = true → x = 4611686018427387904) ∧
    (gone s = false → (x < 4611686018427387904 → ∃ k : Nat, Reach arcs gone s k t x) ∧ ∀ (k : Nat) (y : Int), k ≤ N → Reach arcs gone s k t y → x ≤ y)

set_option maxHeartbeats 4000000 in
set_option maxRecDepth 100000 in
theorem far_any (A V : Option Addr) (c cG N s t : Nat) (ls : List (List Ar)) (gs : List Bool) (w : World) (h : RowN w A ls) (hG : RowB w V gs) (hls : ls.length = N) (hgs : gs.length = N) (hs : s < N) (ht : t < N) (hN : N ≤ 30) (h30 : ∀ l ∈ ls, l.length ≤ 30) (hok : NetOk N (arcsL ls)) :
    Calls Try.prog 12 #[.agg #[.slice A N c, .slice V N cG], i64 s, i64 t] w fun e w' => FarE N (arcsL ls) (goneL gs) s t w e w' := by
  have b0 := Blk.new w 25 #[.slice A N c, .slice V N cG]
  have hK0 : Grew w (w.alloc (.cells #[.slice A N c, .slice V N cG] 25)) := (Kept.refl _ _).alloc _
  obtain ⟨g1, hg1⟩ : ∃ g, gs[s]? = some g := ⟨_, List.getElem?_eq_getElem (by omega)⟩
  have e1 : goneL gs (s : Int) = g1 := by unfold goneL; rw [Int.toNat_natCast, List.getD_eq_getElem?_getD, hg1]; rfl
  obtain ⟨bv, ov, hV, hbv, cv1⟩ := hG s g1 hg1
  subst hV
  have s0 : (0 : Int) ≤ (s : Int) := by omega
  have s1 : (s : Int) < (N : Int) := by omega
  have t0 : (0 : Int) ≤ (t : Int) := by omega
  have t1 : (t : Int) < (N : Int) := by omega
  have HE := Lib.hid h
  have HGo := Lib.hid hG
  have HLS := Lib.hid hls
  have HGS := Lib.hid hgs
  have H30 := Lib.hid h30
  have HOK := Lib.hid hok
  obtain ⟨arcs, harcs⟩ : ∃ a, arcsL ls = a := ⟨_, rfl⟩
  obtain ⟨gone, hgone⟩ : ∃ a, goneL gs = a := ⟨_, rfl⟩
  rw [hgone] at e1
  rw [harcs] at HOK
  have HAR := Lib.hid harcs
  have HGN := Lib.hid hgone
  rw [harcs, hgone]
  have E1 := Lib.hid e1
  have HCV := Lib.hid cv1
  clear h hG hls hgs h30 hok harcs hgone hg1 e1 cv1
  obtain ⟨i0, hi, hz0, hz1, hz2⟩ := info_parts info_u64
  have hmk := fun W => run_make (P := Try.prog) W 63 26 i0 _ Try.underlying63 hi hz0 .i64 .i64 (N : Int) (N : Int) (by omega) (Int.le_refl _) (by rw [hz2]; omega) (by omega)
  simp only [Int.toNat_natCast, hz1, Nat.mul_one] at hmk
  clear hi hz0 hz1 hz2
  have c0 := b0.cell 0
  have c1 := b0.cell 1
  simp at c0 c1
  have bD := Blk.new (w.alloc (.cells #[.slice (A) N c, .slice (some ⟨bv, ov, none⟩) N cG] 25)) 26 (madeCells #[u64 0] N)
  rw [World.size_alloc] at bD
  have hS0 : Hid (FS w ((w.alloc (.cells #[.slice A N c, .slice (some ⟨bv, ov, none⟩) N cG] 25)).alloc (.cells (madeCells #[u64 0] N) 26)) w.heap.size (w.heap.size + 1) N #[.slice A N c, .slice (some ⟨bv, ov, none⟩) N cG] (fun _ => 0)) :=
    ⟨usF_made bD, b0.alloc _, hK0.alloc _, by omega, by omega⟩
  obtain ⟨r3, hr3⟩ : ∃ r, w.heap.size = r := ⟨_, rfl⟩
  obtain ⟨gD, hgD⟩ : ∃ r, w.heap.size + 1 = r := ⟨_, rfl⟩
  have hS1 : Hid (∀ r g, w.heap.size = r → w.heap.size + 1 = g → FS w ((w.alloc (.cells #[.slice A N c, .slice (some ⟨bv, ov, none⟩) N cG] 25)).alloc (.cells (madeCells #[u64 0] N) 26)) r g N #[.slice A N c, .slice (some ⟨bv, ov, none⟩) N cG] (fun _ => 0)) := Lib.hid (fun r g h1 h2 => by subst h1 h2; exact hS0.out)
  clear hS0 b0 bD hK0 hr3 hgD r3 gD
  go_enter Try.func12, Try.ntmps12
  go_wp2_with fail
  go_loopw [8] (fun i wr => ∃ k : Nat, k ≤ N ∧ i = .int .i64 k ∧ Hid (FS w wr w.heap.size (w.heap.size + 1) N #[.slice A N c, .slice (some ⟨bv, ov, none⟩) N cG] (fun u => if u < (k : Int) then 4611686018427387904 else 0))) (fun i _ => N - (intOf i).toNat)
  case atStart => exact ⟨0, by omega, rfl, Lib.hid ((hS1.out _ _ rfl rfl).congr (fun i hi => by rw [if_neg (by omega)]))⟩
  case round =>
    clear hS1 c0 c1 hmk
    obtain ⟨k, hk, rfl, hS⟩ := hrel
    by_cases hlt : k < N
    · have k0 : (0 : Int) ≤ (k : Int) := by omega
      have k1 : (k : Int) < (N : Int) := by omega
      have cc := hS.out.us.cell hlt
      have cf := hS.out.us.frozen k
      have hS2 := Lib.hid ((hS.out.set hlt 4611686018427387904).congr (d' := fun u => if u < ((k + 1 : Nat) : Int) then 4611686018427387904 else 0) (fun i _ => fill_next N k i))
      clear hS
      go_wp2_with fail
      go_roundw
      case rel => exact ⟨k + 1, by omega, by go_num, hS2⟩
      case measure => simp [intOf]; omega
    · obtain rfl : k = N := by omega
      have hS2 := Lib.hid (hS.out.congr (d' := fun _ => 4611686018427387904) (fun i hi => if_pos (by omega)))
      have c1 := hS.out.box.cell 1
      have cv1 := hS.out.kept.cell HCV.out
      simp at c1
      clear hS
      cases g1 with
      | true =>
        have hR : Hid (FarE k arcs gone s t w (.returned (.int .u64 4611686018427387904)) wr) := ⟨4611686018427387904, rfl, hS2.out.kept, by omega, by omega, fun _ => rfl, fun h => by rw [E1.out] at h; cases h⟩
        go_wp2_with fail
        go_ret
        exact hR.out
      | false =>
        have cc := hS2.out.us.cell hs
        have cf := hS2.out.us.frozen s
        have hS3 := Lib.hid (hS2.out.set hs 0)
        have hB0 := Lib.hid (Bf.init arcs gone (s : Int))
        clear hS2
        go_wp2_with fail
        go_loopw [9] (fun i wr => ∃ (R : Nat) (d : Int → Int), R ≤ k ∧ i = .int .i64 R ∧ Hid (FS w wr w.heap.size (w.heap.size + 1) k #[.slice A k c, .slice (some ⟨bv, ov, none⟩) k cG] d ∧ Bf arcs gone s R 0 0 d)) (fun i _ => k - (intOf i).toNat)
        case atStart => exact ⟨0, _, by omega, rfl, Lib.hid ⟨hS3.out, hB0.out⟩⟩
        case round =>
          clear hS3 hB0 c1 cv1 cc cf
          obtain ⟨R, d, hR, rfl, hS⟩ := hrel
          by_cases hlt : R < k
          · have R0 : (0 : Int) ≤ (R : Int) := by omega
            have R1 : (R : Int) < (k : Int) := by omega
            go_wp2_with fail
            go_loopw [10] (fun i wr => ∃ (v : Nat) (d : Int → Int), v ≤ k ∧ i = .int .i64 v ∧ Hid (FS w wr w.heap.size (w.heap.size + 1) k #[.slice A k c, .slice (some ⟨bv, ov, none⟩) k cG] d ∧ Bf arcs gone s R v 0 d)) (fun i _ => k - (intOf i).toNat)
            case atStart => exact ⟨0, d, by omega, rfl, hS⟩
            case round =>
              clear hS
              obtain ⟨vn, d, hv, rfl, hS⟩ := hrel
              by_cases hvk : vn < k
              · have v0 : (0 : Int) ≤ (vn : Int) := by omega
                have v1 : (vn : Int) < (k : Int) := by omega
                obtain ⟨row, hrow⟩ : ∃ r, ls[vn]? = some r := ⟨_, List.getElem?_eq_getElem (by rw [HLS.out]; exact hvk)⟩
                have harc : arcs (vn : Int) = row := by
                  rw [← HAR.out]
                  unfold arcsL
                  rw [if_pos v0, Int.toNat_natCast, List.getD_eq_getElem?_getD, hrow]
                  rfl
                have hm30 : row.length ≤ 30 := H30.out _ (List.mem_of_getElem? hrow)
                obtain ⟨bA, oA, Ai, ci, hA, hbA, cA, hRA⟩ := HE.out vn row hrow
                subst hA
                obtain ⟨m, hm⟩ : ∃ m, row.length = m := ⟨_, rfl⟩
                rw [hm] at cA hm30
                have HM2 := Lib.hid hm
                have HRow := Lib.hid hRA
                have HArc := Lib.hid harc
                have HcA := Lib.hid cA
                clear hrow harc hm hRA cA
                go_wp2_with fail
                go_loopw [11] (fun i wr => ∃ (j : Nat) (d : Int → Int), j ≤ m ∧ i = .int .i64 j ∧ Hid (FS w wr w.heap.size (w.heap.size + 1) k #[.slice (some ⟨bA, oA, none⟩) k c, .slice (some ⟨bv, ov, none⟩) k cG] d ∧ Bf arcs gone s R vn j d)) (fun i _ => m - (intOf i).toNat)
                case atStart => exact ⟨0, d, by omega, rfl, hS⟩
                case round =>
                  clear hS
                  obtain ⟨j, d, hj, rfl, hS⟩ := hrel
                  have c0 := hS.out.1.box.cell 0
                  have c1 := hS.out.1.box.cell 1
                  have cA := hS.out.1.kept.cell HcA.out
                  simp at c0 c1
                  by_cases hjm : j < m
                  · have j0 : (0 : Int) ≤ (j : Int) := by omega
                    have j1 : (j : Int) < (m : Int) := by omega
                    obtain ⟨⟨u, cc⟩, hux⟩ : ∃ x, row[j]? = some x := ⟨_, List.getElem?_eq_getElem (by rw [HM2.out]; exact hjm)⟩
                    have hux' : (arcs (vn : Int))[j]? = some (u, cc) := by rw [HArc.out]; exact hux
                    obtain ⟨u0, u1, cc0, cc1⟩ := HOK.out.arc _ _ _ (List.mem_of_getElem? hux')
                    obtain ⟨un, rfl⟩ := Int.eq_ofNat_of_zero_le u0
                    have uN : un < k := by omega
                    obtain ⟨b2, o2, hAi, hb2, ca0, ca1⟩ := HRow.out.grew hS.out.1.kept j _ hux
                    subst hAi
                    obtain ⟨gg, hgg⟩ : ∃ g, gs[un]? = some g := ⟨_, List.getElem?_eq_getElem (by rw [HGS.out]; exact uN)⟩
                    have hgu : gone (un : Int) = gg := by rw [← HGN.out]; unfold goneL; rw [Int.toNat_natCast, List.getD_eq_getElem?_getD, hgg]; rfl
                    obtain ⟨bw, ow, hW, hbw, cw⟩ := HGo.out.grew hS.out.1.kept un gg hgg
                    cases hW
                    have hKa : Grew wr (wr.alloc (.cells #[.int .i64 (un : Int), .int .u64 cc] 58)) := (Kept.refl _ _).alloc _
                    have bE := Blk.new wr 58 #[.int .i64 (un : Int), .int .u64 cc]
                    obtain ⟨wa, hwa⟩ : ∃ W, wr.alloc (.cells #[.int .i64 (un : Int), .int .u64 cc] 58) = W := ⟨_, rfl⟩
                    rw [hwa] at hKa bE
                    have hSa := Lib.hid (hS.out.1.grew hKa)
                    have cb0 := hSa.out.box.cell 0
                    have cb1 := hSa.out.box.cell 1
                    have e0 := bE.cell 0
                    have e1 := bE.cell 1
                    simp at cb0 cb1 e0 e1
                    have cw' := hKa.cell cw
                    have cA' := hKa.cell cA
                    have hB := Lib.hid hS.out.2
                    have hUX := Lib.hid hux'
                    have HGU := Lib.hid hgu
                    have cv := hSa.out.us.cell hvk
                    have cu := hSa.out.us.cell uN
                    obtain ⟨dv0, dv1⟩ := hS.out.2.rng (vn : Int)
                    obtain ⟨du0, du1⟩ := hS.out.2.rng (un : Int)
                    obtain ⟨dv, hdv⟩ : ∃ x, d (vn : Int) = x := ⟨_, rfl⟩
                    obtain ⟨du, hdu⟩ : ∃ x, d (un : Int) = x := ⟨_, rfl⟩
                    rw [hdv] at cv dv0 dv1
                    rw [hdu] at cu du0 du1
                    have HDV := Lib.hid hdv
                    have HDU := Lib.hid hdu
                    have hsz := hS.out.1.kept.size
                    have hnD := hS.out.1.us.lt
                    clear hS hux hux' hgu hgg cw hdv hdu
                    rcases Int.lt_or_le dv 4611686018427387904 with hdl | hdl
                    · cases gg with
                      | true =>
                        have hN := Lib.hid (hB.out.skip hUX.out cc0 (.inl HGU.out))
                        clear hB
                        go_wp2_with fail
                        go_roundw
                        case rel => exact ⟨j + 1, d, by omega, by go_num, Lib.hid ⟨hSa.out, hN.out⟩⟩
                        case measure => simp [intOf]; omega
                      | false =>
                        have hnT : wr.heap.size ≠ w.heap.size + 1 := by omega
                        obtain ⟨mm, hmm⟩ : ∃ x, (if dv + cc < du then dv + cc else du) = x := ⟨_, rfl⟩
                        have hN := Lib.hid (hB.out.take (m := mm) hUX.out cc0 HGU.out (by rw [HDV.out]; exact hdl) (by rw [HDV.out, HDU.out]; exact hmm.symm))
                        have hS5 := Lib.hid ((hSa.out.set uN mm).grew (Kept.refl _ _).drew)
                        have hSd := Lib.hid (hSa.out.grew (Kept.refl _ _).drew)
                        have hwr : IntKind.u64.wrap (dv + cc) = dv + cc := Go.IntWalk.u64_in _ (by omega)
                        have hmn : ∀ (ats : Array TypeId) (ty : TypeId), Builtin.min_ ats ty #[.int .u64 du, .int .u64 (dv + cc)] = pure (.int .u64 mm) := fun ats ty => by rw [← hmm]; rfl
                        clear hB hmm
                        go_upto_region 20 with fail
                        refine wp_region_grow [17] (fun _ => False) (by kernel_rfl) ?_
                        simp only [List.size_toArray, List.length_cons, List.length_nil, Nat.reduceAdd]
                        refine wpAnyG_pure 0 78 (v := ?_) rfl (by kernel_rfl) rfl (by rfl) (fun w' => ?_) ?_
                        rotate_left
                        · go_simp <;> with_reducible rfl
                        simp only [List.setIfInBounds_toArray, List.set_cons_zero, List.set_cons_succ]
                        refine wpAnyG_pure 1 79 (v := ?_) rfl (by kernel_rfl) rfl (by rfl) (fun w' => ?_) ?_
                        rotate_left
                        · go_simp <;> with_reducible rfl
                        simp only [List.setIfInBounds_toArray, List.set_cons_zero, List.set_cons_succ]
                        refine wpAnyG_take 2 80 (v := ?_) rfl (by kernel_rfl) rfl (by rfl) (fun w' hG' => ?_) ?_
                        rotate_left
                        · have hx0 := Grew.cell hG' (show wa.drew.cell? ⟨wr.heap.size, 0, none⟩ = some (.int .i64 (un : Int)) from e0)
                          have hx1 := Grew.cell hG' (show wa.drew.cell? ⟨wr.heap.size, 1, none⟩ = some (.int .u64 cc) from e1)
                          have hx2 := Grew.cell hG' (show wa.drew.cell? ⟨w.heap.size + 1, un, none⟩ = some (.int .u64 du) from cu)
                          have hx3 := Grew.cell hG' (show wa.drew.cell? ⟨w.heap.size + 1, vn, none⟩ = some (.int .u64 dv) from cv)
                          go_simp <;> with_reducible rfl
                        simp only [List.setIfInBounds_toArray, List.set_cons_zero, List.set_cons_succ]
                        refine wpAnyG_pure 3 81 (v := ?_) rfl (by kernel_rfl) rfl (by rfl) (fun w' => ?_) ?_
                        rotate_left
                        · go_simp <;> with_reducible rfl
                        simp only [List.setIfInBounds_toArray, List.set_cons_zero, List.set_cons_succ]
                        refine wpAnyG_pure 4 82 (v := ?_) rfl (by kernel_rfl) rfl (by rfl) (fun w' => ?_) ?_
                        rotate_left
                        · go_simp <;> with_reducible rfl
                        simp only [List.setIfInBounds_toArray, List.set_cons_zero, List.set_cons_succ]
                        refine wpAnyG_take 5 83 (v := ?_) rfl (by kernel_rfl) rfl (by rfl) (fun w' hG' => ?_) ?_
                        rotate_left
                        · have hx0 := Grew.cell hG' (show wa.drew.cell? ⟨wr.heap.size, 0, none⟩ = some (.int .i64 (un : Int)) from e0)
                          have hx1 := Grew.cell hG' (show wa.drew.cell? ⟨wr.heap.size, 1, none⟩ = some (.int .u64 cc) from e1)
                          have hx2 := Grew.cell hG' (show wa.drew.cell? ⟨w.heap.size + 1, un, none⟩ = some (.int .u64 du) from cu)
                          have hx3 := Grew.cell hG' (show wa.drew.cell? ⟨w.heap.size + 1, vn, none⟩ = some (.int .u64 dv) from cv)
                          go_simp <;> with_reducible rfl
                        simp only [List.setIfInBounds_toArray, List.set_cons_zero, List.set_cons_succ]
                        refine wpAnyG_pure 6 84 (v := ?_) rfl (by kernel_rfl) rfl (by rfl) (fun w' => ?_) ?_
                        rotate_left
                        · go_simp <;> with_reducible rfl
                        simp only [List.setIfInBounds_toArray, List.set_cons_zero, List.set_cons_succ]
                        refine wpAnyG_take 7 85 (v := ?_) rfl (by kernel_rfl) rfl (by rfl) (fun w' hG' => ?_) ?_
                        rotate_left
                        · have hx0 := Grew.cell hG' (show wa.drew.cell? ⟨wr.heap.size, 0, none⟩ = some (.int .i64 (un : Int)) from e0)
                          have hx1 := Grew.cell hG' (show wa.drew.cell? ⟨wr.heap.size, 1, none⟩ = some (.int .u64 cc) from e1)
                          have hx2 := Grew.cell hG' (show wa.drew.cell? ⟨w.heap.size + 1, un, none⟩ = some (.int .u64 du) from cu)
                          have hx3 := Grew.cell hG' (show wa.drew.cell? ⟨w.heap.size + 1, vn, none⟩ = some (.int .u64 dv) from cv)
                          go_simp <;> with_reducible rfl
                        simp only [List.setIfInBounds_toArray, List.set_cons_zero, List.set_cons_succ]
                        refine wpAnyG_pure 8 86 (v := ?_) rfl (by kernel_rfl) rfl (by rfl) (fun w' => ?_) ?_
                        rotate_left
                        · go_simp <;> with_reducible rfl
                        simp only [List.setIfInBounds_toArray, List.set_cons_zero, List.set_cons_succ]
                        refine wpAnyG_pure 9 87 (v := ?_) rfl (by kernel_rfl) rfl (by rfl) (fun w' => ?_) ?_
                        rotate_left
                        · go_simp <;> with_reducible rfl
                        simp only [List.setIfInBounds_toArray, List.set_cons_zero, List.set_cons_succ]
                        refine wpAnyG_pure 10 88 (v := ?_) rfl (by kernel_rfl) rfl (by rfl) (fun w' => ?_) ?_
                        rotate_left
                        · go_simp <;> with_reducible rfl
                        simp only [List.setIfInBounds_toArray, List.set_cons_zero, List.set_cons_succ]
                        refine wpAnyG_take 11 89 (v := ?_) rfl (by kernel_rfl) rfl (by rfl) (fun w' hG' => ?_) ?_
                        rotate_left
                        · have hx0 := Grew.cell hG' (show wa.drew.cell? ⟨wr.heap.size, 0, none⟩ = some (.int .i64 (un : Int)) from e0)
                          have hx1 := Grew.cell hG' (show wa.drew.cell? ⟨wr.heap.size, 1, none⟩ = some (.int .u64 cc) from e1)
                          have hx2 := Grew.cell hG' (show wa.drew.cell? ⟨w.heap.size + 1, un, none⟩ = some (.int .u64 du) from cu)
                          have hx3 := Grew.cell hG' (show wa.drew.cell? ⟨w.heap.size + 1, vn, none⟩ = some (.int .u64 dv) from cv)
                          go_simp <;> with_reducible rfl
                        simp only [List.setIfInBounds_toArray, List.set_cons_zero, List.set_cons_succ]
                        refine wpAnyG_pure 12 90 (v := ?_) rfl (by kernel_rfl) rfl (by rfl) (fun w' => ?_) ?_
                        rotate_left
                        · go_simp <;> with_reducible rfl
                        simp only [List.setIfInBounds_toArray, List.set_cons_zero, List.set_cons_succ]
                        refine wpAnyG_take 13 91 (v := ?_) rfl (by kernel_rfl) rfl (by rfl) (fun w' hG' => ?_) ?_
                        rotate_left
                        · have hx0 := Grew.cell hG' (show wa.drew.cell? ⟨wr.heap.size, 0, none⟩ = some (.int .i64 (un : Int)) from e0)
                          have hx1 := Grew.cell hG' (show wa.drew.cell? ⟨wr.heap.size, 1, none⟩ = some (.int .u64 cc) from e1)
                          have hx2 := Grew.cell hG' (show wa.drew.cell? ⟨w.heap.size + 1, un, none⟩ = some (.int .u64 du) from cu)
                          have hx3 := Grew.cell hG' (show wa.drew.cell? ⟨w.heap.size + 1, vn, none⟩ = some (.int .u64 dv) from cv)
                          go_simp <;> with_reducible rfl
                        simp only [List.setIfInBounds_toArray, List.set_cons_zero, List.set_cons_succ]
                        refine wpAnyG_pure 14 92 (v := ?_) rfl (by kernel_rfl) rfl (by rfl) (fun w' => ?_) ?_
                        rotate_left
                        · go_simp <;> with_reducible rfl
                        simp only [List.setIfInBounds_toArray, List.set_cons_zero, List.set_cons_succ]
                        refine wpAnyG_pure 15 93 (v := ?_) rfl (by kernel_rfl) rfl (by rfl) (fun w' => ?_) ?_
                        rotate_left
                        · go_simp <;> with_reducible rfl
                        simp only [List.setIfInBounds_toArray, List.set_cons_zero, List.set_cons_succ]
                        refine wpAnyG_pure 16 94 (v := ?_) rfl (by kernel_rfl) rfl (by rfl) (fun w' => ?_) ?_
                        rotate_left
                        · go_simp <;> with_reducible rfl
                        simp only [List.setIfInBounds_toArray, List.set_cons_zero, List.set_cons_succ]
                        refine wpAnyG_store 17 rfl (by kernel_rfl) rfl (by rfl) (fun K hK' => ?_)
                        have hfz := hSd.out.us.frozen un
                        have hcc := hSd.out.us.cell uN
                        go_simp
                        refine hK' _ (fun h => absurd (by simp) h) ?_
                        clear hK'
                        refine wpAnyG_done (by kernel_rfl) ?_
                        go_wp2_with fail
                        go_roundw
                        case rel => exact ⟨j + 1, upd d (un : Int) mm, by omega, by go_num, Lib.hid ⟨hS5.out, hN.out⟩⟩
                        case measure => simp [intOf]; omega
                    · have hN := Lib.hid (hB.out.skip hUX.out cc0 (.inr (by rw [HDV.out]; exact hdl)))
                      clear hB
                      go_wp2_with fail
                      go_roundw
                      case rel => exact ⟨j + 1, d, by omega, by go_num, Lib.hid ⟨hSa.out, hN.out⟩⟩
                      case measure => simp [intOf]; omega
                  · obtain rfl : j = m := by omega
                    have hN := hS.out.2
                    rw [← HM2.out, ← HArc.out] at hN
                    have hN := Lib.hid (show _ ∧ _ from ⟨hS.out.1, hN.row⟩)
                    clear hS
                    go_wp2_with fail
                    exact ⟨⟨vn + 1, d, by omega, by go_num, hN⟩, by simp [intOf]; omega⟩
              · obtain rfl : vn = k := by omega
                have hN := Lib.hid (show _ ∧ _ from ⟨hS.out.1, hS.out.2.round HOK.out ⟨s0, s1⟩⟩)
                clear hS
                go_wp2_with fail
                exact ⟨⟨R + 1, d, by omega, by go_num, hN⟩, by simp [intOf]; omega⟩
          · obtain rfl : R = k := by omega
            have ct := hS.out.1.us.cell ht
            have hR : Hid (FarE R arcs gone s t w (.returned (.int .u64 (d (t : Int)))) wr) := ⟨d t, rfl, hS.out.1.kept, (hS.out.2.rng _).1, (hS.out.2.rng _).2, (fun h => by rw [E1.out] at h; cases h), fun _ => ⟨hS.out.2.sound t, fun k y hk hr => hS.out.2.old k t y hk hr⟩⟩
            clear hS
            go_wp2_with fail
            go_ret
            exact hR.out
end Go.Proofs.Ythbcgdogmkgebaa
