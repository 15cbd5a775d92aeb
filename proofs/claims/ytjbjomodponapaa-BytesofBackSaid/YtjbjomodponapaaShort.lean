/- A shortcut read. -/
import Derived.Test.YtjbjomodponapaaMeets
import Derived.Great.BuildSlice
namespace Go.Proofs.Ytjbjomodponapaa
open Go.RowKit

/-- No shortcut can be there. -/
def FailS (z : Nat → Int) (len p : Nat) (es : List Edg) (ss : List Sc) : Prop :=
  (∀ x p', Tk z len p x p' → ¬ ((x : Int) < 2)) ∨ (∃ p1, Tk z len p 0 p1 ∧ ∀ x p', Tk z len p1 x p' → ¬ ((x : Int) < (es.length : Int))) ∨
  (∃ p1, Tk z len p 1 p1 ∧ ∀ x p', Tk z len p1 x p' → ¬ ((x : Int) < (ss.length : Int))) ∨
  (∃ p1 i p2, Tk z len p 1 p1 ∧ Tk z len p1 i p2 ∧ ∀ x p', Tk z len p2 x p' → ¬ ((x : Int) < (ss.length : Int)))
/-- This one is there. -/
def ThereS (z : Nat → Int) (len p : Nat) (es : List Edg) (ss : List Sc) (s : Sc) (q : Nat) : Prop :=
  (∃ p1 i e, Tk z len p 0 p1 ∧ Tk z len p1 i q ∧ es[i]? = some e ∧ s = scE e i) ∨
  (∃ p1 i p2 j x y, Tk z len p 1 p1 ∧ Tk z len p1 i p2 ∧ Tk z len p2 j q ∧ ss[i]? = some x ∧ ss[j]? = some y ∧ s = scT x y i j)
/-- What shortcut answers. -/
def ScE (z : Nat → Int) (len p R : Nat) (A : Option Addr) (cap : Nat) (es : List Edg) (ss : List Sc) (w : World) (e : Ending) (w' : World) : Prop :=
  (∃ s q, e = .returned (scV s) ∧ ThereS z len p es ss s q ∧ Rd w' R A len cap q ∧ Kept (· = R) w w') ∨
  (FailS z len p es ss ∧ ∃ q, e = .panicked (wrongs q) ∧ Kept (· = R) w w')
theorem Kept.setRow {F : Nat → Prop} {a W : World} {g : Nat} (h : Kept F a W) (hg : F g ∨ a.heap.size ≤ g) (cs : Array Value) : Kept F a (W.setRow g cs) :=
  ⟨h.os, h.tape, h.output, by rw [size_setRow]; exact h.size, fun k hk hf => by
    rw [setRow_other W g k cs (fun e => by subst e; rcases hg with hg | hg; · exact hf hg
                                           · omega)]
    exact h.block k hk hf⟩
theorem Blk.setRow {W : World} {g : Nat} {t : TypeId} {cs : Array Value} (h : Blk W g t cs) (cs' : Array Value) : Blk (W.setRow g cs') g t cs' := setRow_heap W g cs cs' t (0, 0) h
theorem Blk.farRow {W : World} {g k : Nat} {t : TypeId} {cs : Array Value} (h : Blk W k t cs) (hk : k ≠ g) (cs' : Array Value) : Blk (W.setRow g cs') k t cs := (setRow_other W g k cs' hk).trans h
theorem Blk.three {w : World} {g : Nat} {t : TypeId} {a b c d e f : Value} (h : Blk w g t #[a, b, c, d, e, f]) (p q r : Value) : Blk (((w.setCell ⟨g, 0, none⟩ p).setCell ⟨g, 1, none⟩ q).setCell ⟨g, 2, none⟩ r) g t #[p, q, r, d, e, f] := ((h.set 0 p).set 1 q).set 2 r
theorem all_one {cs : Array Value} (h : ∀ v ∈ cs.toList, v.oneCell' = true) : cs.all (·.oneCell') = true := Array.all_eq_true_iff_forall_mem.2 fun v hv => h v (by simpa using hv)
set_option maxHeartbeats 8000000 in
set_option maxRecDepth 100000 in
theorem shortcut_read (n : Int) (Ae As : Option Addr) (ce cs : Nat) (es : List Edg) (ss : List Sc) (R : Nat) (A : Option Addr) (len cap p : Nat) (z : Nat → Int) (w : World) (h : Rd w R A len cap p) (hs : Src w A len cap z) (hp : p ≤ len) (hl : len ≤ 100000)
    (he : RowE w Ae es) (hss : RowS w As ss) (hle : es.length ≤ 20000) (hls : ss.length ≤ 70000) (hA : ∀ a, A = some a → a.block ≠ R) (hAe : ∀ a, Ae = some a → a.block ≠ R) (hAs : ∀ a, As = some a → a.block ≠ R) :
    Calls Try.prog 25 #[pt R, .agg #[i64 n, .slice Ae es.length ce], .slice As ss.length cs] w fun e w' => ScE z len p R A cap es ss w e w' := by
  have k0 : Grew w ((w.alloc (.cells #[i64 n, .slice Ae es.length ce] 24)).alloc (.cells #[i64 0, i64 0, .int .u64 0, i64 0, i64 0, i64 0] 66)) := ((Kept.refl _ _).alloc _).alloc _
  have bG := (Blk.new w 24 #[i64 n, .slice Ae es.length ce]).alloc (.cells #[i64 0, i64 0, .int .u64 0, i64 0, i64 0, i64 0] 66)
  have bT := Blk.new (w.alloc (.cells #[i64 n, .slice Ae es.length ce] 24)) 66 #[i64 0, i64 0, .int .u64 0, i64 0, i64 0, i64 0]
  rw [World.size_alloc] at bT
  have hRl := h.lt
  have hB1 := Lib.hid (below_read R A len cap p 2 z _ (h.grew k0) (hs.grew k0) hp hl (by omega))
  have HA : Hid (∀ W, Kept (· = R) w W → Src W A len cap z) := fun W k => hs.kept k (fun a ha hh => hA a ha hh)
  have HE : Hid (∀ W, Kept (· = R) w W → RowE W Ae es) := fun W k => he.kept k (fun a ha hh => hAe a ha hh)
  have HS : Hid (∀ W, Kept (· = R) w W → RowS W As ss) := fun W k => hss.kept k (fun a ha hh => hAs a ha hh)
  obtain ⟨L, hL⟩ : ∃ L, es.length = L := ⟨_, rfl⟩
  obtain ⟨m, hm⟩ : ∃ L, ss.length = L := ⟨_, rfl⟩
  have HL := Lib.hid hL
  have HM := Lib.hid hm
  rw [hL] at k0 bG bT hB1 hle ⊢
  rw [hm] at hls ⊢
  obtain ⟨r0, hr0⟩ : ∃ r, w.heap.size = r := ⟨_, rfl⟩
  have HR0 := Lib.hid hr0
  rw [hr0] at bG bT
  have HG := Lib.hid bG
  have HT := Lib.hid bT
  have HK := Lib.hid k0
  clear h hs he hss hL hm bG bT k0 hA hAe hAs
  go_enter Try.func25, Try.ntmps25
  go_wp2_with fail
  obtain ⟨w1, hw1⟩ : ∃ W, (w.alloc (.cells #[i64 n, .slice Ae L ce] 24)).alloc (.cells #[i64 0, i64 0, .int .u64 0, i64 0, i64 0, i64 0] 66) = W := ⟨_, rfl⟩
  rw [hw1] at hB1 HG HT HK ⊢
  clear hw1
  refine hB1.out.mono ?_
  rintro e w2 (⟨kd, p1, hT1, kl, rfl, hR2, k2⟩ | ⟨hno, q, rfl, k2⟩)
  rotate_left
  · as_aux_lemma =>
    have hf : Hid (ScE z len p R A cap es ss w (.panicked (wrongs q)) w2) := .inr ⟨.inl hno, q, rfl, (Grew.kept HK.out).trans k2⟩
    clear hB1 hno k2
    go_wp2_with fail
    exact ⟨rfl, hf.out⟩
  have nR0 : ¬ r0 = R := by omega
  have nR1 : ¬ r0 + 1 = R := by omega
  have K2 : Hid (Kept (· = R) w w2) := (Grew.kept HK.out).trans k2
  have bG := HG.out.kept k2 nR0
  have bT := HT.out.kept k2 nR1
  have g1 := bG.cell 1
  simp at g1
  have HbG := Lib.hid bG
  have HbT := Lib.hid bT
  have HT1 := Lib.hid hT1
  have HR2 := Lib.hid hR2
  clear hB1 bG bT HG HT hT1 hR2 HK
  by_cases hkd : kd = 0
  · as_aux_lemma =>
    subst hkd
    have hB2 := Lib.hid (below_read R A len cap p1 L z w2 HR2.out (HA.out _ K2.out) (by have := HT1.out.2; omega) hl (by omega))
    clear k2
    go_wp2_with fail
    refine hB2.out.mono ?_
    rintro e w3 (⟨i, p2, hT2, il, rfl, hR3, k3⟩ | ⟨hno, q, rfl, k3⟩)
    rotate_left
    · have hf : Hid (ScE z len p R A cap es ss w (.panicked (wrongs q)) w3) := .inr ⟨.inr (.inl ⟨p1, HT1.out, by rw [HL.out]; exact hno⟩), q, rfl, K2.out.trans k3⟩
      clear hB2 hno k3
      go_wp2_with fail
      exact ⟨rfl, hf.out⟩
    have K3 : Hid (Kept (· = R) w w3) := K2.out.trans k3
    obtain ⟨⟨ef, et, ew⟩, hx⟩ : ∃ e, es[i]? = some e := ⟨_, List.getElem?_eq_getElem (by rw [HL.out]; omega)⟩
    obtain ⟨b, off, hAe, hb, e0, e1, e2⟩ := HE.out w3 K3.out i _ hx
    subst hAe
    dsimp only at e0 e1 e2
    have bG := HbG.out.kept k3 nR0
    have bT := HbT.out.kept k3 nR1
    have gc := bG.cell 1
    simp at gc
    have bT2 := bT.alloc (.cells #[i64 ef, i64 et, .int .u64 ew] 51)
    have gA : Grew w3 (w3.alloc (.cells #[i64 ef, i64 et, .int .u64 ew] 51)) := (Kept.refl _ _).alloc _
    have bE := Blk.new w3 51 #[i64 ef, i64 et, .int .u64 ew]
    have HT2 := Lib.hid hT2
    have HX := Lib.hid hx
    have HbT2 := Lib.hid bT2
    have HbE := Lib.hid bE
    have HR3 := Lib.hid (hR3.grew gA)
    have HK3 := Lib.hid (K3.out.trans (Grew.kept gA))
    have i0 : (0 : Int) ≤ (i : Int) := by omega
    clear hB2 k3 hT2 hR3 hx bG bT bT2 bE HbG HbT HR2 K2 K3 HA HE HS g1 gA
    go_upto_region 4 with fail
    obtain ⟨W4, hW4⟩ : ∃ W, w3.alloc (.cells #[i64 ef, i64 et, .int .u64 ew] 51) = W := ⟨_, rfl⟩
    obtain ⟨E, hE⟩ : ∃ E, w3.heap.size = E := ⟨_, rfl⟩
    rw [hW4] at HbT2 HbE HR3 HK3 ⊢
    rw [hE] at HbE ⊢
    clear hW4 e0 e1 e2 gc
    have e0 := HbE.out.cell 0
    have e1 := HbE.out.cell 1
    have e2 := HbE.out.cell 2
    simp at e0 e1 e2
    apply wp_region_lit
    iterate 7 (go_step; go_step; go_step)
    refine wpList_buildTo rfl 66 _ rfl (some 32) rfl #[i64 ef, i64 et, .int .u64 ew, i64 i, i64 (-1), i64 (-1)] (by as_aux_lemma => kernel_rfl) ?_
    refine wpList_store_rowTo rfl 66 _ _ rfl rfl (r0 + 1) #[i64 ef, i64 et, .int .u64 ew, i64 i, i64 (-1), i64 (-1)] rfl (by as_aux_lemma => kernel_rfl) 66 _ HbT2.out (by as_aux_lemma => kernel_rfl) rfl (all_one (by simp [Value.oneCell'])) ?_
    obtain ⟨W5, hW5⟩ : ∃ W, W4.setRow (r0 + 1) #[i64 ef, i64 et, .int .u64 ew, i64 i, i64 (-1), i64 (-1)] = W := ⟨_, rfl⟩
    have bT := HbT2.out.setRow #[i64 ef, i64 et, .int .u64 ew, i64 i, i64 (-1), i64 (-1)]
    have hK5 := HK3.out.setRow (g := r0 + 1) (.inr (by rw [HR0.out]; omega)) #[i64 ef, i64 et, .int .u64 ew, i64 i, i64 (-1), i64 (-1)]
    have hR5 := HR3.out.farRow (fun e => nR1 e.symm) #[i64 ef, i64 et, .int .u64 ew, i64 i, i64 (-1), i64 (-1)]
    rw [hW5] at bT hK5 hR5 ⊢
    have hf : Hid (ScE z len p R A cap es ss w (.returned (scV (scE (ef, et, ew) i))) W5) := .inl ⟨_, _, rfl, .inl ⟨p1, i, _, HT1.out, HT2.out, HX.out, rfl⟩, hR5, hK5⟩
    have q0 := bT.cell 0
    have q1 := bT.cell 1
    have q2 := bT.cell 2
    have q3 := bT.cell 3
    have q4 := bT.cell 4
    have q5 := bT.cell 5
    simp at q0 q1 q2 q3 q4 q5
    clear e0 e1 e2 bT hK5 hR5 hW5 HK3 HR3 HX HT2 HbE HbT2 HT1 HL HM HR0 hle hls hl hp
    go_wp2_with fail
    exact bodyPost_ret (v := scV (scE (ef, et, ew) i)) (by simp [results, Try.results25, go_sem, q0, q1, q2, q3, q4, q5, scE]) rfl hf.out
  · as_aux_lemma =>
    obtain rfl : kd = 1 := by omega
    have hkb : ((1 : Int) == 0) = false := rfl
    have hB2 := Lib.hid (below_read R A len cap p1 m z w2 HR2.out (HA.out _ K2.out) (by have := HT1.out.2; omega) hl (by omega))
    clear k2
    go_wp2_with fail
    refine hB2.out.mono ?_
    rintro e w3 (⟨i, p2, hT2, il, rfl, hR3, k3⟩ | ⟨hno, q, rfl, k3⟩)
    rotate_left
    · have hf : Hid (ScE z len p R A cap es ss w (.panicked (wrongs q)) w3) := .inr ⟨.inr (.inr (.inl ⟨p1, HT1.out, by rw [HM.out]; exact hno⟩)), q, rfl, K2.out.trans k3⟩
      clear hB2 hno k3
      go_wp2_with fail
      exact ⟨rfl, hf.out⟩
    have K3 : Hid (Kept (· = R) w w3) := K2.out.trans k3
    have hB3 := Lib.hid (below_read R A len cap p2 m z w3 hR3 (HA.out _ K3.out) (by have := hT2.2; omega) hl (by omega))
    have HT2 := Lib.hid hT2
    clear hT2 hR3 hB2
    go_wp2_with fail
    refine hB3.out.mono ?_
    rintro e w4 (⟨j, p3, hT3, jl, rfl, hR4, k4⟩ | ⟨hno, q, rfl, k4⟩)
    rotate_left
    · have hf : Hid (ScE z len p R A cap es ss w (.panicked (wrongs q)) w4) := .inr ⟨.inr (.inr (.inr ⟨p1, i, p2, HT1.out, HT2.out, by rw [HM.out]; exact hno⟩)), q, rfl, K3.out.trans k4⟩
      clear hB3 hno k4
      go_wp2_with fail
      exact ⟨rfl, hf.out⟩
    have K4 : Hid (Kept (· = R) w w4) := K3.out.trans k4
    have HT3 := Lib.hid hT3
    have HR4 := Lib.hid hR4
    have HbT4 := Lib.hid ((HbT.out.kept k3 nR1).kept k4 nR1)
    clear hB3 k4 hT3 hR4
    go_wp2_with (refine wpList_buildTo rfl 66 _ rfl (some 41) rfl #[i64 0, i64 0, .int .u64 0, i64 (-1), i64 i, i64 j] (by as_aux_lemma => kernel_rfl) ?_)
    obtain ⟨x, hx⟩ : ∃ e, ss[i]? = some e := ⟨_, List.getElem?_eq_getElem (by rw [HM.out]; omega)⟩
    obtain ⟨y, hy⟩ : ∃ e, ss[j]? = some e := ⟨_, List.getElem?_eq_getElem (by rw [HM.out]; omega)⟩
    have HX := Lib.hid hx
    have HY := Lib.hid hy
    clear hx hy
    have gN : Grew w4 (w4.alloc (.cells #[i64 0, i64 0, .int .u64 0, i64 (-1), i64 i, i64 j] 66)) := (Kept.refl _ _).alloc _
    have bX := Blk.new w4 66 #[i64 0, i64 0, .int .u64 0, i64 (-1), i64 i, i64 j]
    have bT := HbT4.out.grew gN
    have K5 := K4.out.trans (Grew.kept gN)
    have R5 := HR4.out.grew gN
    obtain ⟨W5, hW5⟩ : ∃ W, w4.alloc (.cells #[i64 0, i64 0, .int .u64 0, i64 (-1), i64 i, i64 j] 66) = W := ⟨_, rfl⟩
    obtain ⟨r4, hr4⟩ : ∃ E, w4.heap.size = E := ⟨_, rfl⟩
    have hs5 : W5.heap.size = r4 + 1 := by rw [← hW5, World.size_alloc, hr4]
    have hr4l : r0 + 1 < r4 := by rw [← hr4]; exact HbT4.out.lt
    have hRr : ¬ r4 = R := by have := K4.out.size; omega
    rw [hW5] at bT bX K5 R5 ⊢
    rw [hr4] at bX ⊢
    obtain ⟨bA, oA, hAs, hb, x0, x1, x2, x3, x4, x5⟩ := HS.out W5 K5 i x HX.out
    obtain ⟨bA', oA', hAs', hb', y0, y1, y2, y3, y4, y5⟩ := HS.out W5 K5 j y HY.out
    obtain ⟨rfl, rfl⟩ : bA' = bA ∧ oA' = oA := by rw [hAs] at hAs'; simp at hAs'; exact ⟨hAs'.1.symm, hAs'.2.symm⟩
    subst hAs
    have z4 := bX.cell 4
    have z5 := bX.cell 5
    simp at z4 z5
    have i0 : (0 : Int) ≤ (i : Int) := by omega
    have j0 : (0 : Int) ≤ (j : Int) := by omega
    have HbX := Lib.hid bX
    have HbT5 := Lib.hid bT
    have HK5 := Lib.hid K5
    have HR5 := Lib.hid R5
    have Hl := Lib.hid hr4l
    have Hs5 := Lib.hid hs5
    have HrR := Lib.hid hRr
    have Hb := Lib.hid hb
    clear hW5 hr4 hs5 hr4l hRr gN bX bT K5 R5 HR4 HbT4 K4 K3 K2 k3 HbG HbT HR2 HA HE HS g1 hAs' hb' hb hkd hkb
    have hcell : ∀ (a : Addr) (v : Value), W5.cell? a = some v → a.block < W5.heap.size → (∀ o, (W5.alloc o).cell? a = some v) ∧ ∀ o q, ((W5.alloc o).alloc q).cell? a = some v := fun a v ha hb => by
      have h1 : ∀ o, (W5.alloc o).cell? a = some v := fun o => ((Kept.refl (fun _ => False) W5).alloc o).cell ha (fun h => h)
      exact ⟨h1, fun o q => ((Kept.refl (fun _ => False) (W5.alloc o)).alloc q).cell (h1 o) (fun h => h)⟩
    obtain ⟨yA0, yB0⟩ := hcell _ _ y0 Hb.out
    obtain ⟨xA0, xB0⟩ := hcell _ _ x0 Hb.out
    obtain ⟨yA1, yB1⟩ := hcell _ _ y1 Hb.out
    obtain ⟨xA1, xB1⟩ := hcell _ _ x1 Hb.out
    obtain ⟨yA2, yB2⟩ := hcell _ _ y2 Hb.out
    obtain ⟨xA2, xB2⟩ := hcell _ _ x2 Hb.out
    obtain ⟨yA3, yB3⟩ := hcell _ _ y3 Hb.out
    obtain ⟨xA3, xB3⟩ := hcell _ _ x3 Hb.out
    obtain ⟨yA4, yB4⟩ := hcell _ _ y4 Hb.out
    obtain ⟨xA4, xB4⟩ := hcell _ _ x4 Hb.out
    obtain ⟨yA5, yB5⟩ := hcell _ _ y5 Hb.out
    obtain ⟨xA5, xB5⟩ := hcell _ _ x5 Hb.out
    obtain ⟨zA4, zB4⟩ := hcell _ _ z4 HbX.out.lt
    obtain ⟨zA5, zB5⟩ := hcell _ _ z5 HbX.out.lt
    clear hcell
    go_upto_region 6 with fail
    go_cut [10, 11] (fun v10 v11 wx => ∃ gx gy : Nat, v10 = pt gx ∧ v11 = pt gy ∧ Hid (Blk wx gx 66 #[i64 x.from', i64 x.to', .int .u64 x.w, i64 x.edge, i64 x.a, i64 x.b] ∧ Blk wx gy 66 #[i64 y.from', i64 y.to', .int .u64 y.w, i64 y.edge, i64 y.a, i64 y.b] ∧
      Blk wx r4 66 #[i64 0, i64 0, .int .u64 0, i64 (-1), i64 i, i64 j] ∧ Blk wx (r0 + 1) 66 #[i64 0, i64 0, .int .u64 0, i64 0, i64 0, i64 0] ∧ r4 < gx ∧ r4 < gy ∧ Grew W5 wx))
    case first =>
      go_region
      all_goals go_wp2_with fail
      all_goals go_meet
      · have n1 := Blk.new W5 66 #[i64 x.from', i64 x.to', .int .u64 x.w, i64 x.edge, i64 x.a, i64 x.b]
        have n2 := Blk.new (W5.alloc (.cells #[i64 x.from', i64 x.to', .int .u64 x.w, i64 x.edge, i64 x.a, i64 x.b] 66)) 66 #[i64 y.from', i64 y.to', .int .u64 y.w, i64 y.edge, i64 y.a, i64 y.b]
        rw [World.size_alloc] at n2
        have hlt : r4 < W5.heap.size := HbX.out.lt
        exact ⟨_, _, rfl, rfl, n1.alloc _, n2, (HbX.out.alloc _).alloc _, (HbT5.out.alloc _).alloc _, hlt, by omega, (((Kept.refl _ W5).alloc _).alloc _).drew⟩
      · have n1 := Blk.new W5 66 #[i64 y.from', i64 y.to', .int .u64 y.w, i64 y.edge, i64 y.a, i64 y.b]
        have n2 := Blk.new (W5.alloc (.cells #[i64 y.from', i64 y.to', .int .u64 y.w, i64 y.edge, i64 y.a, i64 y.b] 66)) 66 #[i64 x.from', i64 x.to', .int .u64 x.w, i64 x.edge, i64 x.a, i64 x.b]
        rw [World.size_alloc] at n2
        have hlt : r4 < W5.heap.size := HbX.out.lt
        exact ⟨_, _, rfl, rfl, n2, n1.alloc _, (HbX.out.alloc _).alloc _, (HbT5.out.alloc _).alloc _, by omega, hlt, (((Kept.refl _ W5).alloc _).alloc _).drew⟩
    case rest =>
      obtain ⟨gx, gy, rfl, rfl, hS⟩ := hcut
      have HBx := Lib.hid hS.out.1
      have HBy := Lib.hid hS.out.2.1
      have HBr := Lib.hid hS.out.2.2.1
      have HBt := Lib.hid hS.out.2.2.2.1
      have hgx : r4 < gx := hS.out.2.2.2.2.1
      have hgy : r4 < gy := hS.out.2.2.2.2.2.1
      have HKc := Lib.hid (HK5.out.trans (Grew.kept hS.out.2.2.2.2.2.2))
      have HRc := Lib.hid (HR5.out.grew hS.out.2.2.2.2.2.2)
      clear hS x0 x1 x2 x3 x4 x5 y0 y1 y2 y3 y4 y5 z4 z5 HbX HbT5 HK5 HR5 yA0 yA1 yA2 yA3 yA4 yA5 xA0 xA1 xA2 xA3 xA4 xA5 yB0 yB1 yB2 yB3 yB4 yB5 xB0 xB1 xB2 xB3 xB4 xB5 zA4 zA5 zB4 zB5
      have c0 := HBx.out.cell 0
      have c2 := HBx.out.cell 2
      have d1 := HBy.out.cell 1
      have d2 := HBy.out.cell 2
      simp at c0 c2 d1 d2
      have r0c := HBr.out.cell 0
      have r1c := HBr.out.cell 1
      have r2c := HBr.out.cell 2
      have r0f := HBr.out.frozen 0
      have r1f := HBr.out.frozen 1
      have r2f := HBr.out.frozen 2
      simp at r0c r1c r2c
      have n1 : ¬ gx = r4 := by omega
      have n2 : ¬ gy = r4 := by omega
      have n3 : ¬ r4 = gx := by omega
      have n4 : ¬ r4 = gy := by omega
      obtain ⟨sm, hsm⟩ : ∃ v, IntKind.u64.wrap (x.w + y.w) = v := ⟨_, rfl⟩
      go_upto_region 7 with fail
      go_cut [] (fun wx => Hid (Blk wx r4 66 #[i64 x.from', i64 y.to', .int .u64 sm, i64 (-1), i64 i, i64 j] ∧ Kept (· = r4) wc wx))
      case first =>
        go_region
        all_goals go_wp2_with fail
        all_goals go_meet
        have h1 := (Blk.three HBr.out (i64 x.from') (i64 y.to') (.int .u64 sm)).drew
        exact ⟨h1, ((((Kept.refl (· = r4) wc).setCell (p := ⟨r4, 0, none⟩) (.inl rfl) _).setCell (.inl rfl) _).setCell (.inl rfl) _).drew⟩
      case rest =>
        have HT := Lib.hid (HBt.out.kept hcut.out.2 (show ¬ r0 + 1 = r4 by have := Hl.out; omega))
        have HK6 := Lib.hid (HKc.out.then hcut.out.2 (fun i hi h => by have h : i = r4 := h; have := Hl.out; have := HR0.out; omega))
        have HR6 := Lib.hid (HRc.out.kept hcut.out.2 (fun h => HrR.out h.symm))
        have bR := hcut.out.1
        have v0 := bR.cell 0
        have v1 := bR.cell 1
        have v2 := bR.cell 2
        have v3 := bR.cell 3
        have v4 := bR.cell 4
        have v5 := bR.cell 5
        simp at v0 v1 v2 v3 v4 v5
        clear bR hcut HBx HBy HBr HBt HKc HRc c0 c2 d1 d2 r0f r1f r2f r0c r1c r2c n1 n2 n3 n4
        go_wp2_with
          (refine wpList_store_rowTo rfl 66 _ _ rfl rfl (r0 + 1) #[i64 x.from', i64 y.to', .int .u64 sm, i64 (-1), i64 i, i64 j] rfl (by as_aux_lemma => kernel_rfl) 66 _ HT.out (by as_aux_lemma => kernel_rfl) rfl (all_one (by simp [Value.oneCell'])) ?_
           obtain ⟨W6, hW6⟩ : ∃ W, wc.setRow (r0 + 1) #[i64 x.from', i64 y.to', .int .u64 sm, i64 (-1), i64 i, i64 j] = W := ⟨_, rfl⟩
           have bT := HT.out.setRow #[i64 x.from', i64 y.to', .int .u64 sm, i64 (-1), i64 i, i64 j]
           have hK6 := HK6.out.setRow (g := r0 + 1) (.inr (by rw [HR0.out]; omega)) #[i64 x.from', i64 y.to', .int .u64 sm, i64 (-1), i64 i, i64 j]
           have hR6 := HR6.out.farRow (fun e => nR1 e.symm) #[i64 x.from', i64 y.to', .int .u64 sm, i64 (-1), i64 i, i64 j]
           rw [hW6] at bT hK6 hR6 ⊢
           have hf : Hid (ScE z len p R A cap es ss w (.returned (scV (scT x y i j))) W6) := .inl ⟨_, _, rfl, .inr ⟨p1, i, p2, j, x, y, HT1.out, HT2.out, HT3.out, HX.out, HY.out, rfl⟩, hR6, hK6⟩
           have q0 := bT.cell 0
           have q1 := bT.cell 1
           have q2 := bT.cell 2
           have q3 := bT.cell 3
           have q4 := bT.cell 4
           have q5 := bT.cell 5
           simp at q0 q1 q2 q3 q4 q5
           clear bT hK6 hR6 hW6 HK6 HR6 HT v0 v1 v2 v3 v4 v5)
        exact bodyPost_ret (v := scV (scT x y i j)) (by simp [results, Try.results25, go_sem, q0, q1, q2, q3, q4, q5, scT, wrapW, hsm]) rfl hf.out
end Go.Proofs.Ytjbjomodponapaa
