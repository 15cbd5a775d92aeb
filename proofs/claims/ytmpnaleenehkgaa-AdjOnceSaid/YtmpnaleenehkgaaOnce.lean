/- The law AdjOnce. -/
import Derived.Test.YtmpnaleenehkgaaNilsL
import Derived.Test.YtmpnaleenehkgaaLight
import Derived.RegionTactic
import Derived.Deep.DeepCutAuto
namespace Go.Proofs.Ytmpnaleenehkgaa
open Go.RowKit

/-- How often index i has come: those of keys below v, and the first r of key v. -/
def comeF (key : Nat → Nat) (v r : Nat) : Nat → Int := fun i => if key i < v ∨ (key i = v ∧ cnt key v i < r) then 1 else 0
theorem comeF_zero (key : Nat → Nat) (i : Nat) : comeF key 0 0 i = 0 := by
  unfold comeF
  rw [if_neg (by omega)]
theorem comeF_new {key : Nat → Nat} {v r j : Nat} (hk : key j = v) (hc : cnt key v j = r) : comeF key v r j = 0 ∧ comeF key v (r + 1) j = 1 := by
  unfold comeF
  rw [if_neg (by omega), if_pos (by omega)]
  exact ⟨rfl, rfl⟩
theorem comeF_same {key : Nat → Nat} {v r j : Nat} (hk : key j = v) (hc : cnt key v j = r) (i : Nat) (hi : i ≠ j) : comeF key v (r + 1) i = comeF key v r i := by
  unfold comeF
  by_cases h : key i = v
  · have : cnt key v i ≠ r := fun h2 => hi (cnt_inj h hk (by omega))
    by_cases h3 : cnt key v i < r
    · rw [if_pos (by omega), if_pos (by omega)]
    · rw [if_neg (by omega), if_neg (by omega)]
  · by_cases h3 : key i < v
    · rw [if_pos (by omega), if_pos (by omega)]
    · rw [if_neg (by omega), if_neg (by omega)]
theorem comeF_next {key : Nat → Nat} {v m i : Nat} (hi : i < m) : comeF key v (cnt key v m) i = comeF key (v + 1) 0 i := by
  unfold comeF
  by_cases h : key i = v
  · have := cnt_lt h hi
    rw [if_pos (by omega), if_pos (by omega)]
  · by_cases h3 : key i < v
    · rw [if_pos (by omega), if_pos (by omega)]
    · rw [if_neg (by omega), if_neg (by omega)]
theorem comeF_all {key : Nat → Nat} {n i : Nat} (h : key i < n) : comeF key n 0 i = 1 := by
  unfold comeF
  rw [if_pos (.inl h)]
theorem comeF_bd (key : Nat → Nat) (v r i : Nat) : 0 ≤ comeF key v r i ∧ comeF key v r i ≤ 1 := by
  unfold comeF
  split <;> omega

structure Q (w wr : World) (r1 B a n : Nat) (A : Option Addr) (L c : Nat) (es : List Edg) (gO gI : Nat) (fO fI : Nat → Int) : Prop where
  box : Blk wr r1 24 #[i64 n, .slice A L c]
  adj : AdjB wr B a n es
  out : IntsF wr gO L fO
  inn : IntsF wr gI L fI
  kept : Grew w wr
section
variable {w wr w' : World} {r1 B a n L c gO gI : Nat} {A : Option Addr} {es : List Edg} {fO fI f' : Nat → Int}
theorem Q.grew (h : Q w wr r1 B a n A L c es gO gI fO fI) (k : Grew wr w') : Q w w' r1 B a n A L c es gO gI fO fI := ⟨h.box.grew k, h.adj.grew k, h.out.grew k, h.inn.grew k, h.kept.trans k⟩
theorem one_set (wr : World) (g i : Nat) (u : Value) : Kept (· = g) wr (wr.setCell ⟨g, i, none⟩ u) := (Kept.refl (· = g) wr).setCell (p := ⟨g, i, none⟩) (.inl rfl) _
theorem Q.setO (h : Q w wr r1 B a n A L c es gO gI fO fI) (h1 : r1 < B) (h2 : w.heap.size ≤ B) (h3 : B ≤ gO) (h4 : gI ≠ gO) {i : Nat} (hi : i < L) (b : Int) (e1 : f' i = b) (e2 : ∀ j, j ≠ i → f' j = fO j) :
    Q w (wr.setCell ⟨gO, i, none⟩ (i64 b)) r1 B a n A L c es gO gI f' fI :=
  ⟨h.box.far (p := ⟨gO, i, none⟩) (by show r1 ≠ gO; omega) _, h.adj.kept (one_set ..) (fun j hj => by have : j = gO := hj; omega), h.out.set hi b e1 (fun j _ => e2 j), h.inn.far (p := ⟨gO, i, none⟩) h4 _, h.kept.setCell (p := ⟨gO, i, none⟩) (.inr (by show w.heap.size ≤ gO; omega)) _⟩
theorem Q.setI (h : Q w wr r1 B a n A L c es gO gI fO fI) (h1 : r1 < B) (h2 : w.heap.size ≤ B) (h3 : B ≤ gI) (h4 : gO ≠ gI) {i : Nat} (hi : i < L) (b : Int) (e1 : f' i = b) (e2 : ∀ j, j ≠ i → f' j = fI j) :
    Q w (wr.setCell ⟨gI, i, none⟩ (i64 b)) r1 B a n A L c es gO gI fO f' :=
  ⟨h.box.far (p := ⟨gI, i, none⟩) (by show r1 ≠ gI; omega) _, h.adj.kept (one_set ..) (fun j hj => by have : j = gI := hj; omega), h.out.far (p := ⟨gI, i, none⟩) h4 _, h.inn.set hi b e1 (fun j _ => e2 j), h.kept.setCell (p := ⟨gI, i, none⟩) (.inr (by show w.heap.size ≤ gI; omega)) _⟩
theorem Q.setL (h : Q w wr r1 B a n A L c es gO gI fO fI) (h1 : r1 < B) (h2 : w.heap.size ≤ B) {g : Nat} (h3 : B ≤ g) (h4 : gO ≠ g) (h5 : gI ≠ g) (i : Nat) (u : Value) : Q w (wr.setCell ⟨g, i, none⟩ u) r1 B a n A L c es gO gI fO fI :=
  ⟨h.box.far (p := ⟨g, i, none⟩) (by show r1 ≠ g; omega) _, h.adj.kept (one_set ..) (fun j hj => by have : j = g := hj; omega), h.out.far (p := ⟨g, i, none⟩) h4 _, h.inn.far (p := ⟨g, i, none⟩) h5 _, h.kept.setCell (p := ⟨g, i, none⟩) (.inr (by show w.heap.size ≤ g; omega)) _⟩
theorem Q.lt (h : Q w wr r1 B a n A L c es gO gI fO fI) : gO < wr.heap.size ∧ gI < wr.heap.size := ⟨h.out.lt, h.inn.lt⟩
theorem Q.congr (h : Q w wr r1 B a n A L c es gO gI fO fI) {fO' fI' : Nat → Int} (h1 : ∀ i, i < L → fO i = fO' i) (h2 : ∀ i, i < L → fI i = fI' i) : Q w wr r1 B a n A L c es gO gI fO' fI' := ⟨h.box, h.adj, h.out.congr h1, h.inn.congr h2, h.kept⟩
end
/-- If there is anything in it, the slice at A holds f, in a block at or behind B. -/
def IntsT (w : World) (B : Nat) (A : Option Addr) (len : Nat) (f : Nat → Int) : Prop := 0 < len → ∃ g, A = some ⟨g, 0, none⟩ ∧ B ≤ g ∧ g < w.heap.size ∧ IntsF w g len f
theorem IntsT.grew {w w' : World} {B len : Nat} {A : Option Addr} {f : Nat → Int} (h : IntsT w B A len f) (k : Grew w w') : IntsT w' B A len f := fun h0 => by
  obtain ⟨g, h1, h2, h3, h4⟩ := h h0
  exact ⟨g, h1, h2, Nat.lt_of_lt_of_le h3 k.size, h4.grew k⟩
theorem IntsT.far {w : World} {B len g i : Nat} {A : Option Addr} {f : Nat → Int} (h : IntsT w B A len f) (hg : 0 < len → ∀ x, A = some x → x.block ≠ g) (u : Value) : IntsT (w.setCell ⟨g, i, none⟩ u) B A len f := fun h0 => by
  obtain ⟨g', h1, h2, h3, h4⟩ := h h0
  exact ⟨g', h1, h2, Nat.lt_of_lt_of_le h3 (one_set w g i u).size, h4.far (p := ⟨g, i, none⟩) (hg h0 _ h1) u⟩
theorem OwnI.intsT {w : World} {B : Nat} {v : Value} {zs : List Int} (h : OwnI w B v zs) : ∃ A c, v = .slice A zs.length c ∧ IntsT w B A zs.length (fun i => zs.getD i 0) := by
  have e : (List.range zs.length).map (fun i => zs.getD i 0) = zs := by
    apply List.ext_getElem?
    intro i
    rcases Nat.lt_or_ge i zs.length with hi | hi
    · simp [hi]
    · rw [List.getElem?_eq_none (by simpa using hi), List.getElem?_eq_none hi]
  rcases Nat.eq_zero_or_pos zs.length with h0 | h0
  · obtain ⟨A, c, hv, _⟩ := h.row
    exact ⟨A, c, hv, fun h1 => by omega⟩
  · rw [← e] at h
    obtain ⟨g, c, hv, hb, hi⟩ := h.intsF h0
    exact ⟨_, c, hv, fun _ => ⟨g, rfl, hb, hi.lt, hi⟩⟩
theorem getD_of {zs : List Int} {i : Nat} {z : Int} (h : zs[i]? = some z) : zs.getD i 0 = z := by rw [List.getD_eq_getElem?_getD, h]; rfl

set_option maxHeartbeats 8000000 in
set_option maxRecDepth 100000 in
theorem once_main (n : Nat) (A : Option Addr) (c : Nat) (es : List Edg) (w : World) (h : RowE w A es) (hr : rightF n es = 0) (hn : n ≤ 100) (hl : es.length ≤ 300) :
    Calls Try.prog 3 #[.agg #[i64 n, .slice A es.length c]] w fun e w' => e = .returned (.bool true) ∧ Grew w w' := by
  have hn1 := (right_zero hr).1
  have b0 := Blk.new w 24 #[i64 n, .slice A es.length c]
  have hK0 : Grew w (w.alloc (.cells #[i64 n, .slice A es.length c] 24)) := (Kept.refl _ _).alloc _
  have hLt := Lib.hid (light_yes n A es.length c (w.alloc (.cells #[i64 n, .slice A es.length c] 24)) (by omega) hl)
  have hRt := Lib.hid (fun W (k : Grew w W) => refRight_any n A c es W (h.grew k) (by omega))
  have hNw := Lib.hid (fun W (k : Grew w W) => new_yes n A c es W (h.grew k) hr)
  have hOut := Lib.hid (fun W B a v (q : AdjB W B a n es) (hv : v < n) => out_any W B a n v es q hv (by omega) (by omega))
  have hIn := Lib.hid (fun W B a v (q : AdjB W B a n es) (hv : v < n) => in_any W B a n v es q hv (by omega) (by omega))
  have hkF := Lib.hid (key_from hr)
  have hkT := Lib.hid (key_to hr)
  have hRow := Lib.hid (fun W v (k : Grew w W) => refRow_any n A c v es W (h.grew k) (by omega) (fun k e he => (hkF.out k e he).1))
  have hAl := Lib.hid alive_any
  have HE := Lib.hid h
  rw [hr] at hRt
  have hklF : Hid (∀ k, k < es.length → keyF es k < n) := fun k hk => (hkF.out k _ (List.getElem?_eq_getElem hk)).2
  have hklT : Hid (∀ k, k < es.length → keyT es k < n) := fun k hk => (hkT.out k _ (List.getElem?_eq_getElem hk)).2
  obtain ⟨kF, hkFe⟩ : ∃ k, keyF es = k := ⟨_, rfl⟩
  obtain ⟨kT, hkTe⟩ : ∃ k, keyT es = k := ⟨_, rfl⟩
  rw [hkFe] at hkF hRow hOut hklF
  rw [hkTe] at hkT hIn hklT
  obtain ⟨L, hL⟩ : ∃ L, es.length = L := ⟨_, rfl⟩
  have HL := Lib.hid hL
  rw [hL] at b0 hK0 hLt hRt hNw hOut hIn hRow hl hklF hklT ⊢
  obtain ⟨i0, hi, hz0, hz1, hz2⟩ := info_parts info_int
  have hmk := fun W => run_make (P := Try.prog) W 32 3 i0 _ Try.underlying32 hi hz0 .i64 .i64 (L : Int) (L : Int) (by omega) (Int.le_refl _) (by rw [hz2]; omega) (by omega)
  simp only [Int.toNat_natCast, hz1, Nat.mul_one] at hmk
  clear hi hz0 hz1 hz2 h hr hL hkFe hkTe
  have c0 := b0.cell 0
  have c1 := b0.cell 1
  simp at c0 c1
  go_enter Try.func3, Try.ntmps3
  go_wp2_with fail
  refine hLt.out.mono ?_
  rintro e w1 ⟨rfl, k1⟩
  replace b0 := b0.grew k1
  replace hK0 := hK0.trans k1
  replace c0 := b0.cell 0
  replace c1 := b0.cell 1
  simp at c0 c1
  clear hLt k1
  go_wp2_with fail
  refine (hRt.out _ hK0).mono ?_
  rintro e w2 ⟨rfl, k2⟩
  replace b0 := b0.grew k2
  replace hK0 := hK0.trans k2
  replace c0 := b0.cell 0
  replace c1 := b0.cell 1
  simp at c0 c1
  clear hRt k2
  go_wp2_with fail
  refine (hNw.out _ hK0).mono ?_
  rintro e w3 ⟨a, rfl, hA, k3⟩
  replace b0 := b0.grew k3
  have hzB := k3.size
  have hz1 := b0.lt
  replace hK0 := hK0.trans k3
  replace c0 := b0.cell 0
  replace c1 := b0.cell 1
  simp at c0 c1
  have hzw := hK0.size
  have hA := Lib.hid hA
  clear hNw k3
  obtain ⟨r1, hr1⟩ : ∃ r, w.heap.size = r := ⟨_, rfl⟩
  obtain ⟨B, hB⟩ : ∃ B, w3.heap.size = B := ⟨_, rfl⟩
  have HR1 := Lib.hid hr1
  rw [hr1] at b0 c0 c1 hz1 hzw
  rw [hB] at hA hz1 hzw
  have HB := Lib.hid hB
  try rw [hr1]
  clear hzB hr1 hB
  go_upto_region 6 with fail
  have cA : ∀ o, (w3.alloc o).cell? ⟨r1, 0, none⟩ = some (i64 n) := fun o => (b0.alloc o).cell 0
  have cB : ∀ o, (w3.alloc o).cell? ⟨r1, 1, none⟩ = some (.slice A L c) := fun o => (b0.alloc o).cell 1
  go_cut [5, 6] (fun s5 s6 wx => ∃ gO gI : Nat, s5 = .slice (some ⟨gO, 0, none⟩) L L ∧ s6 = .slice (some ⟨gI, 0, none⟩) L L ∧ gO ≠ gI ∧ w3.heap.size ≤ gO ∧ w3.heap.size ≤ gI ∧ Hid (IntsF wx gO L (fun _ => 0) ∧ IntsF wx gI L (fun _ => 0) ∧ Grew w3 wx))
  case first =>
    go_region
    all_goals go_wp2_with fail
    all_goals go_meet
    all_goals
      have B1 := made_of ((Blk.new w3 3 (madeCells #[i64 0] L)).alloc (.cells (madeCells #[i64 0] L) 3))
      have B2 := Blk.new (w3.alloc (.cells (madeCells #[i64 0] L) 3)) 3 (madeCells #[i64 0] L)
      rw [World.size_alloc] at B2
      replace B2 := made_of B2
      have hk : Grew w3 ((w3.alloc (.cells (madeCells #[i64 0] L) 3)).alloc (.cells (madeCells #[i64 0] L) 3)).drew := (((Kept.refl _ _).alloc _).alloc _).drew
      first
        | exact ⟨w3.heap.size, w3.heap.size + 1, rfl, rfl, by omega, by omega, by omega, B1, B2, hk⟩
        | exact ⟨w3.heap.size + 1, w3.heap.size, rfl, rfl, by omega, by omega, by omega, B2, B1, hk⟩
  case rest =>
    obtain ⟨gO, gI, rfl, rfl, hne, hg1, hg2, HS⟩ := hcut
    rw [HB.out] at hg1 hg2
    have hne' : gI ≠ gO := fun h => hne h.symm
    have hQ : Hid (Q w wc r1 B a n A L c es gO gI (comeF kF 0 0) (comeF kT 0 0)) := ⟨b0.grew HS.out.2.2, hA.out.grew HS.out.2.2, HS.out.1.congr (fun i _ => (comeF_zero kF i).symm), HS.out.2.1.congr (fun i _ => (comeF_zero kT i).symm), hK0.trans HS.out.2.2⟩
    clear HS b0 hA hK0 c0 c1 cA cB hmk HB
    go_wp2_with fail
    go_loopw [7, 8, 9, 10, 11] (fun i u8 u9 u10 u11 wr => ∃ v : Nat, v ≤ n ∧ i = .int .i64 v ∧ Hid (Q w wr r1 B a n A L c es gO gI (comeF kF v 0) (comeF kT v 0))) (fun i _ _ _ _ _ => n - (intOf i).toNat)
    case atStart => exact ⟨0, by omega, rfl, hQ⟩
    case round =>
      clear hQ
      obtain ⟨v, hv, rfl, hQ⟩ := hrel
      have c0 := hQ.out.box.cell 0
      have c1 := hQ.out.box.cell 1
      simp at c0 c1
      by_cases hlt : v < n
      · have i0 : (0 : Int) ≤ (v : Int) := by omega
        have i1 : (v : Int) < (n : Int) := by omega
        have hO1 := Lib.hid (hOut.out wr B a v hQ.out.adj hlt)
        go_wp2_with fail
        refine hO1.out.mono ?_
        rintro e w4 ⟨u1, rfl, o1, k4⟩
        have hI1 := Lib.hid (hIn.out w4 B a v (hQ.out.adj.grew k4) hlt)
        have hzq := hQ.out.kept.size
        have hlt4 := hQ.out.lt
        have hzk := k4.size
        have o1 := Lib.hid o1
        clear hO1
        go_wp2_with fail
        refine hI1.out.mono ?_
        rintro e w5 ⟨u2, rfl, o2, k5⟩
        have hadj := hQ.out.adj
        obtain ⟨A1, c1', rfl, t1⟩ := (o1.out.grew k5).intsT
        obtain ⟨A2, c2', rfl, t2⟩ := o2.intsT
        have ho1 : Hid (∀ x, A1 = some x → 0 < (rowI kF v L).length → x.block < w4.heap.size) := fun x hx h0 => by
          obtain ⟨A', c', hv', ht⟩ := o1.out.intsT
          cases hv'
          obtain ⟨g, h1, _, h3, _⟩ := ht h0
          rw [hx] at h1
          cases h1
          exact h3
        replace hQ := Lib.hid ((hQ.out.grew k4).grew k5)
        have hl1 := rowI_le kF v L
        have hl2 := rowI_le kT v L
        have hz5 := k5.size
        have hZ1 : Hid (∀ (r : Nat) (z : Int), (rowI kF v L)[r]? = some z → ∃ j : Nat, z = (j : Int) ∧ kF j = v ∧ cnt kF v j = r ∧ j < L) := fun r z h => rowI_at h
        have hZ2 : Hid (∀ (r : Nat) (z : Int), (rowI kT v L)[r]? = some z → ∃ j : Nat, z = (j : Int) ∧ kT j = v ∧ cnt kT v j = r ∧ j < L) := fun r z h => rowI_at h
        have hY1 : Hid (cnt kF v L = (rowI kF v L).length) := (rowI_length kF v L).symm
        have hY2 : Hid (cnt kT v L = (rowI kT v L).length) := (rowI_length kT v L).symm
        obtain ⟨z1, hz1⟩ : ∃ z, rowI kF v L = z := ⟨_, rfl⟩
        obtain ⟨z2, hz2⟩ : ∃ z, rowI kT v L = z := ⟨_, rfl⟩
        have HZ1 := Lib.hid hz1
        rw [hz1] at hZ1 hY1 t1 hl1 ho1
        rw [hz2] at hZ2 hY2 t2 hl2
        rw [hz1] at o1
        try rw [hz1]
        try rw [hz2]
        obtain ⟨l1, hle1⟩ : ∃ l, z1.length = l := ⟨_, rfl⟩
        obtain ⟨l2, hle2⟩ : ∃ l, z2.length = l := ⟨_, rfl⟩
        have HE1 := Lib.hid hle1
        have HE2 := Lib.hid hle2
        rw [hle1] at hY1 t1 hl1 ho1
        rw [hle2] at hY2 t2 hl2
        try rw [hle1]
        try rw [hle2]
        obtain ⟨b1, hb1⟩ : ∃ b, wr.heap.size = b := ⟨_, rfl⟩
        obtain ⟨b2, hb2⟩ : ∃ b, w4.heap.size = b := ⟨_, rfl⟩
        rw [hb1] at t1 hlt4 hzk hzq
        rw [hb2] at t2 ho1 hzk
        have hS1 : Hid (∃ f : Nat → Int, Q w w5 r1 B a n A L c es gO gI (comeF kF v 0) (comeF kT v 0) ∧ IntsT w5 b1 A1 l1 f ∧ (∀ i z, 0 ≤ i → z1[i]? = some z → f i = z) ∧ IntsT w5 b2 A2 l2 (fun i => z2.getD i 0)) :=
          ⟨_, hQ.out, t1, fun i z _ h => getD_of h, t2⟩
        have hgx : Hid (0 < l2 → ∀ x, A2 = some x → b2 ≤ x.block) := fun h0 x hx => by
          obtain ⟨g, h1, h2, _⟩ := t2 h0
          rw [hx] at h1
          cases h1
          exact h2
        clear hQ t1 t2 o1 o2 hadj hz1 hz2 hle1 hle2 hb1 hb2 hI1 k4 k5 hz5 c0 c1
        go_wp2_with fail
        go_loopw [10] (fun i wr => ∃ r : Nat, r ≤ l1 ∧ i = .int .i64 r ∧ Hid (∃ f : Nat → Int, Q w wr r1 B a n A L c es gO gI (comeF kF v r) (comeF kT v 0) ∧ IntsT wr b1 A1 l1 f ∧ (∀ i z, r ≤ i → z1[i]? = some z → f i = z) ∧ IntsT wr b2 A2 l2 (fun i => z2.getD i 0))) (fun i _ => l1 - (intOf i).toNat)
        case atStart => exact ⟨0, by omega, rfl, hS1⟩
        case round =>
          clear hS1
          obtain ⟨r, hr, rfl, hS⟩ := hrel
          by_cases hrl : r < l1
          · obtain ⟨f, hQ, t1, hf, t2⟩ := hS.out
            obtain ⟨z, hz⟩ : ∃ z, z1[r]? = some z := ⟨_, List.getElem?_eq_getElem (by rw [HE1.out]; exact hrl)⟩
            obtain ⟨j, rfl, hj1, hj2, hj3⟩ := hZ1.out r z hz
            obtain ⟨g, hA1, hgb, hgl, iG⟩ := t1 (by omega)
            have hgm := ho1.out _ hA1 (by omega)
            subst hA1
            have cg := iG.cell hrl
            rw [hf r _ (Nat.le_refl _) hz] at cg
            have fg := iG.frozen r
            obtain ⟨x, hx⟩ : ∃ x, es[j]? = some x := ⟨_, List.getElem?_eq_getElem (by rw [HL.out]; exact hj3)⟩
            obtain ⟨b, off, hAe, hb, e0, e1, e2⟩ := HE.out j x hx
            have hkk := (hkF.out j x hx).1
            obtain ⟨p, q, rr⟩ := x
            subst hAe
            replace e0 := hQ.kept.cell e0
            dsimp only at e0 hkk
            rw [hj1] at hkk
            subst hkk
            have cb := hQ.box.cell 1
            simp at cb
            have co := hQ.out.cell hj3
            have fo := hQ.out.frozen j
            have hcn := comeF_new (key := kF) hj1 hj2
            rw [hcn.1] at co
            have hcs := Lib.hid (comeF_same (key := kF) hj1 hj2)
            have hc1 := Lib.hid hcn.2
            have n1 : ¬ g = gO := by omega
            have n2 : ¬ gO = g := by omega
            have n3 : ¬ gI = g := by omega
            have hbr : b < r1 := by rw [← HR1.out]; exact hb
            have m1 : ¬ b = gO := by omega
            have m2 : ¬ r1 = gO := by omega
            have j0 : (0 : Int) ≤ (j : Int) := by omega
            have j1 : (j : Int) < (L : Int) := by omega
            have r0 : (0 : Int) ≤ (r : Int) := by omega
            have r1' : (r : Int) < (l1 : Int) := by omega
            have hf' := Lib.hid hf
            have hQ' := Lib.hid hQ
            have t1' := Lib.hid iG
            have t2' := Lib.hid t2
            clear hS hQ t1 hf t2 iG hz hj1 hj2 hcn hx
            go_wp2_with fail
            go_quiet (fail)
            go_wp2
            have hw2 : w.heap.size ≤ B := by rw [HR1.out]; omega
            have hQ2 := Lib.hid (((hQ'.out.grew ((Kept.refl (fun _ => False) wr).drewN nq)).setO (by omega) hw2 (by omega) hne' hj3 1 hc1.out hcs.out).setL (g := g) (by omega) hw2 (by omega) n2 n3 r (.int .i64 (-1)))
            have hT1 : Hid (IntsT (((wr.drewN nq).setCell ⟨gO, j, none⟩ (.int .i64 1)).setCell ⟨g, r, none⟩ (.int .i64 (-1))) b1 (some ⟨g, 0, none⟩) l1 (fun i => if i = r then -1 else f i)) := fun _ =>
              ⟨g, rfl, hgb, by simpa [World.setCell] using hgl, ((t1'.out.grew ((Kept.refl (fun _ => False) wr).drewN nq)).far (p := ⟨gO, j, none⟩) n1 _).set hrl (-1) (if_pos rfl) (fun j _ hj => if_neg hj)⟩
            have hT2 := Lib.hid (((t2'.out.grew ((Kept.refl (fun _ => False) wr).drewN nq)).far (g := gO) (i := j) (fun h0 x hx e => by have := hgx.out h0 x hx; omega) (.int .i64 1)).far (g := g) (i := r) (fun h0 x hx e => by have := hgx.out h0 x hx; omega) (.int .i64 (-1)))
            have hF1 : Hid (∀ i z, r + 1 ≤ i → z1[i]? = some z → (fun i => if i = r then -1 else f i) i = z) := fun i z hi hz => by
              show (if i = r then -1 else f i) = z
              rw [if_neg (by omega)]
              exact hf'.out i z (by omega) hz
            clear hQ' t1' t2' hf' e0 co fo cg fg cb
            go_roundw
            case rel => exact ⟨r + 1, by omega, by go_num, _, hQ2.out, hT1.out, hF1.out, hT2.out⟩
            case measure => simp [intOf]; omega
          · obtain rfl : l1 = r := by omega
            obtain ⟨f, hQ, _, _, t2⟩ := hS.out
            have hS3 : Hid (Q w wr r1 B a n A L c es gO gI (comeF kF (v + 1) 0) (comeF kT v 0) ∧ IntsT wr b2 A2 l2 (fun i => z2.getD i 0)) :=
              ⟨hQ.congr (fun i hi => by rw [← comeF_next hi, hY1.out]) (fun _ _ => rfl), t2⟩
            clear hS hQ t2 hZ1 ho1 hY1
            go_wp2_with fail
            go_loopw [11] (fun i wr => ∃ r : Nat, r ≤ l2 ∧ i = .int .i64 r ∧ Hid (Q w wr r1 B a n A L c es gO gI (comeF kF (v + 1) 0) (comeF kT v r) ∧ IntsT wr b2 A2 l2 (fun i => z2.getD i 0))) (fun i _ => l2 - (intOf i).toNat)
            case atStart => exact ⟨0, by omega, rfl, hS3⟩
            case round =>
              clear hS3
              obtain ⟨r, hr, rfl, hS⟩ := hrel
              by_cases hrl : r < l2
              · obtain ⟨hQ, t2⟩ := hS.out
                obtain ⟨z, hz⟩ : ∃ z, z2[r]? = some z := ⟨_, List.getElem?_eq_getElem (by rw [HE2.out]; exact hrl)⟩
                obtain ⟨j, rfl, hj1, hj2, hj3⟩ := hZ2.out r z hz
                obtain ⟨g, hA2, hgb, hgl, iG⟩ := t2 (by omega)
                have hgI := hgx.out (by omega) _ hA2
                have cg := iG.cell hrl
                rw [getD_of hz] at cg
                have hA2' := hA2
                subst hA2
                obtain ⟨x, hx⟩ : ∃ x, es[j]? = some x := ⟨_, List.getElem?_eq_getElem (by rw [HL.out]; exact hj3)⟩
                obtain ⟨b, off, hAe, hb, e0, e1, e2⟩ := HE.out j x hx
                have hkk := (hkT.out j x hx).1
                obtain ⟨p, q, rr⟩ := x
                subst hAe
                replace e1 := hQ.kept.cell e1
                dsimp only at e1 hkk
                rw [hj1] at hkk
                subst hkk
                have cb := hQ.box.cell 1
                simp at cb
                have co := hQ.inn.cell hj3
                have fo := hQ.inn.frozen j
                have hcn := comeF_new (key := kT) hj1 hj2
                rw [hcn.1] at co
                have hcs := Lib.hid (comeF_same (key := kT) hj1 hj2)
                have hc1 := Lib.hid hcn.2
                have j0 : (0 : Int) ≤ (j : Int) := by omega
                have j1 : (j : Int) < (L : Int) := by omega
                have r0 : (0 : Int) ≤ (r : Int) := by omega
                have r1' : (r : Int) < (l2 : Int) := by omega
                have hQ' := Lib.hid hQ
                have t2' := Lib.hid t2
                clear hS hQ t2 iG hz hj1 hj2 hcn hx
                go_wp2_with fail
                go_quiet (fail)
                go_wp2
                have hw2 : w.heap.size ≤ B := by rw [HR1.out]; omega
                have hQ2 := Lib.hid ((hQ'.out.grew ((Kept.refl (fun _ => False) wr).drewN nq)).setI (by omega) hw2 (by omega) hne hj3 1 hc1.out hcs.out)
                have hT2 := Lib.hid ((t2'.out.grew ((Kept.refl (fun _ => False) wr).drewN nq)).far (g := gI) (i := j) (fun _ x hx => by cases hx; show g ≠ gI; omega) (.int .i64 1))
                clear hQ' t2' e1 co fo cg cb
                go_roundw
                case rel => exact ⟨r + 1, by omega, by go_num, hQ2.out, hT2.out⟩
                case measure => simp [intOf]; omega
              · obtain rfl : l2 = r := by omega
                have hQ := Lib.hid (Q.congr (fO' := comeF kF (v + 1) 0) (fI' := comeF kT (v + 1) 0) hS.out.1 (fun _ _ => rfl) (fun i hi => by rw [← comeF_next (v := v) hi, hY2.out]))
                clear hS hZ2 hY2 HE1 HE2
                have b6 := hQ.out.box
                have hO2 := Lib.hid (fun W (k : Grew wr W) => hOut.out W B a v (hQ.out.adj.grew k) hlt)
                have hR2 := Lib.hid (fun W (k : Grew wr W) => hRow.out W v (hQ.out.kept.trans k))
                go_wp2_with fail
                refine wp_region_grow [] (fun _ => False) (by kernel_rfl) ?_
                simp only [List.size_toArray, List.length_cons, List.length_nil, Nat.reduceAdd]
                refine wpAnyG_pure 0 138 (v := ?_) rfl (by kernel_rfl) rfl (by rfl) (fun w' => ?_) ?_
                rotate_left
                · go_simp <;> with_reducible rfl
                simp only [List.setIfInBounds_toArray, List.set_cons_zero, List.set_cons_succ]
                refine wpAnyG_pure 1 139 (v := ?_) rfl (by kernel_rfl) rfl (by rfl) (fun w' => ?_) ?_
                rotate_left
                · go_simp <;> with_reducible rfl
                simp only [List.setIfInBounds_toArray, List.set_cons_zero, List.set_cons_succ]
                refine wpAnyG_take 3 141 (v := ?_) rfl (by kernel_rfl) rfl (by rfl) (fun w' hG' => ?_) ?_
                rotate_left
                · have hx0 := (b6.drew.grew hG').cell 0
                  have hx1 := (b6.drew.grew hG').cell 1
                  simp at hx0 hx1
                  go_simp <;> with_reducible rfl
                simp only [List.setIfInBounds_toArray, List.set_cons_zero, List.set_cons_succ]
                refine wpAnyG_pure 4 142 (v := ?_) rfl (by kernel_rfl) rfl (by rfl) (fun w' => ?_) ?_
                rotate_left
                · go_simp <;> with_reducible rfl
                simp only [List.setIfInBounds_toArray, List.set_cons_zero, List.set_cons_succ]
                refine wpAnyG_step 2 140 rfl (by kernel_rfl) rfl (by rfl) (fun K hK' => ?_)
                go_simp
                refine (hO2.out _ (Kept.refl _ _).drew).mono ?_
                rintro e w6 ⟨u6, rfl, o6, k6⟩
                refine hK' _ _ (fun _ => k6) ?_
                clear hK'
                simp only [List.setIfInBounds_toArray, List.set_cons_zero, List.set_cons_succ]
                refine wpAnyG_step 5 143 rfl (by kernel_rfl) rfl (by rfl) (fun K hK' => ?_)
                go_simp
                refine (hR2.out _ ((Kept.refl _ _).drew.trans k6)).mono ?_
                rintro e w7 ⟨u7, rfl, o7, k7⟩
                refine hK' _ _ (fun _ => k7) ?_
                clear hK'
                simp only [List.setIfInBounds_toArray, List.set_cons_zero, List.set_cons_succ]
                refine wpAnyG_step 6 144 rfl (by kernel_rfl) rfl (by rfl) (fun K hK' => ?_)
                go_simp
                refine (same_yes u6 u7 _ _ _ _ w7 (o6.grew k7) o7 (by have := rowI_le kF v L; omega) rfl).mono ?_
                rintro e w8 ⟨rfl, k8⟩
                refine hK' _ _ (fun _ => k8) ?_
                clear hK'
                simp only [List.setIfInBounds_toArray, List.set_cons_zero, List.set_cons_succ]
                refine wpAnyG_pure 7 145 (v := ?_) rfl (by kernel_rfl) rfl (by rfl) (fun w' => ?_) ?_
                rotate_left
                · go_simp <;> with_reducible rfl
                simp only [List.setIfInBounds_toArray, List.set_cons_zero, List.set_cons_succ]
                refine wpAnyG_done (by kernel_rfl) ?_
                have k8 : Grew wr w8 := (((Kept.refl _ _).drew.trans k6).trans k7).trans k8
                have hQ8 := Lib.hid (hQ.out.grew k8)
                clear hQ hO2 hR2 o6 o7 k6 k7 k8 b6 hgx
                go_wp2_with fail
                go_roundw
                case rel => exact ⟨v + 1, by omega, by go_num, hQ8⟩
                case measure => simp [intOf]; omega
      · obtain rfl : n = v := by omega
        have hQ1 : Hid (IntsF wr gO L (fun _ => 1) ∧ IntsF wr gI L (fun _ => 1) ∧ Grew w wr) := ⟨hQ.out.out.congr (fun i hi => comeF_all (hklF.out i hi)), hQ.out.inn.congr (fun i hi => comeF_all (hklT.out i hi)), hQ.out.kept⟩
        clear hQ
        go_wp2_with fail
        go_loopw [12] (fun i wx => ∃ r : Nat, r ≤ L ∧ i = .int .i64 r ∧ Hid (wr = wx)) (fun i _ => L - (intOf i).toNat)
        case atStart => exact ⟨0, by omega, rfl, Lib.hid rfl⟩
        case round =>
          obtain ⟨r, hr, rfl, HW⟩ := hrel
          obtain rfl := HW.out
          by_cases hrl : r < L
          · have co := hQ1.out.1.cell hrl
            have ci := hQ1.out.2.1.cell hrl
            have r0 : (0 : Int) ≤ (r : Int) := by omega
            have r1' : (r : Int) < (L : Int) := by omega
            clear HW c0 c1
            go_wp2_with fail
            go_roundw
            case rel => exact ⟨r + 1, by omega, by go_num, Lib.hid trivial⟩
            case measure => simp [intOf]; omega
          · obtain rfl : L = r := by omega
            have hA1 := Lib.hid (hAl.out wr)
            clear c0 c1 HW
            go_wp2_with fail
            refine hA1.out.mono ?_
            rintro e w9 ⟨rfl, k9⟩
            go_wp2_with fail
            go_ret
            exact ⟨rfl, hQ1.out.2.2.trans k9⟩

set_option maxRecDepth 100000 in
set_option maxHeartbeats 1000000 in
theorem once_law (n : Int) (A : Option Addr) (c : Nat) (es : List Edg) (w : World) (h : RowE w A es) (hl : es.length ≤ 9223372036854775807) :
    Calls Try.prog 3 #[.agg #[i64 n, .slice A es.length c]] w fun e w' => e = .returned (.bool true) ∧ Grew w w' := by
  have hAl := Lib.hid alive_any
  have b0 := Blk.new w 24 #[i64 n, .slice A es.length c]
  have hK0 : Grew w (w.alloc (.cells #[i64 n, .slice A es.length c] 24)) := (Kept.refl _ _).alloc _
  by_cases hli : (n ≤ 100 ∨ 4096 < n) ∧ es.length ≤ 300
  · by_cases hr : rightF n es = 0
    · have hz := right_zero hr
      obtain ⟨m, rfl⟩ := Int.eq_ofNat_of_zero_le (show 0 ≤ n by omega)
      exact once_main m A c es w h hr (by omega) hli.2
    · have hLt := Lib.hid (light_yes n A es.length c (w.alloc (.cells #[i64 n, .slice A es.length c] 24)) hli.1 hli.2)
      have hRt := Lib.hid (fun W (k : Grew w W) => refRight_any n A c es W (h.grew k) (by omega))
      obtain ⟨f, hf⟩ : ∃ f, rightF n es = f := ⟨_, rfl⟩
      rw [hf] at hRt hr
      have hb : (f == 0) = false := by simpa using hr
      have hb' : (f != 0) = true := by simpa using hr
      obtain ⟨L, hL⟩ : ∃ L, es.length = L := ⟨_, rfl⟩
      rw [hL] at b0 hK0 hLt hRt ⊢
      clear h hf hL hl hr hli
      have c0 := b0.cell 0
      have c1 := b0.cell 1
      simp at c0 c1
      go_enter Try.func3, Try.ntmps3
      go_wp2_with fail
      refine hLt.out.mono ?_
      rintro e w1 ⟨rfl, k1⟩
      replace b0 := b0.grew k1
      replace hK0 := hK0.trans k1
      replace c0 := b0.cell 0
      replace c1 := b0.cell 1
      simp at c0 c1
      clear hLt k1
      go_wp2_with fail
      refine (hRt.out _ hK0).mono ?_
      rintro e w2 ⟨rfl, k2⟩
      go_wp2_with fail
      refine (hAl.out _).mono ?_
      rintro e w3 ⟨rfl, k3⟩
      go_wp2_with fail
      go_ret
      exact ⟨rfl, (hK0.trans k2).trans k3⟩
  · have hLt := Lib.hid (light_no n A es.length c (w.alloc (.cells #[i64 n, .slice A es.length c] 24)) hl hli)
    obtain ⟨L, hL⟩ : ∃ L, es.length = L := ⟨_, rfl⟩
    rw [hL] at b0 hK0 hLt ⊢
    clear h hL hl hli
    have c0 := b0.cell 0
    have c1 := b0.cell 1
    simp at c0 c1
    go_enter Try.func3, Try.ntmps3
    go_wp2_with fail
    refine hLt.out.mono ?_
    rintro e w1 ⟨rfl, k1⟩
    go_wp2_with fail
    refine (hAl.out _).mono ?_
    rintro e w3 ⟨rfl, k3⟩
    go_wp2_with fail
    go_ret
    exact ⟨rfl, (hK0.trans k1).trans k3⟩
end Go.Proofs.Ytmpnaleenehkgaa
