/- A node's row: of, row, Out, In. -/
import Derived.Test.YtmpnaleenehkgaaNewA
namespace Go.Proofs.Ytmpnaleenehkgaa
open Go.RowKit

/-- The indices of a key, as ints. -/
def rowI (key : Nat → Nat) (v m : Nat) : List Int := (rowN key v m).map (fun k : Nat => (k : Int))
theorem rowI_length (key : Nat → Nat) (v m : Nat) : (rowI key v m).length = cnt key v m := by simp [rowI, rowN_length]
theorem rowI_at {key : Nat → Nat} {v m r : Nat} {z : Int} (h : (rowI key v m)[r]? = some z) : ∃ j : Nat, z = (j : Int) ∧ key j = v ∧ cnt key v j = r ∧ j < m := by
  unfold rowI at h
  rw [List.getElem?_map] at h
  obtain ⟨j, hj, rfl⟩ := Option.map_eq_some_iff.1 h
  obtain ⟨a, b, c⟩ := rowN_at key v m r j hj
  exact ⟨j, rfl, a, b, c⟩
theorem Laid.row {w : World} {gE gB n m v : Nat} {key : Nat → Nat} {f : Nat → Int} (h : Laid w gE gB n m key f) (hv : v < n) : RowI w (some ⟨gE, pre key m v, none⟩) (rowI key v m) :=
  h.edges.row _ fun r z hz => by
    obtain ⟨j, rfl, h1, h2, h3⟩ := rowI_at hz
    have h4 := h.place j h3
    rw [h1, h2] at h4
    have h5 := place_lt (key := key) h.keys h3
    rw [h1, h2] at h5
    exact ⟨h5, h4⟩
/-- What 'of' answers. -/
def OfE (key : Nat → Nat) (v m : Nat) (w : World) (e : Ending) (w' : World) : Prop := ∃ x c, e = .returned (.slice (some x) (cnt key v m) c) ∧ RowI w' (some x) (rowI key v m) ∧ Grew w w'
theorem of_any (w : World) (gE gB n m v : Nat) (key : Nat → Nat) (f : Nat → Int) (h : Laid w gE gB n m key f) (hv : v < n) (hn : n ≤ 60000) (hm : m ≤ 60000) :
    Calls Try.prog 35 #[.agg #[rowV gE m, rowV gB (n + 1)], i64 v] w fun e w' => OfE key v m w e w' := by
  have HR := Lib.hid (fun W (k : Grew w W) => (h.row hv).grew k)
  have HZ : Hid (cnt key v m = 0 → rowI key v m = []) := fun h => List.eq_nil_of_length_eq_zero (by rw [rowI_length]; exact h)
  have b0 := Blk.new w 51 #[rowV gE m, rowV gB (n + 1)]
  have c0 := b0.cell 0
  have c1 := b0.cell 1
  simp at c0 c1
  have h1 := (h.begin.alloc (.cells #[rowV gE m, rowV gB (n + 1)] 51)).cell (i := v) (by omega)
  have h2 := (h.begin.alloc (.cells #[rowV gE m, rowV gB (n + 1)] 51)).cell (i := v + 1) (by omega)
  have hp := pre_le key m n (v + 1) h.keys (by omega)
  have he : pre key m (v + 1) = pre key m v + cnt key v m := rfl
  rw [he] at h2 hp
  obtain ⟨a, ha⟩ : ∃ a, pre key m v = a := ⟨_, rfl⟩
  obtain ⟨b, hb⟩ : ∃ b, cnt key v m = b := ⟨_, rfl⟩
  rw [ha] at h1 HR
  rw [ha, hb] at h2 hp
  have HE : Hid (∀ W c, Grew w W → OfE key v m w (.returned (.slice (some ⟨gE, a, none⟩) b c)) W) := fun W c k => by rw [← hb]; exact ⟨_, c, rfl, HR.out W k, k⟩
  have HE0 : Hid (∀ W c, b = 0 → Grew w W → OfE key v m w (.returned (.slice (some ⟨gE, 0, none⟩) 0 c)) W) := fun W c h0 k => by
    rw [← hb] at h0
    refine ⟨_, c, by rw [h0], ?_, k⟩
    rw [HZ.out h0]
    exact RowI.nil _ _
  have v0 : (0 : Int) ≤ (v : Int) := by omega
  have v1 : (v : Int) < (n : Int) + 1 := by omega
  have v2 : (v : Int) + 1 < (n : Int) + 1 := by omega
  have v3 : (0 : Int) ≤ (v : Int) + 1 := by omega
  have wv : IntKind.i64.wrap ((v : Int) + 1) = (v : Int) + 1 := IntWalk.i64_in _ (by omega)
  have tv : ((v : Int) + 1).toNat = v + 1 := by omega
  have d1 : decide ((v : Int) < 0) = false := decide_eq_false (by omega)
  have d2 : decide ((n : Int) + 1 ≤ (v : Int) + 1) = false := decide_eq_false (by omega)
  have d3 : decide ((n : Int) ≤ (v : Int)) = false := decide_eq_false (by omega)
  have s1 : ((a + b : Nat) : Int) = (a : Int) + (b : Int) := by omega
  clear h he ha hb
  go_enter Try.func35, Try.ntmps35
  go_wp2_with fail
  go_quiet (fail)
  all_goals go_wp2
  all_goals go_ret
  all_goals
    have k : Grew w ((w.alloc (.cells #[rowV gE m, rowV gB (n + 1)] 51)).drewN nq) := ((Kept.refl _ _).alloc _).drewN _
    first
    | exact HE.out _ _ k
    | exact HE0.out _ _ (by omega) k

/-- A node's row, out or in. -/
theorem row_any (w : World) (B a n v : Nat) (es : List Edg) (back : Bool) (h : AdjB w B a n es) (hv : v < n) (hn : n ≤ 60000) (hm : es.length ≤ 60000) :
    Calls Try.prog 27 #[pt a, i64 v, .bool back] w fun e w' => ∃ x c, e = .returned (.slice (some x) (cnt (if back then keyT es else keyF es) v es.length) c) ∧ RowI w' (some x) (rowI (if back then keyT es else keyF es) v es.length) ∧ Grew w w' := by
  obtain ⟨AE, c, g1, b1, g2, b2, f1, f2, hb, _, l1, l2, _⟩ := h.parts
  have c3 := hb.cell 2
  have c4 := hb.cell 3
  have c5 := hb.cell 4
  have c6 := hb.cell 5
  simp at c3 c4 c5 c6
  cases back with
  | false =>
    have hO := of_any w g1 b1 n es.length v (keyF es) f1 l1 hv hn hm
    unfold OfE at hO
    replace hO := Lib.hid hO
    simp only [Bool.false_eq_true, if_false]
    obtain ⟨b, hbb⟩ : ∃ b, cnt (keyF es) v es.length = b := ⟨_, rfl⟩
    obtain ⟨zs, hzs⟩ : ∃ zs, rowI (keyF es) v es.length = zs := ⟨_, rfl⟩
    rw [hbb, hzs] at hO
    rw [hbb, hzs]
    obtain ⟨L, hL⟩ : ∃ L, es.length = L := ⟨_, rfl⟩
    rw [hL] at hO c3 c5
    clear h hb l1 l2 hbb hL hzs
    go_enter Try.func27, Try.ntmps27
    go_wp2_with fail
    refine hO.out.mono ?_
    rintro e w1 ⟨x, c', rfl, hr, k⟩
    go_wp2_with fail
    go_ret
    exact ⟨x, c', rfl, hr, k⟩
  | true =>
    have hO := of_any w g2 b2 n es.length v (keyT es) f2 l2 hv hn hm
    unfold OfE at hO
    replace hO := Lib.hid hO
    simp only [if_true]
    obtain ⟨b, hbb⟩ : ∃ b, cnt (keyT es) v es.length = b := ⟨_, rfl⟩
    obtain ⟨zs, hzs⟩ : ∃ zs, rowI (keyT es) v es.length = zs := ⟨_, rfl⟩
    rw [hbb, hzs] at hO
    rw [hbb, hzs]
    obtain ⟨L, hL⟩ : ∃ L, es.length = L := ⟨_, rfl⟩
    rw [hL] at hO c3 c5
    clear h hb l1 l2 hbb hL hzs
    go_enter Try.func27, Try.ntmps27
    go_wp2_with fail
    refine hO.out.mono ?_
    rintro e w1 ⟨x, c', rfl, hr, k⟩
    go_wp2_with fail
    go_ret
    exact ⟨x, c', rfl, hr, k⟩
theorem rowI_le (key : Nat → Nat) (v m : Nat) : (rowI key v m).length ≤ m := by rw [rowI_length]; exact cnt_le key v m
theorem out_any (w : World) (B a n v : Nat) (es : List Edg) (h : AdjB w B a n es) (hv : v < n) (hn : n ≤ 60000) (hm : es.length ≤ 60000) :
    Calls Try.prog 9 #[pt a, i64 v] w fun e w' => ∃ u, e = .returned u ∧ OwnI w' w.heap.size u (rowI (keyF es) v es.length) ∧ Grew w w' := by
  have hR := Lib.hid (row_any w B a n v es false h hv hn hm)
  simp only [Bool.false_eq_true, if_false] at hR
  have hle := rowI_le (keyF es) v es.length
  have hlen := rowI_length (keyF es) v es.length
  rw [← hlen] at hR
  obtain ⟨zs, hzs⟩ : ∃ zs, rowI (keyF es) v es.length = zs := ⟨_, rfl⟩
  rw [hzs] at hR hle ⊢
  have hC := Lib.hid (fun W x c (r : RowI W (some x) zs) => iclone_any W (some x) c zs r (fun h => by cases h) (by omega))
  obtain ⟨L, hL⟩ : ∃ L, zs.length = L := ⟨_, rfl⟩
  rw [hL] at hR hC
  clear h hlen hzs hle hL
  go_enter Try.func9, Try.ntmps9
  go_wp2_with fail
  refine hR.out.mono ?_
  rintro e w1 ⟨x, c', rfl, hr, k⟩
  have hC1 := Lib.hid (hC.out w1 x c' hr)
  have hz := k.size
  clear hr hC hR
  go_wp2_with fail
  refine hC1.out.mono ?_
  rintro e w2 ⟨u, rfl, ho, k2⟩
  go_wp2_with fail
  go_ret
  exact ⟨u, rfl, ho.base hz, k.trans k2⟩
theorem in_any (w : World) (B a n v : Nat) (es : List Edg) (h : AdjB w B a n es) (hv : v < n) (hn : n ≤ 60000) (hm : es.length ≤ 60000) :
    Calls Try.prog 10 #[pt a, i64 v] w fun e w' => ∃ u, e = .returned u ∧ OwnI w' w.heap.size u (rowI (keyT es) v es.length) ∧ Grew w w' := by
  have hR := Lib.hid (row_any w B a n v es true h hv hn hm)
  simp only [if_true] at hR
  have hle := rowI_le (keyT es) v es.length
  have hlen := rowI_length (keyT es) v es.length
  rw [← hlen] at hR
  obtain ⟨zs, hzs⟩ : ∃ zs, rowI (keyT es) v es.length = zs := ⟨_, rfl⟩
  rw [hzs] at hR hle ⊢
  have hC := Lib.hid (fun W x c (r : RowI W (some x) zs) => iclone_any W (some x) c zs r (fun h => by cases h) (by omega))
  obtain ⟨L, hL⟩ : ∃ L, zs.length = L := ⟨_, rfl⟩
  rw [hL] at hR hC
  clear h hlen hzs hle hL
  go_enter Try.func10, Try.ntmps10
  go_wp2_with fail
  refine hR.out.mono ?_
  rintro e w1 ⟨x, c', rfl, hr, k⟩
  have hC1 := Lib.hid (hC.out w1 x c' hr)
  have hz := k.size
  clear hr hC hR
  go_wp2_with fail
  refine hC1.out.mono ?_
  rintro e w2 ⟨u, rfl, ho, k2⟩
  go_wp2_with fail
  go_ret
  exact ⟨u, rfl, ho.base hz, k.trans k2⟩
theorem edges_any (w : World) (B a n : Nat) (es : List Edg) (h : AdjB w B a n es) : Calls Try.prog 16 #[pt a] w fun e w' => e = .returned (i64 es.length) ∧ w = w' := by
  obtain ⟨AE, c, g1, b1, g2, b2, f1, f2, hb, _⟩ := h.parts
  have c1 := hb.cell 1
  simp at c1
  obtain ⟨L, hL⟩ : ∃ L, es.length = L := ⟨_, rfl⟩
  rw [hL] at c1 ⊢
  clear h hb hL
  go_enter Try.func16, Try.ntmps16
  go_wp2_with fail
  go_ret
  exact ⟨rfl, rfl⟩

set_option maxHeartbeats 1000000 in
theorem refRow_any (n : Int) (A : Option Addr) (c v : Nat) (es : List Edg) (w : World) (h : RowE w A es) (hl : es.length ≤ 60000) (hk : ∀ k e, es[k]? = some e → e.1 = (keyF es k : Int)) :
    Calls Try.prog 12 #[.agg #[i64 n, .slice A es.length c], i64 v, .bool false] w fun e w' => ∃ u, e = .returned u ∧ OwnI w' w.heap.size u (rowI (keyF es) v es.length) ∧ Grew w w' := by
  obtain ⟨i0, hi, hz0, hz1, hz2⟩ := info_parts info_int
  obtain ⟨key, hkey⟩ : ∃ key, keyF es = key := ⟨_, rfl⟩
  rw [hkey] at hk ⊢
  have HK := Lib.hid hk
  have HE := Lib.hid h
  obtain ⟨L, hL⟩ : ∃ L, es.length = L := ⟨_, rfl⟩
  have HL := Lib.hid hL
  rw [hL] at hl ⊢
  have b0 := Blk.new w 24 #[i64 n, .slice A L c]
  have hK0 : Grew w (w.alloc (.cells #[i64 n, .slice A L c] 24)) := (Kept.refl _ _).alloc _
  have hO0 : Hid (OwnI (w.alloc (.cells #[i64 n, .slice A L c] 24)) (w.heap.size + 1) (.slice none 0 0) (rowI key v 0)) := World.ownsRow_nil _ _ _ _
  have hz0' : w.heap.size + 1 ≤ (w.alloc (.cells #[i64 n, .slice A L c] 24)).heap.size := by simp
  clear h hk hL hkey
  go_enter Try.func12, Try.ntmps12
  go_wp2_with fail
  go_loopw [7, 8] (fun o i wr => ∃ k : Nat, k ≤ L ∧ i = .int .i64 k ∧ Hid (OwnI wr (w.heap.size + 1) o (rowI key v k)) ∧ Blk wr w.heap.size 24 #[i64 n, .slice A L c] ∧ Grew w wr ∧ w.heap.size + 1 ≤ wr.heap.size) (fun o i _ => L - (intOf i).toNat)
  case atStart => exact ⟨0, by omega, rfl, hO0, b0, hK0, hz0'⟩
  case round =>
    clear hO0 b0 hK0 hz0'
    obtain ⟨k, hk, rfl, HS, b0, hK, hsz⟩ := hrel
    have c0 := b0.cell 0
    have c1 := b0.cell 1
    simp at c0 c1
    by_cases hlt : k < L
    · obtain ⟨x, hx⟩ : ∃ x, es[k]? = some x := ⟨_, List.getElem?_eq_getElem (by rw [HL.out]; exact hlt)⟩
      obtain ⟨b, off, hAe, hb, e0, e1, e2⟩ := HE.out k x hx
      have hkk := HK.out k x hx
      obtain ⟨p, q, r⟩ := x
      subst hAe
      replace e0 := hK.cell e0
      replace e1 := hK.cell e1
      dsimp only at e0 e1 hkk
      have k0 : (0 : Int) ≤ (k : Int) := by omega
      have k1 : (k : Int) < (L : Int) := by omega
      by_cases hv : key k = v
      · have hpv : p = (v : Int) := by rw [hkk, hv]
        subst hpv
        have hown := HS.out
        have hlen := rowI_le key v k
        obtain ⟨M, hM⟩ : ∃ M, rowI key v k = M := ⟨_, rfl⟩
        have HM : Hid (rowI key v (k + 1) = M ++ [(k : Int)]) := by
          show _ = _
          rw [← hM]
          unfold rowI
          rw [rowN_yes hv, List.map_append]; rfl
        rw [hM] at hown hlen
        have hown2 : wr.ownsRow (w.heap.size + 1) 3 1 u7 M.length (M.map i64) := hown
        clear HS hM hx hkk hv hown
        go_wp2_with (at_builtin; refine wpList_append_own _ rfl _ _ 32 rfl (w.heap.size + 1) 3 i0 (.int .i64 0) 1 8 Try.underlying32 hi hz0 hz1 hz2 rfl (by decide) _ _ _ rfl (hown2.alloc _) ⟨wr.heap.size, 0, none⟩ 1 1 [.int .i64 (k : Int)] rfl rfl (cell_one_new _ _ _) (by simp [Value.oneCell']) (by unfold maxLen; omega) (by omega) (by simp; omega) ?_; intro v1 w1 hown1 hgrow1 _)
        go_roundw
        case rel =>
          refine ⟨k + 1, by omega, by go_num, ?_, ?_, ?_, ?_⟩
          · show OwnI _ _ _ _
            rw [HM.out]
            unfold OwnI
            simpa using hown1
          · exact ((b0.alloc _).grown hgrow1 (fun e => by have := (hown2.lt w.heap.size e.symm).1; omega))
          · exact (hK.alloc _).grown hgrow1 (fun k hk => .inr (by have := (hown2.lt k hk).1; omega))
          · exact Nat.le_trans (by simp; omega) hgrow1.size
        case measure => simp [intOf]; omega
      · have hpv : (p == (v : Int)) = false := by
          rw [hkk]; simp; omega
        have HS1 : Hid (OwnI wr (w.heap.size + 1) u7 (rowI key v (k + 1))) := by
          show OwnI _ _ _ _
          unfold rowI
          rw [rowN_no hv]
          exact HS.out
        clear HS hx hkk hv
        go_wp2_with fail
        go_roundw
        case rel => exact ⟨k + 1, by omega, by go_num, HS1, b0, hK, hsz⟩
        case measure => simp [intOf]; omega
    · obtain rfl : L = k := by omega
      go_wp2_with fail
      go_ret
      exact ⟨_, rfl, HS.out.base (by omega), hK⟩
end Go.Proofs.Ytmpnaleenehkgaa
