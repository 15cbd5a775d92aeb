/- The document's rows of truths: Of, Both, All. -/
import Derived.Test.YtabddnlcgmbopaaDoorOf
namespace Go.Proofs.YtabddnlcgmbopaaDoor
open Go.RowKit

/-- Block g holds truths: f, of each number below n. -/
def RowT (w : World) (g n : Nat) (f : Nat → Bool) : Prop := Blk w g 4 ((List.range n).map (fun i => Value.bool (f i))).toArray
abbrev rowV (g n : Nat) : Value := .slice (some ⟨g, 0, none⟩) n n
theorem RowT.lt {w : World} {g n : Nat} {f : Nat → Bool} (h : RowT w g n f) : g < w.heap.size := Blk.lt h
theorem RowT.cell {w : World} {g n i : Nat} {f : Nat → Bool} (h : RowT w g n f) (hi : i < n) : w.cell? ⟨g, i, none⟩ = some (.bool (f i)) := by
  have := Blk.cell h i
  rw [this]
  simp [hi]
theorem RowT.frozen {w : World} {g n : Nat} {f : Nat → Bool} (h : RowT w g n f) (i : Nat) : w.frozen? ⟨g, i, none⟩ = false := Blk.frozen h i
theorem RowT.kept {F : Nat → Prop} {w w' : World} {g n : Nat} {f : Nat → Bool} (h : RowT w g n f) (k : Kept F w w') (hF : ¬ F g) : RowT w' g n f := Blk.kept h k hF
theorem RowT.grew {w w' : World} {g n : Nat} {f : Nat → Bool} (h : RowT w g n f) (k : Grew w w') : RowT w' g n f := Blk.grew h k
theorem RowT.set {w : World} {g n i : Nat} {f : Nat → Bool} (h : RowT w g n f) (hi : i < n) (b : Bool) : RowT (w.setCell ⟨g, i, none⟩ (.bool b)) g n (putF n f (i : Int) b) := by
  have h1 := Blk.set h i (.bool b)
  have e : ((List.range n).map (fun i => Value.bool (f i))).toArray.setIfInBounds i (.bool b) = ((List.range n).map (fun j => Value.bool (putF n f (i : Int) b j))).toArray := by
    rw [List.setIfInBounds_toArray]
    congr 1
    apply List.ext_getElem?
    intro j
    by_cases hj : i = j
    · subst hj
      rw [List.getElem?_set_self (by simpa using hi)]
      simp [hi, putF_hit f b hi]
    · rw [List.getElem?_set_ne hj]
      by_cases hjn : j < n
      · simp [hjn, putF_miss f b (show (j : Int) ≠ (i : Int) by omega)]
      · simp [hjn]
  rw [e] at h1
  exact h1
theorem RowT.congr {w : World} {g n : Nat} {f f' : Nat → Bool} (h : RowT w g n f) (hf : ∀ i, i < n → f i = f' i) : RowT w g n f' := by
  have e : ((List.range n).map (fun i => Value.bool (f i))) = ((List.range n).map (fun i => Value.bool (f' i))) := by
    apply List.map_congr_left
    intro i hi
    rw [hf i (List.mem_range.1 hi)]
  unfold RowT at h ⊢
  rw [← e]
  exact h
theorem info_bool : (Tryd.prog.info? 4).map (fun i => (i.zero, i.size, i.bytes)) = some (some (.bool false), 1, 1) := by kernel_rfl
theorem made_truths (w : World) (n : Nat) : RowT (w.alloc (.cells (madeCells #[.bool false] n) 4)) w.heap.size n (fun _ => false) := by
  have e : ((List.range n).map (fun _ => Value.bool false)).toArray = madeCells #[.bool false] n := by
    apply Array.ext_getElem?
    intro j
    by_cases hj : j < n
    · simp [madeCells, Value.cells, hj, Nat.mod_one]
    · simp [madeCells, hj]
  unfold RowT
  rw [e]
  exact Blk.new _ _ _

set_option maxHeartbeats 1000000 in
theorem refOf_any (n : Nat) (A : Option Addr) (c : Nat) (l : List Int) (w : World) (hn : n ≤ 65536) (hl : l.length ≤ 1000) (hA : RowI w A l) :
    Calls Tryd.prog 16 #[i64 (n : Int), .slice A l.length c] w fun e w' => ∃ g, e = .returned (rowV g n) ∧ RowT w' g n (ofL n l (fun _ => false)) ∧ Grew w w' ∧ w.heap.size ≤ g := by
  obtain ⟨i0, hi, hz0, hz1, hz2⟩ := info_parts info_bool
  have hmk := run_make (P := Tryd.prog) w 32 4 i0 _ Tryd.underlying32 hi hz0 .i64 .i64 (n : Int) (n : Int) (by omega) (Int.le_refl _) (by rw [hz2]; omega) (by omega)
  rw [Int.toNat_natCast, hz1, Nat.mul_one] at hmk
  clear hi hz0 hz1 hz2
  obtain ⟨L, hL⟩ : ∃ L, l.length = L := ⟨_, rfl⟩
  have HL := Lib.hid hL
  rw [hL] at hl ⊢
  have HA := Lib.hid hA
  have HT : Hid (RowT (w.alloc (.cells (madeCells #[.bool false] n) 4)) w.heap.size n (ofL n (l.take 0) (fun _ => false)) ∧ Grew w (w.alloc (.cells (madeCells #[.bool false] n) 4))) := ⟨made_truths w n, (Kept.refl _ _).alloc _⟩
  clear hL hA
  go_enter Tryd.func16, Tryd.ntmps16
  go_wp2_with fail
  obtain ⟨w1, hw1⟩ : ∃ w1, w.alloc (.cells (madeCells #[.bool false] n) 4) = w1 := ⟨_, rfl⟩
  rw [hw1] at HT ⊢
  clear hw1 hmk
  obtain ⟨g, hg⟩ : ∃ g, w.heap.size = g := ⟨_, rfl⟩
  have HG := Lib.hid hg
  rw [hg] at HT ⊢
  clear hg
  go_loopw [6] (fun i wr => ∃ k : Nat, k ≤ L ∧ i = .int .i64 k ∧ Hid (RowT wr g n (ofL n (l.take k) (fun _ => false)) ∧ Grew w wr)) (fun i _ => L - (intOf i).toNat)
  case atStart => exact ⟨0, by omega, rfl, HT⟩
  case round =>
    clear HT
    obtain ⟨k, hk, rfl, HS⟩ := hrel
    by_cases hlt : k < L
    · obtain ⟨x, hx⟩ : ∃ x, l[k]? = some x := ⟨_, List.getElem?_eq_getElem (by rw [HL.out]; exact hlt)⟩
      obtain ⟨b, off, hAe, hb, h0⟩ := HA.out k x hx
      subst hAe
      replace h0 := HS.out.2.cell h0
      have i0 : (0 : Int) ≤ (k : Int) := by omega
      have i1 : (k : Int) < (L : Int) := by omega
      have HX : Hid (ofL n (l.take (k + 1)) (fun _ => false) = putF n (ofL n (l.take k) (fun _ => false)) x true) := ofL_take n l k x hx _
      clear hx
      by_cases hin : 0 ≤ x ∧ x < n
      · obtain ⟨j, rfl⟩ : ∃ j : Nat, x = (j : Int) := ⟨x.toNat, by omega⟩
        have hj : j < n := by omega
        have hc := HS.out.1.cell hj
        have hf := HS.out.1.frozen j
        have j0 : (0 : Int) ≤ (j : Int) := by omega
        have j1 : (j : Int) < (n : Int) := by omega
        have HS3 : Hid (RowT (wr.setCell ⟨g, j, none⟩ (.bool true)) g n (ofL n (l.take (k + 1)) (fun _ => false)) ∧ Grew w (wr.setCell ⟨g, j, none⟩ (.bool true))) :=
          ⟨by rw [HX.out]; exact HS.out.1.set hj true, HS.out.2.setCell (p := ⟨g, j, none⟩) (.inr (by rw [HG.out]; exact Nat.le_refl _)) _⟩
        clear HS HX hin
        go_wp2_with fail
        go_roundw
        case rel => exact ⟨k + 1, by omega, by go_num, HS3⟩
        case measure => simp [intOf]; omega
      · have HS3 : Hid (RowT wr g n (ofL n (l.take (k + 1)) (fun _ => false)) ∧ Grew w wr) := by
          refine ⟨?_, HS.out.2⟩
          rw [HX.out, putF_out (by omega)]
          exact HS.out.1
        clear HS HX
        rcases Int.lt_or_le x 0 with hx0 | hx0
        · clear hin
          go_wp2_with fail
          go_roundw
          case rel => exact ⟨k + 1, by omega, by go_num, HS3⟩
          case measure => simp [intOf]; omega
        · have hx1 : (n : Int) ≤ x := by omega
          clear hin
          go_wp2_with fail
          go_roundw
          case rel => exact ⟨k + 1, by omega, by go_num, HS3⟩
          case measure => simp [intOf]; omega
    · obtain rfl : L = k := by omega
      have HR : Hid (RowT wr g n (ofL n l (fun _ => false)) ∧ Grew w wr) := by
        have h := HS.out
        rw [List.take_of_length_le (by rw [HL.out]; exact Nat.le_refl _)] at h
        exact h
      clear HS
      go_wp2_with fail
      go_ret
      exact ⟨g, rfl, HR.out.1, HR.out.2, by rw [HG.out]; exact Nat.le_refl _⟩

/-- The numbers below n that f holds, as ints. -/
def insI (f : Nat → Bool) (n : Nat) : List Int := (ins f n).map (fun i : Nat => (i : Int))
theorem insI_yes {f : Nat → Bool} {n : Nat} (h : f n = true) : insI f (n + 1) = insI f n ++ [(n : Int)] := by simp [insI, ins_succ, h]
theorem insI_no {f : Nat → Bool} {n : Nat} (h : f n = false) : insI f (n + 1) = insI f n := by simp [insI, ins_succ, h]
theorem insI_len (f : Nat → Bool) (n : Nat) : (insI f n).length ≤ n := by simp [insI]; exact ins_len_le f n
theorem info_int : (Tryd.prog.info? 3).map (fun i => (i.zero, i.size, i.bytes)) = some (some (.int .i64 0), 1, 8) := by kernel_rfl
/-- A slice of ints of one's own. -/
def OwnI (w : World) (B : Nat) (v : Value) (zs : List Int) : Prop := w.ownsRow B 3 1 v zs.length (zs.map i64)
theorem OwnI.row {w : World} {B : Nat} {v : Value} {zs : List Int} (h : OwnI w B v zs) : ∃ A c, v = .slice A zs.length c ∧ RowI w A zs := by
  rcases h.2 with ⟨hv, h0⟩ | ⟨g, cap, cur, hv, hb, hg, rest⟩
  · exact ⟨none, 0, by rw [hv, h0], fun i z hz => by rw [List.eq_nil_of_length_eq_zero h0] at hz; simp at hz⟩
  · refine ⟨_, cap, hv, fun i z hz => ⟨g, 0, rfl, (Array.getElem?_eq_some_iff.1 hg).1, ?_⟩⟩
    subst hv
    have hi := (List.getElem?_eq_some_iff.1 hz).1
    have := World.ownsRow.cellAt h i (by omega)
    rw [Nat.zero_add]
    rw [this, List.getElem?_map, hz]
    rfl
theorem OwnI.grew {w w' : World} {B : Nat} {v : Value} {zs : List Int} (h : OwnI w B v zs) (k : Grew w w') : OwnI w' B v zs := k.own h

set_option maxHeartbeats 1000000 in
theorem refAll_any (g n : Nat) (f : Nat → Bool) (w : World) (h : RowT w g n f) (hn : n ≤ 65536) : Calls Tryd.prog 18 #[rowV g n] w fun e w' => ∃ v, e = .returned v ∧ OwnI w' w.heap.size v (insI f n) ∧ Grew w w' := by
  obtain ⟨i0, hi, hz0, hz1, hz2⟩ := info_parts info_int
  have HT := Lib.hid h
  clear h
  go_enter Tryd.func18, Tryd.ntmps18
  go_wp2_with fail
  go_loopw [3, 4] (fun o i wr => ∃ k : Nat, k ≤ n ∧ i = .int .i64 k ∧ Hid (OwnI wr w.heap.size o (insI f k)) ∧ Grew w wr) (fun o i _ => n - (intOf i).toNat)
  case atStart => exact ⟨0, by omega, rfl, World.ownsRow_nil _ _ _ _, Kept.refl _ _⟩
  case round =>
    obtain ⟨k, hk, rfl, HS, hK⟩ := hrel
    by_cases hlt : k < n
    · have hc := hK.cell (HT.out.cell hlt)
      have k0 : (0 : Int) ≤ (k : Int) := by omega
      have k1 : (k : Int) < (n : Int) := by omega
      have hsz := hK.size
      cases hf : f k with
      | false =>
        rw [hf] at hc
        have HS1 : Hid (OwnI wr w.heap.size u3 (insI f (k + 1))) := by
          show OwnI _ _ _ _
          rw [insI_no hf]; exact HS.out
        clear HS hf
        go_wp2_with fail
        go_roundw
        case rel => exact ⟨k + 1, by omega, by go_num, HS1, hK⟩
        case measure => simp [intOf]; omega
      | true =>
        rw [hf] at hc
        have hown := HS.out
        have hlen := insI_len f k
        obtain ⟨M, hM⟩ : ∃ M, insI f k = M := ⟨_, rfl⟩
        have HM : Hid (insI f (k + 1) = M ++ [(k : Int)]) := by
          show _ = _
          rw [insI_yes hf, hM]
        rw [hM] at hown hlen
        clear HS hf hM
        have hown2 : wr.ownsRow w.heap.size 3 1 u3 M.length (M.map i64) := hown
        go_wp2_with (at_builtin; refine wpList_append_own _ rfl _ _ 22 rfl w.heap.size 3 i0 (.int .i64 0) 1 8 Tryd.underlying22 hi hz0 hz1 hz2 rfl (by decide) _ _ _ rfl (hown2.alloc _) ⟨wr.heap.size, 0, none⟩ 1 1 [.int .i64 (k : Int)] rfl rfl (cell_one_new _ _ _) (by simp [Value.oneCell']) (by unfold maxLen; omega) (by omega) (by simp; omega) ?_; intro v1 w1 hown1 hgrow1 _)
        go_roundw
        case rel =>
          refine ⟨k + 1, by omega, by go_num, ?_, ?_⟩
          · show OwnI _ _ _ _
            rw [HM.out]
            unfold OwnI
            simpa using hown1
          · exact (hK.alloc _).grown hgrow1 (fun k hk => .inr (hown2.lt k hk).1)
        case measure => simp [intOf]; omega
    · obtain rfl : n = k := by omega
      go_wp2_with fail
      go_ret
      exact ⟨_, rfl, HS.out, hK⟩
end Go.Proofs.YtabddnlcgmbopaaDoor
