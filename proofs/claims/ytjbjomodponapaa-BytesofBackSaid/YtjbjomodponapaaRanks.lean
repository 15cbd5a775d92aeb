/- Ranks read. -/
import Derived.Test.YtjbjomodponapaaRead
import Derived.Test.YtjbjomodponapaaHCode
namespace Go.Proofs.Ytjbjomodponapaa
open Go.RowKit

theorem info_int : (Try.prog.info? 3).map (fun i => (i.zero, i.size, i.bytes)) = some (some (.int .i64 0), 1, 8) := by kernel_rfl
theorem info_bool : (Try.prog.info? 4).map (fun i => (i.zero, i.size, i.bytes)) = some (some (.bool false), 1, 1) := by kernel_rfl
/-- The numbers zs lie from A on. -/
def RowI (w : World) (A : Option Addr) (zs : List Int) : Prop := ∀ (i : Nat) (x : Int), zs[i]? = some x → ∃ b off, A = some ⟨b, off, none⟩ ∧ b < w.heap.size ∧ w.cell? ⟨b, off + i, none⟩ = some (i64 x)
theorem RowI.kept {F : Nat → Prop} {w w' : World} {A : Option Addr} {l : List Int} (h : RowI w A l) (hK : Kept F w w') (hF : ∀ a, A = some a → ¬ F a.block) : RowI w' A l := fun i x hx => by
  obtain ⟨b, off, hA, hb, hc⟩ := h i x hx
  exact ⟨b, off, hA, Nat.lt_of_lt_of_le hb hK.size, hK.cell hc (show ¬ F b from hF _ hA)⟩
theorem RowI.grew {w w' : World} {A : Option Addr} {l : List Int} (h : RowI w A l) (hK : Grew w w') : RowI w' A l := h.kept hK fun _ _ h => h
/-- A slice of ints of one's own. -/
def OwnI (w : World) (B : Nat) (v : Value) (zs : List Int) : Prop := w.ownsRow B 3 1 v zs.length (zs.map i64)
theorem OwnI.row {w : World} {B : Nat} {v : Value} {zs : List Int} (h : OwnI w B v zs) : ∃ A c, v = .slice A zs.length c ∧ RowI w A zs := by
  rcases h.2 with ⟨hv, h0⟩ | ⟨g, cap, cur, hv, hb, hg, rest⟩
  · exact ⟨none, 0, by rw [hv, h0], fun i z hz => by rw [List.eq_nil_of_length_eq_zero h0] at hz; simp at hz⟩
  · refine ⟨_, cap, hv, fun i z hz => ⟨g, 0, rfl, (Array.getElem?_eq_some_iff.1 hg).1, ?_⟩⟩
    subst hv
    have hi := (List.getElem?_eq_some_iff.1 hz).1
    have := World.ownsRow.cellAt h i (by omega)
    rw [Nat.zero_add]
    rw [this, List.getElem?_map, hz]
    rfl
theorem OwnI.grew {w w' : World} {B : Nat} {v : Value} {zs : List Int} (h : OwnI w B v zs) (k : Grew w w') : OwnI w' B v zs := Grew.own k h
theorem OwnI.kept {F : Nat → Prop} {w w' : World} {B : Nat} {v : Value} {zs : List Int} (h : OwnI w B v zs) (k : Kept F w w') (hF : ∀ j, v.ownBlock = some j → ¬ F j) : OwnI w' B v zs := Kept.own k h hF

/-- Which numbers below n are among rk. -/
def metA (n : Nat) (rk : List Int) : Array Value := ((List.range n).map fun (i : Nat) => Value.bool (decide ((i : Int) ∈ rk))).toArray
theorem metA_get (n : Nat) (rk : List Int) {i : Nat} (hi : i < n) : (metA n rk)[i]? = some (.bool (decide ((i : Int) ∈ rk))) := by simp [metA, hi]
theorem metA_zero (n : Nat) : madeCells #[.bool false] n = metA n [] := by
  apply Array.ext
  · simp [metA, size_madeCells]
  · intro k h1 h2
    have hk : k < n := by simpa [metA] using h2
    simp [metA, madeCells, Value.cells, Nat.mod_one]
theorem metA_set (n : Nat) (rk : List Int) {x : Nat} (hx : x < n) : (metA n rk).setIfInBounds x (.bool true) = metA n (rk ++ [(x : Int)]) := by
  apply Array.ext_getElem?
  intro j
  by_cases hj : j < n
  · rw [metA_get n _ hj]
    by_cases hjx : x = j
    · subst hjx
      rw [Array.getElem?_setIfInBounds_self_of_lt (by simpa [metA] using hx)]
      simp
    · rw [Array.getElem?_setIfInBounds_ne hjx, metA_get n _ hj]
      have : ¬ ((j : Int) = (x : Int)) := by omega
      simp [this]
  · rw [Array.getElem?_eq_none (by simp [metA]; omega), Array.getElem?_eq_none (by simp [metA]; omega)]

/-- What ranks answers. -/
def RkE (n : Nat) (es : List Edg) (z : Nat → Int) (len R : Nat) (A : Option Addr) (cap : Nat) (w : World) (e : Ending) (w' : World) : Prop :=
  (∃ p rk v, e = .returned v ∧ OwnI w' w.heap.size v rk ∧ rk.length = n ∧ rankOk rk ∧ p ≤ len ∧ Rd w' R A len cap p ∧ HadR z rk p ∧ CandR n es z len rk p ∧ Kept (· = R) w w') ∨
  (NoH n es z len ∧ ∃ q, e = .panicked (wrongs q) ∧ Kept (· = R) w w')
structure RkS (n : Nat) (es : List Edg) (z : Nat → Int) (len R : Nat) (A : Option Addr) (cap M : Nat) (w : World) (rk : List Int) (p : Nat) (v : Value) (w' : World) : Prop where
  own : OwnI w' w.heap.size v rk
  le : p ≤ len
  rd : Rd w' R A len cap p
  met : Blk w' M 4 (metA n rk)
  rng : ∀ x ∈ rk, 0 ≤ x ∧ x < (n : Int)
  nod : rk.Nodup
  had : HadR z rk p
  cand : CandR n es z len rk p
  kept : Kept (· = R) w w'
set_option maxHeartbeats 8000000 in
set_option maxRecDepth 100000 in
theorem ranks_read (n : Nat) (es : List Edg) (R : Nat) (A : Option Addr) (len cap : Nat) (z : Nat → Int) (w : World) (h : Rd w R A len cap 0) (hs : Src w A len cap z) (hl : len ≤ 100000) (hn : n ≤ 4096) (hA : ∀ a, A = some a → a.block < w.heap.size ∧ a.block ≠ R) :
    Calls Try.prog 24 #[pt R, i64 n] w fun e w' => RkE n es z len R A cap w e w' := by
  obtain ⟨i0, hi, hz0, hz1, hz2⟩ := info_parts info_int
  obtain ⟨j0, ji, jz0, jz1, jz2⟩ := info_parts info_bool
  have jmk := fun W => run_make (P := Try.prog) W 79 4 j0 _ Try.underlying79 ji jz0 .i64 .i64 (n : Int) (n : Int) (by omega) (Int.le_refl _) (by rw [jz2]; omega) (by omega)
  simp only [Int.toNat_natCast, jz1, Nat.mul_one] at jmk
  clear ji jz0 jz1 jz2
  have hrng := Lib.hid hs.range
  have HA : Hid (∀ W, Kept (· = R) w W → Src W A len cap z) := fun W k => hs.kept k (fun a ha hh => (hA a ha).2 hh)
  have hRl := h.lt
  obtain ⟨M, hM⟩ : ∃ M, w.heap.size = M := ⟨_, rfl⟩
  have HM := Lib.hid hM
  have hS0 : Hid (RkS n es z len R A cap M w [] 0 (.slice none 0 0) (w.alloc (.cells (madeCells #[.bool false] n) 4))) :=
    ⟨World.ownsRow_nil _ _ _ _, by omega, h.alloc _, by rw [metA_zero, ← hM]; exact Blk.new _ _ _, fun x hx => by simp at hx, List.nodup_nil, hadR_start z, candR_start n es z len, (Kept.refl _ _).alloc _⟩
  clear h hs hA
  go_enter Try.func24, Try.ntmps24
  go_wp2_with fail
  go_loopw [4, 11] (fun v i wr => ∃ (k p : Nat) (rk : List Int), k ≤ n ∧ i = .int .i64 k ∧ Hid (rk.length = k ∧ RkS n es z len R A cap M w rk p v wr)) (fun _ i _ => n - (intOf i).toNat)
  case atStart => exact ⟨0, 0, [], by omega, rfl, rfl, hS0.out⟩
  case round =>
    clear hS0 jmk
    obtain ⟨k, p, rk, hk, rfl, hS⟩ := hrel
    obtain ⟨A2, c2, hv, _⟩ := hS.out.2.own.row
    rw [hS.out.1] at hv
    subst hv
    by_cases hlt : k < n
    · as_aux_lemma =>
      have l1 : (k : Int) < (n : Int) := by omega
      have r0 := hS.out.2.rd.cell 0
      have r1 := hS.out.2.rd.cell 1
      simp at r0 r1
      have hB := Lib.hid (below_read R A len cap p n z wr hS.out.2.rd (HA.out _ hS.out.2.kept) hS.out.2.le hl (by omega))
      have hlen : Hid ((rk.length : Int) < (n : Int)) := by have := hS.out.1; show _ < _; omega
      go_wp2_with fail
      refine hB.out.mono ?_
      rintro e w3 (⟨x, px, hTx, x1, rfl, hR3, k3⟩ | ⟨hno, q, rfl, k3⟩)
      rotate_left
      · have hf : Hid (RkE n es z len R A cap w (.panicked (wrongs q)) w3) := .inr ⟨noR1 (by omega) hS.out.2.cand hlen.out hno, q, rfl, hS.out.2.kept.trans k3⟩
        clear hB hno k3 hS
        go_wp2_with fail
        exact ⟨rfl, hf.out⟩
      have hxn : x < n := by omega
      have x0 : (0 : Int) ≤ (x : Int) := by omega
      have nMR : ¬ M = R := by have := HM.out; omega
      have bM := hS.out.2.met.kept k3 nMR
      have m0 := (bM.cell x).trans (metA_get n rk hxn)
      have mf := bM.frozen x
      have HT := Lib.hid hTx
      by_cases hm : (x : Int) ∈ rk
      · rw [decide_eq_true hm] at m0
        have hf : Hid (RkE n es z len R A cap w (.panicked (wrongs p)) w3) := .inr ⟨noR2 (by omega) hS.out.2.cand hlen.out hTx hm, p, rfl, hS.out.2.kept.trans k3⟩
        clear hB k3 hS bM hTx hR3
        go_wp2_with fail
        exact ⟨rfl, hf.out⟩
      rw [decide_eq_false hm] at m0
      have HMem := Lib.hid hm
      have hown : Hid (w3.ownsRow w.heap.size 3 1 (.slice A2 k c2) k (rk.map i64)) := by
        have h := hS.out.2.own.kept k3 (fun j hj h => by
          have h1 := (hS.out.2.own.lt j hj).1
          have h : j = R := h
          omega)
        unfold OwnI at h
        rw [hS.out.1] at h
        exact h
      have neM : ¬ (Value.slice A2 k c2).ownBlock = some M := fun h => by
        have h1 := hS.out.2.own
        unfold OwnI at h1
        rcases h1.2 with ⟨hv, _⟩ | ⟨g, cp, cur, hv, _, hg, _⟩
        · rw [hv] at h; cases h
        · rw [hv] at h
          obtain rfl : g = M := Option.some.inj h
          have := (show wr.heap[g]? = _ from hS.out.2.met).symm.trans hg
          cases this
      have hj5 : ∀ j, (Value.slice A2 k c2).ownBlock = some j → w.heap.size ≤ j := fun j hj => (hown.out.lt j hj).1
      have neR : ¬ (Value.slice A2 k c2).ownBlock = some R := fun h => by have := hj5 _ h; omega
      have gX : Kept (· = M) w3 (w3.setCell ⟨M, x, none⟩ (.bool true)) := (Kept.refl (· = M) w3).setCell (p := ⟨M, x, none⟩) (.inl rfl) _
      have own1 : Hid (((w3.setCell ⟨M, x, none⟩ (.bool true)).alloc (.cells #[i64 x] 3)).ownsRow w.heap.size 3 1 (.slice A2 k c2) k (rk.map i64)) :=
        Grew.own ((Kept.refl (fun _ => False) _).alloc _) (Kept.own gX hown.out (fun j hj h => by have h : j = M := h; rw [h] at hj; exact neM hj))
      have hN : Hid (∀ j u, [i64 x][j]? = some u → ((w3.setCell ⟨M, x, none⟩ (.bool true)).alloc (.cells #[i64 x] 3)).cell? ((⟨w3.heap.size, 0, none⟩ : Addr).add j) = some u) := by
        have := World.news_of_block (heap_alloc_new (w3.setCell ⟨M, x, none⟩ (.bool true)) (.cells #[i64 x] 3))
        rw [show (w3.setCell ⟨M, x, none⟩ (.bool true)).heap.size = w3.heap.size by simp] at this
        exact this
      have hsz : Hid (w.heap.size ≤ w3.heap.size) := (hS.out.2.kept.trans k3).size
      have K3 := Lib.hid (hS.out.2.kept.trans k3)
      have HR3 := Lib.hid hR3
      have HbM := Lib.hid bM
      have hl1 : Hid (rk.length = k) := hS.out.1
      clear hB k3 bM hTx hR3 hown gX hm
      go_wp2_with
        (at_builtin
         refine wpList_append_lies _ rfl (.tmp 30) (.tmp 32) 25 (by rfl) w.heap.size 3 i0 (.int .i64 0) 1 8 Try.underlying25 hi hz0 hz1 hz2 (by rfl) (by omega) (.slice A2 k c2) k (rk.map i64) (by rfl) own1.out ⟨w3.heap.size, 0, none⟩ 1 1 [i64 x] (by rfl) (by rfl) hN.out (by intro u hu; simp at hu; subst hu; rfl) (by omega) (by unfold maxLen; omega) (by omega) (by have := hsz.out; simp; omega) _ rfl ?_
         intro g cp wa hown1 hgrow1 _ _
         have kA : Kept (fun j => (Value.slice A2 k c2).ownBlock = some j) (w3.setCell ⟨M, x, none⟩ (.bool true)) wa := ((Kept.refl _ _).alloc _).grown hgrow1 (fun k hk => .inl hk)
         have hS1 : Hid ((rk ++ [(x : Int)]).length = k + 1 ∧ RkS n es z len R A cap M w (rk ++ [(x : Int)]) px (.slice (some ⟨g, 0, none⟩) (k + 1) cp) wa) := by
           refine ⟨by rw [List.length_append, hl1.out]; rfl, ?_, HT.out.2.2, ?_, ?_, ?_, ?_, hadR_step hrng.out hS.out.2.had HT.out, candR_step (by omega) hS.out.2.cand hlen.out HT.out, ?_⟩
           · unfold OwnI
             rw [List.length_append, hl1.out, List.map_append]
             exact hown1
           · exact (HR3.out.far (p := ⟨M, x, none⟩) (fun e => nMR e.symm) (.bool true)).kept kA neR
           · have q := (HbM.out.set x (.bool true)).kept kA neM
             rw [metA_set n rk hxn] at q
             exact q
           · intro y hy
             rcases List.mem_append.1 hy with hy | hy
             · exact hS.out.2.rng y hy
             · simp at hy; subst hy; omega
           · refine List.nodup_append.2 ⟨hS.out.2.nod, by simp, fun a ha b hb e => ?_⟩
             simp at hb
             subst hb
             exact HMem.out (e ▸ ha)
           · have k7 : Kept (· = R) w (w3.setCell ⟨M, x, none⟩ (.bool true)) := K3.out.setCell (p := ⟨M, x, none⟩) (.inr (by have := HM.out; show _ ≤ M; omega)) _
             exact k7.then kA (fun i hi h => by have := hj5 _ h; omega)
         clear hown1 hgrow1 kA own1 hN hj5 hS HR3 HbM K3 HT HMem)
      go_roundw
      case rel => exact ⟨k + 1, px, _, by omega, by go_num, hS1⟩
      case measure => simp [intOf]; omega
    · as_aux_lemma =>
      obtain rfl : k = n := by omega
      have hf : Hid (RkE k es z len R A cap w (.returned (.slice A2 k c2)) wr) := .inl ⟨p, rk, _, rfl, hS.out.2.own, hS.out.1, ⟨by rw [hS.out.1]; exact hS.out.2.rng, hS.out.2.nod⟩, hS.out.2.le, hS.out.2.rd, hS.out.2.had, hS.out.2.cand, hS.out.2.kept⟩
      clear hS
      go_wp2_with fail
      go_ret
      exact hf.out
end Go.Proofs.Ytjbjomodponapaa
