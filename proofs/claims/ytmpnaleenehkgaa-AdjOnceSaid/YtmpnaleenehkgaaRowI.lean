/- Rows of ints: of one's own, and as a law of their places; a clone. -/
import Derived.Test.YtmpnaleenehkgaaLaidP
import Derived.Lib.SliceRun
namespace Go.Proofs.Ytmpnaleenehkgaa
open Go.RowKit

/-- Block g holds n ints: f. -/
def IntsF (w : World) (g n : Nat) (f : Nat → Int) : Prop := ∃ cur, Blk w g 3 cur ∧ ∀ i, i < n → cur[i]? = some (i64 (f i))
abbrev rowV (g n : Nat) : Value := .slice (some ⟨g, 0, none⟩) n n
theorem IntsF.lt {w : World} {g n : Nat} {f : Nat → Int} (h : IntsF w g n f) : g < w.heap.size := h.elim fun _ h => h.1.lt
theorem IntsF.cell {w : World} {g n i : Nat} {f : Nat → Int} (h : IntsF w g n f) (hi : i < n) : w.cell? ⟨g, i, none⟩ = some (i64 (f i)) := by
  obtain ⟨cur, h, hc⟩ := h
  rw [h.cell i, hc i hi]
theorem IntsF.frozen {w : World} {g n : Nat} {f : Nat → Int} (h : IntsF w g n f) (i : Nat) : w.frozen? ⟨g, i, none⟩ = false := h.elim fun _ h => h.1.frozen i
theorem IntsF.kept {F : Nat → Prop} {w w' : World} {g n : Nat} {f : Nat → Int} (h : IntsF w g n f) (k : Kept F w w') (hF : ¬ F g) : IntsF w' g n f := h.imp fun _ h => ⟨h.1.kept k hF, h.2⟩
theorem IntsF.grew {w w' : World} {g n : Nat} {f : Nat → Int} (h : IntsF w g n f) (k : Grew w w') : IntsF w' g n f := h.kept k fun h => h
theorem IntsF.drew {w : World} {g n : Nat} {f : Nat → Int} (h : IntsF w g n f) : IntsF w.drew g n f := h
theorem IntsF.alloc {w : World} {g n : Nat} {f : Nat → Int} (h : IntsF w g n f) (o : Obj) : IntsF (w.alloc o) g n f := h.imp fun _ h => ⟨h.1.alloc o, h.2⟩
theorem IntsF.far {w : World} {g n : Nat} {f : Nat → Int} (h : IntsF w g n f) {p : Addr} (hp : g ≠ p.block) (u : Value) : IntsF (w.setCell p u) g n f := h.imp fun _ h => ⟨h.1.far hp u, h.2⟩
theorem IntsF.congr {w : World} {g n : Nat} {f f' : Nat → Int} (h : IntsF w g n f) (hf : ∀ i, i < n → f i = f' i) : IntsF w g n f' := h.imp fun _ h => ⟨h.1, fun i hi => by rw [← hf i hi]; exact h.2 i hi⟩
theorem IntsF.set {w : World} {g n i : Nat} {f f' : Nat → Int} (h : IntsF w g n f) (hi : i < n) (b : Int) (h1 : f' i = b) (h2 : ∀ j, j < n → j ≠ i → f' j = f j) : IntsF (w.setCell ⟨g, i, none⟩ (i64 b)) g n f' := by
  obtain ⟨cur, h, hc⟩ := h
  refine ⟨_, h.set i (i64 b), fun j hj => ?_⟩
  by_cases hji : j = i
  · subst hji
    have hs := (Array.getElem?_eq_some_iff.1 (hc j hj)).1
    rw [Array.getElem?_setIfInBounds_self_of_lt hs, h1]
  · rw [Array.getElem?_setIfInBounds_ne (fun e => hji e.symm), hc j hj, h2 j hj hji]
theorem made_of {W : World} {g m : Nat} (h : Blk W g 3 (madeCells #[i64 0] m)) : IntsF W g m (fun _ => 0) := ⟨_, h, fun i hi => by simp [madeCells, Value.cells, hi, Nat.mod_one]⟩
theorem made_ints (w : World) (n : Nat) : IntsF (w.alloc (.cells (madeCells #[i64 0] n) 3)) w.heap.size n (fun _ => 0) := made_of (Blk.new _ _ _)
/-- As a row of numbers. -/
theorem IntsF.row {w : World} {g n off : Nat} {f : Nat → Int} (h : IntsF w g n f) (zs : List Int) (hz : ∀ i z, zs[i]? = some z → off + i < n ∧ f (off + i) = z) : RowI w (some ⟨g, off, none⟩) zs := fun i z hi => by
  obtain ⟨h1, h2⟩ := hz i z hi
  exact ⟨g, off, rfl, h.lt, by rw [h.cell h1, h2]⟩

theorem info_int : (Try.prog.info? 3).map (fun i => (i.zero, i.size, i.bytes)) = some (some (.int .i64 0), 1, 8) := by kernel_rfl
/-- A slice of ints of one's own. -/
def OwnI (w : World) (B : Nat) (v : Value) (zs : List Int) : Prop := w.ownsRow B 3 1 v zs.length (zs.map i64)
theorem OwnI.row {w : World} {B : Nat} {v : Value} {zs : List Int} (h : OwnI w B v zs) : ∃ A c, v = .slice A zs.length c ∧ RowI w A zs := by
  rcases h.2 with ⟨hv, h0⟩ | ⟨g, cap, cur, hv, hb, hg, rest⟩
  · exact ⟨none, 0, by rw [hv, h0], fun i z hz => by rw [List.eq_nil_of_length_eq_zero h0] at hz; simp at hz⟩
  · refine ⟨_, cap, hv, fun i z hz => ⟨g, 0, rfl, (Array.getElem?_eq_some_iff.1 hg).1, ?_⟩⟩
    subst hv
    have hi := (List.getElem?_eq_some_iff.1 hz).1
    have := World.ownsRow.cellAt h i (by omega)
    rw [Nat.zero_add]
    rw [this, List.getElem?_map, hz]
    rfl
theorem OwnI.grew {w w' : World} {B : Nat} {v : Value} {zs : List Int} (h : OwnI w B v zs) (k : Grew w w') : OwnI w' B v zs := k.own h
theorem OwnI.base {w : World} {B B' : Nat} {v : Value} {zs : List Int} (h : OwnI w B v zs) (hB : B' ≤ B) : OwnI w B' v zs := own_base h hB
theorem lit_own (w : World) (zs : List Int) (hl : zs.length ≤ 100000) : OwnI (w.alloc (.cells (zs.map i64).toArray 3)) w.heap.size (.slice (some ⟨w.heap.size, 0, none⟩) zs.length zs.length) zs :=
  ⟨by simp, .inr ⟨w.heap.size, zs.length, (zs.map i64).toArray, rfl, Nat.le_refl _, heap_alloc_new w _, Nat.le_refl _, by unfold maxLen; omega, by simp, by simp; exact List.take_of_length_le (by simp)⟩⟩
theorem same_own (v v' : Value) (B B' : Nat) (zs zs' : List Int) (w : World) (h : OwnI w B v zs) (h' : OwnI w B' v' zs') (hl : zs.length ≤ 70000) (hl' : zs'.length ≤ 70000) :
    Calls Try.prog 11 #[v, v'] w fun e w' => e = .returned (.bool (decide (zs = zs'))) ∧ Grew w w' := by
  obtain ⟨A, c, rfl, r⟩ := h.row
  obtain ⟨A', c', rfl, r'⟩ := h'.row
  exact sameI_any A A' c c' zs zs' w r r' (by omega) (by omega)
theorem same_yes (v v' : Value) (B B' : Nat) (zs zs' : List Int) (w : World) (h : OwnI w B v zs) (h' : OwnI w B' v' zs') (hl : zs.length ≤ 70000) (he : zs = zs') :
    Calls Try.prog 11 #[v, v'] w fun e w' => e = .returned (.bool true) ∧ Grew w w' := by
  subst he
  have := same_own v v' B B' zs zs w h h' hl hl
  rwa [decide_eq_true rfl] at this

/-- An own row of ints as a law of its places. -/
theorem OwnI.intsF {w : World} {B n : Nat} {v : Value} {f : Nat → Int} (h : OwnI w B v ((List.range n).map f)) (hn : 0 < n) : ∃ g c, v = .slice (some ⟨g, 0, none⟩) n c ∧ B ≤ g ∧ IntsF w g n f := by
  rcases h.2 with ⟨hv, h0⟩ | ⟨g, cap, cur, hv, hb, hg, h1, h2, h3, h4⟩
  · simp at h0; omega
  · simp only [List.length_map, List.length_range] at hv h4
    refine ⟨g, cap, hv, hb, cur, hg, fun i hi => ?_⟩
    have h5 : (cur.toList.take (n * 1))[i]? = (((List.range n).map f).map i64)[i]? := by rw [h4]
    rw [List.getElem?_take, if_pos (by omega)] at h5
    rw [← Array.getElem?_toList, h5]
    simp [hi]
theorem int_empty (w : World) (B : Nat) (hB : B ≤ w.heap.size) : (w.alloc (.cells #[] 3)).ownsRow B 3 1 (.slice (some ⟨w.heap.size, 0, none⟩) 0 0) 0 [] :=
  ⟨rfl, .inr ⟨w.heap.size, 0, #[], rfl, hB, heap_alloc_new w _, Nat.le_refl _, by unfold maxLen; omega, rfl, rfl⟩⟩
set_option maxHeartbeats 1000000 in
theorem iclone_any (w : World) (A : Option Addr) (c : Nat) (zs : List Int) (h : RowI w A zs) (hA : A = none → zs = []) (hl : zs.length ≤ 70000) : Calls Try.prog 26 #[.slice A zs.length c] w fun e w' => ∃ v', e = .returned v' ∧ OwnI w' w.heap.size v' zs ∧ Grew w w' := by
  obtain ⟨i0, hi, hz0, hz1, hz2⟩ := info_parts info_int
  have hq := fun w a n c => Lib.run_eql_slice_nil (P := Try.prog) w 32 3 a n c 0 0 Try.underlying32
  cases A with
  | none =>
    obtain rfl := hA rfl
    clear h hA
    simp only [List.length_nil]
    go_enter Try.func26, Try.ntmps26
    go_wp2
    go_ret
    exact ⟨_, rfl, World.ownsRow_nil _ _ _ _, Kept.refl _ _⟩
  | some a =>
    have hn : Hid (∀ j u, (zs.map i64)[j]? = some u → (w.alloc (.cells #[] 3)).cell? (a.add j) = some u) := by
      intro j u hj
      rw [List.getElem?_map] at hj
      obtain ⟨x, hx, rfl⟩ := Option.map_eq_some_iff.1 hj
      obtain ⟨b, off, ha, hb, hc⟩ := h j x hx
      cases ha
      have ha : (⟨b, off, none⟩ : Addr).add j = ⟨b, off + j, none⟩ := by unfold Addr.add; split <;> simp_all
      rw [ha]
      exact Grew.cell ((Kept.refl _ _).alloc _) hc
    have hE := Lib.hid (int_empty w w.heap.size (Nat.le_refl _))
    have h1 : Hid (∀ u ∈ zs.map i64, u.oneCell' = true) := by
      intro u hu
      obtain ⟨x, _, rfl⟩ := List.mem_map.1 hu
      rfl
    have hL := Lib.hid (show (zs.map i64).length = zs.length * 1 by rw [List.length_map, Nat.mul_one])
    clear h hA
    go_enter Try.func26, Try.ntmps26
    go_wp2_with (at_builtin; refine wpList_append_own _ rfl (.tmp 5) (.tmp 6) 32 (by rfl) w.heap.size 3 i0 (.int .i64 0) 1 8 Try.underlying32 hi hz0 hz1 hz2 (by rfl) (by omega) _ 0 [] rfl hE.out a zs.length c (zs.map i64) rfl hL.out hn.out h1.out (by unfold maxLen; omega) (by omega) (by simp) ?_; intro v' w1 hown hg _)
    rw [Nat.zero_add, List.nil_append] at hown
    go_wp2_with fail
    go_ret
    exact ⟨_, rfl, hown, ((Kept.refl (fun _ => False) w).alloc _).grown hg (fun k hk => by cases hk; exact .inr (Nat.le_refl _))⟩
theorem from_any (p q r : Int) (w : World) : Calls Try.prog 24 #[.agg #[i64 p, i64 q, u64 r]] w fun e w' => e = .returned (i64 p) ∧ Grew w w' := by
  go_enter Try.func24, Try.ntmps24
  go_wp2
  go_ret
  exact ⟨rfl, (Kept.refl _ _).alloc _⟩
theorem to_any (p q r : Int) (w : World) : Calls Try.prog 25 #[.agg #[i64 p, i64 q, u64 r]] w fun e w' => e = .returned (i64 q) ∧ Grew w w' := by
  go_enter Try.func25, Try.ntmps25
  go_wp2
  go_ret
  exact ⟨rfl, (Kept.refl _ _).alloc _⟩
end Go.Proofs.Ytmpnaleenehkgaa
