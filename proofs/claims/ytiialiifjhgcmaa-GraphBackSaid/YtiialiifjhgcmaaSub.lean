/- The graph of some nodes: the program's walk. -/
import Derived.Test.YtiialiifjhgcmaaRefSub
import Derived.Maps.OwnSet
import Derived.Maps.OwnOps
import Derived.Maps.Views
namespace Go.Proofs.Ytiialiifjhgcmaa
open Go.RowKit Go.Maps

theorem lawI : Keyed Try.prog 3 := int_keyed Try.underlying3
theorem zeroI (w : World) : (zeroValue 3).run Try.prog w = .ok (.int .i64 0) w := by kernel_rfl
theorem wfI (v : Nat) (h : v ≤ 100000) : (Lit.int .i64 (v : Int)).wf = true := by
  show decide _ = true
  exact decide_eq_true (by simp [IntKind.signed, IntKind.bits]; omega)

/-- Block B is a map of at most N entries: v has f v. -/
def MapI (w : World) (B N : Nat) (f : Nat → Option Nat) : Prop := ∃ (D : DataW Unit) (n : Nat), w.ownsMap Try.prog 3 (plainElem Try.prog 3) B n D ∧ n ≤ N ∧ IsMap D ∧
  ∀ v : Nat, has D (.int .i64 (v : Int)) = (f v).isSome ∧ ∀ c, f v = some c → ∀ z, D.atKey (.int .i64 (v : Int)) z = .lit (.int .i64 (c : Int))
theorem MapI.kept {F : Nat → Prop} {w w' : World} {B N : Nat} {f : Nat → Option Nat} (h : MapI w B N f) (hk : Kept F w w') (hf : ¬ F B) : MapI w' B N f := by
  obtain ⟨D, n, ho, r⟩ := h
  refine ⟨D, n, ?_, r⟩
  obtain ⟨es, clock, hb, rest⟩ := ho
  exact ⟨es, clock, (hk.block B (Array.getElem?_eq_some_iff.1 hb).1 hf).trans hb, rest⟩
theorem MapI.lt {w : World} {B N : Nat} {f : Nat → Option Nat} (h : MapI w B N f) : B < w.heap.size := by
  obtain ⟨D, n, ho, r⟩ := h
  exact ho.lt
def fF (kp : Nat → Bool) (k v : Nat) : Option Nat := if v < k ∧ kp v = true then some (idxK kp v) else none
theorem fF_no (kp : Nat → Bool) (k : Nat) (h : kp k = false) : fF kp (k + 1) = fF kp k := by
  funext v
  unfold fF
  by_cases hv : v < k ∧ kp v = true
  · rw [if_pos (show v < k + 1 ∧ kp v = true from ⟨by omega, hv.2⟩), if_pos hv]
  · have hn : ¬ (v < k + 1 ∧ kp v = true) := fun hh => by
      rcases Nat.lt_or_ge v k with hl | hl
      · exact hv ⟨hl, hh.2⟩
      · have e : v = k := by omega
        rw [e, h] at hh
        cases hh.2
    rw [if_neg hn, if_neg hv]
theorem MapI.put {w1 : World} {D : DataW Unit} {B n k : Nat} {kp : Nat → Bool} (hn : n ≤ k) (hM : IsMap D) (hD : ∀ v : Nat, has D (.int .i64 (v : Int)) = (fF kp k v).isSome ∧ ∀ c, fF kp k v = some c → ∀ z, D.atKey (.int .i64 (v : Int)) z = .lit (.int .i64 (c : Int)))
    (hk : kp k = true) (ho : w1.ownsMap Try.prog 3 (plainElem Try.prog 3) B (n + 1) (D.put (.int .i64 (k : Int)) (.lit (.int .i64 (idxK kp k : Int))))) : MapI w1 B (k + 1) (fF kp (k + 1)) := by
  refine ⟨_, n + 1, ho, by omega, hM.put _ _, fun v => ?_⟩
  by_cases hv : v = k
  · subst hv
    have e : fF kp (v + 1) v = some (idxK kp v) := by unfold fF; rw [if_pos ⟨by omega, hk⟩]
    refine ⟨?_, fun c hc z => ?_⟩
    · rw [has_put_same (k := .int .i64 (v : Int)) hM trivial, e]; rfl
    · rw [e] at hc
      cases hc
      exact atKey_put_same (k := .int .i64 (v : Int)) hM trivial _ _
  · have hne : (Lit.int .i64 (v : Int)) ≠ (Lit.int .i64 (k : Int)) := fun h => by
      simp only [Lit.int.injEq, true_and] at h
      omega
    have e : fF kp (k + 1) v = fF kp k v := by
      unfold fF
      by_cases h1 : v < k ∧ kp v = true
      · rw [if_pos h1, if_pos ⟨by omega, h1.2⟩]
      · rw [if_neg h1, if_neg (fun hh => h1 ⟨by omega, hh.2⟩)]
    rw [e]
    refine ⟨by rw [has_put_other hne]; exact (hD v).1, fun c hc z => by rw [atKey_put_other hne]; exact (hD v).2 c hc z⟩


set_option maxHeartbeats 1000000 in
theorem sub_no1 (n : Int) (A K : Option Addr) (c d m : Nat) (es : List Edg) (kp : Nat → Bool) (w : World) (h : RowE w A es) (hl : es.length ≤ 100000) (hm : m ≤ 100000) (hr : ¬ rightF n es = 0) :
    Calls Try.prog 25 #[.agg #[i64 n, .slice A es.length c], .slice K m d] w fun e w' => SubE n es kp m e w w' := by
  have b0 : Blk ((w.alloc (.cells #[i64 n, .slice A es.length c] 24)).alloc (.cells #[i64 0, .slice none 0 0] 24)) w.heap.size 24 #[i64 n, .slice A es.length c] := (Blk.new w _ _).alloc _
  have b1 : Blk ((w.alloc (.cells #[i64 n, .slice A es.length c] 24)).alloc (.cells #[i64 0, .slice none 0 0] 24)) (w.heap.size + 1) 24 #[i64 0, .slice none 0 0] := by
    have h := Blk.new (w.alloc (.cells #[i64 n, .slice A es.length c] 24)) 24 #[i64 0, .slice none 0 0]
    rw [World.size_alloc] at h; exact h
  have hK0 : Grew w ((w.alloc (.cells #[i64 n, .slice A es.length c] 24)).alloc (.cells #[i64 0, .slice none 0 0] 24)) := ((Kept.refl _ _).alloc _).alloc _
  have hE := Lib.hid (h.grew hK0)
  have hC := Lib.hid (right_any n A c es _ (h.grew hK0) hl)
  have hS : Hid (∀ W, Grew w W → SubE n es kp m (.returned (.tuple #[.agg #[i64 0, .slice none 0 0], .slice none 0 0])) w W) := by
    intro W k
    unfold SubE
    have hx : ¬ (rightF n es = 0 ∧ (m : Int) = n) := fun hh => hr hh.1
    simp only [hx, if_false]
    exact ⟨_, _, rfl, World.ownsRow_nil _ _ _ _, World.ownsRow_nil _ _ _ _, k⟩
  obtain ⟨f, hf⟩ : ∃ f, rightF n es = f := ⟨_, rfl⟩
  rw [hf] at hC hr
  have hb : (f == 0) = false := by simpa using hr
  have hb' : (f != 0) = true := by simpa using hr
  clear hf
  obtain ⟨L, hL⟩ : ∃ L, es.length = L := ⟨_, rfl⟩
  rw [hL] at b0 b1 hK0 hC
  rw [hL]
  clear h hr hL hl hE
  have c0 := b0.cell 0
  have c1 := b0.cell 1
  simp at c0 c1
  go_enter Try.func25, Try.ntmps25
  go_wp2_with fail
  refine hC.out.mono ?_
  rintro e w1 ⟨rfl, k1⟩
  replace b0 := b0.grew k1
  replace c0 := b0.cell 0
  replace c1 := b0.cell 1
  simp at c0 c1
  replace b1 := b1.grew k1
  have d0 := b1.cell 0
  have d1 := b1.cell 1
  have f0 := b1.frozen 0
  have f1 := b1.frozen 1
  simp at d0 d1
  have q0 := ((b1.set 0 (i64 0)).set 1 (.slice none 0 0)).cell 0
  have q1 := ((b1.set 0 (i64 0)).set 1 (.slice none 0 0)).cell 1
  simp at q0 q1
  go_wp2_with fail
  refine bodyPost_ret (v := .tuple #[.agg #[i64 0, .slice none 0 0], .slice none 0 0]) (by simp [results, Try.results25, go_sem, q0, q1]) rfl (hS.out _ ?_)
  have hF : Kept (· = w.heap.size + 1) w1 ((w1.setCell ⟨w.heap.size + 1, 0, none⟩ (i64 0)).setCell ⟨w.heap.size + 1, 1, none⟩ (.slice none 0 0)) := ((Kept.refl (· = w.heap.size + 1) w1).setCell (p := ⟨w.heap.size + 1, 0, none⟩) (.inl rfl) _).setCell (p := ⟨w.heap.size + 1, 1, none⟩) (.inl rfl) _
  exact (hK0.trans k1).then hF (fun i hi h => by have : i = w.heap.size + 1 := h; omega)

set_option maxHeartbeats 1000000 in
theorem sub_no2 (n : Int) (A K : Option Addr) (c d m : Nat) (es : List Edg) (kp : Nat → Bool) (w : World) (h : RowE w A es) (hl : es.length ≤ 100000) (hm : m ≤ 100000) (hr : rightF n es = 0 ∧ ¬ (m : Int) = n) :
    Calls Try.prog 25 #[.agg #[i64 n, .slice A es.length c], .slice K m d] w fun e w' => SubE n es kp m e w w' := by
  have b0 : Blk ((w.alloc (.cells #[i64 n, .slice A es.length c] 24)).alloc (.cells #[i64 0, .slice none 0 0] 24)) w.heap.size 24 #[i64 n, .slice A es.length c] := (Blk.new w _ _).alloc _
  have b1 : Blk ((w.alloc (.cells #[i64 n, .slice A es.length c] 24)).alloc (.cells #[i64 0, .slice none 0 0] 24)) (w.heap.size + 1) 24 #[i64 0, .slice none 0 0] := by
    have h := Blk.new (w.alloc (.cells #[i64 n, .slice A es.length c] 24)) 24 #[i64 0, .slice none 0 0]
    rw [World.size_alloc] at h; exact h
  have hK0 : Grew w ((w.alloc (.cells #[i64 n, .slice A es.length c] 24)).alloc (.cells #[i64 0, .slice none 0 0] 24)) := ((Kept.refl _ _).alloc _).alloc _
  have hE := Lib.hid (h.grew hK0)
  have hC := Lib.hid (right_any n A c es _ (h.grew hK0) hl)
  have hS : Hid (∀ W, Grew w W → SubE n es kp m (.returned (.tuple #[.agg #[i64 0, .slice none 0 0], .slice none 0 0])) w W) := by
    intro W k
    unfold SubE
    have hx : ¬ (rightF n es = 0 ∧ (m : Int) = n) := fun hh => hr.2 hh.2
    simp only [hx, if_false]
    exact ⟨_, _, rfl, World.ownsRow_nil _ _ _ _, World.ownsRow_nil _ _ _ _, k⟩
  rw [hr.1] at hC
  have hb : ((m : Int) == n) = false := by simpa using hr.2
  have hb' : ((m : Int) != n) = true := by simpa using hr.2
  obtain ⟨L, hL⟩ : ∃ L, es.length = L := ⟨_, rfl⟩
  rw [hL] at b0 b1 hK0 hC
  rw [hL]
  clear h hr hL hl hE
  have c0 := b0.cell 0
  have c1 := b0.cell 1
  simp at c0 c1
  go_enter Try.func25, Try.ntmps25
  go_wp2_with fail
  refine hC.out.mono ?_
  rintro e w1 ⟨rfl, k1⟩
  replace b0 := b0.grew k1
  replace c0 := b0.cell 0
  replace c1 := b0.cell 1
  simp at c0 c1
  replace b1 := b1.grew k1
  have d0 := b1.cell 0
  have d1 := b1.cell 1
  have f0 := b1.frozen 0
  have f1 := b1.frozen 1
  simp at d0 d1
  have q0 := ((b1.set 0 (i64 0)).set 1 (.slice none 0 0)).cell 0
  have q1 := ((b1.set 0 (i64 0)).set 1 (.slice none 0 0)).cell 1
  simp at q0 q1
  go_wp2_with fail
  refine bodyPost_ret (v := .tuple #[.agg #[i64 0, .slice none 0 0], .slice none 0 0]) (by simp [results, Try.results25, go_sem, q0, q1]) rfl (hS.out _ ?_)
  have hF : Kept (· = w.heap.size + 1) w1 ((w1.setCell ⟨w.heap.size + 1, 0, none⟩ (i64 0)).setCell ⟨w.heap.size + 1, 1, none⟩ (.slice none 0 0)) := ((Kept.refl (· = w.heap.size + 1) w1).setCell (p := ⟨w.heap.size + 1, 0, none⟩) (.inl rfl) _).setCell (p := ⟨w.heap.size + 1, 1, none⟩) (.inl rfl) _
  exact (hK0.trans k1).then hF (fun i hi h => by have : i = w.heap.size + 1 := h; omega)


set_option maxHeartbeats 4000000 in
set_option maxRecDepth 100000 in
theorem sub_yes (m : Nat) (A K : Option Addr) (c d : Nat) (es : List Edg) (kp : Nat → Bool) (w : World) (h : RowE w A es) (hk : RowB w K m kp) (hl : es.length ≤ 100000) (hr : rightF m es = 0) :
    Calls Try.prog 25 #[.agg #[i64 (m : Int), .slice A es.length c], .slice K m d] w fun e w' => SubE m es kp m e w w' := by
  obtain ⟨n, hnm⟩ : ∃ n : Int, (m : Int) = n := ⟨_, rfl⟩
  have b0 : Blk ((w.alloc (.cells #[i64 (m : Int), .slice A es.length c] 24)).alloc (.cells #[i64 0, .slice none 0 0] 24)) w.heap.size 24 #[i64 (m : Int), .slice A es.length c] := (Blk.new w _ _).alloc _
  have b1 : Blk ((w.alloc (.cells #[i64 (m : Int), .slice A es.length c] 24)).alloc (.cells #[i64 0, .slice none 0 0] 24)) (w.heap.size + 1) 24 #[i64 0, .slice none 0 0] := by
    have h := Blk.new (w.alloc (.cells #[i64 (m : Int), .slice A es.length c] 24)) 24 #[i64 0, .slice none 0 0]
    rw [World.size_alloc] at h; exact h
  have hK0 : Grew w ((w.alloc (.cells #[i64 (m : Int), .slice A es.length c] 24)).alloc (.cells #[i64 0, .slice none 0 0] 24)) := ((Kept.refl _ _).alloc _).alloc _
  have hE := Lib.hid (h.grew hK0)
  have hC := Lib.hid (right_any (m : Int) A c es _ (h.grew hK0) hl)
  have hS : Hid (∀ W v u, Edges W w.heap.size v (subE kp es) → IntsO W w.heap.size u (wasL kp m) → Grew w W → SubE m es kp m (.returned (.tuple #[.agg #[i64 (idxK kp m : Int), v], u])) w W) := by
    intro W v u h1 h2 k
    unfold SubE
    have hx : (rightF m es = 0 ∧ (m : Int) = (m : Int)) := ⟨hr, rfl⟩
    simp only [hx, and_self, if_true]
    exact ⟨v, u, rfl, h1, h2, k⟩
  have hl2 := (right_zero hr).2.2.1
  have hn1 := (right_zero hr).1
  have hn2 := (right_zero hr).2.1
  have hz := Lib.hid (right_zero hr).2.2.2
  rw [hr] at hC
  have hEw := Lib.hid h
  have hBw := Lib.hid hk
  obtain ⟨L, hL⟩ : ∃ L, es.length = L := ⟨_, rfl⟩
  have HL := Lib.hid hL
  rw [hL] at b0 b1 hK0 hC hE hl2
  rw [hL]
  clear hr hL hl h hk hnm n
  obtain ⟨i0, hi, hz0, hz1, hz2⟩ := info_parts info_int
  obtain ⟨i1, hi1, hy0, hy1, hy2⟩ := info_parts info_edge
  have hmm := @run_makeMap Try.prog
  have hb' : ((m : Int) != (m : Int)) = false := by simp
  have c0 := b0.cell 0
  have c1 := b0.cell 1
  simp at c0 c1
  go_enter Try.func25, Try.ntmps25
  go_wp2_with fail
  refine hC.out.mono ?_
  rintro e w1 ⟨rfl, k1⟩
  replace b0 := b0.grew k1
  replace b1 := b1.grew k1
  replace c0 := b0.cell 0
  replace c1 := b0.cell 1
  simp at c0 c1
  have hK1 := hK0.trans k1
  have hs1 := k1.size
  simp at hs1
  have hKA := hK1.alloc (.map #[] 0)
  replace b0 := b0.alloc (.map #[] 0)
  replace b1 := b1.alloc (.map #[] 0)
  have hmap : Hid (MapI (w1.alloc (.map #[] 0)) w1.heap.size 0 (fF kp 0)) := ⟨.map [], 0, World.ownsMap_made _ _ _ _, Nat.le_refl _, isMap_empty, fun v => by
    have e : fF kp 0 v = none := by unfold fF; rw [if_neg (fun h => absurd h.1 (Nat.not_lt_zero v))]
    rw [e]
    exact ⟨rfl, fun c hc => by cases hc⟩⟩
  clear hE hK0 hC hK1 k1
  go_wp2_with fail
  go_loopw [5, 7, 8, 29] (fun x u7 u8 i wr => ∃ (k : Nat), k ≤ m ∧ i = .int .i64 k ∧ (∃ A c, x = .slice A (idxK kp k) c) ∧ Hid (IntsO wr (w1.heap.size + 1) x (wasL kp k)) ∧ Hid (MapI wr w1.heap.size k (fF kp k)) ∧ Blk wr w.heap.size 24 #[i64 (m : Int), .slice A L c] ∧ Blk wr (w.heap.size + 1) 24 #[i64 0, .slice none 0 0] ∧ Grew w wr) (fun x u7 u8 i _ => m - (intOf i).toNat)
  case atStart => exact ⟨0, by omega, rfl, ⟨none, 0, rfl⟩, World.ownsRow_nil _ _ _ _, hmap, b0, b1, hKA⟩
  case round =>
    clear hmap b0 b1 hKA c0 c1
    obtain ⟨k, hk, rfl, ⟨X, cx, rfl⟩, hwas, hmap, b0, b1, hK⟩ := hrel
    have c0 := b0.cell 0
    have c1 := b0.cell 1
    simp at c0 c1
    by_cases hlt : k < m
    · obtain ⟨bk, ok, hKe, hbk, e0⟩ := (hBw.out.grew hK) k hlt
      have hk0 : (0 : Int) ≤ (k : Int) := by omega
      have hk1 : (k : Int) < (m : Int) := by omega
      subst hKe
      have hqk := idxK_le kp k
      have hw1 : w1.heap.size < wr.heap.size := hmap.out.lt
      have HO : Hid (World.ownsRow wr (w1.heap.size + 1) 3 1 (.slice X (idxK kp k) cx) (idxK kp k) ((wasL kp k).map i64)) := by
        have h := hwas.out
        unfold IntsO at h
        rw [wasL_length] at h
        exact h
      have hXl := Lib.hid HO.out.lt
      by_cases hkp : kp k = true
      · have hI : Hid (idxK kp (k + 1) = idxK kp k + 1) := by show _ = _; rw [idxK, if_pos hkp]
        have hW : Hid (wasL kp (k + 1) = wasL kp k ++ [(k : Int)]) := by show _ = _; rw [wasL, if_pos hkp]
        rw [hkp] at e0
        obtain ⟨DD, nn, hoM, hnn, hIM, hDD⟩ := hmap.out
        have hput := Lib.hid (fun (W : World) (ho : W.ownsMap Try.prog 3 (plainElem Try.prog 3) w1.heap.size (nn + 1) (DD.put (.int .i64 (k : Int)) (.lit (.int .i64 (idxK kp k : Int))))) => MapI.put hnn hIM hDD hkp ho)
        have hoM := Lib.hid hoM
        have hkey : Hid (keyOf Try.prog 3 (.int .i64 (k : Int)) = some (.int .i64 (k : Int))) := keyOf_int_mk Try.underlying3 (wfI k (by omega))
        have hval : Hid (plainElem (H := Unit) Try.prog 3 (.int .i64 (idxK kp k : Int)) = some (.lit (.int .i64 (idxK kp k : Int)), [])) := plainElem_int Try.underlying3 (wfI _ (by omega))
        clear hkp hDD hIM hmap
        go_wp2_with (first
          | (at_mapUpdate; refine wpList_mapUpdate_own _ rfl _ _ _ 54 rfl 3 3 lawI Try.underlying54 _ w1.heap.size nn DD rfl hoM.out (by unfold maxLen; omega) _ _ _ rfl rfl hkey.out _ [] hval.out ?_; intro w2 hoM2 hgr2; have hMI := Lib.hid (hput.out _ hoM2); have hown2 := Lib.hid (Grew.own ((Kept.refl (fun _ => False) w2).alloc (.cells #[i64 (k : Int)] 3)) (World.ownsRow.kept HO.out hgr2 (.inr (fun e => by have := (hXl.out _ e).1; omega)))); have hgr2 := Lib.hid hgr2; clear hoM2)
          | (at_builtin; go_loud (refine wpList_append_own _ rfl (.tmp 39) (.tmp 41) 33 (by rfl) (w1.heap.size + 1) 3 i0 (i64 0) 1 8 Try.underlying33 hi hz0 hz1 hz2 (by rfl) (by omega) _ _ _ rfl hown2.out ⟨w2.heap.size, 0, none⟩ 1 1 [i64 (k : Int)] (by rfl) (by rfl) (World.news_of_block (heap_alloc_new _ _)) (by intro u hu; simp at hu; subst hu; rfl) (by unfold maxLen; omega) (by omega) (by have := hgr2.out.size; simp; omega) ?_; intro v' w3 hown3 hgr3 _; obtain ⟨g3, c3, rfl⟩ := own_form hown3 (by omega))))
        go_roundw
        case rel =>
          have hF3 : Kept (fun j => j = w1.heap.size ∨ (Value.slice X (idxK kp k) cx).ownBlock = some j) wr w3 := (((Kept.refl (fun j => j = w1.heap.size ∨ (Value.slice X (idxK kp k) cx).ownBlock = some j) wr).grown hgr2.out (fun j hj => by cases hj; exact .inl (.inl rfl))).alloc _).grown hgr3 (fun j hj => .inl (.inr hj))
          refine ⟨k + 1, by omega, by go_num, ⟨_, c3, by rw [hI.out]⟩, ?_, ?_, ?_, ?_, ?_⟩
          · show IntsO _ _ _ _
            unfold IntsO
            rw [hW.out, List.length_append, wasL_length, List.map_append]
            exact hown3
          · exact Lib.hid (hMI.out.kept (F := fun j => (Value.slice X (idxK kp k) cx).ownBlock = some j) (((Kept.refl (fun j => (Value.slice X (idxK kp k) cx).ownBlock = some j) w2).alloc _).grown hgr3 (fun j hj => .inl hj)) (fun h => by have := (hXl.out _ h).1; omega))
          · exact b0.kept hF3 (fun h => by rcases h with h | h; omega; (have := (hXl.out _ h).1; omega))
          · exact b1.kept hF3 (fun h => by rcases h with h | h; omega; (have := (hXl.out _ h).1; omega))
          · exact hK.then hF3 (fun i hi h => by rcases h with h | h; omega; (have := (hXl.out _ h).1; omega))
        case measure => simp [intOf]; omega
      · have hkf : kp k = false := by simpa using hkp
        have hI : Hid (idxK kp (k + 1) = idxK kp k) := by show _ = _; rw [idxK, if_neg hkp]
        have hW : Hid (wasL kp (k + 1) = wasL kp k) := by show _ = _; rw [wasL, if_neg hkp]
        have hM1 : Hid (MapI wr w1.heap.size (k + 1) (fF kp (k + 1))) := by
          show MapI _ _ _ _
          rw [fF_no kp k hkf]
          obtain ⟨D, n, ho, hn, r⟩ := hmap.out
          exact ⟨D, n, ho, by omega, r⟩
        rw [hkf] at e0
        clear hkp hkf
        go_wp2_with fail
        go_roundw
        case rel =>
          refine ⟨k + 1, by omega, by go_num, ⟨X, cx, by rw [hI.out]⟩, ?_, hM1, b0, b1, hK⟩
          show IntsO _ _ _ _
          unfold IntsO
          rw [hW.out, wasL_length]
          exact HO.out
        case measure => simp [intOf]; omega
    · obtain rfl : k = m := by omega
      obtain ⟨q, hq⟩ : ∃ q, idxK kp k = q := ⟨_, rfl⟩
      rw [hq] at hwas ⊢
      have hqk : q ≤ k := by rw [← hq]; exact idxK_le kp k
      have hq' := Lib.hid hq
      obtain ⟨gO, hgO⟩ : ∃ gO, wr.heap.size = gO := ⟨_, rfl⟩
      have hgO' := Lib.hid hgO
      have hXl : Hid (∀ j, (Value.slice X q cx).ownBlock = some j → w1.heap.size + 1 ≤ j ∧ j < gO) := by rw [← hgO]; exact World.ownsRow.lt hwas.out
      have hlw : w1.heap.size < gO := by rw [← hgO]; exact hmap.out.lt
      have d0 := b1.cell 0
      have d1 := b1.cell 1
      have f0 := b1.frozen 0
      have f1 := b1.frozen 1
      simp at d0 d1
      have hF1 : Kept (· = w.heap.size + 1) wr (wr.setCell ⟨w.heap.size + 1, 0, none⟩ (i64 (q : Int))) := (Kept.refl (· = w.heap.size + 1) wr).setCell (p := ⟨w.heap.size + 1, 0, none⟩) (.inl rfl) _
      have hw2 : Hid (IntsO (wr.setCell ⟨w.heap.size + 1, 0, none⟩ (i64 (q : Int))) (w1.heap.size + 1) (.slice X q cx) (wasL kp k)) := Kept.own hF1 hwas.out (fun i hi h => by have := (hXl.out i hi).1; have h' : i = w.heap.size + 1 := h; omega)
      have hm2 : Hid (MapI (wr.setCell ⟨w.heap.size + 1, 0, none⟩ (i64 (q : Int))) w1.heap.size k (fF kp k)) := hmap.out.kept hF1 (by omega)
      have bO := b1.set 0 (i64 (q : Int))
      replace b0 := b0.kept hF1 (by omega)
      have hKO := hK.then hF1 (fun i hi h => by have h' : i = w.heap.size + 1 := h; omega)
      have hgs : gO ≤ (wr.setCell ⟨w.heap.size + 1, 0, none⟩ (i64 (q : Int))).heap.size := by simp; omega
      clear hwas hmap hq hK b1 hF1
      go_wp2_with fail
      go_loopw [10, 11, 12, 13, 14, 50] (fun u10 u11 u12 u13 u14 i wz => ∃ (j : Nat) (v : Value), j ≤ L ∧ i = .int .i64 j ∧ Blk wz (w.heap.size + 1) 24 #[i64 (q : Int), v] ∧ Hid (Edges wz gO v (subE kp (es.take j))) ∧ Hid (MapI wz w1.heap.size k (fF kp k)) ∧ Hid (IntsO wz (w1.heap.size + 1) (.slice X q cx) (wasL kp k)) ∧ Blk wz w.heap.size 24 #[i64 (k : Int), .slice A L c] ∧ Grew w wz ∧ gO ≤ wz.heap.size) (fun u10 u11 u12 u13 u14 i _ => L - (intOf i).toNat)
      case atStart => exact ⟨0, _, by omega, rfl, bO, World.ownsRow_nil _ _ _ _, hm2, hw2, b0, hKO, hgs⟩
      case round =>
        clear bO hm2 hw2 b0 hKO hgs c0 c1 d0 d1 f0 f1
        obtain ⟨j, v, hj, rfl, bO, hown, hmap, hwas, b0, hK, hgs⟩ := hrel
        by_cases hlt : j < L
        · obtain ⟨x, hx⟩ : ∃ x, es[j]? = some x := ⟨_, List.getElem?_eq_getElem (by rw [HL.out]; exact hlt)⟩
          obtain ⟨b, off, hA, hb, e0, e1, e2⟩ := (hEw.out.grew hK) j x hx
          obtain ⟨p, r, y⟩ := x
          subst hA
          have hzz := hz.out j p r y hx
          obtain ⟨p, rfl⟩ := Int.eq_ofNat_of_zero_le hzz.1
          obtain ⟨r, rfl⟩ := Int.eq_ofNat_of_zero_le hzz.2.2.1
          have hp : p < k := by have := hzz.2.1; omega
          have hr : r < k := by have := hzz.2.2.2.1; omega
          have hST := subE_step kp es j _ hx
          simp only [subOne, Int.toNat_natCast] at hST
          have hpi : (p : Int) < (k : Int) := by omega
          have hri : (r : Int) < (k : Int) := by omega
          clear hx hzz
          obtain ⟨DD, nn, hoM, hnn, hIM, hDD⟩ := hmap.out
          have hoM2 := Lib.hid (show World.ownsMap (wr.alloc (.cells #[i64 (p : Int), i64 (r : Int), .int .u64 y] 46)) Try.prog 3 (plainElem Try.prog 3) w1.heap.size nn DD from (by
            obtain ⟨es', clock, hb', rest⟩ := hoM
            exact ⟨es', clock, (Below.heap_alloc wr _ _ (Array.getElem?_eq_some_iff.1 hb').1).trans hb', rest⟩))
          have hkp1 : Hid (keyOf Try.prog 3 (.int .i64 (p : Int)) = some (.int .i64 (p : Int))) := keyOf_int_mk Try.underlying3 (wfI p (by omega))
          have hkr1 : Hid (keyOf Try.prog 3 (.int .i64 (r : Int)) = some (.int .i64 (r : Int))) := keyOf_int_mk Try.underlying3 (wfI r (by omega))
          have hfp : fF kp k p = if kp p = true then some (idxK kp p) else none := by
            unfold fF
            by_cases h : kp p = true
            · rw [if_pos ⟨hp, h⟩, if_pos h]
            · rw [if_neg (fun hh => h hh.2), if_neg h]
          have hfr : fF kp k r = if kp r = true then some (idxK kp r) else none := by
            unfold fF
            by_cases h : kp r = true
            · rw [if_pos ⟨hr, h⟩, if_pos h]
            · rw [if_neg (fun hh => h hh.2), if_neg h]
          have hDp := hDD p
          have hDr := hDD r
          rw [hfp] at hDp
          rw [hfr] at hDr
          clear hfp hfr hDD hIM hoM
          cases hkp : kp p with
          | false =>
            rw [hkp] at hST hDp
            simp at hST hDp
            have hST := Lib.hid hST
            obtain ⟨hb2, hbe⟩ : ∃ bb, has DD (.int .i64 (r : Int)) = bb := ⟨_, rfl⟩
            clear hkp hDr
            go_wp2_with (first
              | (at_lookup; refine wpList_lookup_own_ok_int _ rfl (.tmp 55) (.tmp 57) 54 rfl 3 3 .i64 lawI Try.underlying54 Try.underlying3 (zeroI _) w1.heap.size nn DD rfl hoM2.out _ _ rfl hkp1.out ?_; intro c1 hat1 hwc1; clear hat1 hwc1)
              | (at_lookup; go_loud (refine wpList_lookup_own_ok_int _ rfl (.tmp 62) (.tmp 64) 54 rfl 3 3 .i64 lawI Try.underlying54 Try.underlying3 (zeroI _) w1.heap.size nn DD rfl hoM2.out _ _ rfl hkr1.out ?_; intro c2 hat2 hwc2; clear hat2 hwc2)))
            go_roundw
            case rel => exact ⟨j + 1, v, by omega, by go_num, bO.alloc _, by rw [hST.out]; exact Lib.hid (Grew.own ((Kept.refl (fun _ => False) _).alloc _) hown.out), Lib.hid (hmap.out.kept ((Kept.refl (fun _ => False) wr).alloc _) (fun h => h)), Lib.hid (Grew.own ((Kept.refl (fun _ => False) _).alloc _) hwas.out), b0.alloc _, hK.alloc _, by simp; omega⟩
            case measure => simp [intOf]; omega
          | true =>
            rw [hkp] at hST hDp
            simp only [if_true, Option.isSome_some] at hDp
            have hp1 := hDp.1
            have hp2 := Lib.hid (hDp.2 _ rfl)
            clear hDp hkp
            cases hkr : kp r with
            | false =>
              rw [hkr] at hST hDr
              simp at hST hDr
              have hST := Lib.hid hST
              clear hkr
              go_wp2_with (first
                | (at_lookup; refine wpList_lookup_own_ok_int _ rfl (.tmp 55) (.tmp 57) 54 rfl 3 3 .i64 lawI Try.underlying54 Try.underlying3 (zeroI _) w1.heap.size nn DD rfl hoM2.out _ _ rfl hkp1.out ?_; intro c1 hat1 hwc1; clear hat1 hwc1)
                | (at_lookup; go_loud (refine wpList_lookup_own_ok_int _ rfl (.tmp 62) (.tmp 64) 54 rfl 3 3 .i64 lawI Try.underlying54 Try.underlying3 (zeroI _) w1.heap.size nn DD rfl hoM2.out _ _ rfl hkr1.out ?_; intro c2 hat2 hwc2; clear hat2 hwc2)))
              go_roundw
              case rel => exact ⟨j + 1, v, by omega, by go_num, bO.alloc _, by rw [hST.out]; exact Lib.hid (Grew.own ((Kept.refl (fun _ => False) _).alloc _) hown.out), Lib.hid (hmap.out.kept ((Kept.refl (fun _ => False) wr).alloc _) (fun h => h)), Lib.hid (Grew.own ((Kept.refl (fun _ => False) _).alloc _) hwas.out), b0.alloc _, hK.alloc _, by simp; omega⟩
              case measure => simp [intOf]; omega
            | true =>
              rw [hkr] at hST hDr
              simp only [if_true, Option.isSome_some] at hDr
              have hr1 := hDr.1
              have hr2 := Lib.hid (hDr.2 _ rfl)
              simp at hST
              have hST := Lib.hid hST
              clear hkr hDr
              obtain ⟨zs, hzs⟩ : ∃ zs, subE kp (es.take j) = zs := ⟨_, rfl⟩
              have hLen : Hid (zs.length ≤ 100000) := by
                show _ ≤ _
                rw [← hzs]
                have := subE_len kp (es.take j)
                rw [List.length_take, HL.out] at this
                omega
              rw [hzs] at hown hST
              have hlo := Lib.hid (World.ownsRow.lt hown.out)
              have hlen2 := hLen.out
              have hneR : ¬ v.ownBlock = some (w.heap.size + 1) := fun h => by have := (hlo.out _ h).1; omega
              have hownA := Lib.hid (fun (o : Obj) => Grew.own (((Kept.refl (fun _ => False) wr).alloc (.cells #[i64 (p : Int), i64 (r : Int), .int .u64 y] 46)).alloc o) hown.out)
              have bOA := Lib.hid (fun (o : Obj) => (bO.alloc (.cells #[i64 (p : Int), i64 (r : Int), .int .u64 y] 46)).alloc o)
              have bO1 := bO.alloc (.cells #[i64 (p : Int), i64 (r : Int), .int .u64 y] 46)
              have x1 := bO1.cell 1
              have y1 := bO1.frozen 1
              simp at x1
              have xA := fun (o : Obj) => Grew.cell ((Kept.refl _ (wr.alloc (.cells #[i64 (p : Int), i64 (r : Int), .int .u64 y] 46))).alloc o) x1
              have hMA := Lib.hid hmap.out
              clear hzs
              go_wp2_with (first
                | (at_lookup; refine wpList_lookup_own_ok_int _ rfl (.tmp 55) (.tmp 57) 54 rfl 3 3 .i64 lawI Try.underlying54 Try.underlying3 (zeroI _) w1.heap.size nn DD rfl hoM2.out _ _ rfl hkp1.out ?_; intro c1 hat1 hwc1; have hc1 : Hid (c1 = (idxK kp p : Int)) := (by show _ = _; have h := hat1.symm.trans (hp2.out _); simpa using h); clear hat1 hwc1)
                | (at_lookup; go_loud (refine wpList_lookup_own_ok_int _ rfl (.tmp 62) (.tmp 64) 54 rfl 3 3 .i64 lawI Try.underlying54 Try.underlying3 (zeroI _) w1.heap.size nn DD rfl hoM2.out _ _ rfl hkr1.out ?_; intro c2 hat2 hwc2; have hc2 : Hid (c2 = (idxK kp r : Int)) := (by show _ = _; have h := hat2.symm.trans (hr2.out _); simpa using h); clear hat2 hwc2))
                | (at_builtin; go_loud (refine wpList_append_own _ rfl (.tmp 73) (.tmp 79) 22 (by rfl) gO 46 i1 (.agg #[i64 0, i64 0, .int .u64 0]) 3 24 Try.underlying22 hi1 hy0 hy1 hy2 (by rfl) (by omega) _ _ _ rfl (hownA.out _) ⟨wr.heap.size + 1, 0, none⟩ 1 1 (edgeCells (c1, c2, y)) (by rfl) (by rfl) (by have h := heap_alloc_new (wr.alloc (.cells #[i64 (p : Int), i64 (r : Int), .int .u64 y] 46)) (.cells (edgeCells (c1, c2, y)).toArray 46); simp only [World.size_alloc] at h; exact World.news_of_block h) (by intro u hu; simp [edgeCells] at hu; rcases hu with rfl | rfl | rfl <;> rfl) (by unfold maxLen; omega) (by omega) (by simp; omega) ?_; intro v' w3 hown3 hgr3 _; obtain ⟨g3, c3, rfl⟩ := own_form hown3 (by omega); have bO3 := (bOA.out _).grown hgr3 (fun h => hneR h.symm); have z1 := bO3.cell 1; have zf := bO3.frozen 1; simp at z1)))
              go_roundw
              case rel =>
                have hFin : Kept (fun i => v.ownBlock = some i ∨ i = w.heap.size + 1) wr (w3.setCell ⟨w.heap.size + 1, 1, none⟩ (.slice (some ⟨g3, 0, none⟩) (zs.length + 1) c3)) :=
                  ((((Kept.refl (fun i => v.ownBlock = some i ∨ i = w.heap.size + 1) wr).alloc _).alloc _).grown hgr3 (fun i hi => .inl (.inl hi))).setCell (p := ⟨w.heap.size + 1, 1, none⟩) (.inl (.inr rfl)) _
                have hML := hMA.out.lt
                refine ⟨j + 1, _, by omega, by go_num, bO3.set 1 _, ?_, Lib.hid (hMA.out.kept hFin (fun h => by rcases h with h | h; (have := (hlo.out _ h).1; omega); omega)), Lib.hid (Kept.own hFin hwas.out (fun i hi h => by have := hXl.out i hi; rcases h with h | h; (have := (hlo.out _ h).1; omega); omega)), b0.kept hFin (fun h => by rcases h with h | h; (have := (hlo.out _ h).1; omega); omega), hK.then hFin (fun i hi h => by rcases h with h | h; (have := (hlo.out _ h).1; omega); omega), Nat.le_trans hgs hFin.size⟩
                show Edges _ _ _ _
                rw [hST.out]
                have e : Edges w3 gO (.slice (some ⟨g3, 0, none⟩) (zs.length + 1) c3) (zs ++ [((idxK kp p : Int), (idxK kp r : Int), y)]) := by
                  unfold Edges
                  rw [← hc1.out, ← hc2.out, cellsOf_append, cellsOf_one, List.length_append]
                  exact hown3
                exact Kept.own ((Kept.refl (· = w.heap.size + 1) w3).setCell (p := ⟨w.heap.size + 1, 1, none⟩) (.inl rfl) _) e (fun i hi h => by have := hown3.lt i hi; have h' : i = w.heap.size + 1 := h; omega)
              case measure => simp [intOf]; omega
        · obtain rfl : j = L := by omega
          have h := hown.out
          rw [List.take_of_length_le (by rw [HL.out]; omega)] at h
          obtain ⟨A1, cc, rfl⟩ := h.len
          have h := Lib.hid h
          have hlo := Lib.hid (World.ownsRow.lt h.out)
          clear hown
          have d0 := bO.cell 0
          have d1 := bO.cell 1
          have f0 := bO.frozen 0
          have f1 := bO.frozen 1
          simp at d0 d1
          have q0 := ((bO.set 0 (i64 (q : Int))).set 1 (.slice A1 (subE kp es).length cc)).cell 0
          have q1 := ((bO.set 0 (i64 (q : Int))).set 1 (.slice A1 (subE kp es).length cc)).cell 1
          simp at q0 q1
          go_wp2_with fail
          have hF : Kept (· = w.heap.size + 1) wr ((wr.setCell ⟨w.heap.size + 1, 0, none⟩ (i64 (q : Int))).setCell ⟨w.heap.size + 1, 1, none⟩ (.slice A1 (subE kp es).length cc)) := ((Kept.refl (· = w.heap.size + 1) wr).setCell (p := ⟨w.heap.size + 1, 0, none⟩) (.inl rfl) _).setCell (p := ⟨w.heap.size + 1, 1, none⟩) (.inl rfl) _
          refine bodyPost_ret (v := .tuple #[.agg #[i64 (q : Int), .slice A1 (subE kp es).length cc], .slice X q cx]) (by simp [results, Try.results25, go_sem, q0, q1]) rfl ?_
          have hfin := hS.out _ (.slice A1 (subE kp es).length cc) (.slice X q cx) (own_base (Kept.own hF h.out (fun i hi h' => by have := (hlo.out i hi).1; have h2 : i = w.heap.size + 1 := h'; omega)) (by omega)) (own_base (Kept.own hF hwas.out (fun i hi h' => by have := (hXl.out i hi).1; have h2 : i = w.heap.size + 1 := h'; omega)) (by omega)) (hK.then hF (fun i hi h => by have : i = w.heap.size + 1 := h; omega))
          rw [hq'.out] at hfin
          exact hfin
end Go.Proofs.Ytiialiifjhgcmaa
