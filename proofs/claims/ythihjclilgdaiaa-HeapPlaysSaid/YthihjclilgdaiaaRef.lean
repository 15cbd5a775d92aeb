/- The document's list of items: what Find, without, Put, Top and Drop answer. -/
import Derived.Test.YthihjclilgdaiaaRises
namespace Go.Proofs.Ythihjclilgdaiaa
open Go.RowKit

/-- Row v has the items x. -/
def Items (w : World) (B : Nat) (v : Value) (x : List Itm) : Prop := w.ownsRow B 42 2 v x.length (cellsI x)
theorem Items.nil (w : World) (B : Nat) : Items w B (.slice none 0 0) [] := World.ownsRow_nil _ _ _ _
theorem Items.grew {w w' : World} {B : Nat} {v : Value} {x : List Itm} (h : Items w B v x) (k : Grew w w') : Items w' B v x := Grew.own k h
theorem Items.base {w : World} {B B' : Nat} {v : Value} {x : List Itm} (h : Items w B v x) (hb : B' ≤ B) : Items w B' v x := by
  refine ⟨h.1, ?_⟩
  rcases h.2 with hn | ⟨g, cap, cur, hv, hg, rest⟩
  · exact .inl hn
  · exact .inr ⟨g, cap, cur, hv, by omega, rest⟩
theorem Items.turn {w w' : World} {H A N B : Nat} {v v' y : Value} {l l' x : List Itm} (h : Items w B y x) (s : Hp w H A N v l) (t : Turn w w' H A N v v' l') : Items w' B y x :=
  Kept.own t.kept h fun k hk => by
    rcases h.2 with ⟨hn, _⟩ | ⟨g, cap, cur, hv, hb, hg, _⟩
    · rw [hn] at hk; cases hk
    · rw [hv] at hk
      obtain rfl : g = k := Option.some.inj (show some g = some k from hk)
      exact s.apart hg (by decide) (by decide) (by decide)
theorem Items.slice {w : World} {B : Nat} {v : Value} {x : List Itm} (h : Items w B v x) : ∃ A c, v = .slice A x.length c := by
  rcases h.2 with ⟨h1, h0⟩ | ⟨g, cap, _, hv, _⟩
  · exact ⟨none, 0, by rw [h1, h0]⟩
  · exact ⟨_, cap, hv⟩
theorem Items.item {w : World} {B : Nat} {v : Value} {x : List Itm} (s : Items w B v x) {i : Nat} {e : Itm} (h : x[i]? = some e) :
    ∃ g c, v = .slice (some ⟨g, 0, none⟩) x.length c ∧ B ≤ g ∧ w.cell? ⟨g, i * 2, none⟩ = some (i64 e.1) ∧ w.cell? ⟨g, i * 2 + 1, none⟩ = some (u64 e.2) := by
  have hl := get_lt h
  rcases s.2 with ⟨_, h0⟩ | ⟨g, cap, cur, hv, hg, h1, h2, _⟩
  · omega
  · have hr : w.ownsRow B 42 2 (.slice (some ⟨g, 0, none⟩) x.length cap) x.length (cellsI x) := hv ▸ s
    have hc : ∀ j, j < 2 → w.cell? ⟨g, i * 2 + j, none⟩ = (itmCells e)[j]? := fun j hj => by
      rw [← cellsI_get x i j _ h hj]
      exact World.ownsRow.cellAt hr (i * 2 + j) (by omega)
    exact ⟨g, cap, hv, hg, hc 0 (by omega), hc 1 (by omega)⟩
theorem info_ref : (Try.prog.info? 42).map (fun i => (i.zero, i.size, i.bytes)) = some (some (.agg #[i64 0, u64 0]), 2, 16) := by kernel_rfl

theorem find_no (w : World) (B : Nat) (v : Value) (x : List Itm) (n : Int) (s : Items w B v x) (hs : x.length ≤ 65536) (hno : ∀ e ∈ x, e.1 ≠ n) : Calls Try.prog 13 #[v, i64 n] w fun e w' => e = .returned (i64 (-1)) ∧ w = w' := by
  obtain ⟨V, c, hv⟩ := s.slice
  obtain ⟨L, hL⟩ : ∃ L, x.length = L := ⟨_, rfl⟩
  rw [hL] at hv hs
  subst hv
  have S := Lib.hid s
  have HL := Lib.hid hL
  have HN := Lib.hid hno
  clear s hL hno
  go_enter Try.func13, Try.ntmps13
  go_wp2_with fail
  go_loop [5] (fun i => ∃ k : Nat, k ≤ L ∧ i = .int .i64 k) (fun i => L - (intOf i).toNat)
  case atStart => exact ⟨0, by omega, rfl⟩
  case round =>
    obtain ⟨k, hk, rfl⟩ := hrel
    by_cases hlt : k < L
    · obtain ⟨e, he⟩ : ∃ e, x[k]? = some e := ⟨_, List.getElem?_eq_getElem (by rw [HL.out]; exact hlt)⟩
      obtain ⟨g, c', hv, _, c0, c1⟩ := S.out.item he
      rw [HL.out] at hv
      cases hv
      have hne := HN.out e (List.mem_of_getElem? he)
      have hb : (e.1 == n) = false := by simpa using hne
      have i0 : (0 : Int) ≤ (k : Int) := by omega
      have i1 : (k : Int) < (L : Int) := by omega
      clear he hne
      go_wp2_with fail
      go_round
      case rel => exact ⟨k + 1, by omega, by go_num⟩
      case measure => simp [intOf]; omega
    · obtain rfl : L = k := by omega
      go_wp2_with fail
      go_ret
      exact ⟨rfl, rfl⟩
theorem find_yes (w : World) (B : Nat) (v : Value) (x : List Itm) (j : Nat) (e0 : Itm) (s : Items w B v x) (hs : x.length ≤ 65536) (hj : x[j]? = some e0) (hone : ∀ i e, x[i]? = some e → e.1 = e0.1 → i = j) : Calls Try.prog 13 #[v, i64 e0.1] w fun e w' => e = .returned (i64 (j : Int)) ∧ w = w' := by
  obtain ⟨V, c, hv⟩ := s.slice
  obtain ⟨L, hL⟩ : ∃ L, x.length = L := ⟨_, rfl⟩
  have hjl := get_lt hj
  rw [hL] at hv hs hjl
  subst hv
  obtain ⟨n, y⟩ := e0
  have S := Lib.hid s
  have HL := Lib.hid hL
  have HJ := Lib.hid hj
  have HN := Lib.hid hone
  clear s hL hj hone
  go_enter Try.func13, Try.ntmps13
  go_wp2_with fail
  go_loop [5] (fun i => ∃ k : Nat, k ≤ j ∧ i = .int .i64 k) (fun i => L - (intOf i).toNat)
  case atStart => exact ⟨0, by omega, rfl⟩
  case round =>
    obtain ⟨k, hk, rfl⟩ := hrel
    have i0 : (0 : Int) ≤ (k : Int) := by omega
    have i1 : (k : Int) < (L : Int) := by omega
    by_cases hlt : k < j
    · obtain ⟨e, he⟩ : ∃ e, x[k]? = some e := ⟨_, List.getElem?_eq_getElem (by rw [HL.out]; omega)⟩
      obtain ⟨g, c', hv, _, c0, c1⟩ := S.out.item he
      rw [HL.out] at hv
      cases hv
      have hb : (e.1 == n) = false := by
        have : e.1 ≠ n := fun h => by have := HN.out k e he h; omega
        simpa using this
      clear he
      go_wp2_with fail
      go_round
      case rel => exact ⟨k + 1, by omega, by go_num⟩
      case measure => simp [intOf]; omega
    · obtain rfl : j = k := by omega
      obtain ⟨g, c', hv, _, c0, c1⟩ := S.out.item HJ.out
      rw [HL.out] at hv
      cases hv
      have hb : (n == n) = true := by simp
      go_wp2_with fail
      go_ret
      exact ⟨rfl, rfl⟩

/-- All but the one at place i, if there is one. -/
def woF (x : List Itm) (i : Int) : List Itm := if i < 0 then x else x.eraseIdx i.toNat
theorem woF_nil (i : Int) : woF [] i = [] := by unfold woF; split <;> simp
theorem woF_snoc (x : List Itm) (e : Itm) (i : Int) : woF (x ++ [e]) i = if (x.length : Int) = i then woF x i else woF x i ++ [e] := by
  unfold woF
  by_cases h : i < 0
  · rw [if_pos h, if_pos h, if_neg (by omega)]
  · rw [if_neg h, if_neg h]
    rcases Nat.lt_trichotomy i.toNat x.length with h1 | h1 | h1
    · rw [if_neg (by omega), List.eraseIdx_append_of_lt_length h1]
    · rw [if_pos (by omega), h1, List.eraseIdx_append_of_length_le (Nat.le_refl _), Nat.sub_self, List.eraseIdx_of_length_le (l := x) (Nat.le_refl _)]
      simp
    · rw [if_neg (by omega), List.eraseIdx_of_length_le (by simp; omega), List.eraseIdx_of_length_le (by omega)]
theorem woF_length (x : List Itm) (i : Int) : (woF x i).length ≤ x.length := by
  unfold woF
  split
  · exact Nat.le_refl _
  · rw [List.length_eraseIdx]; split <;> omega

set_option maxHeartbeats 1000000 in
theorem without_any (w : World) (B : Nat) (v : Value) (x : List Itm) (i : Int) (s : Items w B v x) (hs : x.length ≤ 65536) : Calls Try.prog 25 #[v, i64 i] w fun e w' => ∃ v', e = .returned v' ∧ Items w' w.heap.size v' (woF x i) ∧ Grew w w' := by
  obtain ⟨i0, hi, hz0, hz1, hz2⟩ := info_parts info_ref
  obtain ⟨V, c, hv⟩ := s.slice
  obtain ⟨L, hL⟩ : ∃ L, x.length = L := ⟨_, rfl⟩
  rw [hL] at hv hs
  subst hv
  have S := Lib.hid s
  have HL := Lib.hid hL
  clear s hL
  go_enter Try.func25, Try.ntmps25
  go_wp2_with fail
  go_loopw [5, 6] (fun o s6 wr => ∃ k : Nat, k ≤ L ∧ s6 = .int .i64 k ∧ Hid (Items wr w.heap.size o (woF (x.take k) i)) ∧ Grew w wr) (fun _ s6 _ => L - (intOf s6).toNat)
  case atStart => exact ⟨0, by omega, rfl, Lib.hid (by rw [List.take_zero, woF_nil]; exact Items.nil _ _), Kept.refl _ _⟩
  case round =>
    obtain ⟨k, hk, rfl, O, hK⟩ := hrel
    by_cases hlt : k < L
    · obtain ⟨e, he⟩ : ∃ e, x[k]? = some e := ⟨_, List.getElem?_eq_getElem (by rw [HL.out]; exact hlt)⟩
      obtain ⟨g, c', hv, _, d0, d1⟩ := (S.out.grew hK).item he
      rw [HL.out] at hv
      cases hv
      obtain ⟨ev, ek⟩ := e
      have HT : Hid (woF (x.take (k + 1)) i = if (k : Int) = i then woF (x.take k) i else woF (x.take k) i ++ [(ev, ek)]) := by
        have h := woF_snoc (x.take k) (ev, ek) i
        rw [List.length_take, HL.out, Nat.min_eq_left (by omega)] at h
        have h2 : x.take (k + 1) = x.take k ++ [(ev, ek)] := by rw [List.take_add_one, he]; rfl
        show woF (x.take (k + 1)) i = _
        rw [h2]
        exact h
      have p0 : (0 : Int) ≤ (k : Int) := by omega
      have p1 : (k : Int) < (L : Int) := by omega
      clear he
      by_cases hki : (k : Int) = i
      · have hb : ((k : Int) == i) = true := by simpa using hki
        have hb2 : ((k : Int) != i) = false := by simpa using hki
        have HT2 : Hid (woF (x.take (k + 1)) i = woF (x.take k) i) := by
          have h := HT.out
          rw [if_pos hki] at h
          exact h
        clear HT hki
        go_wp2_with fail
        go_roundw
        case rel => exact ⟨k + 1, by omega, by go_num, Lib.hid (by rw [HT2.out]; exact O.out), hK⟩
        case measure => simp [intOf]; omega
      · have hb : ((k : Int) == i) = false := by simpa using hki
        have hb2 : ((k : Int) != i) = true := by simpa using hki
        have HT2 : Hid (woF (x.take (k + 1)) i = woF (x.take k) i ++ [(ev, ek)]) := by
          have h := HT.out
          rw [if_neg hki] at h
          exact h
        clear HT hki
        obtain ⟨Y, hY⟩ : ∃ Y, woF (x.take k) i = Y := ⟨_, rfl⟩
        have hYl : Y.length ≤ 65536 := by rw [← hY]; have := woF_length (x.take k) i; rw [List.length_take, HL.out] at this; omega
        rw [hY] at O HT2
        clear hY
        obtain ⟨o, ho⟩ : ∃ o, u5 = o := ⟨_, rfl⟩
        have hO := Lib.hid (show (wr.alloc (.cells #[i64 ev, .int .u64 ek] 42)).ownsRow w.heap.size 42 2 u5 Y.length (cellsI Y) from O.out.grew ((Kept.refl _ _).alloc _))
        have hwr := hK.size
        clear ho
        go_wp2_with (at_builtin; refine wpList_append_lies _ rfl (.tmp 16) (.tmp 21) 35 (by rfl) w.heap.size 42 i0 (.agg #[i64 0, .int .u64 0]) 2 16 Try.underlying35 hi hz0 hz1 hz2 (by rfl) (by omega) u5 Y.length (cellsI Y) (by rfl) hO.out ⟨wr.heap.size, 0, none⟩ 1 1 (itmCells (ev, ek)) (by rfl) (by rfl) (World.news_of_block (heap_alloc_new _ _)) (by intro u hu; simp [itmCells] at hu; rcases hu with rfl | rfl <;> rfl) (by omega) (by unfold maxLen; omega) (by omega) (by simp; omega) _ rfl ?_; intro g2 cap w1 hown1 hgrow1 hat1 hlt1)
        have hN : Hid (Items w1 w.heap.size (.slice (some ⟨g2, 0, none⟩) (Y.length + 1) cap) (Y ++ [(ev, ek)])) := by
          show World.ownsRow w1 w.heap.size 42 2 (.slice (some ⟨g2, 0, none⟩) (Y.length + 1) cap) (Y ++ [(ev, ek)]).length (cellsI (Y ++ [(ev, ek)]))
          rw [List.length_append, cellsI_append]
          exact hown1
        have hK1 : Grew w w1 := (hK.alloc _).grown hgrow1 (fun q hq => .inr (O.out.lt q hq).1)
        clear hown1 hgrow1 hat1 hlt1 hO
        go_wp2_with fail
        go_roundw
        case rel => exact ⟨k + 1, by omega, by go_num, Lib.hid (by rw [HT2.out]; exact hN.out), hK1⟩
        case measure => simp [intOf]; omega
    · obtain rfl : L = k := by omega
      have hO := O.out
      rw [List.take_of_length_le (by rw [HL.out]; exact Nat.le_refl _)] at hO
      have HO2 := Lib.hid hO
      clear hO
      go_wp2_with fail
      go_ret
      exact ⟨_, rfl, HO2.out, hK⟩

theorem rtop_none (w : World) (B : Nat) (v : Value) (s : Items w B v []) : Calls Try.prog 15 #[v] w fun e w' => e = .returned (i64 (-1)) ∧ w = w' := by
  obtain ⟨V, c, hv⟩ := s.slice
  subst hv
  clear s
  simp only [List.length_nil]
  go_enter Try.func15, Try.ntmps15
  go_wp2_with fail
  go_loop [3, 4] (fun b i => b = i64 (-1) ∧ i = i64 0) (fun _ _ => 0)
  case atStart => exact ⟨rfl, rfl⟩
  case round =>
    obtain ⟨rfl, rfl⟩ := hrel
    go_wp2_with fail
    go_ret
    exact ⟨rfl, rfl⟩

theorem better {x : List Itm} {k : Nat} {e f : Itm} (he : x[k]? = some e) (hall : ∀ (r : Nat) (h : Itm), r < k → x[r]? = some h → ¬ lessI h f = true) (hl : e.2 < f.2 ∨ e.2 = f.2 ∧ e.1 < f.1) : ∀ (r : Nat) (h : Itm), r < k + 1 → x[r]? = some h → ¬ lessI h e = true := by
  intro r h hr hx
  by_cases hrk : r = k
  · subst hrk
    have := he.symm.trans hx
    cases this
    exact less_irrefl _
  · have h1 := hall r h (by omega) hx
    rw [lessI_iff] at h1 ⊢
    omega
theorem same {x : List Itm} {k : Nat} {e f : Itm} (he : x[k]? = some e) (hall : ∀ (r : Nat) (h : Itm), r < k → x[r]? = some h → ¬ lessI h f = true) (hl : ¬ lessI e f = true) : ∀ (r : Nat) (h : Itm), r < k + 1 → x[r]? = some h → ¬ lessI h f = true := by
  intro r h hr hx
  by_cases hrk : r = k
  · subst hrk
    have := he.symm.trans hx
    cases this
    exact hl
  · exact hall r h (by omega) hx

set_option maxHeartbeats 2000000 in
theorem rtop_some (w : World) (B : Nat) (v : Value) (x : List Itm) (j : Nat) (e0 : Itm) (s : Items w B v x) (hs : x.length ≤ 65536) (hj : x[j]? = some e0) (hmin : ∀ f ∈ x, ¬ lessI f e0 = true) (hone : ∀ i, x[i]? = some e0 → i = j) : Calls Try.prog 15 #[v] w fun e w' => e = .returned (i64 (j : Int)) ∧ Grew w w' := by
  obtain ⟨V, c, hv⟩ := s.slice
  obtain ⟨L, hL⟩ : ∃ L, x.length = L := ⟨_, rfl⟩
  have hjl := get_lt hj
  rw [hL] at hv hs hjl
  subst hv
  have S := Lib.hid s
  have HL := Lib.hid hL
  have HJ := Lib.hid hj
  have HM := Lib.hid hmin
  have HN := Lib.hid hone
  clear s hL hj hone hmin
  go_enter Try.func15, Try.ntmps15
  go_wp2_with fail
  go_loopw [3, 4] (fun b i wr => ∃ (k : Nat) (bi : Int), k ≤ L ∧ i = .int .i64 k ∧ b = .int .i64 bi ∧ Hid (k = 0 ∧ bi = -1 ∨ ∃ (q : Nat) (f : Itm), bi = (q : Int) ∧ q < k ∧ x[q]? = some f ∧ ∀ (r : Nat) (h : Itm), r < k → x[r]? = some h → ¬ lessI h f = true) ∧ Grew w wr) (fun _ i _ => L - (intOf i).toNat)
  case atStart => exact ⟨0, _, by omega, rfl, rfl, Lib.hid (.inl ⟨rfl, rfl⟩), Kept.refl _ _⟩
  case round =>
    obtain ⟨k, bi, hk, rfl, rfl, HB, hK⟩ := hrel
    by_cases hlt : k < L
    · obtain ⟨⟨ev, ek⟩, he⟩ : ∃ e, x[k]? = some e := ⟨_, List.getElem?_eq_getElem (by rw [HL.out]; exact hlt)⟩
      have i0 : (0 : Int) ≤ (k : Int) := by omega
      have i1 : (k : Int) < (L : Int) := by omega
      have HE := Lib.hid he
      have s1 := S.out.grew hK.drew
      obtain ⟨g, c', hv, _, a0, a1⟩ := s1.item he
      rw [HL.out] at hv
      cases hv
      clear he
      rcases HB.out with ⟨h1, h2⟩ | ⟨q, ⟨fv, fk⟩, h1, hqk, hf, hall⟩
      · have hb : decide (bi < 0) = true := decide_eq_true (by omega)
        subst h2
        have hk0 := Lib.hid h1
        clear h1 s1
        go_wp2_with fail
        refine wp_region_grow [] (fun _ => False) (by kernel_rfl) ?_
        simp only [List.size_toArray, List.length_cons, List.length_nil, Nat.reduceAdd]
        refine wpAnyG_pure 0 11 (v := ?_) rfl (by kernel_rfl) rfl (by rfl) (fun w' => ?_) ?_
        rotate_left
        · go_simp <;> with_reducible rfl
        simp only [List.setIfInBounds_toArray, List.set_cons_zero, List.set_cons_succ]
        refine wpAnyG_pure 1 12 (v := ?_) rfl (by kernel_rfl) rfl (by rfl) (fun w' => ?_) ?_
        rotate_left
        · go_simp <;> with_reducible rfl
        simp only [List.setIfInBounds_toArray, List.set_cons_zero, List.set_cons_succ]
        refine wpAnyG_pure 2 13 (v := ?_) rfl (by kernel_rfl) rfl (by rfl) (fun w' => ?_) ?_
        rotate_left
        · go_simp <;> with_reducible rfl
        simp only [List.setIfInBounds_toArray, List.set_cons_zero, List.set_cons_succ]
        refine wpAnyG_pass 3 14 rfl (by kernel_rfl) rfl (by rfl) ?_
        simp only [List.setIfInBounds_toArray, List.set_cons_zero, List.set_cons_succ]
        refine wpAnyG_pass 4 15 rfl (by kernel_rfl) rfl (by rfl) ?_
        simp only [List.setIfInBounds_toArray, List.set_cons_zero, List.set_cons_succ]
        refine wpAnyG_pass 5 16 rfl (by kernel_rfl) rfl (by rfl) ?_
        simp only [List.setIfInBounds_toArray, List.set_cons_zero, List.set_cons_succ]
        refine wpAnyG_pass 6 17 rfl (by kernel_rfl) rfl (by rfl) ?_
        simp only [List.setIfInBounds_toArray, List.set_cons_zero, List.set_cons_succ]
        refine wpAnyG_pass 7 18 rfl (by kernel_rfl) rfl (by rfl) ?_
        simp only [List.setIfInBounds_toArray, List.set_cons_zero, List.set_cons_succ]
        refine wpAnyG_pass 8 19 rfl (by kernel_rfl) rfl (by rfl) ?_
        simp only [List.setIfInBounds_toArray, List.set_cons_zero, List.set_cons_succ]
        refine wpAnyG_pass 9 20 rfl (by kernel_rfl) rfl (by rfl) ?_
        simp only [List.setIfInBounds_toArray, List.set_cons_zero, List.set_cons_succ]
        refine wpAnyG_pass 10 21 rfl (by kernel_rfl) rfl (by rfl) ?_
        simp only [List.setIfInBounds_toArray, List.set_cons_zero, List.set_cons_succ]
        refine wpAnyG_pass 11 22 rfl (by kernel_rfl) rfl (by rfl) ?_
        simp only [List.setIfInBounds_toArray, List.set_cons_zero, List.set_cons_succ]
        refine wpAnyG_pass 12 23 rfl (by kernel_rfl) rfl (by rfl) ?_
        simp only [List.setIfInBounds_toArray, List.set_cons_zero, List.set_cons_succ]
        refine wpAnyG_pass 13 24 rfl (by kernel_rfl) rfl (by rfl) ?_
        simp only [List.setIfInBounds_toArray, List.set_cons_zero, List.set_cons_succ]
        refine wpAnyG_pure 14 25 (v := ?_) rfl (by kernel_rfl) rfl (by rfl) (fun w' => ?_) ?_
        rotate_left
        · go_simp <;> with_reducible rfl
        simp only [List.setIfInBounds_toArray, List.set_cons_zero, List.set_cons_succ]
        refine wpAnyG_pure 15 26 (v := ?_) rfl (by kernel_rfl) rfl (by rfl) (fun w' => ?_) ?_
        rotate_left
        · go_simp <;> with_reducible rfl
        simp only [List.setIfInBounds_toArray, List.set_cons_zero, List.set_cons_succ]
        refine wpAnyG_pass 16 27 rfl (by kernel_rfl) rfl (by rfl) ?_
        simp only [List.setIfInBounds_toArray, List.set_cons_zero, List.set_cons_succ]
        refine wpAnyG_pass 17 28 rfl (by kernel_rfl) rfl (by rfl) ?_
        simp only [List.setIfInBounds_toArray, List.set_cons_zero, List.set_cons_succ]
        refine wpAnyG_pass 18 29 rfl (by kernel_rfl) rfl (by rfl) ?_
        simp only [List.setIfInBounds_toArray, List.set_cons_zero, List.set_cons_succ]
        refine wpAnyG_pass 19 30 rfl (by kernel_rfl) rfl (by rfl) ?_
        simp only [List.setIfInBounds_toArray, List.set_cons_zero, List.set_cons_succ]
        refine wpAnyG_pass 20 31 rfl (by kernel_rfl) rfl (by rfl) ?_
        simp only [List.setIfInBounds_toArray, List.set_cons_zero, List.set_cons_succ]
        refine wpAnyG_pass 21 32 rfl (by kernel_rfl) rfl (by rfl) ?_
        simp only [List.setIfInBounds_toArray, List.set_cons_zero, List.set_cons_succ]
        refine wpAnyG_pass 22 33 rfl (by kernel_rfl) rfl (by rfl) ?_
        simp only [List.setIfInBounds_toArray, List.set_cons_zero, List.set_cons_succ]
        refine wpAnyG_pass 23 34 rfl (by kernel_rfl) rfl (by rfl) ?_
        simp only [List.setIfInBounds_toArray, List.set_cons_zero, List.set_cons_succ]
        refine wpAnyG_pass 24 35 rfl (by kernel_rfl) rfl (by rfl) ?_
        simp only [List.setIfInBounds_toArray, List.set_cons_zero, List.set_cons_succ]
        refine wpAnyG_pass 25 36 rfl (by kernel_rfl) rfl (by rfl) ?_
        simp only [List.setIfInBounds_toArray, List.set_cons_zero, List.set_cons_succ]
        refine wpAnyG_pass 26 37 rfl (by kernel_rfl) rfl (by rfl) ?_
        simp only [List.setIfInBounds_toArray, List.set_cons_zero, List.set_cons_succ]
        refine wpAnyG_pass 27 38 rfl (by kernel_rfl) rfl (by rfl) ?_
        simp only [List.setIfInBounds_toArray, List.set_cons_zero, List.set_cons_succ]
        refine wpAnyG_pass 28 39 rfl (by kernel_rfl) rfl (by rfl) ?_
        simp only [List.setIfInBounds_toArray, List.set_cons_zero, List.set_cons_succ]
        refine wpAnyG_pass 29 40 rfl (by kernel_rfl) rfl (by rfl) ?_
        simp only [List.setIfInBounds_toArray, List.set_cons_zero, List.set_cons_succ]
        refine wpAnyG_pass 30 41 rfl (by kernel_rfl) rfl (by rfl) ?_
        simp only [List.setIfInBounds_toArray, List.set_cons_zero, List.set_cons_succ]
        refine wpAnyG_pass 31 42 rfl (by kernel_rfl) rfl (by rfl) ?_
        simp only [List.setIfInBounds_toArray, List.set_cons_zero, List.set_cons_succ]
        refine wpAnyG_pass 32 43 rfl (by kernel_rfl) rfl (by rfl) ?_
        simp only [List.setIfInBounds_toArray, List.set_cons_zero, List.set_cons_succ]
        refine wpAnyG_pass 33 44 rfl (by kernel_rfl) rfl (by rfl) ?_
        simp only [List.setIfInBounds_toArray, List.set_cons_zero, List.set_cons_succ]
        refine wpAnyG_pass 34 45 rfl (by kernel_rfl) rfl (by rfl) ?_
        simp only [List.setIfInBounds_toArray, List.set_cons_zero, List.set_cons_succ]
        refine wpAnyG_pass 35 46 rfl (by kernel_rfl) rfl (by rfl) ?_
        simp only [List.setIfInBounds_toArray, List.set_cons_zero, List.set_cons_succ]
        refine wpAnyG_pass 36 47 rfl (by kernel_rfl) rfl (by rfl) ?_
        simp only [List.setIfInBounds_toArray, List.set_cons_zero, List.set_cons_succ]
        refine wpAnyG_pass 37 48 rfl (by kernel_rfl) rfl (by rfl) ?_
        simp only [List.setIfInBounds_toArray, List.set_cons_zero, List.set_cons_succ]
        refine wpAnyG_pass 38 49 rfl (by kernel_rfl) rfl (by rfl) ?_
        simp only [List.setIfInBounds_toArray, List.set_cons_zero, List.set_cons_succ]
        refine wpAnyG_pass 39 50 rfl (by kernel_rfl) rfl (by rfl) ?_
        simp only [List.setIfInBounds_toArray, List.set_cons_zero, List.set_cons_succ]
        refine wpAnyG_pure 40 51 (v := ?_) rfl (by kernel_rfl) rfl (by rfl) (fun w' => ?_) ?_
        rotate_left
        · go_simp <;> with_reducible rfl
        simp only [List.setIfInBounds_toArray, List.set_cons_zero, List.set_cons_succ]
        refine wpAnyG_done (by kernel_rfl) ?_
        go_wp2_with fail
        go_roundw
        case rel => exact ⟨k + 1, _, by omega, by go_num, rfl, Lib.hid (.inr ⟨k, (ev, ek), rfl, by omega, HE.out, fun r h hr hx => by
          have h0 := hk0.out
          obtain rfl : r = k := by omega
          have := HE.out.symm.trans hx
          cases this
          exact less_irrefl _⟩), hK.drew⟩
        case measure => simp [intOf]; omega
      · subst h1
        obtain ⟨g', c', hv, _, b0, b1⟩ := s1.item hf
        rw [HL.out] at hv
        cases hv
        have j0 : (0 : Int) ≤ (q : Int) := by omega
        have j1 : (q : Int) < (L : Int) := by omega
        have d0 : decide ((q : Int) < 0) = false := decide_eq_false (by omega)
        have HF := Lib.hid hf
        have HA := Lib.hid hall
        clear s1 hf hall
        have hkeep : ∀ P : Prop, P → P := fun _ h => h
        rcases Int.lt_trichotomy ek fk with h3 | h3 | h3
        · have e1 : decide (ek < fk) = true := decide_eq_true h3
          go_wp2_with fail
          refine wp_region_grow [] (fun _ => False) (by kernel_rfl) ?_
          simp only [List.size_toArray, List.length_cons, List.length_nil, Nat.reduceAdd]
          refine wpAnyG_pure 0 11 (v := ?_) rfl (by kernel_rfl) rfl (by rfl) (fun w' => ?_) ?_
          rotate_left
          · go_simp <;> with_reducible rfl
          simp only [List.setIfInBounds_toArray, List.set_cons_zero, List.set_cons_succ]
          refine wpAnyG_pure 1 12 (v := ?_) rfl (by kernel_rfl) rfl (by rfl) (fun w' => ?_) ?_
          rotate_left
          · go_simp <;> with_reducible rfl
          simp only [List.setIfInBounds_toArray, List.set_cons_zero, List.set_cons_succ]
          refine wpAnyG_pure 2 13 (v := ?_) rfl (by kernel_rfl) rfl (by rfl) (fun w' => ?_) ?_
          rotate_left
          · go_simp <;> with_reducible rfl
          simp only [List.setIfInBounds_toArray, List.set_cons_zero, List.set_cons_succ]
          refine wpAnyG_pure 3 14 (v := ?_) rfl (by kernel_rfl) rfl (by rfl) (fun w' => ?_) ?_
          rotate_left
          · go_simp <;> with_reducible rfl
          simp only [List.setIfInBounds_toArray, List.set_cons_zero, List.set_cons_succ]
          refine wpAnyG_pure 4 15 (v := ?_) rfl (by kernel_rfl) rfl (by rfl) (fun w' => ?_) ?_
          rotate_left
          · go_simp <;> with_reducible rfl
          simp only [List.setIfInBounds_toArray, List.set_cons_zero, List.set_cons_succ]
          refine wpAnyG_pure 5 16 (v := ?_) rfl (by kernel_rfl) rfl (by rfl) (fun w' => ?_) ?_
          rotate_left
          · go_simp <;> with_reducible rfl
          simp only [List.setIfInBounds_toArray, List.set_cons_zero, List.set_cons_succ]
          refine wpAnyG_pure 6 17 (v := ?_) rfl (by kernel_rfl) rfl (by rfl) (fun w' => ?_) ?_
          rotate_left
          · go_simp <;> with_reducible rfl
          simp only [List.setIfInBounds_toArray, List.set_cons_zero, List.set_cons_succ]
          refine wpAnyG_take 7 18 (v := ?_) rfl (by kernel_rfl) rfl (by rfl) (fun w' hG' => ?_) ?_
          rotate_left
          · have hx0 := Grew.cell hG' a0
            have hx1 := Grew.cell hG' a1
            have hx2 := Grew.cell hG' b0
            have hx3 := Grew.cell hG' b1
            go_simp <;> with_reducible rfl
          simp only [List.setIfInBounds_toArray, List.set_cons_zero, List.set_cons_succ]
          refine wpAnyG_pure 8 19 (v := ?_) rfl (by kernel_rfl) rfl (by rfl) (fun w' => ?_) ?_
          rotate_left
          · go_simp <;> with_reducible rfl
          simp only [List.setIfInBounds_toArray, List.set_cons_zero, List.set_cons_succ]
          refine wpAnyG_pure 9 20 (v := ?_) rfl (by kernel_rfl) rfl (by rfl) (fun w' => ?_) ?_
          rotate_left
          · go_simp <;> with_reducible rfl
          simp only [List.setIfInBounds_toArray, List.set_cons_zero, List.set_cons_succ]
          refine wpAnyG_pure 10 21 (v := ?_) rfl (by kernel_rfl) rfl (by rfl) (fun w' => ?_) ?_
          rotate_left
          · go_simp <;> with_reducible rfl
          simp only [List.setIfInBounds_toArray, List.set_cons_zero, List.set_cons_succ]
          refine wpAnyG_pure 11 22 (v := ?_) rfl (by kernel_rfl) rfl (by rfl) (fun w' => ?_) ?_
          rotate_left
          · go_simp <;> with_reducible rfl
          simp only [List.setIfInBounds_toArray, List.set_cons_zero, List.set_cons_succ]
          refine wpAnyG_take 12 23 (v := ?_) rfl (by kernel_rfl) rfl (by rfl) (fun w' hG' => ?_) ?_
          rotate_left
          · have hx0 := Grew.cell hG' a0
            have hx1 := Grew.cell hG' a1
            have hx2 := Grew.cell hG' b0
            have hx3 := Grew.cell hG' b1
            go_simp <;> with_reducible rfl
          simp only [List.setIfInBounds_toArray, List.set_cons_zero, List.set_cons_succ]
          refine wpAnyG_pure 13 24 (v := ?_) rfl (by kernel_rfl) rfl (by rfl) (fun w' => ?_) ?_
          rotate_left
          · go_simp <;> with_reducible rfl
          simp only [List.setIfInBounds_toArray, List.set_cons_zero, List.set_cons_succ]
          refine wpAnyG_pure 14 25 (v := ?_) rfl (by kernel_rfl) rfl (by rfl) (fun w' => ?_) ?_
          rotate_left
          · go_simp <;> with_reducible rfl
          simp only [List.setIfInBounds_toArray, List.set_cons_zero, List.set_cons_succ]
          refine wpAnyG_pure 15 26 (v := ?_) rfl (by kernel_rfl) rfl (by rfl) (fun w' => ?_) ?_
          rotate_left
          · go_simp <;> with_reducible rfl
          simp only [List.setIfInBounds_toArray, List.set_cons_zero, List.set_cons_succ]
          refine wpAnyG_pass 16 27 rfl (by kernel_rfl) rfl (by rfl) ?_
          simp only [List.setIfInBounds_toArray, List.set_cons_zero, List.set_cons_succ]
          refine wpAnyG_pass 17 28 rfl (by kernel_rfl) rfl (by rfl) ?_
          simp only [List.setIfInBounds_toArray, List.set_cons_zero, List.set_cons_succ]
          refine wpAnyG_pass 18 29 rfl (by kernel_rfl) rfl (by rfl) ?_
          simp only [List.setIfInBounds_toArray, List.set_cons_zero, List.set_cons_succ]
          refine wpAnyG_pass 19 30 rfl (by kernel_rfl) rfl (by rfl) ?_
          simp only [List.setIfInBounds_toArray, List.set_cons_zero, List.set_cons_succ]
          refine wpAnyG_pass 20 31 rfl (by kernel_rfl) rfl (by rfl) ?_
          simp only [List.setIfInBounds_toArray, List.set_cons_zero, List.set_cons_succ]
          refine wpAnyG_pass 21 32 rfl (by kernel_rfl) rfl (by rfl) ?_
          simp only [List.setIfInBounds_toArray, List.set_cons_zero, List.set_cons_succ]
          refine wpAnyG_pass 22 33 rfl (by kernel_rfl) rfl (by rfl) ?_
          simp only [List.setIfInBounds_toArray, List.set_cons_zero, List.set_cons_succ]
          refine wpAnyG_pass 23 34 rfl (by kernel_rfl) rfl (by rfl) ?_
          simp only [List.setIfInBounds_toArray, List.set_cons_zero, List.set_cons_succ]
          refine wpAnyG_pass 24 35 rfl (by kernel_rfl) rfl (by rfl) ?_
          simp only [List.setIfInBounds_toArray, List.set_cons_zero, List.set_cons_succ]
          refine wpAnyG_pass 25 36 rfl (by kernel_rfl) rfl (by rfl) ?_
          simp only [List.setIfInBounds_toArray, List.set_cons_zero, List.set_cons_succ]
          refine wpAnyG_pass 26 37 rfl (by kernel_rfl) rfl (by rfl) ?_
          simp only [List.setIfInBounds_toArray, List.set_cons_zero, List.set_cons_succ]
          refine wpAnyG_pass 27 38 rfl (by kernel_rfl) rfl (by rfl) ?_
          simp only [List.setIfInBounds_toArray, List.set_cons_zero, List.set_cons_succ]
          refine wpAnyG_pass 28 39 rfl (by kernel_rfl) rfl (by rfl) ?_
          simp only [List.setIfInBounds_toArray, List.set_cons_zero, List.set_cons_succ]
          refine wpAnyG_pass 29 40 rfl (by kernel_rfl) rfl (by rfl) ?_
          simp only [List.setIfInBounds_toArray, List.set_cons_zero, List.set_cons_succ]
          refine wpAnyG_pass 30 41 rfl (by kernel_rfl) rfl (by rfl) ?_
          simp only [List.setIfInBounds_toArray, List.set_cons_zero, List.set_cons_succ]
          refine wpAnyG_pass 31 42 rfl (by kernel_rfl) rfl (by rfl) ?_
          simp only [List.setIfInBounds_toArray, List.set_cons_zero, List.set_cons_succ]
          refine wpAnyG_pass 32 43 rfl (by kernel_rfl) rfl (by rfl) ?_
          simp only [List.setIfInBounds_toArray, List.set_cons_zero, List.set_cons_succ]
          refine wpAnyG_pass 33 44 rfl (by kernel_rfl) rfl (by rfl) ?_
          simp only [List.setIfInBounds_toArray, List.set_cons_zero, List.set_cons_succ]
          refine wpAnyG_pass 34 45 rfl (by kernel_rfl) rfl (by rfl) ?_
          simp only [List.setIfInBounds_toArray, List.set_cons_zero, List.set_cons_succ]
          refine wpAnyG_pass 35 46 rfl (by kernel_rfl) rfl (by rfl) ?_
          simp only [List.setIfInBounds_toArray, List.set_cons_zero, List.set_cons_succ]
          refine wpAnyG_pass 36 47 rfl (by kernel_rfl) rfl (by rfl) ?_
          simp only [List.setIfInBounds_toArray, List.set_cons_zero, List.set_cons_succ]
          refine wpAnyG_pass 37 48 rfl (by kernel_rfl) rfl (by rfl) ?_
          simp only [List.setIfInBounds_toArray, List.set_cons_zero, List.set_cons_succ]
          refine wpAnyG_pass 38 49 rfl (by kernel_rfl) rfl (by rfl) ?_
          simp only [List.setIfInBounds_toArray, List.set_cons_zero, List.set_cons_succ]
          refine wpAnyG_pass 39 50 rfl (by kernel_rfl) rfl (by rfl) ?_
          simp only [List.setIfInBounds_toArray, List.set_cons_zero, List.set_cons_succ]
          refine wpAnyG_pure 40 51 (v := ?_) rfl (by kernel_rfl) rfl (by rfl) (fun w' => ?_) ?_
          rotate_left
          · go_simp <;> with_reducible rfl
          simp only [List.setIfInBounds_toArray, List.set_cons_zero, List.set_cons_succ]
          refine wpAnyG_done (by kernel_rfl) ?_
          go_wp2_with fail
          go_roundw
          case rel => exact ⟨k + 1, _, by omega, by go_num, rfl, Lib.hid (.inr ⟨k, (ev, ek), rfl, by omega, HE.out, better HE.out HA.out (.inl h3)⟩), hK.drew⟩
          case measure => simp [intOf]; omega
        · subst h3
          have e1 : decide (ek < ek) = false := decide_eq_false (by omega)
          have e2 : (ek == ek) = true := by simp
          rcases Int.lt_or_le ev fv with h4 | h4
          · have e3 : decide (ev < fv) = true := decide_eq_true h4
            go_wp2_with fail
            refine wp_region_grow [] (fun _ => False) (by kernel_rfl) ?_
            simp only [List.size_toArray, List.length_cons, List.length_nil, Nat.reduceAdd]
            refine wpAnyG_pure 0 11 (v := ?_) rfl (by kernel_rfl) rfl (by rfl) (fun w' => ?_) ?_
            rotate_left
            · go_simp <;> with_reducible rfl
            simp only [List.setIfInBounds_toArray, List.set_cons_zero, List.set_cons_succ]
            refine wpAnyG_pure 1 12 (v := ?_) rfl (by kernel_rfl) rfl (by rfl) (fun w' => ?_) ?_
            rotate_left
            · go_simp <;> with_reducible rfl
            simp only [List.setIfInBounds_toArray, List.set_cons_zero, List.set_cons_succ]
            refine wpAnyG_pure 2 13 (v := ?_) rfl (by kernel_rfl) rfl (by rfl) (fun w' => ?_) ?_
            rotate_left
            · go_simp <;> with_reducible rfl
            simp only [List.setIfInBounds_toArray, List.set_cons_zero, List.set_cons_succ]
            refine wpAnyG_pure 3 14 (v := ?_) rfl (by kernel_rfl) rfl (by rfl) (fun w' => ?_) ?_
            rotate_left
            · go_simp <;> with_reducible rfl
            simp only [List.setIfInBounds_toArray, List.set_cons_zero, List.set_cons_succ]
            refine wpAnyG_pure 4 15 (v := ?_) rfl (by kernel_rfl) rfl (by rfl) (fun w' => ?_) ?_
            rotate_left
            · go_simp <;> with_reducible rfl
            simp only [List.setIfInBounds_toArray, List.set_cons_zero, List.set_cons_succ]
            refine wpAnyG_pure 5 16 (v := ?_) rfl (by kernel_rfl) rfl (by rfl) (fun w' => ?_) ?_
            rotate_left
            · go_simp <;> with_reducible rfl
            simp only [List.setIfInBounds_toArray, List.set_cons_zero, List.set_cons_succ]
            refine wpAnyG_pure 6 17 (v := ?_) rfl (by kernel_rfl) rfl (by rfl) (fun w' => ?_) ?_
            rotate_left
            · go_simp <;> with_reducible rfl
            simp only [List.setIfInBounds_toArray, List.set_cons_zero, List.set_cons_succ]
            refine wpAnyG_take 7 18 (v := ?_) rfl (by kernel_rfl) rfl (by rfl) (fun w' hG' => ?_) ?_
            rotate_left
            · have hx0 := Grew.cell hG' a0
              have hx1 := Grew.cell hG' a1
              have hx2 := Grew.cell hG' b0
              have hx3 := Grew.cell hG' b1
              go_simp <;> with_reducible rfl
            simp only [List.setIfInBounds_toArray, List.set_cons_zero, List.set_cons_succ]
            refine wpAnyG_pure 8 19 (v := ?_) rfl (by kernel_rfl) rfl (by rfl) (fun w' => ?_) ?_
            rotate_left
            · go_simp <;> with_reducible rfl
            simp only [List.setIfInBounds_toArray, List.set_cons_zero, List.set_cons_succ]
            refine wpAnyG_pure 9 20 (v := ?_) rfl (by kernel_rfl) rfl (by rfl) (fun w' => ?_) ?_
            rotate_left
            · go_simp <;> with_reducible rfl
            simp only [List.setIfInBounds_toArray, List.set_cons_zero, List.set_cons_succ]
            refine wpAnyG_pure 10 21 (v := ?_) rfl (by kernel_rfl) rfl (by rfl) (fun w' => ?_) ?_
            rotate_left
            · go_simp <;> with_reducible rfl
            simp only [List.setIfInBounds_toArray, List.set_cons_zero, List.set_cons_succ]
            refine wpAnyG_pure 11 22 (v := ?_) rfl (by kernel_rfl) rfl (by rfl) (fun w' => ?_) ?_
            rotate_left
            · go_simp <;> with_reducible rfl
            simp only [List.setIfInBounds_toArray, List.set_cons_zero, List.set_cons_succ]
            refine wpAnyG_take 12 23 (v := ?_) rfl (by kernel_rfl) rfl (by rfl) (fun w' hG' => ?_) ?_
            rotate_left
            · have hx0 := Grew.cell hG' a0
              have hx1 := Grew.cell hG' a1
              have hx2 := Grew.cell hG' b0
              have hx3 := Grew.cell hG' b1
              go_simp <;> with_reducible rfl
            simp only [List.setIfInBounds_toArray, List.set_cons_zero, List.set_cons_succ]
            refine wpAnyG_pure 13 24 (v := ?_) rfl (by kernel_rfl) rfl (by rfl) (fun w' => ?_) ?_
            rotate_left
            · go_simp <;> with_reducible rfl
            simp only [List.setIfInBounds_toArray, List.set_cons_zero, List.set_cons_succ]
            refine wpAnyG_pure 14 25 (v := ?_) rfl (by kernel_rfl) rfl (by rfl) (fun w' => ?_) ?_
            rotate_left
            · go_simp <;> with_reducible rfl
            simp only [List.setIfInBounds_toArray, List.set_cons_zero, List.set_cons_succ]
            refine wpAnyG_pure 15 26 (v := ?_) rfl (by kernel_rfl) rfl (by rfl) (fun w' => ?_) ?_
            rotate_left
            · go_simp <;> with_reducible rfl
            simp only [List.setIfInBounds_toArray, List.set_cons_zero, List.set_cons_succ]
            refine wpAnyG_pure 16 27 (v := ?_) rfl (by kernel_rfl) rfl (by rfl) (fun w' => ?_) ?_
            rotate_left
            · go_simp <;> with_reducible rfl
            simp only [List.setIfInBounds_toArray, List.set_cons_zero, List.set_cons_succ]
            refine wpAnyG_pure 17 28 (v := ?_) rfl (by kernel_rfl) rfl (by rfl) (fun w' => ?_) ?_
            rotate_left
            · go_simp <;> with_reducible rfl
            simp only [List.setIfInBounds_toArray, List.set_cons_zero, List.set_cons_succ]
            refine wpAnyG_pure 18 29 (v := ?_) rfl (by kernel_rfl) rfl (by rfl) (fun w' => ?_) ?_
            rotate_left
            · go_simp <;> with_reducible rfl
            simp only [List.setIfInBounds_toArray, List.set_cons_zero, List.set_cons_succ]
            refine wpAnyG_pure 19 30 (v := ?_) rfl (by kernel_rfl) rfl (by rfl) (fun w' => ?_) ?_
            rotate_left
            · go_simp <;> with_reducible rfl
            simp only [List.setIfInBounds_toArray, List.set_cons_zero, List.set_cons_succ]
            refine wpAnyG_take 20 31 (v := ?_) rfl (by kernel_rfl) rfl (by rfl) (fun w' hG' => ?_) ?_
            rotate_left
            · have hx0 := Grew.cell hG' a0
              have hx1 := Grew.cell hG' a1
              have hx2 := Grew.cell hG' b0
              have hx3 := Grew.cell hG' b1
              go_simp <;> with_reducible rfl
            simp only [List.setIfInBounds_toArray, List.set_cons_zero, List.set_cons_succ]
            refine wpAnyG_pure 21 32 (v := ?_) rfl (by kernel_rfl) rfl (by rfl) (fun w' => ?_) ?_
            rotate_left
            · go_simp <;> with_reducible rfl
            simp only [List.setIfInBounds_toArray, List.set_cons_zero, List.set_cons_succ]
            refine wpAnyG_pure 22 33 (v := ?_) rfl (by kernel_rfl) rfl (by rfl) (fun w' => ?_) ?_
            rotate_left
            · go_simp <;> with_reducible rfl
            simp only [List.setIfInBounds_toArray, List.set_cons_zero, List.set_cons_succ]
            refine wpAnyG_pure 23 34 (v := ?_) rfl (by kernel_rfl) rfl (by rfl) (fun w' => ?_) ?_
            rotate_left
            · go_simp <;> with_reducible rfl
            simp only [List.setIfInBounds_toArray, List.set_cons_zero, List.set_cons_succ]
            refine wpAnyG_pure 24 35 (v := ?_) rfl (by kernel_rfl) rfl (by rfl) (fun w' => ?_) ?_
            rotate_left
            · go_simp <;> with_reducible rfl
            simp only [List.setIfInBounds_toArray, List.set_cons_zero, List.set_cons_succ]
            refine wpAnyG_take 25 36 (v := ?_) rfl (by kernel_rfl) rfl (by rfl) (fun w' hG' => ?_) ?_
            rotate_left
            · have hx0 := Grew.cell hG' a0
              have hx1 := Grew.cell hG' a1
              have hx2 := Grew.cell hG' b0
              have hx3 := Grew.cell hG' b1
              go_simp <;> with_reducible rfl
            simp only [List.setIfInBounds_toArray, List.set_cons_zero, List.set_cons_succ]
            refine wpAnyG_pure 26 37 (v := ?_) rfl (by kernel_rfl) rfl (by rfl) (fun w' => ?_) ?_
            rotate_left
            · go_simp <;> with_reducible rfl
            simp only [List.setIfInBounds_toArray, List.set_cons_zero, List.set_cons_succ]
            refine wpAnyG_pure 27 38 (v := ?_) rfl (by kernel_rfl) rfl (by rfl) (fun w' => ?_) ?_
            rotate_left
            · go_simp <;> with_reducible rfl
            simp only [List.setIfInBounds_toArray, List.set_cons_zero, List.set_cons_succ]
            refine wpAnyG_pure 28 39 (v := ?_) rfl (by kernel_rfl) rfl (by rfl) (fun w' => ?_) ?_
            rotate_left
            · go_simp <;> with_reducible rfl
            simp only [List.setIfInBounds_toArray, List.set_cons_zero, List.set_cons_succ]
            refine wpAnyG_pure 29 40 (v := ?_) rfl (by kernel_rfl) rfl (by rfl) (fun w' => ?_) ?_
            rotate_left
            · go_simp <;> with_reducible rfl
            simp only [List.setIfInBounds_toArray, List.set_cons_zero, List.set_cons_succ]
            refine wpAnyG_pure 30 41 (v := ?_) rfl (by kernel_rfl) rfl (by rfl) (fun w' => ?_) ?_
            rotate_left
            · go_simp <;> with_reducible rfl
            simp only [List.setIfInBounds_toArray, List.set_cons_zero, List.set_cons_succ]
            refine wpAnyG_pure 31 42 (v := ?_) rfl (by kernel_rfl) rfl (by rfl) (fun w' => ?_) ?_
            rotate_left
            · go_simp <;> with_reducible rfl
            simp only [List.setIfInBounds_toArray, List.set_cons_zero, List.set_cons_succ]
            refine wpAnyG_take 32 43 (v := ?_) rfl (by kernel_rfl) rfl (by rfl) (fun w' hG' => ?_) ?_
            rotate_left
            · have hx0 := Grew.cell hG' a0
              have hx1 := Grew.cell hG' a1
              have hx2 := Grew.cell hG' b0
              have hx3 := Grew.cell hG' b1
              go_simp <;> with_reducible rfl
            simp only [List.setIfInBounds_toArray, List.set_cons_zero, List.set_cons_succ]
            refine wpAnyG_pure 33 44 (v := ?_) rfl (by kernel_rfl) rfl (by rfl) (fun w' => ?_) ?_
            rotate_left
            · go_simp <;> with_reducible rfl
            simp only [List.setIfInBounds_toArray, List.set_cons_zero, List.set_cons_succ]
            refine wpAnyG_pure 34 45 (v := ?_) rfl (by kernel_rfl) rfl (by rfl) (fun w' => ?_) ?_
            rotate_left
            · go_simp <;> with_reducible rfl
            simp only [List.setIfInBounds_toArray, List.set_cons_zero, List.set_cons_succ]
            refine wpAnyG_pure 35 46 (v := ?_) rfl (by kernel_rfl) rfl (by rfl) (fun w' => ?_) ?_
            rotate_left
            · go_simp <;> with_reducible rfl
            simp only [List.setIfInBounds_toArray, List.set_cons_zero, List.set_cons_succ]
            refine wpAnyG_pure 36 47 (v := ?_) rfl (by kernel_rfl) rfl (by rfl) (fun w' => ?_) ?_
            rotate_left
            · go_simp <;> with_reducible rfl
            simp only [List.setIfInBounds_toArray, List.set_cons_zero, List.set_cons_succ]
            refine wpAnyG_take 37 48 (v := ?_) rfl (by kernel_rfl) rfl (by rfl) (fun w' hG' => ?_) ?_
            rotate_left
            · have hx0 := Grew.cell hG' a0
              have hx1 := Grew.cell hG' a1
              have hx2 := Grew.cell hG' b0
              have hx3 := Grew.cell hG' b1
              go_simp <;> with_reducible rfl
            simp only [List.setIfInBounds_toArray, List.set_cons_zero, List.set_cons_succ]
            refine wpAnyG_pure 38 49 (v := ?_) rfl (by kernel_rfl) rfl (by rfl) (fun w' => ?_) ?_
            rotate_left
            · go_simp <;> with_reducible rfl
            simp only [List.setIfInBounds_toArray, List.set_cons_zero, List.set_cons_succ]
            refine wpAnyG_pure 39 50 (v := ?_) rfl (by kernel_rfl) rfl (by rfl) (fun w' => ?_) ?_
            rotate_left
            · go_simp <;> with_reducible rfl
            simp only [List.setIfInBounds_toArray, List.set_cons_zero, List.set_cons_succ]
            refine wpAnyG_pure 40 51 (v := ?_) rfl (by kernel_rfl) rfl (by rfl) (fun w' => ?_) ?_
            rotate_left
            · go_simp <;> with_reducible rfl
            simp only [List.setIfInBounds_toArray, List.set_cons_zero, List.set_cons_succ]
            refine wpAnyG_done (by kernel_rfl) ?_
            go_wp2_with fail
            go_roundw
            case rel => exact ⟨k + 1, _, by omega, by go_num, rfl, Lib.hid (.inr ⟨k, (ev, ek), rfl, by omega, HE.out, better HE.out HA.out (.inr ⟨rfl, h4⟩)⟩), hK.drew⟩
            case measure => simp [intOf]; omega
          · have e3 : decide (ev < fv) = false := decide_eq_false (by omega)
            go_wp2_with fail
            refine wp_region_grow [] (fun _ => False) (by kernel_rfl) ?_
            simp only [List.size_toArray, List.length_cons, List.length_nil, Nat.reduceAdd]
            refine wpAnyG_pure 0 11 (v := ?_) rfl (by kernel_rfl) rfl (by rfl) (fun w' => ?_) ?_
            rotate_left
            · go_simp <;> with_reducible rfl
            simp only [List.setIfInBounds_toArray, List.set_cons_zero, List.set_cons_succ]
            refine wpAnyG_pure 1 12 (v := ?_) rfl (by kernel_rfl) rfl (by rfl) (fun w' => ?_) ?_
            rotate_left
            · go_simp <;> with_reducible rfl
            simp only [List.setIfInBounds_toArray, List.set_cons_zero, List.set_cons_succ]
            refine wpAnyG_pure 2 13 (v := ?_) rfl (by kernel_rfl) rfl (by rfl) (fun w' => ?_) ?_
            rotate_left
            · go_simp <;> with_reducible rfl
            simp only [List.setIfInBounds_toArray, List.set_cons_zero, List.set_cons_succ]
            refine wpAnyG_pure 3 14 (v := ?_) rfl (by kernel_rfl) rfl (by rfl) (fun w' => ?_) ?_
            rotate_left
            · go_simp <;> with_reducible rfl
            simp only [List.setIfInBounds_toArray, List.set_cons_zero, List.set_cons_succ]
            refine wpAnyG_pure 4 15 (v := ?_) rfl (by kernel_rfl) rfl (by rfl) (fun w' => ?_) ?_
            rotate_left
            · go_simp <;> with_reducible rfl
            simp only [List.setIfInBounds_toArray, List.set_cons_zero, List.set_cons_succ]
            refine wpAnyG_pure 5 16 (v := ?_) rfl (by kernel_rfl) rfl (by rfl) (fun w' => ?_) ?_
            rotate_left
            · go_simp <;> with_reducible rfl
            simp only [List.setIfInBounds_toArray, List.set_cons_zero, List.set_cons_succ]
            refine wpAnyG_pure 6 17 (v := ?_) rfl (by kernel_rfl) rfl (by rfl) (fun w' => ?_) ?_
            rotate_left
            · go_simp <;> with_reducible rfl
            simp only [List.setIfInBounds_toArray, List.set_cons_zero, List.set_cons_succ]
            refine wpAnyG_take 7 18 (v := ?_) rfl (by kernel_rfl) rfl (by rfl) (fun w' hG' => ?_) ?_
            rotate_left
            · have hx0 := Grew.cell hG' a0
              have hx1 := Grew.cell hG' a1
              have hx2 := Grew.cell hG' b0
              have hx3 := Grew.cell hG' b1
              go_simp <;> with_reducible rfl
            simp only [List.setIfInBounds_toArray, List.set_cons_zero, List.set_cons_succ]
            refine wpAnyG_pure 8 19 (v := ?_) rfl (by kernel_rfl) rfl (by rfl) (fun w' => ?_) ?_
            rotate_left
            · go_simp <;> with_reducible rfl
            simp only [List.setIfInBounds_toArray, List.set_cons_zero, List.set_cons_succ]
            refine wpAnyG_pure 9 20 (v := ?_) rfl (by kernel_rfl) rfl (by rfl) (fun w' => ?_) ?_
            rotate_left
            · go_simp <;> with_reducible rfl
            simp only [List.setIfInBounds_toArray, List.set_cons_zero, List.set_cons_succ]
            refine wpAnyG_pure 10 21 (v := ?_) rfl (by kernel_rfl) rfl (by rfl) (fun w' => ?_) ?_
            rotate_left
            · go_simp <;> with_reducible rfl
            simp only [List.setIfInBounds_toArray, List.set_cons_zero, List.set_cons_succ]
            refine wpAnyG_pure 11 22 (v := ?_) rfl (by kernel_rfl) rfl (by rfl) (fun w' => ?_) ?_
            rotate_left
            · go_simp <;> with_reducible rfl
            simp only [List.setIfInBounds_toArray, List.set_cons_zero, List.set_cons_succ]
            refine wpAnyG_take 12 23 (v := ?_) rfl (by kernel_rfl) rfl (by rfl) (fun w' hG' => ?_) ?_
            rotate_left
            · have hx0 := Grew.cell hG' a0
              have hx1 := Grew.cell hG' a1
              have hx2 := Grew.cell hG' b0
              have hx3 := Grew.cell hG' b1
              go_simp <;> with_reducible rfl
            simp only [List.setIfInBounds_toArray, List.set_cons_zero, List.set_cons_succ]
            refine wpAnyG_pure 13 24 (v := ?_) rfl (by kernel_rfl) rfl (by rfl) (fun w' => ?_) ?_
            rotate_left
            · go_simp <;> with_reducible rfl
            simp only [List.setIfInBounds_toArray, List.set_cons_zero, List.set_cons_succ]
            refine wpAnyG_pure 14 25 (v := ?_) rfl (by kernel_rfl) rfl (by rfl) (fun w' => ?_) ?_
            rotate_left
            · go_simp <;> with_reducible rfl
            simp only [List.setIfInBounds_toArray, List.set_cons_zero, List.set_cons_succ]
            refine wpAnyG_pure 15 26 (v := ?_) rfl (by kernel_rfl) rfl (by rfl) (fun w' => ?_) ?_
            rotate_left
            · go_simp <;> with_reducible rfl
            simp only [List.setIfInBounds_toArray, List.set_cons_zero, List.set_cons_succ]
            refine wpAnyG_pure 16 27 (v := ?_) rfl (by kernel_rfl) rfl (by rfl) (fun w' => ?_) ?_
            rotate_left
            · go_simp <;> with_reducible rfl
            simp only [List.setIfInBounds_toArray, List.set_cons_zero, List.set_cons_succ]
            refine wpAnyG_pure 17 28 (v := ?_) rfl (by kernel_rfl) rfl (by rfl) (fun w' => ?_) ?_
            rotate_left
            · go_simp <;> with_reducible rfl
            simp only [List.setIfInBounds_toArray, List.set_cons_zero, List.set_cons_succ]
            refine wpAnyG_pure 18 29 (v := ?_) rfl (by kernel_rfl) rfl (by rfl) (fun w' => ?_) ?_
            rotate_left
            · go_simp <;> with_reducible rfl
            simp only [List.setIfInBounds_toArray, List.set_cons_zero, List.set_cons_succ]
            refine wpAnyG_pure 19 30 (v := ?_) rfl (by kernel_rfl) rfl (by rfl) (fun w' => ?_) ?_
            rotate_left
            · go_simp <;> with_reducible rfl
            simp only [List.setIfInBounds_toArray, List.set_cons_zero, List.set_cons_succ]
            refine wpAnyG_take 20 31 (v := ?_) rfl (by kernel_rfl) rfl (by rfl) (fun w' hG' => ?_) ?_
            rotate_left
            · have hx0 := Grew.cell hG' a0
              have hx1 := Grew.cell hG' a1
              have hx2 := Grew.cell hG' b0
              have hx3 := Grew.cell hG' b1
              go_simp <;> with_reducible rfl
            simp only [List.setIfInBounds_toArray, List.set_cons_zero, List.set_cons_succ]
            refine wpAnyG_pure 21 32 (v := ?_) rfl (by kernel_rfl) rfl (by rfl) (fun w' => ?_) ?_
            rotate_left
            · go_simp <;> with_reducible rfl
            simp only [List.setIfInBounds_toArray, List.set_cons_zero, List.set_cons_succ]
            refine wpAnyG_pure 22 33 (v := ?_) rfl (by kernel_rfl) rfl (by rfl) (fun w' => ?_) ?_
            rotate_left
            · go_simp <;> with_reducible rfl
            simp only [List.setIfInBounds_toArray, List.set_cons_zero, List.set_cons_succ]
            refine wpAnyG_pure 23 34 (v := ?_) rfl (by kernel_rfl) rfl (by rfl) (fun w' => ?_) ?_
            rotate_left
            · go_simp <;> with_reducible rfl
            simp only [List.setIfInBounds_toArray, List.set_cons_zero, List.set_cons_succ]
            refine wpAnyG_pure 24 35 (v := ?_) rfl (by kernel_rfl) rfl (by rfl) (fun w' => ?_) ?_
            rotate_left
            · go_simp <;> with_reducible rfl
            simp only [List.setIfInBounds_toArray, List.set_cons_zero, List.set_cons_succ]
            refine wpAnyG_take 25 36 (v := ?_) rfl (by kernel_rfl) rfl (by rfl) (fun w' hG' => ?_) ?_
            rotate_left
            · have hx0 := Grew.cell hG' a0
              have hx1 := Grew.cell hG' a1
              have hx2 := Grew.cell hG' b0
              have hx3 := Grew.cell hG' b1
              go_simp <;> with_reducible rfl
            simp only [List.setIfInBounds_toArray, List.set_cons_zero, List.set_cons_succ]
            refine wpAnyG_pure 26 37 (v := ?_) rfl (by kernel_rfl) rfl (by rfl) (fun w' => ?_) ?_
            rotate_left
            · go_simp <;> with_reducible rfl
            simp only [List.setIfInBounds_toArray, List.set_cons_zero, List.set_cons_succ]
            refine wpAnyG_pure 27 38 (v := ?_) rfl (by kernel_rfl) rfl (by rfl) (fun w' => ?_) ?_
            rotate_left
            · go_simp <;> with_reducible rfl
            simp only [List.setIfInBounds_toArray, List.set_cons_zero, List.set_cons_succ]
            refine wpAnyG_pure 28 39 (v := ?_) rfl (by kernel_rfl) rfl (by rfl) (fun w' => ?_) ?_
            rotate_left
            · go_simp <;> with_reducible rfl
            simp only [List.setIfInBounds_toArray, List.set_cons_zero, List.set_cons_succ]
            refine wpAnyG_pure 29 40 (v := ?_) rfl (by kernel_rfl) rfl (by rfl) (fun w' => ?_) ?_
            rotate_left
            · go_simp <;> with_reducible rfl
            simp only [List.setIfInBounds_toArray, List.set_cons_zero, List.set_cons_succ]
            refine wpAnyG_pure 30 41 (v := ?_) rfl (by kernel_rfl) rfl (by rfl) (fun w' => ?_) ?_
            rotate_left
            · go_simp <;> with_reducible rfl
            simp only [List.setIfInBounds_toArray, List.set_cons_zero, List.set_cons_succ]
            refine wpAnyG_pure 31 42 (v := ?_) rfl (by kernel_rfl) rfl (by rfl) (fun w' => ?_) ?_
            rotate_left
            · go_simp <;> with_reducible rfl
            simp only [List.setIfInBounds_toArray, List.set_cons_zero, List.set_cons_succ]
            refine wpAnyG_take 32 43 (v := ?_) rfl (by kernel_rfl) rfl (by rfl) (fun w' hG' => ?_) ?_
            rotate_left
            · have hx0 := Grew.cell hG' a0
              have hx1 := Grew.cell hG' a1
              have hx2 := Grew.cell hG' b0
              have hx3 := Grew.cell hG' b1
              go_simp <;> with_reducible rfl
            simp only [List.setIfInBounds_toArray, List.set_cons_zero, List.set_cons_succ]
            refine wpAnyG_pure 33 44 (v := ?_) rfl (by kernel_rfl) rfl (by rfl) (fun w' => ?_) ?_
            rotate_left
            · go_simp <;> with_reducible rfl
            simp only [List.setIfInBounds_toArray, List.set_cons_zero, List.set_cons_succ]
            refine wpAnyG_pure 34 45 (v := ?_) rfl (by kernel_rfl) rfl (by rfl) (fun w' => ?_) ?_
            rotate_left
            · go_simp <;> with_reducible rfl
            simp only [List.setIfInBounds_toArray, List.set_cons_zero, List.set_cons_succ]
            refine wpAnyG_pure 35 46 (v := ?_) rfl (by kernel_rfl) rfl (by rfl) (fun w' => ?_) ?_
            rotate_left
            · go_simp <;> with_reducible rfl
            simp only [List.setIfInBounds_toArray, List.set_cons_zero, List.set_cons_succ]
            refine wpAnyG_pure 36 47 (v := ?_) rfl (by kernel_rfl) rfl (by rfl) (fun w' => ?_) ?_
            rotate_left
            · go_simp <;> with_reducible rfl
            simp only [List.setIfInBounds_toArray, List.set_cons_zero, List.set_cons_succ]
            refine wpAnyG_take 37 48 (v := ?_) rfl (by kernel_rfl) rfl (by rfl) (fun w' hG' => ?_) ?_
            rotate_left
            · have hx0 := Grew.cell hG' a0
              have hx1 := Grew.cell hG' a1
              have hx2 := Grew.cell hG' b0
              have hx3 := Grew.cell hG' b1
              go_simp <;> with_reducible rfl
            simp only [List.setIfInBounds_toArray, List.set_cons_zero, List.set_cons_succ]
            refine wpAnyG_pure 38 49 (v := ?_) rfl (by kernel_rfl) rfl (by rfl) (fun w' => ?_) ?_
            rotate_left
            · go_simp <;> with_reducible rfl
            simp only [List.setIfInBounds_toArray, List.set_cons_zero, List.set_cons_succ]
            refine wpAnyG_pure 39 50 (v := ?_) rfl (by kernel_rfl) rfl (by rfl) (fun w' => ?_) ?_
            rotate_left
            · go_simp <;> with_reducible rfl
            simp only [List.setIfInBounds_toArray, List.set_cons_zero, List.set_cons_succ]
            refine wpAnyG_pure 40 51 (v := ?_) rfl (by kernel_rfl) rfl (by rfl) (fun w' => ?_) ?_
            rotate_left
            · go_simp <;> with_reducible rfl
            simp only [List.setIfInBounds_toArray, List.set_cons_zero, List.set_cons_succ]
            refine wpAnyG_done (by kernel_rfl) ?_
            go_wp2_with fail
            go_roundw
            case rel => exact ⟨k + 1, _, by omega, by go_num, rfl, Lib.hid (.inr ⟨q, (fv, ek), rfl, by omega, HF.out, same HE.out HA.out (by rw [lessI_iff]; simp only; omega)⟩), hK.drew⟩
            case measure => simp [intOf]; omega
        · have e1 : decide (ek < fk) = false := decide_eq_false (by omega)
          have e2 : (ek == fk) = false := by
            have : ¬ ek = fk := by omega
            simpa using this
          go_wp2_with fail
          refine wp_region_grow [] (fun _ => False) (by kernel_rfl) ?_
          simp only [List.size_toArray, List.length_cons, List.length_nil, Nat.reduceAdd]
          refine wpAnyG_pure 0 11 (v := ?_) rfl (by kernel_rfl) rfl (by rfl) (fun w' => ?_) ?_
          rotate_left
          · go_simp <;> with_reducible rfl
          simp only [List.setIfInBounds_toArray, List.set_cons_zero, List.set_cons_succ]
          refine wpAnyG_pure 1 12 (v := ?_) rfl (by kernel_rfl) rfl (by rfl) (fun w' => ?_) ?_
          rotate_left
          · go_simp <;> with_reducible rfl
          simp only [List.setIfInBounds_toArray, List.set_cons_zero, List.set_cons_succ]
          refine wpAnyG_pure 2 13 (v := ?_) rfl (by kernel_rfl) rfl (by rfl) (fun w' => ?_) ?_
          rotate_left
          · go_simp <;> with_reducible rfl
          simp only [List.setIfInBounds_toArray, List.set_cons_zero, List.set_cons_succ]
          refine wpAnyG_pure 3 14 (v := ?_) rfl (by kernel_rfl) rfl (by rfl) (fun w' => ?_) ?_
          rotate_left
          · go_simp <;> with_reducible rfl
          simp only [List.setIfInBounds_toArray, List.set_cons_zero, List.set_cons_succ]
          refine wpAnyG_pure 4 15 (v := ?_) rfl (by kernel_rfl) rfl (by rfl) (fun w' => ?_) ?_
          rotate_left
          · go_simp <;> with_reducible rfl
          simp only [List.setIfInBounds_toArray, List.set_cons_zero, List.set_cons_succ]
          refine wpAnyG_pure 5 16 (v := ?_) rfl (by kernel_rfl) rfl (by rfl) (fun w' => ?_) ?_
          rotate_left
          · go_simp <;> with_reducible rfl
          simp only [List.setIfInBounds_toArray, List.set_cons_zero, List.set_cons_succ]
          refine wpAnyG_pure 6 17 (v := ?_) rfl (by kernel_rfl) rfl (by rfl) (fun w' => ?_) ?_
          rotate_left
          · go_simp <;> with_reducible rfl
          simp only [List.setIfInBounds_toArray, List.set_cons_zero, List.set_cons_succ]
          refine wpAnyG_take 7 18 (v := ?_) rfl (by kernel_rfl) rfl (by rfl) (fun w' hG' => ?_) ?_
          rotate_left
          · have hx0 := Grew.cell hG' a0
            have hx1 := Grew.cell hG' a1
            have hx2 := Grew.cell hG' b0
            have hx3 := Grew.cell hG' b1
            go_simp <;> with_reducible rfl
          simp only [List.setIfInBounds_toArray, List.set_cons_zero, List.set_cons_succ]
          refine wpAnyG_pure 8 19 (v := ?_) rfl (by kernel_rfl) rfl (by rfl) (fun w' => ?_) ?_
          rotate_left
          · go_simp <;> with_reducible rfl
          simp only [List.setIfInBounds_toArray, List.set_cons_zero, List.set_cons_succ]
          refine wpAnyG_pure 9 20 (v := ?_) rfl (by kernel_rfl) rfl (by rfl) (fun w' => ?_) ?_
          rotate_left
          · go_simp <;> with_reducible rfl
          simp only [List.setIfInBounds_toArray, List.set_cons_zero, List.set_cons_succ]
          refine wpAnyG_pure 10 21 (v := ?_) rfl (by kernel_rfl) rfl (by rfl) (fun w' => ?_) ?_
          rotate_left
          · go_simp <;> with_reducible rfl
          simp only [List.setIfInBounds_toArray, List.set_cons_zero, List.set_cons_succ]
          refine wpAnyG_pure 11 22 (v := ?_) rfl (by kernel_rfl) rfl (by rfl) (fun w' => ?_) ?_
          rotate_left
          · go_simp <;> with_reducible rfl
          simp only [List.setIfInBounds_toArray, List.set_cons_zero, List.set_cons_succ]
          refine wpAnyG_take 12 23 (v := ?_) rfl (by kernel_rfl) rfl (by rfl) (fun w' hG' => ?_) ?_
          rotate_left
          · have hx0 := Grew.cell hG' a0
            have hx1 := Grew.cell hG' a1
            have hx2 := Grew.cell hG' b0
            have hx3 := Grew.cell hG' b1
            go_simp <;> with_reducible rfl
          simp only [List.setIfInBounds_toArray, List.set_cons_zero, List.set_cons_succ]
          refine wpAnyG_pure 13 24 (v := ?_) rfl (by kernel_rfl) rfl (by rfl) (fun w' => ?_) ?_
          rotate_left
          · go_simp <;> with_reducible rfl
          simp only [List.setIfInBounds_toArray, List.set_cons_zero, List.set_cons_succ]
          refine wpAnyG_pure 14 25 (v := ?_) rfl (by kernel_rfl) rfl (by rfl) (fun w' => ?_) ?_
          rotate_left
          · go_simp <;> with_reducible rfl
          simp only [List.setIfInBounds_toArray, List.set_cons_zero, List.set_cons_succ]
          refine wpAnyG_pure 15 26 (v := ?_) rfl (by kernel_rfl) rfl (by rfl) (fun w' => ?_) ?_
          rotate_left
          · go_simp <;> with_reducible rfl
          simp only [List.setIfInBounds_toArray, List.set_cons_zero, List.set_cons_succ]
          refine wpAnyG_pure 16 27 (v := ?_) rfl (by kernel_rfl) rfl (by rfl) (fun w' => ?_) ?_
          rotate_left
          · go_simp <;> with_reducible rfl
          simp only [List.setIfInBounds_toArray, List.set_cons_zero, List.set_cons_succ]
          refine wpAnyG_pure 17 28 (v := ?_) rfl (by kernel_rfl) rfl (by rfl) (fun w' => ?_) ?_
          rotate_left
          · go_simp <;> with_reducible rfl
          simp only [List.setIfInBounds_toArray, List.set_cons_zero, List.set_cons_succ]
          refine wpAnyG_pure 18 29 (v := ?_) rfl (by kernel_rfl) rfl (by rfl) (fun w' => ?_) ?_
          rotate_left
          · go_simp <;> with_reducible rfl
          simp only [List.setIfInBounds_toArray, List.set_cons_zero, List.set_cons_succ]
          refine wpAnyG_pure 19 30 (v := ?_) rfl (by kernel_rfl) rfl (by rfl) (fun w' => ?_) ?_
          rotate_left
          · go_simp <;> with_reducible rfl
          simp only [List.setIfInBounds_toArray, List.set_cons_zero, List.set_cons_succ]
          refine wpAnyG_take 20 31 (v := ?_) rfl (by kernel_rfl) rfl (by rfl) (fun w' hG' => ?_) ?_
          rotate_left
          · have hx0 := Grew.cell hG' a0
            have hx1 := Grew.cell hG' a1
            have hx2 := Grew.cell hG' b0
            have hx3 := Grew.cell hG' b1
            go_simp <;> with_reducible rfl
          simp only [List.setIfInBounds_toArray, List.set_cons_zero, List.set_cons_succ]
          refine wpAnyG_pure 21 32 (v := ?_) rfl (by kernel_rfl) rfl (by rfl) (fun w' => ?_) ?_
          rotate_left
          · go_simp <;> with_reducible rfl
          simp only [List.setIfInBounds_toArray, List.set_cons_zero, List.set_cons_succ]
          refine wpAnyG_pure 22 33 (v := ?_) rfl (by kernel_rfl) rfl (by rfl) (fun w' => ?_) ?_
          rotate_left
          · go_simp <;> with_reducible rfl
          simp only [List.setIfInBounds_toArray, List.set_cons_zero, List.set_cons_succ]
          refine wpAnyG_pure 23 34 (v := ?_) rfl (by kernel_rfl) rfl (by rfl) (fun w' => ?_) ?_
          rotate_left
          · go_simp <;> with_reducible rfl
          simp only [List.setIfInBounds_toArray, List.set_cons_zero, List.set_cons_succ]
          refine wpAnyG_pure 24 35 (v := ?_) rfl (by kernel_rfl) rfl (by rfl) (fun w' => ?_) ?_
          rotate_left
          · go_simp <;> with_reducible rfl
          simp only [List.setIfInBounds_toArray, List.set_cons_zero, List.set_cons_succ]
          refine wpAnyG_take 25 36 (v := ?_) rfl (by kernel_rfl) rfl (by rfl) (fun w' hG' => ?_) ?_
          rotate_left
          · have hx0 := Grew.cell hG' a0
            have hx1 := Grew.cell hG' a1
            have hx2 := Grew.cell hG' b0
            have hx3 := Grew.cell hG' b1
            go_simp <;> with_reducible rfl
          simp only [List.setIfInBounds_toArray, List.set_cons_zero, List.set_cons_succ]
          refine wpAnyG_pure 26 37 (v := ?_) rfl (by kernel_rfl) rfl (by rfl) (fun w' => ?_) ?_
          rotate_left
          · go_simp <;> with_reducible rfl
          simp only [List.setIfInBounds_toArray, List.set_cons_zero, List.set_cons_succ]
          refine wpAnyG_pure 27 38 (v := ?_) rfl (by kernel_rfl) rfl (by rfl) (fun w' => ?_) ?_
          rotate_left
          · go_simp <;> with_reducible rfl
          simp only [List.setIfInBounds_toArray, List.set_cons_zero, List.set_cons_succ]
          refine wpAnyG_pass 28 39 rfl (by kernel_rfl) rfl (by rfl) ?_
          simp only [List.setIfInBounds_toArray, List.set_cons_zero, List.set_cons_succ]
          refine wpAnyG_pass 29 40 rfl (by kernel_rfl) rfl (by rfl) ?_
          simp only [List.setIfInBounds_toArray, List.set_cons_zero, List.set_cons_succ]
          refine wpAnyG_pass 30 41 rfl (by kernel_rfl) rfl (by rfl) ?_
          simp only [List.setIfInBounds_toArray, List.set_cons_zero, List.set_cons_succ]
          refine wpAnyG_pass 31 42 rfl (by kernel_rfl) rfl (by rfl) ?_
          simp only [List.setIfInBounds_toArray, List.set_cons_zero, List.set_cons_succ]
          refine wpAnyG_pass 32 43 rfl (by kernel_rfl) rfl (by rfl) ?_
          simp only [List.setIfInBounds_toArray, List.set_cons_zero, List.set_cons_succ]
          refine wpAnyG_pass 33 44 rfl (by kernel_rfl) rfl (by rfl) ?_
          simp only [List.setIfInBounds_toArray, List.set_cons_zero, List.set_cons_succ]
          refine wpAnyG_pass 34 45 rfl (by kernel_rfl) rfl (by rfl) ?_
          simp only [List.setIfInBounds_toArray, List.set_cons_zero, List.set_cons_succ]
          refine wpAnyG_pass 35 46 rfl (by kernel_rfl) rfl (by rfl) ?_
          simp only [List.setIfInBounds_toArray, List.set_cons_zero, List.set_cons_succ]
          refine wpAnyG_pass 36 47 rfl (by kernel_rfl) rfl (by rfl) ?_
          simp only [List.setIfInBounds_toArray, List.set_cons_zero, List.set_cons_succ]
          refine wpAnyG_pass 37 48 rfl (by kernel_rfl) rfl (by rfl) ?_
          simp only [List.setIfInBounds_toArray, List.set_cons_zero, List.set_cons_succ]
          refine wpAnyG_pass 38 49 rfl (by kernel_rfl) rfl (by rfl) ?_
          simp only [List.setIfInBounds_toArray, List.set_cons_zero, List.set_cons_succ]
          refine wpAnyG_pure 39 50 (v := ?_) rfl (by kernel_rfl) rfl (by rfl) (fun w' => ?_) ?_
          rotate_left
          · go_simp <;> with_reducible rfl
          simp only [List.setIfInBounds_toArray, List.set_cons_zero, List.set_cons_succ]
          refine wpAnyG_pure 40 51 (v := ?_) rfl (by kernel_rfl) rfl (by rfl) (fun w' => ?_) ?_
          rotate_left
          · go_simp <;> with_reducible rfl
          simp only [List.setIfInBounds_toArray, List.set_cons_zero, List.set_cons_succ]
          refine wpAnyG_done (by kernel_rfl) ?_
          go_wp2_with fail
          go_roundw
          case rel => exact ⟨k + 1, _, by omega, by go_num, rfl, Lib.hid (.inr ⟨q, (fv, fk), rfl, by omega, HF.out, same HE.out HA.out (by rw [lessI_iff]; simp only; omega)⟩), hK.drew⟩
          case measure => simp [intOf]; omega
    · obtain rfl : L = k := by omega
      have hbj : Hid (bi = (j : Int)) := by
        rcases HB.out with ⟨h1, _⟩ | ⟨q, f, h1, hqk, hf, hall⟩
        · omega
        · have e1 := less_total (hall j e0 hjl HJ.out) (HM.out f (List.mem_of_getElem? hf))
          subst e1
          show bi = (j : Int)
          rw [h1, HN.out q hf]
      go_wp2_with fail
      go_ret
      exact ⟨by rw [← hbj.out]; rfl, hK⟩

theorem rput_no (w : World) (B : Nat) (v : Value) (x : List Itm) (n p k : Int) (s : Items w B v x) (hs : x.length ≤ 65536) (hdup : ∀ (a b : Nat) (e f : Itm), x[a]? = some e → x[b]? = some f → e.1 = f.1 → a = b) (h : p < 0 ∨ n ≤ p ∨ ∃ e ∈ x, e.1 = p ∧ e.2 ≤ k) : Calls Try.prog 19 #[v, i64 n, i64 p, u64 k] w fun e w' => e = .returned (.tuple #[v, .bool false]) ∧ w = w' := by
  obtain ⟨V, c, hv⟩ := s.slice
  obtain ⟨L, hL⟩ : ∃ L, x.length = L := ⟨_, rfl⟩
  have s0 := s
  rw [hL] at hv hs
  subst hv
  have hs' : x.length ≤ 65536 := by omega
  have HL := Lib.hid hL
  by_cases hex : ∃ e ∈ x, e.1 = p
  · obtain ⟨e, he, hp⟩ := hex
    obtain ⟨j, hj⟩ := List.getElem?_of_mem he
    subst hp
    have hF := Lib.hid (find_yes w B _ x j e s0 hs' hj (fun i f hf h => hdup i j f e hf hj h))
    obtain ⟨g, c', hv, _, c0, c1⟩ := s.item hj
    rw [hL] at hv
    cases hv
    have hjl := get_lt hj
    rw [hL] at hjl
    have j0 : (0 : Int) ≤ (j : Int) := by omega
    have j1 : (j : Int) < (L : Int) := by omega
    obtain ⟨ev, ek⟩ := e
    simp only at h
    have h2 : ev < 0 ∨ 0 ≤ ev ∧ n ≤ ev ∨ 0 ≤ ev ∧ ev < n ∧ ek ≤ k := by
      rcases h with h | h | ⟨f, hf, hfe, hk⟩
      · omega
      · omega
      · obtain ⟨i, hi⟩ := List.getElem?_of_mem hf
        have := hdup i j f _ hi hj hfe
        subst this
        rw [hi] at hj
        cases hj
        simp only at hk
        omega
    clear h s s0 hj he hdup hL
    rcases h2 with h2 | h2 | h2
    · have d0 : decide (ev < 0) = true := decide_eq_true h2
      go_enter Try.func19, Try.ntmps19
      go_wp2_with fail
      refine hF.out.mono ?_
      rintro r w1 ⟨rfl, rfl⟩
      go_wp2_with fail
      go_ret2
      exact ⟨rfl, rfl⟩
    · have d0 : decide (ev < 0) = false := decide_eq_false (by omega)
      have d1 : decide (n ≤ ev) = true := decide_eq_true (by omega)
      go_enter Try.func19, Try.ntmps19
      go_wp2_with fail
      refine hF.out.mono ?_
      rintro r w1 ⟨rfl, rfl⟩
      go_wp2_with fail
      go_ret2
      exact ⟨rfl, rfl⟩
    · have d0 : decide (ev < 0) = false := decide_eq_false (by omega)
      have d1 : decide (n ≤ ev) = false := decide_eq_false (by omega)
      have d2 : decide (ek ≤ k) = true := decide_eq_true (by omega)
      go_enter Try.func19, Try.ntmps19
      go_wp2_with fail
      refine hF.out.mono ?_
      rintro r w1 ⟨rfl, rfl⟩
      go_wp2_with fail
      go_ret2
      exact ⟨rfl, rfl⟩
  · have hF := Lib.hid (find_no w B _ x p s0 hs' (fun e he h => hex ⟨e, he, h⟩))
    have h2 : p < 0 ∨ 0 ≤ p ∧ n ≤ p := by
      rcases h with h | h | ⟨f, hf, hfe, hk⟩
      · omega
      · omega
      · exact absurd ⟨f, hf, hfe⟩ hex
    clear h s s0 hdup hL hex
    rcases h2 with h2 | h2
    · have d0 : decide (p < 0) = true := decide_eq_true h2
      go_enter Try.func19, Try.ntmps19
      go_wp2_with fail
      refine hF.out.mono ?_
      rintro r w1 ⟨rfl, rfl⟩
      go_wp2_with fail
      go_ret2
      exact ⟨rfl, rfl⟩
    · have d0 : decide (p < 0) = false := decide_eq_false (by omega)
      have d1 : decide (n ≤ p) = true := decide_eq_true (by omega)
      go_enter Try.func19, Try.ntmps19
      go_wp2_with fail
      refine hF.out.mono ?_
      rintro r w1 ⟨rfl, rfl⟩
      go_wp2_with fail
      go_ret2
      exact ⟨rfl, rfl⟩

/-- The item's place; none: -1. -/
def posI (x : List Itm) (p : Int) (i : Int) : Prop := i = -1 ∧ (∀ e ∈ x, e.1 ≠ p) ∨ ∃ (j : Nat) (e : Itm), i = (j : Int) ∧ x[j]? = some e ∧ e.1 = p
theorem find_any (w : World) (B : Nat) (v : Value) (x : List Itm) (p i : Int) (s : Items w B v x) (hs : x.length ≤ 65536) (hdup : ∀ (a b : Nat) (e f : Itm), x[a]? = some e → x[b]? = some f → e.1 = f.1 → a = b) (h : posI x p i) : Calls Try.prog 13 #[v, i64 p] w fun e w' => e = .returned (i64 i) ∧ w = w' := by
  rcases h with ⟨rfl, h⟩ | ⟨j, e, rfl, hj, rfl⟩
  · exact find_no w B v x p s hs h
  · exact find_yes w B v x j e s hs hj (fun i f hf h => hdup i j f e hf hj h)

set_option maxHeartbeats 1000000 in
theorem rput_yes (w : World) (B : Nat) (v : Value) (x : List Itm) (n p k i : Int) (s : Items w B v x) (hs : x.length ≤ 65535) (hdup : ∀ (a b : Nat) (e f : Itm), x[a]? = some e → x[b]? = some f → e.1 = f.1 → a = b) (hp0 : 0 ≤ p) (hp1 : p < n) (hi : posI x p i) (hk : ∀ (j : Nat) (e : Itm), i = (j : Int) → x[j]? = some e → k < e.2) : Calls Try.prog 19 #[v, i64 n, i64 p, u64 k] w fun e w' => ∃ v', e = .returned (.tuple #[v', .bool true]) ∧ Items w' w.heap.size v' (woF x i ++ [(p, k)]) ∧ Grew w w' := by
  obtain ⟨i0, hi0, hz0, hz1, hz2⟩ := info_parts info_ref
  have hF := Lib.hid (find_any w B v x p i s (by omega) hdup hi)
  have hW := Lib.hid (without_any w B v x i s (by omega))
  have hlen := woF_length x i
  obtain ⟨V, c, hv⟩ := s.slice
  obtain ⟨L, hL⟩ : ∃ L, x.length = L := ⟨_, rfl⟩
  rw [hL] at hv hs hlen
  obtain ⟨Y, hY⟩ : ∃ Y, woF x i = Y := ⟨_, rfl⟩
  rw [hY] at hW hlen ⊢
  have d0 : decide (p < 0) = false := decide_eq_false (by omega)
  have d1 : decide (n ≤ p) = false := decide_eq_false (by omega)
  rcases hi with ⟨rfl, _⟩ | ⟨j, e, rfl, hj, _⟩
  · subst hv
    clear s hdup hY hL hk
    go_enter Try.func19, Try.ntmps19
    go_wp2_with fail
    refine hF.out.mono ?_
    rintro r w1 ⟨rfl, rfl⟩
    go_wp2_with fail
    refine hW.out.mono ?_
    rintro r w1 ⟨v', rfl, s', k'⟩
    have hO := Lib.hid (show (w1.alloc (.cells #[i64 p, u64 k] 42 )).ownsRow w.heap.size 42 2 v' Y.length (cellsI Y) from s'.grew ((Kept.refl _ _).alloc _))
    have hwr := k'.size
    have HS := Lib.hid s'
    clear s' hW hF
    go_wp2_with (at_builtin; refine wpList_append_lies _ rfl (.tmp 37) (.tmp 41) 35 (by rfl) w.heap.size 42 i0 (.agg #[i64 0, u64 0]) 2 16 Try.underlying35 hi0 hz0 hz1 hz2 (by rfl) (by omega) v' Y.length (cellsI Y) (by rfl) hO.out ⟨w1.heap.size, 0, none⟩ 1 1 (itmCells (p, k)) (by rfl) (by rfl) (World.news_of_block (heap_alloc_new _ _)) (by intro u hu; simp [itmCells] at hu; rcases hu with rfl | rfl <;> rfl) (by omega) (by unfold maxLen; omega) (by omega) (by simp; omega) _ rfl ?_; intro g2 cap w2 hown1 hgrow1 hat1 hlt1)
    go_ret2
    refine ⟨_, rfl, ?_, (k'.alloc _).grown hgrow1 (fun q hq => .inr (HS.out.lt q hq).1)⟩
    show World.ownsRow w2 w.heap.size 42 2 (.slice (some ⟨g2, 0, none⟩) (Y.length + 1) cap) (Y ++ [(p, k)]).length (cellsI (Y ++ [(p, k)]))
    rw [List.length_append, cellsI_append]
    exact hown1
  · obtain ⟨g, c', hv2, _, c0, c1⟩ := s.item hj
    rw [hL] at hv2
    rw [hv2] at hv
    cases hv
    subst hv2
    have hjl := get_lt hj
    rw [hL] at hjl
    have j0 : (0 : Int) ≤ (j : Int) := by omega
    have j1 : (j : Int) < (L : Int) := by omega
    have d2 : decide (e.2 ≤ k) = false := decide_eq_false (by have := hk j e rfl hj; omega)
    have HJ := Lib.hid hj
    clear s hdup hY hL hk hj
    go_enter Try.func19, Try.ntmps19
    go_wp2_with fail
    refine hF.out.mono ?_
    rintro r w1 ⟨rfl, rfl⟩
    go_wp2_with fail
    refine hW.out.mono ?_
    rintro r w1 ⟨v', rfl, s', k'⟩
    have hO := Lib.hid (show (w1.alloc (.cells #[i64 p, u64 k] 42 )).ownsRow w.heap.size 42 2 v' Y.length (cellsI Y) from s'.grew ((Kept.refl _ _).alloc _))
    have hwr := k'.size
    have HS := Lib.hid s'
    clear s' hW hF
    go_wp2_with (at_builtin; refine wpList_append_lies _ rfl (.tmp 37) (.tmp 41) 35 (by rfl) w.heap.size 42 i0 (.agg #[i64 0, u64 0]) 2 16 Try.underlying35 hi0 hz0 hz1 hz2 (by rfl) (by omega) v' Y.length (cellsI Y) (by rfl) hO.out ⟨w1.heap.size, 0, none⟩ 1 1 (itmCells (p, k)) (by rfl) (by rfl) (World.news_of_block (heap_alloc_new _ _)) (by intro u hu; simp [itmCells] at hu; rcases hu with rfl | rfl <;> rfl) (by omega) (by unfold maxLen; omega) (by omega) (by simp; omega) _ rfl ?_; intro g2 cap w2 hown1 hgrow1 hat1 hlt1)
    go_ret2
    refine ⟨_, rfl, ?_, (k'.alloc _).grown hgrow1 (fun q hq => .inr (HS.out.lt q hq).1)⟩
    show World.ownsRow w2 w.heap.size 42 2 (.slice (some ⟨g2, 0, none⟩) (Y.length + 1) cap) (Y ++ [(p, k)]).length (cellsI (Y ++ [(p, k)]))
    rw [List.length_append, cellsI_append]
    exact hown1

theorem rdrop_any (w : World) (B : Nat) (v : Value) (x : List Itm) (p i : Int) (s : Items w B v x) (hs : x.length ≤ 65536) (hdup : ∀ (a b : Nat) (e f : Itm), x[a]? = some e → x[b]? = some f → e.1 = f.1 → a = b) (hi : posI x p i) : Calls Try.prog 20 #[v, i64 p] w fun e w' => ∃ v', e = .returned (.tuple #[v', .bool (decide (0 ≤ i))]) ∧ Items w' w.heap.size v' (woF x i) ∧ Grew w w' := by
  have hF := Lib.hid (find_any w B v x p i s (by omega) hdup hi)
  have hW := Lib.hid (without_any w B v x i s (by omega))
  obtain ⟨bb, hb⟩ : ∃ bb, decide (0 ≤ i) = bb := ⟨_, rfl⟩
  rw [hb]
  have HB := Lib.hid hb
  clear s hdup hi hb
  go_enter Try.func20, Try.ntmps20
  go_wp2_with fail
  refine hF.out.mono ?_
  rintro r w1 ⟨rfl, rfl⟩
  go_wp2_with fail
  refine hW.out.mono ?_
  rintro r w1 ⟨v', rfl, s', k'⟩
  go_wp2_with fail
  go_ret2
  exact ⟨v', by rw [← HB.out]; rfl, s', k'⟩
end Go.Proofs.Ythihjclilgdaiaa
