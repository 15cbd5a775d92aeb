/- Numbers put into bytes: the closures of Graph and Hierarchy. -/
import Derived.Test.YtjbjomodponapaaNumber
import Derived.Test.YtjbjomodponapaaCodec
import Derived.Test.YtjbjomodponapaaEdge
import Derived.RegionTactic
import Derived.Deep.DeepCutAuto
namespace Go.Proofs.Ytjbjomodponapaa
open Go.RowKit

/-- A row of numbers. -/
def RowK (k : IntKind) (w : World) (A : Option Addr) (l : List Nat) : Prop := ∀ (i : Nat) (x : Nat), l[i]? = some x → ∃ b off, A = some ⟨b, off, none⟩ ∧ b < w.heap.size ∧ w.cell? ⟨b, off + i, none⟩ = some (.int k x)
theorem RowK.kept {k : IntKind} {F : Nat → Prop} {w w' : World} {A : Option Addr} {l : List Nat} (h : RowK k w A l) (hK : Kept F w w') (hF : ∀ a, A = some a → ¬ F a.block) : RowK k w' A l := fun i x hx => by
  obtain ⟨b, off, hA, hb, hc⟩ := h i x hx
  exact ⟨b, off, hA, Nat.lt_of_lt_of_le hb hK.size, hK.cell hc (show ¬ F b from hF _ hA)⟩
def encNs (l : List Nat) : List Int := l.flatMap encN
theorem encNs_snoc (l : List Nat) (x : Nat) : encNs (l ++ [x]) = encNs l ++ encN x := by simp [encNs, List.flatMap_append]
theorem encNs_length (l : List Nat) : (encNs l).length ≤ 10 * l.length := by
  induction l with
  | nil => simp [encNs]
  | cons x l ih =>
    have h : (encN x).length ≤ 10 := digs_length 10 x
    simp only [encNs, List.flatMap_cons, List.length_append, List.length_cons] at ih ⊢
    omega
/-- Bytes that are being put: their box, and they. -/
structure BBox (w : World) (D B : Nat) (bs : List Int) (v : Value) : Prop where
  box : Blk w D 29 #[v]
  own : w.ownsRow B 5 1 v bs.length (bs.map B8)
theorem BBox.kept {F : Nat → Prop} {w w' : World} {D B : Nat} {bs : List Int} {v : Value} (h : BBox w D B bs v) (k : Kept F w w') (h1 : ¬ F D) (h2 : ∀ j, v.ownBlock = some j → ¬ F j) : BBox w' D B bs v := ⟨h.box.kept k h1, Kept.own k h.own h2⟩
theorem BBox.grew {w w' : World} {D B : Nat} {bs : List Int} {v : Value} (h : BBox w D B bs v) (k : Grew w w') : BBox w' D B bs v := h.kept k (fun h => h) (fun _ _ h => h)
/-- What put does. -/
def PutE (D B : Nat) (bs : List Int) (v : Value) (l : List Nat) (w : World) (e : Ending) (w' : World) : Prop :=
  ∃ v', e = .returned (.tuple #[]) ∧ BBox w' D B (bs ++ encNs l) v' ∧ Kept (fun j => j = D ∨ v.ownBlock = some j) w w' ∧ ∀ j, v'.ownBlock = some j → v.ownBlock = some j ∨ w.heap.size ≤ j
structure PutS (D B : Nat) (bs : List Int) (v : Value) (l : List Nat) (w : World) (v' : Value) (w' : World) : Prop where
  box : BBox w' D B (bs ++ encNs l) v'
  kept : Kept (fun j => j = D ∨ v.ownBlock = some j) w w'
  own : ∀ j, v'.ownBlock = some j → v.ownBlock = some j ∨ w.heap.size ≤ j

set_option maxHeartbeats 4000000 in
set_option maxRecDepth 100000 in
theorem put_any (D B cl : Nat) (A : Option Addr) (bs : List Int) (v : Value) (l : List Nat) (w : World) (h : BBox w D B bs v) (hr : RowK .u64 w A l) (hB : B ≤ w.heap.size) (hl : l.length ≤ 1000) (hbs : bs.length ≤ 100000) (hx : ∀ x ∈ l, x < 18446744073709551616) (hA : ∀ a, A = some a → a.block ≠ D ∧ v.ownBlock ≠ some a.block) (hD : v.ownBlock ≠ some D) :
    Calls Try.prog 16 #[.slice A l.length cl, pt D] w fun e w' => PutE D B bs v l w e w' := by
  obtain ⟨i0, hi, hz0, hz1, hz2⟩ := info_parts info_u8
  obtain ⟨L, hL⟩ : ∃ L, l.length = L := ⟨_, rfl⟩
  have HL := Lib.hid hL
  have HR := Lib.hid hr
  have HX := Lib.hid hx
  have hS0 : Hid (PutS D B bs v (l.take 0) w v w) := ⟨by simpa [encNs] using h, Kept.refl _ _, fun j hj => .inl hj⟩
  have hDl := h.box.lt
  rw [hL] at hl ⊢
  clear h hr hL hx
  go_enter Try.func16, Try.ntmps16
  go_wp2_with fail
  go_loopw [7] (fun i wr => ∃ (k : Nat) (u : Value), k ≤ L ∧ i = .int .i64 k ∧ Hid (PutS D B bs v (l.take k) w u wr)) (fun i _ => L - (intOf i).toNat)
  case atStart => exact ⟨0, _, by omega, rfl, hS0⟩
  case round =>
    clear hS0
    obtain ⟨k, u, hk, rfl, hS⟩ := hrel
    by_cases hlt : k < L
    · as_aux_lemma =>
      obtain ⟨x, hxk⟩ : ∃ x, l[k]? = some x := ⟨_, List.getElem?_eq_getElem (by rw [HL.out]; exact hlt)⟩
      obtain ⟨b, off, hAe, hb, e0⟩ := HR.out k x hxk
      have hAD := hA _ hAe
      subst hAe
      replace e0 := hS.out.kept.cell e0 (fun h => by
        rcases h with h | h
        · exact hAD.1 h
        · exact hAD.2 h)
      have k0 : (0 : Int) ≤ (k : Int) := by omega
      have k1 : (k : Int) < (L : Int) := by omega
      have hxl := HX.out x (List.mem_of_getElem? hxk)
      have HXK := Lib.hid hxk
      have hw : IntKind.u64.wrap (x : Int) = (x : Int) := Go.IntWalk.u64_in _ (by omega)
      obtain ⟨n, hn⟩ : ∃ n, (bs ++ encNs (l.take k)).length = n := ⟨_, rfl⟩
      have HN := Lib.hid hn
      have hnl : n ≤ 200000 := by
        have h1 := encNs_length (l.take k)
        rw [List.length_append] at hn
        rw [List.length_take] at h1
        omega
      have c0 := hS.out.box.box.cell 0
      simp at c0
      obtain ⟨Au, cu, hu⟩ := own_slice hS.out.box.own
      rw [hn] at hu
      subst hu
      have hown : Hid (wr.ownsRow B 5 1 (.slice Au n cu) n ((bs ++ encNs (l.take k)).map B8)) := by
        have := hS.out.box.own
        rw [hn] at this
        exact this
      have hD2 : ¬ (Value.slice Au n cu).ownBlock = some D := fun h => by
        rcases hS.out.own _ h with h | h
        · exact hD h
        · omega
      have hsz := Lib.hid (show w.heap.size ≤ wr.heap.size from hS.out.kept.size)
      have hnum := Lib.hid (number_any x wr.drew (show Hid (x < 18446744073709551616) from by show _ < _; omega))
      clear hxk hn
      go_wp2_with fail
      refine wp_region_grow [4] (fun j => (Value.slice Au n cu).ownBlock = some j) (by kernel_rfl) ?_
      simp only [List.size_toArray, List.length_cons, List.length_nil, Nat.reduceAdd]
      refine wpAnyG_take 0 11 (v := ?_) rfl (by kernel_rfl) rfl (by rfl) (fun w' hG' => ?_) ?_
      rotate_left
      · have hx0 := hG'.cell (show wr.drew.cell? _ = _ from c0) hD2
        go_simp <;> with_reducible rfl
      simp only [List.setIfInBounds_toArray, List.set_cons_zero, List.set_cons_succ]
      refine wpAnyG_pure 1 12 (v := ?_) rfl (by kernel_rfl) rfl (by rfl) (fun w' => ?_) ?_
      rotate_left
      · go_simp <;> with_reducible rfl
      simp only [List.setIfInBounds_toArray, List.set_cons_zero, List.set_cons_succ]
      refine wpAnyG_step 2 13 rfl (by kernel_rfl) rfl (by rfl) (fun K hK' => ?_)
      go_simp
      refine hnum.out.mono ?_
      rintro e w3 ⟨u3, rfl, own3, k3⟩
      have kS : Grew wr.drew w3 := Grew.of_below k3
      obtain ⟨m, hm⟩ : ∃ m, (digs 10 x).length = m := ⟨_, rfl⟩
      have HM : Hid ((encN x).length = m) := hm
      have hm0 : 0 < m := by rw [← hm]; exact encN_pos x
      have hm10 : m ≤ 10 := by rw [← hm]; exact digs_length 10 x
      rw [hm] at own3
      obtain ⟨g3, c3, rfl⟩ := own_form own3 hm0
      have news := Lib.hid (own3.cells (g := g3) rfl)
      have hone : Hid (∀ u ∈ (encN x).map B8, u.oneCell' = true) := by
        intro u hu
        obtain ⟨y, _, rfl⟩ := List.mem_map.1 hu
        rfl
      have hml : Hid (((encN x).map B8).length = m * 1) := by show _ = _; rw [List.length_map, HM.out, Nat.mul_one]
      have hown2 := Lib.hid (Grew.own (((Kept.refl (fun _ => False) wr).drew).trans kS) hown.out)
      have hD3 : w3.cell? ⟨D, 0, none⟩ = some (.slice Au n cu) := Grew.cell kS (show wr.drew.cell? _ = _ from c0)
      have fD3 := (hS.out.box.box.grew (((Kept.refl (fun _ => False) wr).drew).trans kS)).frozen 0
      have hBs : Hid (B ≤ w3.heap.size) := by have s1 := kS.size; have := hsz.out; simp at s1; show _ ≤ _; omega
      clear hm own3 k3
      refine hK' _ _ (fun _ => Grew.kept kS) ?_
      clear hK'
      simp only [List.setIfInBounds_toArray, List.set_cons_zero, List.set_cons_succ]
      refine wpAnyG_step 3 14 rfl (by kernel_rfl) rfl (by rfl) (fun K hK' => ?_)
      refine wp_append_lies _ (.tmp 11) (.tmp 13) 29 (by rfl) B 5 i0 (.int .u8 0) 1 1 Try.underlying29 hi hz0 hz1 hz2 (by rfl) (by omega) (.slice Au n cu) n ((bs ++ encNs (l.take k)).map B8) (by rfl) hown2.out ⟨g3, 0, none⟩ m c3 ((encN x).map B8) (by rfl) hml.out news.out hone.out hm0 (by unfold maxLen; omega) (by omega) hBs.out _ rfl ?_
      intro g cap wa hown1 hgrow1 hat1 hlt1
      have hDa := (hS.out.box.box.grew (((Kept.refl (fun _ => False) wr).drew).trans kS)).grown hgrow1 (fun h => hD2 h.symm)
      have dA := hDa.cell 0
      have fA := hDa.frozen 0
      simp at dA
      refine hK' _ _ (fun _ => (Kept.refl _ _).grown hgrow1 (fun k hk => .inl hk)) ?_
      clear hK'
      simp only [List.setIfInBounds_toArray, List.set_cons_zero, List.set_cons_succ]
      refine wpAnyG_store 4 rfl (by kernel_rfl) rfl (by rfl) (fun K hK' => ?_)
      go_simp
      refine hK' _ (fun h => absurd (by simp) h) ?_
      clear hK'
      refine wpAnyG_done (by kernel_rfl) ?_
      have hS1 : Hid (PutS D B bs v (l.take (k + 1)) w (.slice (some ⟨g, 0, none⟩) (n + m) cap) (wa.setCell ⟨D, 0, none⟩ (.slice (some ⟨g, 0, none⟩) (n + m) cap))) := by
        have e : bs ++ encNs (l.take (k + 1)) = (bs ++ encNs (l.take k)) ++ encN x := by
          rw [List.take_add_one, HXK.out]
          show bs ++ encNs (l.take k ++ [x]) = _
          rw [encNs_snoc, List.append_assoc]
        have kW : Kept (fun j => (Value.slice Au n cu).ownBlock = some j) wr wa := (Grew.kept (((Kept.refl (fun _ => False) wr).drew).trans kS)).grown hgrow1 (fun k hk => .inl hk)
        have hgo : (Value.slice Au n cu).ownBlock = some g ∨ wr.heap.size ≤ g := by
          rcases hat1 with h | h
          · exact .inl h
          · refine .inr ?_
            have s1 := kS.size
            simp at s1
            omega
        refine ⟨⟨?_, ?_⟩, ?_, fun j hj => ?_⟩
        · have q := (hS.out.box.box.kept kW hD2).set 0 (.slice (some ⟨g, 0, none⟩) (n + m) cap)
          simp at q
          exact q
        · rw [e, List.length_append, HN.out, HM.out, List.map_append]
          exact Kept.own ((Kept.refl (· = D) wa).setCell (p := ⟨D, 0, none⟩) (.inl rfl) _) hown1 (fun j hj h => by
            obtain rfl : g = j := Option.some.inj hj
            have h : g = D := h
            rcases hgo with h' | h'
            · rw [h] at h'; exact hD2 h'
            · have := hsz.out; omega)
        · exact (hS.out.kept.then kW (fun i hi h => by
            rcases hS.out.own i h with h' | h'
            · exact .inr h'
            · omega)).setCell (p := ⟨D, 0, none⟩) (.inl (.inl rfl)) _
        · obtain rfl : g = j := Option.some.inj hj
          rcases hgo with h' | h'
          · exact hS.out.own g h'
          · exact .inr (by have := hsz.out; omega)
      clear hS hown hown1 hgrow1 hat1 hlt1 kS HXK HM HN e0 c0 hnum
      go_wp2_with fail
      go_roundw
      case rel => exact ⟨k + 1, _, by omega, by go_num, hS1⟩
      case measure => simp [intOf]; omega
    · obtain rfl : k = L := by omega
      have hf : Hid (PutE D B bs v l w (.returned (.tuple #[])) wr) := by
        have h := hS.out
        rw [List.take_of_length_le (by rw [HL.out]; exact Nat.le_refl _)] at h
        exact ⟨u, rfl, h.box, h.kept, h.own⟩
      clear hS
      go_wp2_with fail
      go_end0
      exact hf.out

set_option maxHeartbeats 4000000 in
set_option maxRecDepth 100000 in
theorem puti_any (D B cl : Nat) (A : Option Addr) (bs : List Int) (v : Value) (l : List Nat) (w : World) (h : BBox w D B bs v) (hr : RowK .i64 w A l) (hB : B ≤ w.heap.size) (hl : l.length ≤ 1000) (hbs : bs.length ≤ 100000) (hx : ∀ x ∈ l, x < 9223372036854775808) (hA : ∀ a, A = some a → a.block ≠ D ∧ v.ownBlock ≠ some a.block) (hD : v.ownBlock ≠ some D) :
    Calls Try.prog 22 #[.slice A l.length cl, pt D] w fun e w' => PutE D B bs v l w e w' := by
  obtain ⟨i0, hi, hz0, hz1, hz2⟩ := info_parts info_u8
  obtain ⟨L, hL⟩ : ∃ L, l.length = L := ⟨_, rfl⟩
  have HL := Lib.hid hL
  have HR := Lib.hid hr
  have HX := Lib.hid hx
  have hS0 : Hid (PutS D B bs v (l.take 0) w v w) := ⟨by simpa [encNs] using h, Kept.refl _ _, fun j hj => .inl hj⟩
  have hDl := h.box.lt
  rw [hL] at hl ⊢
  clear h hr hL hx
  go_enter Try.func22, Try.ntmps22
  go_wp2_with fail
  go_loopw [7] (fun i wr => ∃ (k : Nat) (u : Value), k ≤ L ∧ i = .int .i64 k ∧ Hid (PutS D B bs v (l.take k) w u wr)) (fun i _ => L - (intOf i).toNat)
  case atStart => exact ⟨0, _, by omega, rfl, hS0⟩
  case round =>
    clear hS0
    obtain ⟨k, u, hk, rfl, hS⟩ := hrel
    by_cases hlt : k < L
    · as_aux_lemma =>
      obtain ⟨x, hxk⟩ : ∃ x, l[k]? = some x := ⟨_, List.getElem?_eq_getElem (by rw [HL.out]; exact hlt)⟩
      obtain ⟨b, off, hAe, hb, e0⟩ := HR.out k x hxk
      have hAD := hA _ hAe
      subst hAe
      replace e0 := hS.out.kept.cell e0 (fun h => by
        rcases h with h | h
        · exact hAD.1 h
        · exact hAD.2 h)
      have k0 : (0 : Int) ≤ (k : Int) := by omega
      have k1 : (k : Int) < (L : Int) := by omega
      have hxl := HX.out x (List.mem_of_getElem? hxk)
      have HXK := Lib.hid hxk
      have hw : IntKind.u64.wrap (x : Int) = (x : Int) := Go.IntWalk.u64_in _ (by omega)
      obtain ⟨n, hn⟩ : ∃ n, (bs ++ encNs (l.take k)).length = n := ⟨_, rfl⟩
      have HN := Lib.hid hn
      have hnl : n ≤ 200000 := by
        have h1 := encNs_length (l.take k)
        rw [List.length_append] at hn
        rw [List.length_take] at h1
        omega
      have c0 := hS.out.box.box.cell 0
      simp at c0
      obtain ⟨Au, cu, hu⟩ := own_slice hS.out.box.own
      rw [hn] at hu
      subst hu
      have hown : Hid (wr.ownsRow B 5 1 (.slice Au n cu) n ((bs ++ encNs (l.take k)).map B8)) := by
        have := hS.out.box.own
        rw [hn] at this
        exact this
      have hD2 : ¬ (Value.slice Au n cu).ownBlock = some D := fun h => by
        rcases hS.out.own _ h with h | h
        · exact hD h
        · omega
      have hsz := Lib.hid (show w.heap.size ≤ wr.heap.size from hS.out.kept.size)
      have hnum := Lib.hid (number_any x wr.drew (show Hid (x < 18446744073709551616) from by show _ < _; omega))
      clear hxk hn
      go_wp2_with fail
      refine wp_region_grow [5] (fun j => (Value.slice Au n cu).ownBlock = some j) (by kernel_rfl) ?_
      simp only [List.size_toArray, List.length_cons, List.length_nil, Nat.reduceAdd]
      refine wpAnyG_take 0 11 (v := ?_) rfl (by kernel_rfl) rfl (by rfl) (fun w' hG' => ?_) ?_
      rotate_left
      · have hx0 := hG'.cell (show wr.drew.cell? _ = _ from c0) hD2
        go_simp <;> with_reducible rfl
      simp only [List.setIfInBounds_toArray, List.set_cons_zero, List.set_cons_succ]
      refine wpAnyG_pure 1 12 (v := ?_) rfl (by kernel_rfl) rfl (by rfl) (fun w' => ?_) ?_
      rotate_left
      · go_simp <;> with_reducible rfl
      simp only [List.setIfInBounds_toArray, List.set_cons_zero, List.set_cons_succ]
      refine wpAnyG_take 2 13 (v := ?_) rfl (by kernel_rfl) rfl (by rfl) (fun w' hG' => ?_) ?_
      rotate_left
      · have hx0 := hG'.cell (show wr.drew.cell? _ = _ from c0) hD2
        go_simp <;> with_reducible rfl
      simp only [List.setIfInBounds_toArray, List.set_cons_zero, List.set_cons_succ]
      refine wpAnyG_step 3 14 rfl (by kernel_rfl) rfl (by rfl) (fun K hK' => ?_)
      go_simp
      refine hnum.out.mono ?_
      rintro e w3 ⟨u3, rfl, own3, k3⟩
      have kS : Grew wr.drew w3 := Grew.of_below k3
      obtain ⟨m, hm⟩ : ∃ m, (digs 10 x).length = m := ⟨_, rfl⟩
      have HM : Hid ((encN x).length = m) := hm
      have hm0 : 0 < m := by rw [← hm]; exact encN_pos x
      have hm10 : m ≤ 10 := by rw [← hm]; exact digs_length 10 x
      rw [hm] at own3
      obtain ⟨g3, c3, rfl⟩ := own_form own3 hm0
      have news := Lib.hid (own3.cells (g := g3) rfl)
      have hone : Hid (∀ u ∈ (encN x).map B8, u.oneCell' = true) := by
        intro u hu
        obtain ⟨y, _, rfl⟩ := List.mem_map.1 hu
        rfl
      have hml : Hid (((encN x).map B8).length = m * 1) := by show _ = _; rw [List.length_map, HM.out, Nat.mul_one]
      have hown2 := Lib.hid (Grew.own (((Kept.refl (fun _ => False) wr).drew).trans kS) hown.out)
      have hD3 : w3.cell? ⟨D, 0, none⟩ = some (.slice Au n cu) := Grew.cell kS (show wr.drew.cell? _ = _ from c0)
      have fD3 := (hS.out.box.box.grew (((Kept.refl (fun _ => False) wr).drew).trans kS)).frozen 0
      have hBs : Hid (B ≤ w3.heap.size) := by have s1 := kS.size; have := hsz.out; simp at s1; show _ ≤ _; omega
      clear hm own3 k3
      refine hK' _ _ (fun _ => Grew.kept kS) ?_
      clear hK'
      simp only [List.setIfInBounds_toArray, List.set_cons_zero, List.set_cons_succ]
      refine wpAnyG_step 4 15 rfl (by kernel_rfl) rfl (by rfl) (fun K hK' => ?_)
      refine wp_append_lies _ (.tmp 11) (.tmp 14) 29 (by rfl) B 5 i0 (.int .u8 0) 1 1 Try.underlying29 hi hz0 hz1 hz2 (by rfl) (by omega) (.slice Au n cu) n ((bs ++ encNs (l.take k)).map B8) (by rfl) hown2.out ⟨g3, 0, none⟩ m c3 ((encN x).map B8) (by rfl) hml.out news.out hone.out hm0 (by unfold maxLen; omega) (by omega) hBs.out _ rfl ?_
      intro g cap wa hown1 hgrow1 hat1 hlt1
      have hDa := (hS.out.box.box.grew (((Kept.refl (fun _ => False) wr).drew).trans kS)).grown hgrow1 (fun h => hD2 h.symm)
      have dA := hDa.cell 0
      have fA := hDa.frozen 0
      simp at dA
      refine hK' _ _ (fun _ => (Kept.refl _ _).grown hgrow1 (fun k hk => .inl hk)) ?_
      clear hK'
      simp only [List.setIfInBounds_toArray, List.set_cons_zero, List.set_cons_succ]
      refine wpAnyG_store 5 rfl (by kernel_rfl) rfl (by rfl) (fun K hK' => ?_)
      go_simp
      refine hK' _ (fun h => absurd (by simp) h) ?_
      clear hK'
      refine wpAnyG_done (by kernel_rfl) ?_
      have hS1 : Hid (PutS D B bs v (l.take (k + 1)) w (.slice (some ⟨g, 0, none⟩) (n + m) cap) (wa.setCell ⟨D, 0, none⟩ (.slice (some ⟨g, 0, none⟩) (n + m) cap))) := by
        have e : bs ++ encNs (l.take (k + 1)) = (bs ++ encNs (l.take k)) ++ encN x := by
          rw [List.take_add_one, HXK.out]
          show bs ++ encNs (l.take k ++ [x]) = _
          rw [encNs_snoc, List.append_assoc]
        have kW : Kept (fun j => (Value.slice Au n cu).ownBlock = some j) wr wa := (Grew.kept (((Kept.refl (fun _ => False) wr).drew).trans kS)).grown hgrow1 (fun k hk => .inl hk)
        have hgo : (Value.slice Au n cu).ownBlock = some g ∨ wr.heap.size ≤ g := by
          rcases hat1 with h | h
          · exact .inl h
          · refine .inr ?_
            have s1 := kS.size
            simp at s1
            omega
        refine ⟨⟨?_, ?_⟩, ?_, fun j hj => ?_⟩
        · have q := (hS.out.box.box.kept kW hD2).set 0 (.slice (some ⟨g, 0, none⟩) (n + m) cap)
          simp at q
          exact q
        · rw [e, List.length_append, HN.out, HM.out, List.map_append]
          exact Kept.own ((Kept.refl (· = D) wa).setCell (p := ⟨D, 0, none⟩) (.inl rfl) _) hown1 (fun j hj h => by
            obtain rfl : g = j := Option.some.inj hj
            have h : g = D := h
            rcases hgo with h' | h'
            · rw [h] at h'; exact hD2 h'
            · have := hsz.out; omega)
        · exact (hS.out.kept.then kW (fun i hi h => by
            rcases hS.out.own i h with h' | h'
            · exact .inr h'
            · omega)).setCell (p := ⟨D, 0, none⟩) (.inl (.inl rfl)) _
        · obtain rfl : g = j := Option.some.inj hj
          rcases hgo with h' | h'
          · exact hS.out.own g h'
          · exact .inr (by have := hsz.out; omega)
      clear hS hown hown1 hgrow1 hat1 hlt1 kS HXK HM HN e0 c0 hnum
      go_wp2_with fail
      go_roundw
      case rel => exact ⟨k + 1, _, by omega, by go_num, hS1⟩
      case measure => simp [intOf]; omega
    · obtain rfl : k = L := by omega
      have hf : Hid (PutE D B bs v l w (.returned (.tuple #[])) wr) := by
        have h := hS.out
        rw [List.take_of_length_le (by rw [HL.out]; exact Nat.le_refl _)] at h
        exact ⟨u, rfl, h.box, h.kept, h.own⟩
      clear hS
      go_wp2_with fail
      go_end0
      exact hf.out
end Go.Proofs.Ytjbjomodponapaa
