/- The law's of: the program's net. -/
import Derived.Test.YthbcgdogmkgebaaArcs
namespace Go.Proofs.Ythbcgdogmkgebaa
open Go.RowKit

theorem info_arcs : (Try.prog.info? 48).map (fun i => (i.zero, i.size, i.bytes)) = some (some (.slice none 0 0), 1, 24) := by kernel_rfl
theorem own_type {w : World} {base n size : Nat} {e : TypeId} {v : Value} {xs : List Value} (h : w.ownsRow base e size v n xs) {k : Nat} (hk : v.ownBlock = some k) : base ≤ k ∧ ∃ cur, w.heap[k]? = some (.cells cur e (0, 0)) := by
  rcases h.2 with ⟨rfl, _⟩ | ⟨g, cap, cur, rfl, hb, hg, _⟩
  · cases hk
  · obtain rfl : g = k := Option.some.inj hk
    exact ⟨hb, cur, hg⟩
theorem own_apart {w : World} {b1 n1 s1 b2 n2 s2 : Nat} {e1 e2 : TypeId} {v1 v2 : Value} {xs1 xs2 : List Value} (h1 : w.ownsRow b1 e1 s1 v1 n1 xs1) (h2 : w.ownsRow b2 e2 s2 v2 n2 xs2) (hne : e1 ≠ e2) {j : Nat} (k1 : v1.ownBlock = some j) : ¬ v2.ownBlock = some j := fun k2 => by
  obtain ⟨_, c1, g1⟩ := own_type h1 k1
  obtain ⟨_, c2, g2⟩ := own_type h2 k2
  rw [g1] at g2
  cases g2
  exact hne rfl
/-- The rows so far. -/
def RowsK (w : World) (B : Nat) (ls : List (List Ar)) (k : Nat) (vals : List Value) : Prop := ∀ (i : Nat) (l : List Ar), ls[i]? = some l → i < k → ∃ u, vals[i]? = some u ∧ OwnA w B u l
theorem RowsK.grew {w w' : World} {B k : Nat} {ls : List (List Ar)} {vals : List Value} (h : RowsK w B ls k vals) (g : Grew w w') : RowsK w' B ls k vals := fun i l hl hi => by
  obtain ⟨u, h1, h2⟩ := h i l hl hi
  exact ⟨u, h1, h2.grew g⟩
theorem RowsK.kept {w w' : World} {B B' k n : Nat} {ls : List (List Ar)} {vals xs : List Value} {o : Value} (h : RowsK w B ls k vals) (ho : w.ownsRow B' 48 1 o n xs) (g : Kept (fun j => o.ownBlock = some j) w w') : RowsK w' B ls k vals := fun i l hl hi => by
  obtain ⟨u, h1, h2⟩ := h i l hl hi
  exact ⟨u, h1, Kept.own g h2 (fun j hj => own_apart h2 ho (by decide) hj)⟩
theorem RowsK.snoc {w : World} {B k : Nat} {ls : List (List Ar)} {vals : List Value} {u : Value} {l : List Ar} (h : RowsK w B ls k vals) (hk : vals.length = k) (hl : ls[k]? = some l) (hu : OwnA w B u l) : RowsK w B ls (k + 1) (vals ++ [u]) := fun i l' hl' hi => by
  rcases Nat.lt_or_ge i k with h1 | h1
  · obtain ⟨u', h2, h3⟩ := h i l' hl' h1
    exact ⟨u', by rw [List.getElem?_append_left (by omega)]; exact h2, h3⟩
  · obtain rfl : i = k := by omega
    rw [hl] at hl'
    cases hl'
    exact ⟨u, by rw [List.getElem?_append_right (by omega), hk, Nat.sub_self]; rfl, hu⟩
theorem RowsK.far {w w' : World} {B b k : Nat} {ls : List (List Ar)} {vals : List Value} {cs : Array Value} {t : TypeId} (h : RowsK w B ls k vals) (hb : Blk w b t cs) (ht : t ≠ 56) (g : Kept (· = b) w w') : RowsK w' B ls k vals := fun i l hl hi => by
  obtain ⟨u, h1, h2⟩ := h i l hl hi
  refine ⟨u, h1, Kept.own g h2 (fun j hj hjb => ?_)⟩
  obtain ⟨_, c1, g1⟩ := own_type h2 hj
  have : j = b := hjb
  subst this
  rw [show w.heap[j]? = some (.cells cs t (0, 0)) from hb] at g1
  cases g1
  exact ht rfl

theorem rowN_of {w : World} {B B' N c : Nat} {A : Option Addr} {ls : List (List Ar)} {vals : List Value} (own : w.ownsRow B' 48 1 (.slice A N c) N vals) (rows : RowsK w B ls N vals) (hN : ls.length = N) : RowN w A ls := fun i l hl => by
  have hi : i < N := by rw [← hN]; exact (List.getElem?_eq_some_iff.1 hl).1
  obtain ⟨u, h1, h2⟩ := rows i l hl hi
  obtain ⟨Au, cu, rfl, h3⟩ := h2.row
  rcases own.2 with ⟨_, h0⟩ | ⟨g, cap, cur, hv, hb, hg, _⟩
  · omega
  · cases hv
    have h4 := World.ownsRow.cellAt own i (by omega)
    rw [h1] at h4
    exact ⟨g, 0, Au, cu, rfl, (Array.getElem?_eq_some_iff.1 hg).1, by rw [Nat.zero_add]; exact h4, h3⟩
set_option maxHeartbeats 4000000 in
set_option maxRecDepth 100000 in
theorem of_any (A V : Option Addr) (c G cG : Nat) (ls : List (List Ar)) (w : World) (h : RowN w A ls) (hl : ls.length ≤ 100000) (hls : ∀ l ∈ ls, l.length ≤ 100000) :
    Calls Try.prog 9 #[.agg #[.slice A ls.length c, .slice V G cG]] w fun e w' => ∃ A' c', e = .returned (.agg #[.slice A' ls.length c', .slice V G cG]) ∧ RowN w' A' ls ∧ Grew w w' := by
  obtain ⟨i0, hi, hz0, hz1, hz2⟩ := info_parts info_arcs
  obtain ⟨N, hN⟩ : ∃ N, ls.length = N := ⟨_, rfl⟩
  have HN := Lib.hid hN
  have HE := Lib.hid h
  have HLS := Lib.hid hls
  rw [hN] at hl ⊢
  clear h hN hls
  go_enter Try.func9, Try.ntmps9
  go_wp2_with fail
  obtain ⟨r1, hr1⟩ : ∃ r, w.heap.size = r := ⟨_, rfl⟩
  have HR1 := Lib.hid hr1
  obtain ⟨w0, hw0⟩ : ∃ w0, ((w.alloc (.cells #[.slice A N c, .slice V G cG] 25)).alloc (.cells #[.slice none 0 0, .slice none 0 0] 33)).alloc (.cells #[.slice none 0 0, .slice V G cG] 33) = w0 := ⟨_, rfl⟩
  have B1 : Blk w0 r1 25 #[.slice A N c, .slice V G cG] := by rw [← hw0, ← hr1]; exact ((Blk.new w _ _).alloc _).alloc _
  have B2 : Blk w0 (r1 + 1) 33 #[.slice none 0 0, .slice none 0 0] := by
    rw [← hw0, ← hr1]
    have h := Blk.new (w.alloc (.cells #[.slice A N c, .slice V G cG] 25)) 33 #[.slice none 0 0, .slice none 0 0]
    rw [World.size_alloc] at h
    exact h.alloc _
  have B3 : Blk w0 (r1 + 1 + 1) 33 #[.slice none 0 0, .slice V G cG] := by
    rw [← hw0, ← hr1]
    have h := Blk.new ((w.alloc (.cells #[.slice A N c, .slice V G cG] 25)).alloc (.cells #[.slice none 0 0, .slice none 0 0] 33)) 33 #[.slice none 0 0, .slice V G cG]
    rw [World.size_alloc, World.size_alloc] at h
    exact h
  have k0 : Grew w w0 := by rw [← hw0]; exact (((Kept.refl _ _).alloc _).alloc _).alloc _
  have hz0 : w0.heap.size = r1 + 3 := by rw [← hw0, ← hr1]; simp
  rw [hw0]
  rw [hr1]
  have hS0 : Hid (Blk w0 r1 25 #[.slice A N c, .slice V G cG] ∧ Blk w0 (r1 + 1) 33 #[.slice none 0 0, .slice none 0 0] ∧ Blk w0 (r1 + 1 + 1) 33 #[.slice none 0 0, .slice V G cG] ∧ w0.ownsRow (r1 + 3) 48 1 (.slice none 0 0) 0 [] ∧ RowsK w0 r1 ls 0 [] ∧ Grew w w0 ∧ r1 + 3 ≤ w0.heap.size) := ⟨B1, B2, B3, World.ownsRow_nil _ _ _ _, fun i l _ hi => by omega, k0, by omega⟩
  clear hw0 B1 B2 B3 k0 hz0 hr1
  go_loopw [4] (fun i wr => ∃ (k : Nat) (o : Value) (vals : List Value), k ≤ N ∧ i = .int .i64 k ∧ Hid (Blk wr r1 25 #[.slice A N c, .slice V G cG] ∧ Blk wr (r1 + 1) 33 #[.slice none 0 0, .slice none 0 0] ∧ Blk wr (r1 + 1 + 1) 33 #[o, .slice V G cG] ∧ wr.ownsRow (r1 + 3) 48 1 o k vals ∧ RowsK wr r1 ls k vals ∧ Grew w wr ∧ r1 + 3 ≤ wr.heap.size)) (fun i _ => N - (intOf i).toNat)
  case atStart => exact ⟨0, _, _, by omega, rfl, hS0⟩
  case round =>
    clear hS0
    obtain ⟨k, o, vals, hk, rfl, hS⟩ := hrel
    obtain ⟨B1, B2, B3, hown, hrows, hK, hsz⟩ := hS.out
    obtain ⟨Ao, co, rfl⟩ : ∃ Ao co, o = .slice Ao k co := by
      rcases hown.2 with ⟨h, h0⟩ | ⟨g, cap, _, hv, _⟩
      · exact ⟨none, 0, by rw [h, h0]⟩
      · exact ⟨_, cap, hv⟩
    have c0 := B1.cell 0
    have c1 := B1.cell 1
    have d0 := B3.cell 0
    have d1 := B3.cell 1
    simp at c0 c1 d0 d1
    by_cases hlt : k < N
    · obtain ⟨l, hx⟩ : ∃ l, ls[k]? = some l := ⟨_, List.getElem?_eq_getElem (by rw [HN.out]; exact hlt)⟩
      obtain ⟨b, off, Ai, ci, hAe, hb, e0, hRA⟩ := HE.out k l hx
      have hll := HLS.out l (List.mem_of_getElem? hx)
      subst hAe
      replace e0 := hK.cell e0
      have hA := Lib.hid (fun W (g : Grew w W) => arcs_any Ai ci l W (hRA.grew g) hll)
      obtain ⟨n, hn⟩ : ∃ n, l.length = n := ⟨_, rfl⟩
      have Hn := Lib.hid hn
      rw [hn] at e0 hA
      have HX := Lib.hid hx
      have hbw : b < r1 := by rw [← HR1.out]; exact hb
      have k0 : (0 : Int) ≤ (k : Int) := by omega
      have k1 : (k : Int) < (N : Int) := by omega
      have hge : ∀ j, (Value.slice Ao k co).ownBlock = some j → r1 + 3 ≤ j := fun j hj => (hown.lt j hj).1
      have ne1 : ¬ (Value.slice Ao k co).ownBlock = some r1 := fun h => by have := hge _ h; omega
      have ne2 : ¬ (Value.slice Ao k co).ownBlock = some (r1 + 1) := fun h => by have := hge _ h; omega
      have ne3 : ¬ (Value.slice Ao k co).ownBlock = some (r1 + 1 + 1) := fun h => by have := hge _ h; omega
      have neb : ¬ (Value.slice Ao k co).ownBlock = some b := fun h => by have := hge _ h; omega
      have hHid := Lib.hid hown
      have hRows := Lib.hid hrows
      have HK := Lib.hid hK
      have hb1 := Lib.hid B1
      have hb2 := Lib.hid B2
      have hb3 := Lib.hid B3
      have hvl : vals.length = k := by have := hown.1; omega
      clear hx hn hRA hS hrows hK hge hown
      go_wp2_with fail
      refine wp_region_grow [11] (fun j => (Value.slice Ao k co).ownBlock = some j) (by kernel_rfl) ?_
      simp only [List.size_toArray, List.length_cons, List.length_nil, Nat.reduceAdd]
      refine wpAnyG_pure 0 15 (v := ?_) rfl (by kernel_rfl) rfl (by rfl) (fun w' => ?_) ?_
      rotate_left
      · go_simp <;> with_reducible rfl
      simp only [List.setIfInBounds_toArray, List.set_cons_zero, List.set_cons_succ]
      refine wpAnyG_take 1 16 (v := ?_) rfl (by kernel_rfl) rfl (by rfl) (fun w' hG' => ?_) ?_
      rotate_left
      · have hx0 := (hb1.out.drew.kept hG' ne1).cell 0
        have hx1 := (hb3.out.drew.kept hG' ne3).cell 0
        have hx2 := hG'.cell (show wr.drew.cell? ⟨b, off + k, none⟩ = some (.slice Ai n ci) from e0) neb
        simp at hx0 hx1
        go_simp <;> with_reducible rfl
      simp only [List.setIfInBounds_toArray, List.set_cons_zero, List.set_cons_succ]
      refine wpAnyG_pure 2 17 (v := ?_) rfl (by kernel_rfl) rfl (by rfl) (fun w' => ?_) ?_
      rotate_left
      · go_simp <;> with_reducible rfl
      simp only [List.setIfInBounds_toArray, List.set_cons_zero, List.set_cons_succ]
      refine wpAnyG_take 3 18 (v := ?_) rfl (by kernel_rfl) rfl (by rfl) (fun w' hG' => ?_) ?_
      rotate_left
      · have hx0 := (hb1.out.drew.kept hG' ne1).cell 0
        have hx1 := (hb3.out.drew.kept hG' ne3).cell 0
        have hx2 := hG'.cell (show wr.drew.cell? ⟨b, off + k, none⟩ = some (.slice Ai n ci) from e0) neb
        simp at hx0 hx1
        go_simp <;> with_reducible rfl
      simp only [List.setIfInBounds_toArray, List.set_cons_zero, List.set_cons_succ]
      refine wpAnyG_pure 4 19 (v := ?_) rfl (by kernel_rfl) rfl (by rfl) (fun w' => ?_) ?_
      rotate_left
      · go_simp <;> with_reducible rfl
      simp only [List.setIfInBounds_toArray, List.set_cons_zero, List.set_cons_succ]
      refine wpAnyG_pure 5 20 (v := ?_) rfl (by kernel_rfl) rfl (by rfl) (fun w' => ?_) ?_
      rotate_left
      · go_simp <;> with_reducible rfl
      simp only [List.setIfInBounds_toArray, List.set_cons_zero, List.set_cons_succ]
      refine wpAnyG_take 6 21 (v := ?_) rfl (by kernel_rfl) rfl (by rfl) (fun w' hG' => ?_) ?_
      rotate_left
      · have hx0 := (hb1.out.drew.kept hG' ne1).cell 0
        have hx1 := (hb3.out.drew.kept hG' ne3).cell 0
        have hx2 := hG'.cell (show wr.drew.cell? ⟨b, off + k, none⟩ = some (.slice Ai n ci) from e0) neb
        simp at hx0 hx1
        go_simp <;> with_reducible rfl
      simp only [List.setIfInBounds_toArray, List.set_cons_zero, List.set_cons_succ]
      refine wpAnyG_step 7 22 rfl (by kernel_rfl) rfl (by rfl) (fun K hK' => ?_)
      go_simp
      refine (hA.out _ (HK.out.drew)).mono ?_
      rintro e w3 ⟨u, rfl, ou, k3⟩
      obtain ⟨Au, cu, hu, _⟩ := ou.row
      rw [Hn.out] at hu
      subst hu
      refine hK' _ _ (fun _ => k3.mono fun _ _ h => h.elim) ?_
      clear hK'
      simp only [List.setIfInBounds_toArray, List.set_cons_zero, List.set_cons_succ]
      refine wpAnyG_step 8 23 rfl (by kernel_rfl) rfl (by rfl) (fun K hK' => ?_)
      go_simp
      refine hK' _ _ (fun _ => (Kept.refl _ _).alloc _) ?_
      clear hK'
      simp only [List.setIfInBounds_toArray, List.set_cons_zero, List.set_cons_succ]
      refine wpAnyG_step 9 24 rfl (by kernel_rfl) rfl (by rfl) (fun K hK' => ?_)
      refine wp_append_lies _ (.tmp 16) (.tmp 23) 31 (by rfl) (r1 + 3) 48 i0 (.slice none 0 0) 1 24 Try.underlying31 hi hz0 hz1 hz2 (by rfl) (by omega) (.slice Ao k co) k vals (by rfl) (Grew.own (k3.alloc _) (show wr.drew.ownsRow _ _ _ _ _ _ from hHid.out)) ⟨w3.heap.size, 0, none⟩ 1 1 [.slice Au n cu] (by rfl) (by rfl) (World.news_of_block (heap_alloc_new _ _)) ?_ (by omega) ?_ ?_ ?_ _ rfl ?_
      · intro u hu; simp at hu; subst hu; rfl
      · unfold maxLen; omega
      · omega
      · have := k3.size; simp at this ⊢; omega
      intro g cap wa hown1 hgrow1 hat1 hlt1
      have b3w := ((hb3.out.drew.grew k3).alloc (.cells #[.slice Au n cu] 48)).grown hgrow1 (fun h => ne3 h.symm)
      have q0 := b3w.cell 0
      have qf := b3w.frozen 0
      simp at q0
      refine hK' _ _ (fun _ => (Kept.refl _ _).grown hgrow1 (fun k hk => .inl hk)) ?_
      clear hK'
      simp only [List.setIfInBounds_toArray, List.set_cons_zero, List.set_cons_succ]
      refine wpAnyG_pure 10 25 (v := ?_) rfl (by kernel_rfl) rfl (by rfl) (fun w' => ?_) ?_
      rotate_left
      · go_simp <;> with_reducible rfl
      simp only [List.setIfInBounds_toArray, List.set_cons_zero, List.set_cons_succ]
      refine wpAnyG_store 11 rfl (by kernel_rfl) rfl (by rfl) (fun K hK' => ?_)
      go_simp
      refine hK' _ (fun h => absurd (by simp) h) ?_
      clear hK'
      refine wpAnyG_done (by kernel_rfl) ?_
      have hgr : r1 + 3 ≤ g := (hown1.lt g rfl).1
      have hF : Kept (· = r1 + 1 + 1) wa (wa.setCell ⟨r1 + 1 + 1, 0, none⟩ (.slice (some ⟨g, 0, none⟩) (k + 1) cap)) := (Kept.refl (· = r1 + 1 + 1) wa).setCell (p := ⟨r1 + 1 + 1, 0, none⟩) (.inl rfl) _
      have g3 : Grew wr w3 := (Kept.refl _ _).drew.trans k3
      have g4 : Grew wr (w3.alloc (.cells #[.slice Au n cu] 48)) := g3.alloc _
      have gF : Kept (fun j => (Value.slice Ao k co).ownBlock = some j) (w3.alloc (.cells #[.slice Au n cu] 48)) wa := (Kept.refl _ _).grown hgrow1 (fun k hk => .inl hk)
      have own4 : (w3.alloc (.cells #[.slice Au n cu] 48)).ownsRow (r1 + 3) 48 1 (.slice Ao k co) k vals := Grew.own g4 hHid.out
      have ou4 : OwnA (w3.alloc (.cells #[.slice Au n cu] 48)) r1 (.slice Au n cu) l := by
        have h := ou.grew ((Kept.refl (fun _ => False) w3).alloc (.cells #[.slice Au n cu] 48))
        refine ⟨h.1, ?_⟩
        rcases h.2 with h | ⟨g', cap', cur', hv, hb', hg'⟩
        · exact .inl h
        · refine .inr ⟨g', cap', cur', hv, ?_, hg'⟩
          have := HK.out.size
          rw [HR1.out] at this
          simp at hb'
          omega
      have rows4 : RowsK wa r1 ls (k + 1) (vals ++ [.slice Au n cu]) := ((hRows.out.grew g4).kept own4 gF).snoc hvl HX.out (Kept.own gF ou4 (fun j hj => own_apart ou4 own4 (by decide) hj))
      have rows5 := rows4.far b3w (by decide) hF
      have own5 : (wa.setCell ⟨r1 + 1 + 1, 0, none⟩ (.slice (some ⟨g, 0, none⟩) (k + 1) cap)).ownsRow (r1 + 3) 48 1 (.slice (some ⟨g, 0, none⟩) (k + 1) cap) (k + 1) (vals ++ [.slice Au n cu]) := Kept.own hF hown1 (fun j hj h => by
        obtain rfl : g = j := Option.some.inj hj
        have : g = r1 + 1 + 1 := h
        omega)
      have b1w := (((hb1.out.grew g4).grown hgrow1 (fun h => ne1 h.symm)).far (p := ⟨r1 + 1 + 1, 0, none⟩) (by show r1 ≠ r1 + 1 + 1; omega) (.slice (some ⟨g, 0, none⟩) (k + 1) cap))
      have b2w := (((hb2.out.grew g4).grown hgrow1 (fun h => ne2 h.symm)).far (p := ⟨r1 + 1 + 1, 0, none⟩) (by show r1 + 1 ≠ r1 + 1 + 1; omega) (.slice (some ⟨g, 0, none⟩) (k + 1) cap))
      have b3x := b3w.set 0 (.slice (some ⟨g, 0, none⟩) (k + 1) cap)
      simp at b3x
      have hKx : Grew w (wa.setCell ⟨r1 + 1 + 1, 0, none⟩ (.slice (some ⟨g, 0, none⟩) (k + 1) cap)) := ((HK.out.trans g4).then gF (fun i hi h => by have := (hHid.out.lt i h).1; have := HR1.out; omega)).then hF (fun i hi h => by have h2 : i = r1 + 1 + 1 := h; have := HR1.out; omega)
      have hzx : r1 + 3 ≤ (wa.setCell ⟨r1 + 1 + 1, 0, none⟩ (.slice (some ⟨g, 0, none⟩) (k + 1) cap)).heap.size := by
        have h1 := hF.size
        have h2 := gF.size
        have h3 := g4.size
        omega
      have hS1 := Lib.hid (show _ ∧ _ ∧ _ ∧ _ ∧ _ ∧ _ ∧ _ from ⟨b1w, b2w, b3x, own5, rows5, hKx, hzx⟩)
      clear b1w b2w b3x own5 rows5 hKx hzx rows4 ou4 own4 hRows HK hHid hb1 hb2 hb3 hown1 hgrow1 b3w q0 qf ou k3 g3 g4 gF hF hA c0 c1 d0 d1 e0 B1 B2 B3
      go_wp2_with fail
      go_roundw
      case rel => exact ⟨k + 1, _, _, by omega, by go_num, hS1⟩
      case measure => simp [intOf]; omega
    · obtain rfl : N = k := by omega
      have f0 := B2.frozen 0
      have f1 := B2.frozen 1
      have s0 := B2.cell 0
      have s1 := B2.cell 1
      simp at s0 s1
      have hF : Kept (· = r1 + 1) wr ((wr.setCell ⟨r1 + 1, 0, none⟩ (.slice Ao N co)).setCell ⟨r1 + 1, 1, none⟩ (.slice V G cG)) := ((Kept.refl (· = r1 + 1) wr).setCell (p := ⟨r1 + 1, 0, none⟩) (.inl rfl) _).setCell (p := ⟨r1 + 1, 1, none⟩) (.inl rfl) _
      have hRN : Hid (RowN ((wr.setCell ⟨r1 + 1, 0, none⟩ (.slice Ao N co)).setCell ⟨r1 + 1, 1, none⟩ (.slice V G cG)) Ao ls) := rowN_of (Kept.own hF hown (fun j hj h => by have := (hown.lt j hj).1; have h2 : j = r1 + 1 := h; omega)) (hrows.far B2 (by decide) hF) HN.out
      have hKx : Hid (Grew w ((wr.setCell ⟨r1 + 1, 0, none⟩ (.slice Ao N co)).setCell ⟨r1 + 1, 1, none⟩ (.slice V G cG))) := hK.then hF (fun i hi h => by have h2 : i = r1 + 1 := h; have := HR1.out; omega)
      have q := (B2.set 0 (.slice Ao N co)).set 1 (.slice V G cG)
      have q0 := q.cell 0
      have q1 := q.cell 1
      simp at q0 q1
      clear hown hrows hK hS B1 B3 hF q
      go_wp2_with fail
      exact bodyPost_ret (v := .agg #[.slice Ao N co, .slice V G cG]) (by simp [results, Try.results9, go_sem, q0, q1]) rfl ⟨Ao, co, rfl, hRN.out, hKx.out⟩
end Go.Proofs.Ythbcgdogmkgebaa
