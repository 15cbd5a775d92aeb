/- Search: the walk. -/
import Derived.Test.YthbcgdogmkgebaaSState
import Derived.Test.YthbcgdogmkgebaaTwo
import Derived.RegionTactic
import Derived.Deep.DeepCutAuto
namespace Go.Proofs.Ythbcgdogmkgebaa
open Go.RowKit

def arcsL (ls : List (List Ar)) : Arcs := fun v => if 0 ≤ v then ls.getD v.toNat [] else []
def goneL (gs : List Bool) : Int → Bool := fun v => gs.getD v.toNat false
/-- What a search answers. -/
def FoundE (N : Nat) (arcs : Arcs) (gone : Int → Bool) (s t below : Int) (great : Bool) (w : World) (e : Ending) (w' : World) : Prop :=
  ∃ (x : Int) (is : Bool), e = .returned (.tuple #[u64 x, .bool is]) ∧ Grew w w' ∧ 0 ≤ x ∧ (is = false → x = 0) ∧ (is = true → gone s = false ∧ gone t = false ∧ x < below ∧ ∃ k : Nat, k ≤ N ∧ Reach arcs gone s k t x) ∧
    (is = true → great = true → ∀ (k : Nat) (y : Int), Reach arcs gone s k t y → x ≤ y) ∧ (is = false → great = true → gone s = true ∨ ∀ (k : Nat) (y : Int), Reach arcs gone s k t y → below ≤ y)
theorem gone_none {arcs : Arcs} {gone : Int → Bool} {s t : Int} (hst : s ≠ t) (hg : gone t = true) {k : Nat} {y : Int} (h : Reach arcs gone s k t y) : False := by
  cases h with
  | start => exact hst rfl
  | arc h1 h2 h3 => rw [hg] at h3; cases h3

theorem hp_least {w : World} {H A N : Nat} {v : Value} {l : List Hp.Itm} {e0 : Hp.Itm} (s : Hp.Hp w H A N v l) (h : l[0]? = some e0) : (∀ f ∈ l, ¬ Hp.lessI f e0 = true) ∧ ∀ f ∈ l, e0.2 ≤ f.2 := by
  obtain ⟨a, _, g⟩ := s
  have hl : ∀ f ∈ l, ¬ Hp.lessI f e0 = true := fun f hf => by
    obtain ⟨k, hk⟩ := List.mem_iff_getElem?.1 hf
    exact Hp.top_law g.2 h k f hk
  refine ⟨hl, fun f hf => ?_⟩
  have := hl f hf
  rw [Hp.lessI_iff] at this
  omega
theorem pop_mem {w : World} {H A N : Nat} {v : Value} {e0 : Hp.Itm} {l0 l' : List Hp.Itm} (s : Hp.Hp w H A N v (e0 :: l0)) (hp : l'.Perm ((e0 :: l0).eraseIdx 0)) : (∀ e, e ∈ l' ↔ e ∈ e0 :: l0 ∧ e ≠ e0) ∧ ∀ e ∈ e0 :: l0, e.1 = e0.1 → e = e0 := by
  have one : ∀ (k : Nat) (e : Hp.Itm), (e0 :: l0)[k]? = some e → e.1 = e0.1 → k = 0 := fun k e hk he => s.one hk (show (e0 :: l0)[0]? = some e0 from rfl) he
  have hno : e0 ∉ l0 := fun h => by
    obtain ⟨k, hk⟩ := List.mem_iff_getElem?.1 h
    have := one (k + 1) e0 (by rw [List.getElem?_cons_succ]; exact hk) rfl
    omega
  refine ⟨fun e => ?_, fun e he hv => ?_⟩
  · rw [hp.mem_iff, List.eraseIdx_cons_zero, List.mem_cons]
    constructor
    · intro h
      exact ⟨.inr h, fun e' => hno (e' ▸ h)⟩
    · rintro ⟨h | h, h2⟩
      · exact absurd h h2
      · exact h
  · obtain ⟨k, hk⟩ := List.mem_iff_getElem?.1 he
    have h0 := one k e hk hv
    subst h0
    simpa using hk.symm
theorem set_mem {w : World} {H A N : Nat} {v : Value} {l : List Hp.Itm} {i : Nat} {u y : Int} (s : Hp.Hp w H A N v l) (hi : l[i]? = some (u, y)) (nd : Int) (e : Hp.Itm) : e ∈ l.set i (u, nd) ↔ (e ∈ l ∧ e.1 ≠ u) ∨ e = (u, nd) := by
  have hlt := (List.getElem?_eq_some_iff.1 hi).1
  constructor
  · intro h
    obtain ⟨k, hk⟩ := List.mem_iff_getElem?.1 h
    by_cases hki : i = k
    · subst hki
      rw [List.getElem?_set_self hlt] at hk
      cases hk
      exact .inr rfl
    · rw [List.getElem?_set_ne hki] at hk
      exact .inl ⟨List.mem_of_getElem? hk, fun he => hki (s.one hi hk he.symm)⟩
  · rintro (⟨h, hne⟩ | rfl)
    · obtain ⟨k, hk⟩ := List.mem_iff_getElem?.1 h
      have hki : i ≠ k := fun e' => by
        subst e'
        rw [hi] at hk
        cases hk
        exact hne rfl
      exact List.mem_of_getElem? (by rw [List.getElem?_set_ne hki]; exact hk)
    · exact List.mem_of_getElem? (List.getElem?_set_self hlt)
theorem put_far {N : Nat} {arcs seen : Arcs} {gone : Int → Bool} {s0 t : Int} {great : Bool} {Q : List Int} {far : Int → Option Int} {st : Int → Int} (w : World) (H A : Nat) (v : Value) (l : List Hp.Itm) (s : Hp.Hp w H A N v l) (hk : Know N arcs gone s0 t great Q seen far st l) (u nd : Int) (h0 : 0 ≤ u) (h1 : u < (N : Int)) (hu : u ∉ Q) (hlt : ∀ y, far u = some y → nd < y) :
    Calls Try.prog 41 #[pt H, i64 u, u64 nd] w fun r w' => r = .returned (.bool true) ∧ ∃ v' l', (∀ e, e ∈ l' ↔ (e ∈ l ∧ e.1 ≠ u) ∨ e = (u, nd)) ∧ Hp.Turn w w' H A N v v' l' := by
  cases hf : far u with
  | none =>
    have hno : ∀ e ∈ l, e.1 ≠ u := fun e he h => by
      have := ((hk.keys e.1 e.2).1 he).1
      rw [h, hf] at this
      cases this
    refine (Hp.put_new2 w H A N v l s u nd h0 h1 hno).mono ?_
    rintro r w' ⟨rfl, v', l', hp, ht⟩
    refine ⟨rfl, v', l', fun e => ?_, ht⟩
    rw [hp.mem_iff, List.mem_append, List.mem_singleton]
    constructor
    · rintro (h | h)
      · exact .inl ⟨h, hno e h⟩
      · exact .inr h
    · rintro (h | h)
      · exact .inl h.1
      · exact .inr h
  | some y =>
    obtain ⟨i, hi⟩ := List.mem_iff_getElem?.1 ((hk.keys u y).2 ⟨hf, hu⟩)
    refine (Hp.put_less2 w H A N v l s i (u, y) nd hi (hlt y hf)).mono ?_
    rintro r w' ⟨rfl, v', l', hp, ht⟩
    exact ⟨rfl, v', l', fun e => by rw [hp.mem_iff]; exact set_mem s hi nd e, ht⟩
theorem least_cases (N : Nat) (far : Int → Option Int) (u nd many : Int) (h0 : 0 ≤ u) (h1 : u < (N : Int)) :
    (Sm.leastB N far u nd = true ∧ (∀ y, far u = some y → nd < y) ∧ Sm.leastH N far u nd = upd far u (some nd) ∧ Sm.leastM N far u nd many ≤ many + 1) ∨
    (Sm.leastB N far u nd = false ∧ (∃ y, far u = some y ∧ y ≤ nd) ∧ Sm.leastH N far u nd = far ∧ Sm.leastM N far u nd many ≤ many + 1) := by
  have hin : Sm.inn N u = true := decide_eq_true ⟨h0, h1⟩
  cases hf : far u with
  | none =>
    have hb : Sm.leastB N far u nd = true := by simp [Sm.leastB, hin, hf]
    exact .inl ⟨hb, (fun y h => by cases h), by unfold Sm.leastH; rw [if_pos hb]; rfl, by unfold Sm.leastM Sm.manyP; rw [if_pos hb]; split <;> omega⟩
  | some x =>
    by_cases hx : x ≤ nd
    · have hb : Sm.leastB N far u nd = false := by simp [Sm.leastB, hin, hf, hx]
      exact .inr ⟨hb, ⟨x, rfl, hx⟩, by unfold Sm.leastH; rw [hb]; rfl, by unfold Sm.leastM; rw [hb]; simp <;> omega⟩
    · have hb : Sm.leastB N far u nd = true := by simp [Sm.leastB, hin, hf]; omega
      exact .inl ⟨hb, (fun y h => by cases h; omega), by unfold Sm.leastH; rw [if_pos hb]; rfl, by unfold Sm.leastM Sm.manyP; rw [if_pos hb]; split <;> omega⟩
theorem know_lower {N : Nat} {arcs : Arcs} {gone : Int → Bool} {s t : Int} {great : Bool} {P : List Int} {far : Int → Option Int} {steps : Int → Int} {l : List (Int × Int)} (h : Know N arcs gone s t great P arcs far steps l) (hg : great = true) (hok : NetOk N arcs) (d : Int) (hd : ∀ e ∈ l, d ≤ e.2) {k : Nat} {x : Int} (hr : Reach arcs gone s k t x) : d ≤ x := by
  subst hg
  exact h.lower d hd (fun v u c hc => (hok.arc v u c hc).2.2.1) hr
theorem know_empty {N : Nat} {arcs : Arcs} {gone : Int → Bool} {s t : Int} {great : Bool} {P : List Int} {far : Int → Option Int} {steps : Int → Int} (h : Know N arcs gone s t great P arcs far steps []) (hg : great = true) (hok : NetOk N arcs) {k : Nat} {x : Int} (hr : Reach arcs gone s k t x) : False := by
  subst hg
  exact h.empty (fun v u c hc => (hok.arc v u c hc).2.2.1) hr

set_option maxHeartbeats 8000000 in
set_option maxRecDepth 100000 in
theorem search_any (A V : Option Addr) (c cG N s t : Nat) (ls : List (List Ar)) (gs : List Bool) (below hops settles : Int) (w : World) (h : RowN w A ls) (hG : RowB w V gs) (hls : ls.length = N) (hgs : gs.length = N) (hs : s < N) (ht : t < N) (hst : s ≠ t) (hN : N ≤ 30) (h30 : ∀ l ∈ ls, l.length ≤ 30) (hok : NetOk N (arcsL ls)) (hb : 0 ≤ below) :
    Calls Try.prog 22 #[.agg #[.slice A N c, .slice V N cG], i64 s, i64 t, u64 below, i64 hops, i64 settles] w fun e w' => FoundE N (arcsL ls) (goneL gs) s t below (decide ((N : Int) ≤ hops ∧ (N : Int) ≤ settles)) w e w' := by
  have b0 := Blk.new w 33 #[.slice A N c, .slice V N cG]
  have hK0 : Grew w (w.alloc (.cells #[.slice A N c, .slice V N cG] 33)) := (Kept.refl _ _).alloc _
  obtain ⟨g1, hg1⟩ : ∃ g, gs[s]? = some g := ⟨_, List.getElem?_eq_getElem (by omega)⟩
  obtain ⟨g2, hg2⟩ : ∃ g, gs[t]? = some g := ⟨_, List.getElem?_eq_getElem (by omega)⟩
  have e1 : goneL gs (s : Int) = g1 := by unfold goneL; rw [Int.toNat_natCast, List.getD_eq_getElem?_getD, hg1]; rfl
  have e2 : goneL gs (t : Int) = g2 := by unfold goneL; rw [Int.toNat_natCast, List.getD_eq_getElem?_getD, hg2]; rfl
  obtain ⟨bv, ov, hV, hbv, cv1⟩ := hG s g1 hg1
  obtain ⟨bv', ov', hV', hbv', cv2⟩ := hG t g2 hg2
  subst hV
  cases hV'
  replace cv1 := hK0.cell cv1
  replace cv2 := hK0.cell cv2
  have c0 := b0.cell 0
  have c1 := b0.cell 1
  simp at c0 c1
  have s0 : (0 : Int) ≤ (s : Int) := by omega
  have s1 : (s : Int) < (N : Int) := by omega
  have t0 : (0 : Int) ≤ (t : Int) := by omega
  have t1 : (t : Int) < (N : Int) := by omega
  obtain ⟨great, hgr⟩ : ∃ b, decide ((N : Int) ≤ hops ∧ (N : Int) ≤ settles) = b := ⟨_, rfl⟩
  have HGr := Lib.hid hgr
  rw [hgr]
  have HE := Lib.hid h
  have HGo := Lib.hid hG
  have HLS := Lib.hid hls
  have HGS := Lib.hid hgs
  have H30 := Lib.hid h30
  have HOK := Lib.hid hok
  have HST := Lib.hid hst
  obtain ⟨arcs, harcs⟩ : ∃ a, arcsL ls = a := ⟨_, rfl⟩
  obtain ⟨gone, hgone⟩ : ∃ a, goneL gs = a := ⟨_, rfl⟩
  rw [hgone] at e1 e2
  rw [harcs] at HOK
  have HAR := Lib.hid harcs
  have HGN := Lib.hid hgone
  rw [harcs, hgone]
  have E1 := Lib.hid e1
  have E2 := Lib.hid e2
  clear h hG hls hgs h30 hok hst hgr harcs hgone hg1 hg2 e1 e2
  cases g1 with
  | true =>
    have hF : Hid (∀ W, Grew w W → FoundE N arcs gone s t below great w (.returned (.tuple #[u64 0, .bool false])) W) := fun W k =>
      ⟨0, false, rfl, k, by omega, fun _ => rfl, (fun h => by cases h), (fun h => by cases h), fun _ _ => .inl E1.out⟩
    go_enter Try.func22, Try.ntmps22
    go_wp2_with fail
    go_step3
    go_wp2_with fail
    rw [Exit.noGoto_ret]
    go_ret2
    exact hF.out _ hK0
  | false =>
  cases g2 with
  | true =>
    have hF : Hid (∀ W, Grew w W → FoundE N arcs gone s t below great w (.returned (.tuple #[u64 0, .bool false])) W) := fun W k =>
      ⟨0, false, rfl, k, by omega, fun _ => rfl, (fun h => by cases h), (fun h => by cases h), fun _ _ => .inr fun k y hr => absurd hr (fun hr => gone_none (by have := HST.out; omega) E2.out hr)⟩
    go_enter Try.func22, Try.ntmps22
    go_wp2_with fail
    go_step3
    go_wp2_with fail
    rw [Exit.noGoto_ret]
    go_ret2
    exact hF.out _ hK0
  | false =>
  obtain ⟨i0, hi, hz0, hz1, hz2⟩ := info_parts info_int
  have hmk := fun W => run_make (P := Try.prog) W 77 3 i0 _ Try.underlying77 hi hz0 .i64 .i64 (N : Int) (N : Int) (by omega) (Int.le_refl _) (by rw [hz2]; omega) (by omega)
  simp only [Int.toNat_natCast, hz1, Nat.mul_one] at hmk
  clear hi hz0 hz1 hz2
  have hSN := Lib.hid (fun W => Sm.new_yes N W (by omega))
  have hHN := Lib.hid (fun W => Hp.new2 N W (by omega))
  go_enter Try.func22, Try.ntmps22
  go_wp2_with fail
  go_step3
  go_upto_region 3 with fail
  have hdr : ∀ o : Nat, True := fun _ => trivial
  clear hdr
  obtain ⟨w1, hw1⟩ : ∃ w1, w.alloc (.cells #[.slice A N c, .slice (some ⟨bv, ov, none⟩) N cG] 33) = w1 := ⟨_, rfl⟩
  rw [hw1] at b0 hK0 cv1 cv2 ⊢
  obtain ⟨r6, hr6⟩ : ∃ r, w.heap.size = r := ⟨_, rfl⟩
  have HR6 := Lib.hid hr6
  have b6 := b0
  rw [hr6] at b6 ⊢
  clear c0 c1
  have c0 := b6.cell 0
  have c1 := b6.cell 1
  simp at c0 c1
  have hz6 : r6 < w1.heap.size := b6.lt
  clear hw1 b0 hr6
  go_cut [14, 15, 16] (fun s14 s15 s16 wx => ∃ R C gS H A2 : Nat, s14 = pt R ∧ s15 = .slice (some ⟨gS, 0, none⟩) N N ∧ s16 = pt H ∧ Hid (w1.heap.size ≤ R ∧ w1.heap.size ≤ C ∧ w1.heap.size ≤ gS ∧ w1.heap.size ≤ H ∧ w1.heap.size ≤ A2 ∧ gS ≠ A2 ∧ Sm.Stamp wx R C N (fun _ => none) 1 0 ∧ IntsF wx gS N (fun _ => 0) ∧ Hp.Hp wx H A2 N (.slice none 0 0) [] ∧ Grew w1 wx))
  case first =>
    refine wp_region_grow [] (fun _ => False) (by kernel_rfl) ?_
    simp only [List.size_toArray, List.length_cons, List.length_nil, Nat.reduceAdd]
    refine wpAnyG_pure 0 34 (v := ?_) rfl (by kernel_rfl) rfl (by rfl) (fun w' => ?_) ?_
    rotate_left
    · go_simp <;> with_reducible rfl
    simp only [List.setIfInBounds_toArray, List.set_cons_zero, List.set_cons_succ]
    refine wpAnyG_take 1 35 (v := ?_) rfl (by kernel_rfl) rfl (by rfl) (fun w' hG' => ?_) ?_
    rotate_left
    · have hx0 := (b6.drew.grew hG').cell 0
      have hx1 := (b6.drew.grew hG').cell 1
      simp at hx0 hx1
      go_simp <;> with_reducible rfl
    simp only [List.setIfInBounds_toArray, List.set_cons_zero, List.set_cons_succ]
    refine wpAnyG_pure 2 36 (v := ?_) rfl (by kernel_rfl) rfl (by rfl) (fun w' => ?_) ?_
    rotate_left
    · go_simp <;> with_reducible rfl
    simp only [List.setIfInBounds_toArray, List.set_cons_zero, List.set_cons_succ]
    refine wpAnyG_pure 4 38 (v := ?_) rfl (by kernel_rfl) rfl (by rfl) (fun w' => ?_) ?_
    rotate_left
    · go_simp <;> with_reducible rfl
    simp only [List.setIfInBounds_toArray, List.set_cons_zero, List.set_cons_succ]
    refine wpAnyG_take 5 39 (v := ?_) rfl (by kernel_rfl) rfl (by rfl) (fun w' hG' => ?_) ?_
    rotate_left
    · have hx0 := (b6.drew.grew hG').cell 0
      have hx1 := (b6.drew.grew hG').cell 1
      simp at hx0 hx1
      go_simp <;> with_reducible rfl
    simp only [List.setIfInBounds_toArray, List.set_cons_zero, List.set_cons_succ]
    refine wpAnyG_pure 6 40 (v := ?_) rfl (by kernel_rfl) rfl (by rfl) (fun w' => ?_) ?_
    rotate_left
    · go_simp <;> with_reducible rfl
    simp only [List.setIfInBounds_toArray, List.set_cons_zero, List.set_cons_succ]
    refine wpAnyG_pure 8 42 (v := ?_) rfl (by kernel_rfl) rfl (by rfl) (fun w' => ?_) ?_
    rotate_left
    · go_simp <;> with_reducible rfl
    simp only [List.setIfInBounds_toArray, List.set_cons_zero, List.set_cons_succ]
    refine wpAnyG_take 9 43 (v := ?_) rfl (by kernel_rfl) rfl (by rfl) (fun w' hG' => ?_) ?_
    rotate_left
    · have hx0 := (b6.drew.grew hG').cell 0
      have hx1 := (b6.drew.grew hG').cell 1
      simp at hx0 hx1
      go_simp <;> with_reducible rfl
    simp only [List.setIfInBounds_toArray, List.set_cons_zero, List.set_cons_succ]
    refine wpAnyG_pure 10 44 (v := ?_) rfl (by kernel_rfl) rfl (by rfl) (fun w' => ?_) ?_
    rotate_left
    · go_simp <;> with_reducible rfl
    simp only [List.setIfInBounds_toArray, List.set_cons_zero, List.set_cons_succ]
    refine wpAnyG_two 3 37 7 41 rfl rfl (by kernel_rfl) rfl rfl (by rfl) (by rfl) (fun K hK' => ?_) (fun K hK' => ?_)
    · go_simp
      refine (hSN.out _).mono ?_
      rintro e ws ⟨R, C, rfl, zR, zC, sS, ks⟩
      refine hK' _ _ (fun _ => ks) ?_
      clear hK'
      simp only [List.setIfInBounds_toArray, List.set_cons_zero, List.set_cons_succ]
      refine wpAnyG_two 7 41 11 45 rfl rfl (by kernel_rfl) rfl rfl (by rfl) (by rfl) (fun K hK' => ?_) (fun K hK' => ?_)
      · go_simp
        refine hK' _ _ (fun _ => (Kept.refl _ _).alloc _) ?_
        clear hK'
        simp only [List.setIfInBounds_toArray, List.set_cons_zero, List.set_cons_succ]
        refine wpAnyG_step 11 45 rfl (by kernel_rfl) rfl (by rfl) (fun K hK' => ?_)
        go_simp
        refine (hHN.out _).mono ?_
        rintro e wh ⟨rfl, sH, kh⟩
        refine hK' _ _ (fun _ => kh) ?_
        clear hK'
        simp only [List.setIfInBounds_toArray, List.set_cons_zero, List.set_cons_succ]
        refine wpAnyG_pure 12 14 (v := ?_) rfl (by kernel_rfl) rfl (by rfl) (fun w' => ?_) ?_
        rotate_left
        · go_simp <;> with_reducible rfl
        simp only [List.setIfInBounds_toArray, List.set_cons_zero, List.set_cons_succ]
        refine wpAnyG_pure 13 15 (v := ?_) rfl (by kernel_rfl) rfl (by rfl) (fun w' => ?_) ?_
        rotate_left
        · go_simp <;> with_reducible rfl
        simp only [List.setIfInBounds_toArray, List.set_cons_zero, List.set_cons_succ]
        refine wpAnyG_pure 14 16 (v := ?_) rfl (by kernel_rfl) rfl (by rfl) (fun w' => ?_) ?_
        rotate_left
        · go_simp <;> with_reducible rfl
        simp only [List.setIfInBounds_toArray, List.set_cons_zero, List.set_cons_succ]
        refine wpAnyG_done (by kernel_rfl) ?_
        go_wp2_with fail
        go_meet
        exact ⟨R, C, ws.heap.size, (ws.heap.size + 1 + 1), (ws.heap.size + 1), rfl, rfl, rfl, Lib.hid (show _ from by
          have q1 := ks.size
          have q2 := kh.size
          have q3 := sH.elim fun a s' => s'.1.box.lt
          try simp only [World.size_alloc] at q3
          simp only [World.size_alloc, World.size_drew] at q1 q2 zR zC
          refine ⟨by omega, by omega, by omega, by (try simp) <;> omega, by (try simp) <;> omega, by (try simp) <;> omega, sS.kept (((Kept.refl (fun _ => False) _).alloc _).trans kh) (fun h => h) (fun h => h), (made_of (Blk.new ws _ _)).grew kh, (by have h := sH; simp only [World.size_alloc] at h; exact h), (((Kept.refl _ _).drew.trans ks).alloc _).trans kh⟩)⟩
      · go_simp
        refine (hHN.out _).mono ?_
        rintro e wh ⟨rfl, sH, kh⟩
        refine hK' _ _ (fun _ => kh) ?_
        clear hK'
        simp only [List.setIfInBounds_toArray, List.set_cons_zero, List.set_cons_succ]
        refine wpAnyG_pure 12 14 (v := ?_) rfl (by kernel_rfl) rfl (by rfl) (fun w' => ?_) ?_
        rotate_left
        · go_simp <;> with_reducible rfl
        simp only [List.setIfInBounds_toArray, List.set_cons_zero, List.set_cons_succ]
        refine wpAnyG_step 7 41 rfl (by kernel_rfl) rfl (by rfl) (fun K hK' => ?_)
        go_simp
        refine hK' _ _ (fun _ => (Kept.refl _ _).alloc _) ?_
        clear hK'
        simp only [List.setIfInBounds_toArray, List.set_cons_zero, List.set_cons_succ]
        refine wpAnyG_pure 13 15 (v := ?_) rfl (by kernel_rfl) rfl (by rfl) (fun w' => ?_) ?_
        rotate_left
        · go_simp <;> with_reducible rfl
        simp only [List.setIfInBounds_toArray, List.set_cons_zero, List.set_cons_succ]
        refine wpAnyG_pure 14 16 (v := ?_) rfl (by kernel_rfl) rfl (by rfl) (fun w' => ?_) ?_
        rotate_left
        · go_simp <;> with_reducible rfl
        simp only [List.setIfInBounds_toArray, List.set_cons_zero, List.set_cons_succ]
        refine wpAnyG_done (by kernel_rfl) ?_
        go_wp2_with fail
        go_meet
        exact ⟨R, C, wh.heap.size, (ws.heap.size + 1), ws.heap.size, rfl, rfl, rfl, Lib.hid (show _ from by
          have q1 := ks.size
          have q2 := kh.size
          have q3 := sH.elim fun a s' => s'.1.box.lt
          try simp only [World.size_alloc] at q3
          simp only [World.size_alloc, World.size_drew] at q1 q2 zR zC
          refine ⟨by omega, by omega, by omega, by (try simp) <;> omega, by (try simp) <;> omega, by (try simp) <;> omega, sS.kept (kh.trans ((Kept.refl (fun _ => False) _).alloc _)) (fun h => h) (fun h => h), made_of (Blk.new wh _ _), sH.grew ((Kept.refl _ _).alloc _), (((Kept.refl _ _).drew.trans ks).trans kh).alloc _⟩)⟩
    · go_simp
      refine hK' _ _ (fun _ => (Kept.refl _ _).alloc _) ?_
      clear hK'
      simp only [List.setIfInBounds_toArray, List.set_cons_zero, List.set_cons_succ]
      refine wpAnyG_step 3 37 rfl (by kernel_rfl) rfl (by rfl) (fun K hK' => ?_)
      go_simp
      refine (hSN.out _).mono ?_
      rintro e ws ⟨R, C, rfl, zR, zC, sS, ks⟩
      refine hK' _ _ (fun _ => ks) ?_
      clear hK'
      simp only [List.setIfInBounds_toArray, List.set_cons_zero, List.set_cons_succ]
      refine wpAnyG_step 11 45 rfl (by kernel_rfl) rfl (by rfl) (fun K hK' => ?_)
      go_simp
      refine (hHN.out _).mono ?_
      rintro e wh ⟨rfl, sH, kh⟩
      refine hK' _ _ (fun _ => kh) ?_
      clear hK'
      simp only [List.setIfInBounds_toArray, List.set_cons_zero, List.set_cons_succ]
      refine wpAnyG_pure 12 14 (v := ?_) rfl (by kernel_rfl) rfl (by rfl) (fun w' => ?_) ?_
      rotate_left
      · go_simp <;> with_reducible rfl
      simp only [List.setIfInBounds_toArray, List.set_cons_zero, List.set_cons_succ]
      refine wpAnyG_pure 13 15 (v := ?_) rfl (by kernel_rfl) rfl (by rfl) (fun w' => ?_) ?_
      rotate_left
      · go_simp <;> with_reducible rfl
      simp only [List.setIfInBounds_toArray, List.set_cons_zero, List.set_cons_succ]
      refine wpAnyG_pure 14 16 (v := ?_) rfl (by kernel_rfl) rfl (by rfl) (fun w' => ?_) ?_
      rotate_left
      · go_simp <;> with_reducible rfl
      simp only [List.setIfInBounds_toArray, List.set_cons_zero, List.set_cons_succ]
      refine wpAnyG_done (by kernel_rfl) ?_
      go_wp2_with fail
      go_meet
      exact ⟨R, C, w1.heap.size, (ws.heap.size + 1), ws.heap.size, rfl, rfl, rfl, Lib.hid (show _ from by
        have q1 := ks.size
        have q2 := kh.size
        have q3 := sH.elim fun a s' => s'.1.box.lt
        try simp only [World.size_alloc] at q3
        simp only [World.size_alloc, World.size_drew] at q1 q2 zR zC
        refine ⟨by omega, by omega, by omega, by (try simp) <;> omega, by (try simp) <;> omega, by (try simp) <;> omega, sS.kept kh (fun h => h) (fun h => h), ((made_of (Blk.new w1.drew _ _)).grew ks).grew kh, sH, ((((Kept.refl _ _).drew).alloc _).trans ks).trans kh⟩)⟩
  case rest =>
    obtain ⟨R, C, gS, H, A2, rfl, rfl, rfl, HC⟩ := hcut
    have kw := hK0.size
    obtain ⟨z1, z2, z3, z4, z5, z6, sS, iS, hH, k1⟩ := HC.out
    have h6 := b6.grew k1
    have hS0 : Hid (SS w wc R C N gS H A2 r6 (.slice none 0 0) #[.slice A N c, .slice (some ⟨bv, ov, none⟩) N cG] (fun _ => none) (fun _ => 0) [] 0) :=
      ⟨sS, iS, hH, h6, hK0.trans k1, ⟨by omega, by omega, by omega, by omega, by omega, by rw [← HR6.out]; exact Nat.le_refl _⟩, z6, fun j hj => by cases hj⟩
    have hPut := Lib.hid (Sm.put_any wc R C N (fun _ => none) 1 0 s 0 sS (by omega))
    clear HC z1 z2 z3 z4 z5 z6 sS iS hH k1 h6 b6 c0 c1 hmk hSN hHN cv1 cv2
    go_wp2_with fail
    refine hPut.out.mono ?_
    rintro e wd ⟨rfl, sP, kP⟩
    have hin : Sm.inn N (s : Int) = true := decide_eq_true ⟨s0, s1⟩
    have hS1 := hS0.out.two kP sP
    unfold Sm.putH Sm.putM at hS1
    rw [hin] at hS1
    simp only [if_true] at hS1
    have hPh := Lib.hid (Hp.put_new2 wd H A2 N (.slice none 0 0) [] hS1.heap s 0 s0 s1 (fun e he => by simp at he))
    have hS1 := Lib.hid hS1
    clear hPut hS0 sP kP hin
    go_wp2_with fail
    refine hPh.out.mono ?_
    rintro e we ⟨rfl, v1, l1, hp1, tr1⟩
    have hS2 := hS1.out.turn tr1
    have hl1 : l1 = [((s : Int), (0 : Int))] := List.perm_singleton.1 hp1
    subst hl1
    have hfar : Sm.upd (fun _ => none) (s : Int) 0 = upd (fun _ => none) (s : Int) (some 0) := rfl
    have hm : Sm.manyP ((fun _ : Int => (none : Option Int)) (s : Int)) 0 = 1 := rfl
    rw [hfar, hm] at hS2
    have hS3 : Hid (SS w we R C N gS H A2 r6 v1 #[.slice A N c, .slice (some ⟨bv, ov, none⟩) N cG] (upd (fun _ => none) (s : Int) (some 0)) (fun _ => 0) [((s : Int), 0)] 1 ∧ Know N arcs gone s t great [] arcs (upd (fun _ => none) (s : Int) (some 0)) (fun _ => 0) [((s : Int), 0)]) := ⟨hS2, Know.init N arcs gone s t great⟩
    clear hPh hS1 hS2 tr1 hp1 hfar hm
    have hF0 : Hid (∀ W, Grew w W → (great = true → ∀ (k : Nat) (y : Int), Reach arcs gone s k t y → below ≤ y) → FoundE N arcs gone s t below great w (.returned (.tuple #[.int .u64 0, .bool false])) W) := fun W k hl =>
      ⟨0, false, rfl, k, by omega, fun _ => rfl, (fun h => by cases h), (fun h => by cases h), fun _ hg => .inr (hl hg)⟩
    rcases Int.lt_or_le settles 0 with hset | hset
    · have hgf : great = false := by rw [← HGr.out]; exact decide_eq_false (by omega)
      have hR := Lib.hid (hF0.out we hS3.out.1.kept (fun hg => by rw [hgf] at hg; cases hg))
      clear hS3 hF0 HGr
      go_wp2_with fail
      go_step3
      go_wp2_with fail
      go_loopw [54] (fun i wr => i = .int .i64 0 ∧ we = wr) (fun _ _ => 0)
      case atStart => exact ⟨rfl, rfl⟩
      case round =>
        obtain ⟨rfl, rfl⟩ := hrel
        go_wp2_with fail
        rw [Exit.noGoto_ret]
        go_ret2
        exact hR.out
    · obtain ⟨M, rfl⟩ := Int.eq_ofNat_of_zero_le hset
      go_wp2_with fail
      go_step3
      go_wp2_with fail
      go_loopw [54] (fun i wr => ∃ (k : Nat) (P : List Int) (far : Int → Option Int) (st : Int → Int) (l : List (Int × Int)) (v : Value) (many : Int), k ≤ M ∧ i = .int .i64 k ∧ P.length = k ∧ many ≤ 1 + 31 * (k : Int) ∧
        Hid (SS w wr R C N gS H A2 r6 v #[.slice A N c, .slice (some ⟨bv, ov, none⟩) N cG] far st l many ∧ Know N arcs gone s t great P arcs far st l)) (fun i _ => M - (intOf i).toNat)
      case atStart => exact ⟨0, [], _, _, _, _, 1, by omega, rfl, rfl, by omega, hS3⟩
      case round =>
        clear hS3
        obtain ⟨k, P, far, st, l, v, many, hk, rfl, hPk, hmany, hS⟩ := hrel
        have hfew := hS.out.2.few ⟨t0, t1⟩
        by_cases hlt : k < M
        · have k0 : (0 : Int) ≤ (k : Int) := by omega
          have k1 : (k : Int) < (M : Int) := by omega
          rcases l with _ | ⟨⟨v0, d0⟩, l0⟩
          · have hP := Lib.hid (Hp.pop_none wr H A2 N v hS.out.1.heap)
            have hR := Lib.hid (hF0.out wr hS.out.1.kept (fun hg k y hr => (know_empty hS.out.2 hg HOK.out hr).elim))
            clear hS
            go_wp2_with fail
            refine hP.out.mono ?_
            rintro e wq ⟨rfl, rfl⟩
            go_wp2_with fail
            rw [Exit.noGoto_ret]
            go_ret2
            exact hR.out
          · have hle := hp_least hS.out.1.heap (e0 := (v0, d0)) rfl
            have hrg := hS.out.1.heap.rng (v0, d0) (by simp)
            obtain ⟨vn, rfl⟩ := Int.eq_ofNat_of_zero_le hrg.1
            have vN : vn < N := by have := hrg.2; omega
            have v0' : (0 : Int) ≤ (vn : Int) := by omega
            have v1' : (vn : Int) < (N : Int) := by omega
            obtain ⟨hfv, hvP⟩ := (hS.out.2.keys (vn : Int) d0).1 (by simp)
            obtain ⟨kk, hst1, hst2, hrv⟩ := hS.out.2.label _ _ hfv
            have hbd := hrv.bd HOK.out
            have hd0 : 0 ≤ d0 := hbd.1
            have hd1 : d0 ≤ 30 * 1125899906842624 := by
              have : kk ≤ 30 := by omega
              have := hbd.2
              omega
            have hP := Lib.hid (Hp.pop_some wr H A2 N v (((vn : Int), d0) :: l0) hS.out.1.heap 0 ((vn : Int), d0) rfl hle.1)
            have HM := Lib.hid hle.2
            have HK := Lib.hid hS.out.2
            have HFV := Lib.hid hfv
            have HVP := Lib.hid hvP
            have HST1 := Lib.hid hst1
            have HRV := Lib.hid hrv
            clear hle hrg hfv hvP hbd hrv hst1
            go_wp2_with fail
            refine hP.out.mono ?_
            rintro e wq ⟨rfl, v2, l2, hp2, tr2⟩
            have hS2 := Lib.hid (hS.out.1.turn tr2)
            have hMem := Lib.hid (pop_mem hS.out.1.heap hp2)
            clear hP hp2 tr2 hS
            rcases Int.lt_or_le d0 below with hdb | hdb
            · by_cases hvt : vn = t
              · subst hvt
                have hR : Hid (FoundE N arcs gone s vn below great w (.returned (.tuple #[.int .u64 d0, .bool true])) wq) :=
                  ⟨d0, true, rfl, hS2.out.kept, hd0, (fun h => by cases h), (fun _ => ⟨E1.out, E2.out, hdb, kk, by omega, HRV.out⟩), (fun _ hg k y hr => know_lower HK.out hg HOK.out d0 HM.out hr), (fun h => by cases h)⟩
                go_wp2_with fail
                rw [Exit.noGoto_ret]
                go_ret2
                exact hR.out
              · have hvt' : ¬ (vn : Int) = (t : Int) := by omega
                have hvq : ((vn : Int) == (t : Int)) = false := by simp; omega
                have K1 := Lib.hid (HK.out.pop (v := (vn : Int)) (d := d0) (by simp) HM.out hMem.out.1 hMem.out.2 ⟨v0', v1'⟩ hvt')
                have cS := hS2.out.steps.cell vN
                rw [HST1.out] at cS
                rcases Int.lt_or_le (kk : Int) hops with hh | hh
                · obtain ⟨row, hrow⟩ : ∃ r, ls[vn]? = some r := ⟨_, List.getElem?_eq_getElem (by rw [HLS.out]; exact vN)⟩
                  have harc : arcs (vn : Int) = row := by
                    rw [← HAR.out]
                    unfold arcsL
                    rw [if_pos v0', Int.toNat_natCast, List.getD_eq_getElem?_getD, hrow]
                    rfl
                  have hm30 : row.length ≤ 30 := H30.out _ (List.mem_of_getElem? hrow)
                  obtain ⟨bA, oA, Ai, ci, hA, hbA, cA, hRA⟩ := HE.out vn row hrow
                  replace cA := hS2.out.kept.cell cA
                  subst hA
                  have c0 := hS2.out.box.cell 0
                  simp at c0
                  obtain ⟨m, hm⟩ : ∃ m, row.length = m := ⟨_, rfl⟩
                  rw [hm] at cA hm30
                  have HM2 := Lib.hid hm
                  have HRow := Lib.hid hRA
                  have HArc := Lib.hid harc
                  have hP0 : Hid (∀ p ∈ P ++ [(vn : Int)], ∃ x, far p = some x ∧ x ≤ d0) := Lib.hid (fun p hp => by
                    rcases List.mem_append.1 hp with hp | hp
                    · obtain ⟨x, h1, h2⟩ := HK.out.done p hp
                      exact ⟨x, h1, h2 ((vn : Int), d0) (by simp)⟩
                    · rw [List.mem_singleton] at hp
                      subst hp
                      exact ⟨d0, HFV.out, Int.le_refl _⟩)
                  have hIn := Lib.hid (show _ ∧ _ ∧ _ ∧ _ ∧ _ from ⟨hS2.out, K1.out, hP0.out, HFV.out, HST1.out⟩)
                  clear hS2 K1 HK hP0 hrow harc hm hRA hMem HM HFV HST1
                  go_wp2_with fail
                  go_loopw [88] (fun i wi => ∃ (j : Nat) (far' : Int → Option Int) (st' : Int → Int) (l' : List (Int × Int)) (v' : Value) (many' : Int), j ≤ m ∧ i = .int .i64 j ∧ many' ≤ 1 + 31 * (k : Int) + (j : Int) ∧
                    Hid (RowA wi Ai row ∧ SS w wi R C N gS H A2 r6 v' #[.slice (some ⟨bA, oA, none⟩) N c, .slice (some ⟨bv, ov, none⟩) N cG] far' st' l' many' ∧ Know N arcs gone s t great (P ++ [(vn : Int)]) (upd arcs (vn : Int) (row.take j)) far' st' l' ∧
                      (∀ p ∈ P ++ [(vn : Int)], ∃ x, far' p = some x ∧ x ≤ d0) ∧ far' (vn : Int) = some d0 ∧ st' (vn : Int) = (kk : Int))) (fun i _ => m - (intOf i).toNat)
                  case atStart => exact ⟨0, far, st, l2, v2, many, by omega, rfl, by omega, ⟨HRow.out.grew hIn.out.1.kept, hIn.out⟩⟩
                  case round =>
                    clear hIn
                    obtain ⟨j, far', st', l', v', many', hj, rfl, hmany', hI⟩ := hrel
                    by_cases hjm : j < m
                    · have j0 : (0 : Int) ≤ (j : Int) := by omega
                      have j1 : (j : Int) < (m : Int) := by omega
                      obtain ⟨⟨u, cc⟩, hux⟩ : ∃ x, row[j]? = some x := ⟨_, List.getElem?_eq_getElem (by rw [HM2.out]; exact hjm)⟩
                      have hmem : (u, cc) ∈ arcs (vn : Int) := by rw [HArc.out]; exact List.mem_of_getElem? hux
                      obtain ⟨u0, u1, cc0, cc1⟩ := HOK.out.arc _ _ _ hmem
                      obtain ⟨un, rfl⟩ := Int.eq_ofNat_of_zero_le u0
                      have uN : un < N := by omega
                      have htk : row.take j ++ [((un : Int), cc)] = row.take (j + 1) := by rw [List.take_add_one, hux]; rfl
                      obtain ⟨b2, o2, hAi, hb2, ca0, ca1⟩ := hI.out.1 j _ hux
                      subst hAi
                      obtain ⟨gg, hgg⟩ : ∃ g, gs[un]? = some g := ⟨_, List.getElem?_eq_getElem (by rw [HGS.out]; exact uN)⟩
                      have hgu : gone (un : Int) = gg := by rw [← HGN.out]; unfold goneL; rw [Int.toNat_natCast, List.getD_eq_getElem?_getD, hgg]; rfl
                      obtain ⟨bw, ow, hW, hbw, cw⟩ := HGo.out.grew hI.out.2.1.kept un gg hgg
                      cases hW
                      have hKa : Grew wr (wr.alloc (.cells #[.int .i64 (un : Int), .int .u64 cc] 56)) := (Kept.refl _ _).alloc _
                      have bE := Blk.new wr 56 #[.int .i64 (un : Int), .int .u64 cc]
                      have hSa := Lib.hid (hI.out.2.1.grew hKa)
                      have cb0 := hSa.out.box.cell 0
                      have cb1 := hSa.out.box.cell 1
                      have e0 := bE.cell 0
                      have e1 := bE.cell 1
                      simp at cb0 cb1 e0 e1
                      have cw' := hKa.cell cw
                      have HKN := Lib.hid hI.out.2.2
                      have HRA := Lib.hid (hI.out.1.grew hKa)
                      have HU := Lib.hid htk
                      have HME := Lib.hid hmem
                      have HGU := Lib.hid hgu
                      have hsz := hI.out.2.1.kept.size
                      have hRl := hI.out.2.1.stamp.row.lt
                      have hCl : C < wr.heap.size := hI.out.2.1.stamp.cells.elim fun _ h => h.1.lt
                      clear hI htk hmem hgu hux hgg cw
                      cases gg with
                      | true =>
                        have hN := HKN.out.1.skip (u := (un : Int)) (c := cc) HKN.out.2.2.1 (.inl HGU.out)
                        rw [HU.out] at hN
                        have hN := Lib.hid hN
                        go_wp2_with fail
                        exact ⟨⟨j + 1, far', st', l', v', many', by omega, rfl, by omega, ⟨HRA.out, hSa.out, hN.out, HKN.out.2⟩⟩, by simp [intOf]; omega⟩
                      | false =>
                        have hm0 : many' < 1000000 := by omega
                        have hL := Lib.hid (Sm.least_any _ R C N far' 1 many' (un : Int) (d0 + cc) hSa.out.stamp hm0)
                        have hlc := least_cases N far' (un : Int) (d0 + cc) many' (by omega) u1
                        obtain ⟨ml, hml'⟩ : ∃ x, Sm.leastM N far' (un : Int) (d0 + cc) many' = x := ⟨_, rfl⟩
                        rw [hml'] at hL hlc
                        clear hml'
                        have hnT : ¬ Sm.Two R C wr.heap.size := fun h => by
                          rcases h with h | h <;> omega
                        rcases hlc with ⟨hb', hx, hh', hml⟩ | ⟨hb', hx, hh', hml⟩
                        · rw [hb', hh'] at hL
                          clear hb' hh'
                          have hfr := HKN.out.1.fresh HKN.out.2.1 cc0 hx
                          have hne : (vn : Int) ≠ (un : Int) := fun e => hfr (e ▸ by simp)
                          have hP5 : Hid (∀ p ∈ P ++ [(vn : Int)], ∃ x, upd far' (un : Int) (some (d0 + cc)) p = some x ∧ x ≤ d0) := Lib.hid (fun p hp => by
                            rw [upd_other _ _ (fun e => hfr (by rw [← e]; exact hp))]
                            exact HKN.out.2.1 p hp)
                          have hf5 : Hid (upd far' (un : Int) (some (d0 + cc)) (vn : Int) = some d0) := Lib.hid (by rw [upd_other _ _ hne]; exact HKN.out.2.2.1)
                          have hs5 : Hid (upd st' (un : Int) ((kk : Int) + 1) (vn : Int) = (kk : Int)) := Lib.hid (by rw [upd_other _ _ hne]; exact HKN.out.2.2.2)
                          have HX := Lib.hid hx
                          have HFR := Lib.hid hfr
                          clear hx hfr hne
                          go_wp2_with fail
                          refine hL.out.mono ?_
                          rintro e w3 ⟨rfl, sL, kL⟩
                          have hS3 := Lib.hid (hSa.out.two kL sL)
                          have bE3 := bE.kept kL hnT
                          have hPut := Lib.hid (put_far w3 H A2 v' l' hS3.out.heap HKN.out.1 (un : Int) (d0 + cc) (by omega) u1 HFR.out HX.out)
                          clear hL hSa bE kL sL hKa e0 e1 cb0 cb1 cw' ca0 ca1
                          have e0 := bE3.cell 0
                          have e1 := bE3.cell 1
                          simp at e0 e1
                          go_wp2_with fail
                          refine hPut.out.mono ?_
                          rintro e w4 ⟨rfl, v4, l4, hm4, tr4⟩
                          have hS4 := Lib.hid (hS3.out.turn tr4)
                          have bE4 := bE3.kept tr4.kept (hS3.out.heap.apart bE3 (by decide) (by decide) (by decide))
                          have hK5 := HKN.out.1.take HKN.out.2.1 hd0 HKN.out.2.2.1 HKN.out.2.2.2 (by omega) HME.out cc0 HGU.out HX.out hm4
                          rw [HU.out] at hK5
                          have hK5 := Lib.hid hK5
                          have cv := hS4.out.steps.cell vN
                          rw [HKN.out.2.2.2] at cv
                          clear hPut hS3 bE3 hm4 tr4 e0 e1 HKN HX HFR HRA
                          have e0 := bE4.cell 0
                          simp at e0
                          have hS5 := Lib.hid ((hS4.out.step uN ((kk : Int) + 1)).grew (Kept.refl _ _).drew)
                          have hSd := Lib.hid (hS4.out.grew (Kept.refl _ _).drew)
                          go_upto_region 18 with fail
                          refine wp_region_grow [9] (fun _ => False) (by kernel_rfl) ?_
                          simp only [List.size_toArray, List.length_cons, List.length_nil, Nat.reduceAdd]
                          refine wpAnyG_pure 0 117 (v := ?_) rfl (by kernel_rfl) rfl (by rfl) (fun w' => ?_) ?_
                          rotate_left
                          · go_simp <;> with_reducible rfl
                          simp only [List.setIfInBounds_toArray, List.set_cons_zero, List.set_cons_succ]
                          refine wpAnyG_pure 1 118 (v := ?_) rfl (by kernel_rfl) rfl (by rfl) (fun w' => ?_) ?_
                          rotate_left
                          · go_simp <;> with_reducible rfl
                          simp only [List.setIfInBounds_toArray, List.set_cons_zero, List.set_cons_succ]
                          refine wpAnyG_take 2 119 (v := ?_) rfl (by kernel_rfl) rfl (by rfl) (fun w' hG' => ?_) ?_
                          rotate_left
                          · have hx0 := Grew.cell hG' (show w4.drew.cell? ⟨wr.heap.size, 0, none⟩ = some (.int .i64 (un : Int)) from e0)
                            have hx1 := Grew.cell hG' (show w4.drew.cell? ⟨gS, vn, none⟩ = some (.int .i64 (kk : Int)) from cv)
                            go_simp <;> with_reducible rfl
                          simp only [List.setIfInBounds_toArray, List.set_cons_zero, List.set_cons_succ]
                          refine wpAnyG_pure 3 120 (v := ?_) rfl (by kernel_rfl) rfl (by rfl) (fun w' => ?_) ?_
                          rotate_left
                          · go_simp <;> with_reducible rfl
                          simp only [List.setIfInBounds_toArray, List.set_cons_zero, List.set_cons_succ]
                          refine wpAnyG_pure 4 121 (v := ?_) rfl (by kernel_rfl) rfl (by rfl) (fun w' => ?_) ?_
                          rotate_left
                          · go_simp <;> with_reducible rfl
                          simp only [List.setIfInBounds_toArray, List.set_cons_zero, List.set_cons_succ]
                          refine wpAnyG_pure 5 122 (v := ?_) rfl (by kernel_rfl) rfl (by rfl) (fun w' => ?_) ?_
                          rotate_left
                          · go_simp <;> with_reducible rfl
                          simp only [List.setIfInBounds_toArray, List.set_cons_zero, List.set_cons_succ]
                          refine wpAnyG_take 6 123 (v := ?_) rfl (by kernel_rfl) rfl (by rfl) (fun w' hG' => ?_) ?_
                          rotate_left
                          · have hx0 := Grew.cell hG' (show w4.drew.cell? ⟨wr.heap.size, 0, none⟩ = some (.int .i64 (un : Int)) from e0)
                            have hx1 := Grew.cell hG' (show w4.drew.cell? ⟨gS, vn, none⟩ = some (.int .i64 (kk : Int)) from cv)
                            go_simp <;> with_reducible rfl
                          simp only [List.setIfInBounds_toArray, List.set_cons_zero, List.set_cons_succ]
                          refine wpAnyG_pure 7 124 (v := ?_) rfl (by kernel_rfl) rfl (by rfl) (fun w' => ?_) ?_
                          rotate_left
                          · go_simp <;> with_reducible rfl
                          simp only [List.setIfInBounds_toArray, List.set_cons_zero, List.set_cons_succ]
                          refine wpAnyG_pure 8 125 (v := ?_) rfl (by kernel_rfl) rfl (by rfl) (fun w' => ?_) ?_
                          rotate_left
                          · go_simp <;> with_reducible rfl
                          simp only [List.setIfInBounds_toArray, List.set_cons_zero, List.set_cons_succ]
                          refine wpAnyG_store 9 rfl (by kernel_rfl) rfl (by rfl) (fun K hK' => ?_)
                          have hfz := hSd.out.steps.frozen un
                          have hcc := hSd.out.steps.cell uN
                          go_simp
                          refine hK' _ (fun h => absurd (by simp) h) ?_
                          clear hK'
                          refine wpAnyG_done (by kernel_rfl) ?_
                          go_wp2_with fail
                          go_roundw
                          case rel =>
                            exact ⟨j + 1, upd far' (un : Int) (some (d0 + cc)), upd st' (un : Int) ((kk : Int) + 1), l4, v4, ml, by omega, by go_num, by omega, ⟨HRow.out.grew hS5.out.kept, hS5.out, hK5.out, hP5.out, hf5.out, hs5.out⟩⟩
                          case measure => simp [intOf]; omega
                        · rw [hb', hh'] at hL
                          clear hb' hh'
                          have hN := HKN.out.1.skip (u := (un : Int)) (c := cc) HKN.out.2.2.1 (.inr hx)
                          rw [HU.out] at hN
                          have hN := Lib.hid hN
                          clear hx
                          go_wp2_with fail
                          refine hL.out.mono ?_
                          rintro e w3 ⟨rfl, sL, kL⟩
                          have hS3 := Lib.hid (hSa.out.two kL sL)
                          clear hSa kL sL
                          go_wp2_with fail
                          go_roundw
                          case rel =>
                            exact ⟨j + 1, far', st', l', v', ml, by omega, by go_num, by omega, ⟨HRow.out.grew hS3.out.kept, hS3.out, hN.out, HKN.out.2⟩⟩
                          case measure => simp [intOf]; omega
                    · obtain rfl : j = m := by omega
                      have hN := hI.out.2.2.1
                      rw [List.take_of_length_le (by rw [HM2.out]; exact Nat.le_refl _), ← HArc.out] at hN
                      have hN := Lib.hid (show _ ∧ _ from ⟨hI.out.2.1, hN.all⟩)
                      clear hI
                      go_wp2_with fail
                      exact ⟨⟨k + 1, P ++ [(vn : Int)], far', st', l', v', many', by omega, rfl, by simp [hPk], by omega, hN⟩, by simp [intOf]; omega⟩
                · have hgf : great = false := by
                    rw [← HGr.out]
                    exact decide_eq_false (by omega)
                  have hSK := Lib.hid (show _ ∧ _ from ⟨hS2.out, K1.out.stop hgf⟩)
                  go_wp2_with fail
                  exact ⟨⟨k + 1, P ++ [(vn : Int)], far, st, l2, v2, many, by omega, rfl, by simp [hPk], by omega, hSK⟩, by simp [intOf]; omega⟩
            · have hR := Lib.hid (hF0.out wq hS2.out.kept (fun hg k y hr => Int.le_trans hdb (know_lower HK.out hg HOK.out d0 HM.out hr)))
              go_wp2_with fail
              rw [Exit.noGoto_ret]
              go_ret2
              exact hR.out
        · obtain rfl : k = M := by omega
          have hR := Lib.hid (hF0.out wr hS.out.1.kept (fun hg => by
            have h := HGr.out
            rw [hg] at h
            have := of_decide_eq_true h
            omega))
          clear hS
          go_wp2_with fail
          rw [Exit.noGoto_ret]
          go_ret2
          exact hR.out
end Go.Proofs.Ythbcgdogmkgebaa
