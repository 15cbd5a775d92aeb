/- Whether a hierarchy is made of a graph. -/
import Derived.Test.YtjbjomodponapaaTwo
import Derived.Test.YtjbjomodponapaaGraph
namespace Go.Proofs.Ytjbjomodponapaa
open Go.RowKit

theorem RowS.take {w : World} {A : Option Addr} {ss : List Sc} (h : RowS w A ss) (k : Nat) : RowS w A (ss.take k) := fun i s hs => h i s (by
  rw [List.getElem?_take] at hs
  split at hs
  · exact hs
  · cases hs)
theorem ok_in {n : Int} {es : List Edg} {rk : List Int} {ss : List Sc} (hr : rightF n es = 0) : ∀ k, (∀ i s, i < k → ss[i]? = some s → edgeOk es s ∨ twoOk rk (ss.take i) s) → ∀ x ∈ ss.take k, inN n x := by
  intro k
  induction k with
  | zero => intro _ x hx; simp at hx
  | succ k ih =>
    intro ok x hx
    have ih := ih (fun i s hi => ok i s (by omega))
    rw [List.take_add_one] at hx
    rcases List.mem_append.1 hx with hx | hx
    · exact ih x hx
    · have hk : ss[k]? = some x := by simpa using hx
      rcases ok k x (by omega) hk with h' | h'
      · exact edge_in hr h'
      · exact two_in ih h'
/-- What Made answers. -/
def MadeE (n : Int) (es : List Edg) (rk : List Int) (ss : List Sc) (e : Ending) : Prop := ∃ k b, e = .returned (.tuple #[i64 k, .bool b]) ∧ (b = true ↔ rightF n es = 0 ∧ made n es rk ss)
theorem MadeE.no {n : Int} {es : List Edg} {rk : List Int} {ss : List Sc} {k : Int} (h : ¬ (rightF n es = 0 ∧ made n es rk ss)) : MadeE n es rk ss (.returned (.tuple #[i64 k, .bool false])) := ⟨k, false, rfl, fun h => (by cases h), fun hp => absurd hp h⟩
theorem MadeE.yes {n : Int} {es : List Edg} {rk : List Int} {ss : List Sc} {k : Int} (h : rightF n es = 0 ∧ made n es rk ss) : MadeE n es rk ss (.returned (.tuple #[i64 k, .bool true])) := ⟨k, true, rfl, fun _ => h, fun _ => rfl⟩
structure MdS (n : Int) (es : List Edg) (Ae : Option Addr) (L ce r0 lr m cr cs : Nat) (Ar As : Option Addr) (rk : List Int) (ss : List Sc) (w : World) (k : Nat) (wr : World) : Prop where
  gb : Blk wr r0 24 #[i64 n, .slice Ae L ce]
  hb : Blk wr (r0 + 1) 28 #[.slice Ar lr cr, .slice As m cs]
  ok : ∀ i s, i < k → ss[i]? = some s → edgeOk es s ∨ twoOk rk (ss.take i) s
  kept : Grew w wr
theorem MdS.lit {n : Int} {es : List Edg} {Ae : Option Addr} {L ce r0 lr m cr cs : Nat} {Ar As : Option Addr} {rk : List Int} {ss : List Sc} {w : World} {k : Nat} {wr W : World} (h : MdS n es Ae L ce r0 lr m cr cs Ar As rk ss w k wr) (g : Grew wr W) : MdS n es Ae L ce r0 lr m cr cs Ar As rk ss w k W := ⟨h.gb.grew g, h.hb.grew g, h.ok, h.kept.trans g⟩
theorem MdS.next {n : Int} {es : List Edg} {Ae : Option Addr} {L ce r0 lr m cr cs : Nat} {Ar As : Option Addr} {rk : List Int} {ss : List Sc} {w : World} {k : Nat} {wr : World} {x : Sc} (h : MdS n es Ae L ce r0 lr m cr cs Ar As rk ss w k wr) (hx : ss[k]? = some x) (hk : edgeOk es x ∨ twoOk rk (ss.take k) x) : MdS n es Ae L ce r0 lr m cr cs Ar As rk ss w (k + 1) wr := ⟨h.gb, h.hb, fun i s hi hs => by
  by_cases he : i = k
  · subst he
    rw [hx] at hs
    cases hs
    exact hk
  · exact h.ok i s (by omega) hs, h.kept⟩
set_option maxHeartbeats 2000000 in
set_option maxRecDepth 100000 in
theorem made_any (n : Int) (es : List Edg) (Ae : Option Addr) (ce : Nat) (rk : List Int) (Ar : Option Addr) (cr : Nat) (ss : List Sc) (As : Option Addr) (cs : Nat) (w : World) (he : RowE w Ae es) (hr : RowI w Ar rk) (hs : RowS w As ss)
    (hle : es.length ≤ 100000) (hlr : rk.length ≤ 100000) (hls : ss.length ≤ 100000) (hcs : ss.length ≤ cs) :
    Calls Try.prog 21 #[.agg #[i64 n, .slice Ae es.length ce], .agg #[.slice Ar rk.length cr, .slice As ss.length cs]] w fun e w' => MadeE n es rk ss e ∧ Grew w w' := by
  obtain ⟨r0, hr0⟩ : ∃ r, w.heap.size = r := ⟨_, rfl⟩
  have HE := Lib.hid he
  have HRr := Lib.hid hr
  have HSr := Lib.hid hs
  obtain ⟨L, hL⟩ : ∃ L, es.length = L := ⟨_, rfl⟩
  obtain ⟨lr, hlr'⟩ : ∃ L, rk.length = L := ⟨_, rfl⟩
  obtain ⟨m, hm⟩ : ∃ L, ss.length = L := ⟨_, rfl⟩
  have HL := Lib.hid hL
  have HN := Lib.hid hlr'
  have HM := Lib.hid hm
  have k0 : Grew w ((w.alloc (.cells #[i64 n, .slice Ae L ce] 24)).alloc (.cells #[.slice Ar lr cr, .slice As m cs] 28)) := ((Kept.refl _ _).alloc _).alloc _
  have bG := (Blk.new w 24 #[i64 n, .slice Ae L ce]).alloc (.cells #[.slice Ar lr cr, .slice As m cs] 28)
  have bH := Blk.new (w.alloc (.cells #[i64 n, .slice Ae L ce] 24)) 28 #[.slice Ar lr cr, .slice As m cs]
  rw [World.size_alloc] at bH
  rw [hr0] at bG bH
  rw [hL] at hle
  rw [hlr'] at hlr
  rw [hm] at hls hcs
  rw [hL, hlr', hm]
  obtain ⟨W1, hW1⟩ : ∃ W, (w.alloc (.cells #[i64 n, .slice Ae L ce] 24)).alloc (.cells #[.slice Ar lr cr, .slice As m cs] 28) = W := ⟨_, rfl⟩
  rw [hW1] at k0 bG bH
  have hC := Lib.hid (right_any n Ae ce es W1 (he.grew k0) (by omega))
  rw [hL] at hC
  have hS1 : Hid (MdS n es Ae L ce r0 lr m cr cs Ar As rk ss w 0 W1) := ⟨bG, bH, fun i s hi => by omega, k0⟩
  have g0 := bG.cell 0
  have g1 := bG.cell 1
  simp at g0 g1
  clear he hr hs hL hlr' hm k0 bG bH
  go_enter Try.func21, Try.ntmps21
  go_wp2_with fail
  refine hC.out.mono ?_
  rintro e w1 ⟨rfl, k1⟩
  have hS2 := Lib.hid (hS1.out.lit k1)
  clear hC hS1 k1 g0 g1
  by_cases hf0 : rightF n es = 0
  rotate_left
  · as_aux_lemma =>
    obtain ⟨f, hf⟩ : ∃ f, rightF n es = f := ⟨_, rfl⟩
    have hno : Hid (¬ (rightF n es = 0 ∧ made n es rk ss)) := fun h => hf0 h.1
    rw [hf] at hf0 ⊢
    have hb' : (f != 0) = true := by simpa using hf0
    have hk := Lib.hid hS2.out.kept
    clear hS2 hf0 hf
    go_wp2_with fail
    go_ret2
    exact ⟨.no hno.out, hk.out⟩
  rw [hf0]
  have HF := Lib.hid hf0
  clear hf0
  have g0 := hS2.out.gb.cell 0
  have h0 := hS2.out.hb.cell 0
  simp at g0 h0
  by_cases hn : (lr : Int) = n
  rotate_left
  · as_aux_lemma =>
    have hno : Hid (¬ (rightF n es = 0 ∧ made n es rk ss)) := fun h => hn (by rw [← HN.out]; exact h.2.1)
    have hb' : ((lr : Int) != n) = true := by simpa using hn
    have hk := Lib.hid hS2.out.kept
    clear hS2 hn
    go_wp2_with fail
    go_ret2
    exact ⟨.no hno.out, hk.out⟩
  have hb' : ((lr : Int) != n) = false := by simpa using hn
  have hQ := Lib.hid (rankRight_any rk Ar cr w1 (HRr.out.grew hS2.out.kept) (by rw [HN.out]; omega))
  rw [HN.out] at hQ
  have Hn := Lib.hid hn
  clear hn
  go_wp2_with fail
  refine hQ.out.mono ?_
  rintro e w2 ⟨⟨b, rfl, hb⟩, k2⟩
  have hS3 := Lib.hid (hS2.out.lit k2)
  clear hQ hS2 k2
  cases b with
  | false =>
    as_aux_lemma =>
    have hno : Hid (¬ (rightF n es = 0 ∧ made n es rk ss)) := fun h => by have := hb.2 h.2.2.1; cases this
    have hk := Lib.hid hS3.out.kept
    clear hS3 hb
    go_wp2_with fail
    go_ret2
    exact ⟨.no hno.out, hk.out⟩
  | true =>
  have HRO := Lib.hid (hb.1 rfl)
  clear hb g0 h0
  have h1 := hS3.out.hb.cell 1
  simp at h1
  go_wp2_with fail
  go_loopw [28] (fun i wr => ∃ (k : Nat), k ≤ m ∧ i = .int .i64 k ∧ Hid (MdS n es Ae L ce r0 lr m cr cs Ar As rk ss w k wr)) (fun i _ => m - (intOf i).toNat)
  case atStart => exact ⟨0, by omega, rfl, hS3.out⟩
  case round =>
    clear hS3 h1
    obtain ⟨k, hk, rfl, hS⟩ := hrel
    by_cases hlt : k < m
    · as_aux_lemma =>
      have l1 : (k : Int) < (m : Int) := by omega
      have l0 : (0 : Int) ≤ (k : Int) := by omega
      have l2 : (k : Int) ≤ (cs : Int) := by omega
      obtain ⟨x, hx⟩ : ∃ x, ss[k]? = some x := ⟨_, List.getElem?_eq_getElem (by rw [HM.out]; exact hlt)⟩
      obtain ⟨b, off, hAs, hbl, x0, x1, x2, x3, x4, x5⟩ := HSr.out k x hx
      have HX := Lib.hid hx
      subst hAs
      replace x0 := Grew.cell hS.out.kept x0
      replace x1 := Grew.cell hS.out.kept x1
      replace x2 := Grew.cell hS.out.kept x2
      replace x3 := Grew.cell hS.out.kept x3
      replace x4 := Grew.cell hS.out.kept x4
      replace x5 := Grew.cell hS.out.kept x5
      have gE : Grew wr (wr.alloc (.cells #[i64 x.from', i64 x.to', .int .u64 x.w, i64 x.edge, i64 x.a, i64 x.b] 66)) := (Kept.refl _ _).alloc _
      have bE := Blk.new wr 66 #[i64 x.from', i64 x.to', .int .u64 x.w, i64 x.edge, i64 x.a, i64 x.b]
      have hS4 := Lib.hid (hS.out.lit gE)
      obtain ⟨E, hE⟩ : ∃ E, wr.heap.size = E := ⟨_, rfl⟩
      rw [hE] at bE
      obtain ⟨W4, hW4⟩ : ∃ W, wr.alloc (.cells #[i64 x.from', i64 x.to', .int .u64 x.w, i64 x.edge, i64 x.a, i64 x.b] 66) = W := ⟨_, rfl⟩
      rw [hW4] at bE hS4
      have e0 := bE.cell 0
      have e1 := bE.cell 1
      have e2 := bE.cell 2
      have e3 := bE.cell 3
      have e4 := bE.cell 4
      have e5 := bE.cell 5
      have g0 := hS4.out.gb.cell 0
      have g1 := hS4.out.gb.cell 1
      have h0 := hS4.out.hb.cell 0
      have h1 := hS4.out.hb.cell 1
      simp at e0 e1 e2 e3 e4 e5 g0 g1 h0 h1
      have HC1 : Hid (∀ W, Grew W4 W → Calls Try.prog 36 #[.agg #[i64 n, .slice Ae L ce], .agg #[i64 x.from', i64 x.to', .int .u64 x.w, i64 x.edge, i64 x.a, i64 x.b]] W fun e w' => SaysB (edgeOk es x) e ∧ Grew W w') := fun W k => by
        have h := hedge_any n Ae ce es x W (HE.out.grew (hS4.out.kept.trans k)) (by rw [HL.out]; omega)
        rw [HL.out] at h
        exact h
      have HC2 : Hid (∀ W, Grew W4 W → Calls Try.prog 37 #[.slice Ar lr cr, .slice (some ⟨b, off, none⟩) k cs, .agg #[i64 x.from', i64 x.to', .int .u64 x.w, i64 x.edge, i64 x.a, i64 x.b]] W fun e w' => SaysB (twoOk rk (ss.take k) x) e ∧ Grew W w') := fun W kk => by
        have h := two_any rk (ss.take k) Ar (some ⟨b, off, none⟩) cr cs x W (HRr.out.grew (hS4.out.kept.trans kk)) ((HSr.out.grew (hS4.out.kept.trans kk)).take k) (by rw [HN.out]; omega) (by rw [List.length_take, HM.out]; omega)
          (by rw [HN.out, Hn.out]; exact ok_in HF.out k hS4.out.ok)
        rw [HN.out, List.length_take, HM.out, Nat.min_eq_left hk] at h
        exact h
      clear bE gE hS hx
      by_cases hE1 : edgeOk es x
      · as_aux_lemma =>
        have hS5 := Lib.hid (hS4.out.next HX.out (.inl hE1))
        have HE1 := Lib.hid hE1
        clear hE1 hS4
        go_upto_region 8 with fail
        refine wp_region_grow [] (fun _ => False) (by kernel_rfl) ?_
        simp only [List.size_toArray, List.length_cons, List.length_nil, Nat.reduceAdd]
        refine wpAnyG_take 0 33 (v := ?_) rfl (by kernel_rfl) rfl (by rfl) (fun w' hG' => ?_) ?_
        rotate_left
        · have hg0 := Grew.cell hG' (show W4.drew.cell? _ = _ from g0)
          have hg1 := Grew.cell hG' (show W4.drew.cell? _ = _ from g1)
          have hh0 := Grew.cell hG' (show W4.drew.cell? _ = _ from h0)
          have hh1 := Grew.cell hG' (show W4.drew.cell? _ = _ from h1)
          have he0 := Grew.cell hG' (show W4.drew.cell? _ = _ from e0)
          have he1 := Grew.cell hG' (show W4.drew.cell? _ = _ from e1)
          have he2 := Grew.cell hG' (show W4.drew.cell? _ = _ from e2)
          have he3 := Grew.cell hG' (show W4.drew.cell? _ = _ from e3)
          have he4 := Grew.cell hG' (show W4.drew.cell? _ = _ from e4)
          have he5 := Grew.cell hG' (show W4.drew.cell? _ = _ from e5)
          go_simp <;> (try simp only [Bool.false_eq_true, if_false]) <;> with_reducible rfl
        simp only [List.setIfInBounds_toArray, List.set_cons_zero, List.set_cons_succ]
        refine wpAnyG_take 1 34 (v := ?_) rfl (by kernel_rfl) rfl (by rfl) (fun w' hG' => ?_) ?_
        rotate_left
        · have hg0 := Grew.cell hG' (show W4.drew.cell? _ = _ from g0)
          have hg1 := Grew.cell hG' (show W4.drew.cell? _ = _ from g1)
          have hh0 := Grew.cell hG' (show W4.drew.cell? _ = _ from h0)
          have hh1 := Grew.cell hG' (show W4.drew.cell? _ = _ from h1)
          have he0 := Grew.cell hG' (show W4.drew.cell? _ = _ from e0)
          have he1 := Grew.cell hG' (show W4.drew.cell? _ = _ from e1)
          have he2 := Grew.cell hG' (show W4.drew.cell? _ = _ from e2)
          have he3 := Grew.cell hG' (show W4.drew.cell? _ = _ from e3)
          have he4 := Grew.cell hG' (show W4.drew.cell? _ = _ from e4)
          have he5 := Grew.cell hG' (show W4.drew.cell? _ = _ from e5)
          go_simp <;> (try simp only [Bool.false_eq_true, if_false]) <;> with_reducible rfl
        simp only [List.setIfInBounds_toArray, List.set_cons_zero, List.set_cons_succ]
        refine wpAnyG_step 2 35 rfl (by kernel_rfl) rfl (by rfl) (fun K hK' => ?_)
        go_simp
        refine (HC1.out _ ((Kept.refl _ _).drew)).mono ?_
        rintro e wS ⟨⟨b1, rfl, hb1⟩, kS⟩
        obtain rfl : b1 = true := hb1.2 HE1.out
        refine hK' _ _ (fun _ => kS) ?_
        clear hK'
        simp only [List.setIfInBounds_toArray, List.set_cons_zero, List.set_cons_succ]
        refine wpAnyG_pure 3 36 (v := ?_) rfl (by kernel_rfl) rfl (by rfl) (fun w' => ?_) ?_
        rotate_left
        · go_simp <;> (try simp only [Bool.false_eq_true, if_false]) <;> with_reducible rfl
        simp only [List.setIfInBounds_toArray, List.set_cons_zero, List.set_cons_succ]
        refine wpAnyG_pure 4 37 (v := ?_) rfl (by kernel_rfl) rfl (by rfl) (fun w' => ?_) ?_
        rotate_left
        · go_simp <;> (try simp only [Bool.false_eq_true, if_false]) <;> with_reducible rfl
        simp only [List.setIfInBounds_toArray, List.set_cons_zero, List.set_cons_succ]
        refine wpAnyG_pass 5 38 rfl (by kernel_rfl) rfl (by rfl) ?_
        simp only [List.setIfInBounds_toArray, List.set_cons_zero, List.set_cons_succ]
        refine wpAnyG_pass 6 39 rfl (by kernel_rfl) rfl (by rfl) ?_
        simp only [List.setIfInBounds_toArray, List.set_cons_zero, List.set_cons_succ]
        refine wpAnyG_pass 7 40 rfl (by kernel_rfl) rfl (by rfl) ?_
        simp only [List.setIfInBounds_toArray, List.set_cons_zero, List.set_cons_succ]
        refine wpAnyG_pass 8 41 rfl (by kernel_rfl) rfl (by rfl) ?_
        simp only [List.setIfInBounds_toArray, List.set_cons_zero, List.set_cons_succ]
        refine wpAnyG_pass 9 42 rfl (by kernel_rfl) rfl (by rfl) ?_
        simp only [List.setIfInBounds_toArray, List.set_cons_zero, List.set_cons_succ]
        refine wpAnyG_pass 10 43 rfl (by kernel_rfl) rfl (by rfl) ?_
        simp only [List.setIfInBounds_toArray, List.set_cons_zero, List.set_cons_succ]
        refine wpAnyG_pass 11 44 rfl (by kernel_rfl) rfl (by rfl) ?_
        simp only [List.setIfInBounds_toArray, List.set_cons_zero, List.set_cons_succ]
        refine wpAnyG_pass 12 45 rfl (by kernel_rfl) rfl (by rfl) ?_
        simp only [List.setIfInBounds_toArray, List.set_cons_zero, List.set_cons_succ]
        refine wpAnyG_pass 13 46 rfl (by kernel_rfl) rfl (by rfl) ?_
        simp only [List.setIfInBounds_toArray, List.set_cons_zero, List.set_cons_succ]
        refine wpAnyG_pure 14 47 (v := ?_) rfl (by kernel_rfl) rfl (by rfl) (fun w' => ?_) ?_
        rotate_left
        · go_simp <;> (try simp only [Bool.false_eq_true, if_false]) <;> with_reducible rfl
        simp only [List.setIfInBounds_toArray, List.set_cons_zero, List.set_cons_succ]
        refine wpAnyG_done (by kernel_rfl) ?_
        have hS6 := Lib.hid (hS5.out.lit ((Kept.refl (fun _ => False) W4).drew.trans kS))
        clear hS5 kS hb1 HC1 HC2 e0 e1 e2 e3 e4 e5 x0 x1 x2 x3 x4 x5 g0 g1 h0 h1
        go_wp2_with fail
        go_roundw
        case rel => exact ⟨k + 1, by omega, by go_num, hS6⟩
        case measure => simp [intOf]; omega
      · by_cases hT : twoOk rk (ss.take k) x
        · as_aux_lemma =>
          have hS5 := Lib.hid (hS4.out.next HX.out (.inr hT))
          have HE1 := Lib.hid hE1
          have HT := Lib.hid hT
          clear hE1 hT hS4
          go_upto_region 8 with fail
          refine wp_region_grow [] (fun _ => False) (by kernel_rfl) ?_
          simp only [List.size_toArray, List.length_cons, List.length_nil, Nat.reduceAdd]
          refine wpAnyG_take 0 33 (v := ?_) rfl (by kernel_rfl) rfl (by rfl) (fun w' hG' => ?_) ?_
          rotate_left
          · have hg0 := Grew.cell hG' (show W4.drew.cell? _ = _ from g0)
            have hg1 := Grew.cell hG' (show W4.drew.cell? _ = _ from g1)
            have hh0 := Grew.cell hG' (show W4.drew.cell? _ = _ from h0)
            have hh1 := Grew.cell hG' (show W4.drew.cell? _ = _ from h1)
            have he0 := Grew.cell hG' (show W4.drew.cell? _ = _ from e0)
            have he1 := Grew.cell hG' (show W4.drew.cell? _ = _ from e1)
            have he2 := Grew.cell hG' (show W4.drew.cell? _ = _ from e2)
            have he3 := Grew.cell hG' (show W4.drew.cell? _ = _ from e3)
            have he4 := Grew.cell hG' (show W4.drew.cell? _ = _ from e4)
            have he5 := Grew.cell hG' (show W4.drew.cell? _ = _ from e5)
            go_simp <;> (try simp only [Bool.false_eq_true, if_false]) <;> with_reducible rfl
          simp only [List.setIfInBounds_toArray, List.set_cons_zero, List.set_cons_succ]
          refine wpAnyG_take 1 34 (v := ?_) rfl (by kernel_rfl) rfl (by rfl) (fun w' hG' => ?_) ?_
          rotate_left
          · have hg0 := Grew.cell hG' (show W4.drew.cell? _ = _ from g0)
            have hg1 := Grew.cell hG' (show W4.drew.cell? _ = _ from g1)
            have hh0 := Grew.cell hG' (show W4.drew.cell? _ = _ from h0)
            have hh1 := Grew.cell hG' (show W4.drew.cell? _ = _ from h1)
            have he0 := Grew.cell hG' (show W4.drew.cell? _ = _ from e0)
            have he1 := Grew.cell hG' (show W4.drew.cell? _ = _ from e1)
            have he2 := Grew.cell hG' (show W4.drew.cell? _ = _ from e2)
            have he3 := Grew.cell hG' (show W4.drew.cell? _ = _ from e3)
            have he4 := Grew.cell hG' (show W4.drew.cell? _ = _ from e4)
            have he5 := Grew.cell hG' (show W4.drew.cell? _ = _ from e5)
            go_simp <;> (try simp only [Bool.false_eq_true, if_false]) <;> with_reducible rfl
          simp only [List.setIfInBounds_toArray, List.set_cons_zero, List.set_cons_succ]
          refine wpAnyG_step 2 35 rfl (by kernel_rfl) rfl (by rfl) (fun K hK' => ?_)
          go_simp
          refine (HC1.out _ ((Kept.refl _ _).drew)).mono ?_
          rintro e wS ⟨⟨b1, rfl, hb1⟩, kS⟩
          obtain rfl : b1 = false := by
            cases b1 with
            | false => rfl
            | true => exact absurd (hb1.1 rfl) HE1.out
          refine hK' _ _ (fun _ => kS) ?_
          clear hK'
          simp only [List.setIfInBounds_toArray, List.set_cons_zero, List.set_cons_succ]
          refine wpAnyG_pure 3 36 (v := ?_) rfl (by kernel_rfl) rfl (by rfl) (fun w' => ?_) ?_
          rotate_left
          · go_simp <;> (try simp only [Bool.false_eq_true, if_false]) <;> with_reducible rfl
          simp only [List.setIfInBounds_toArray, List.set_cons_zero, List.set_cons_succ]
          refine wpAnyG_pure 4 37 (v := ?_) rfl (by kernel_rfl) rfl (by rfl) (fun w' => ?_) ?_
          rotate_left
          · go_simp <;> (try simp only [Bool.false_eq_true, if_false]) <;> with_reducible rfl
          simp only [List.setIfInBounds_toArray, List.set_cons_zero, List.set_cons_succ]
          refine wpAnyG_pure 5 38 (v := ?_) rfl (by kernel_rfl) rfl (by rfl) (fun w' => ?_) ?_
          rotate_left
          · go_simp <;> (try simp only [Bool.false_eq_true, if_false]) <;> with_reducible rfl
          simp only [List.setIfInBounds_toArray, List.set_cons_zero, List.set_cons_succ]
          refine wpAnyG_take 6 39 (v := ?_) rfl (by kernel_rfl) rfl (by rfl) (fun w' hG' => ?_) ?_
          rotate_left
          · have hg0 := Grew.cell hG' (Grew.cell kS (show W4.drew.cell? _ = _ from g0))
            have hg1 := Grew.cell hG' (Grew.cell kS (show W4.drew.cell? _ = _ from g1))
            have hh0 := Grew.cell hG' (Grew.cell kS (show W4.drew.cell? _ = _ from h0))
            have hh1 := Grew.cell hG' (Grew.cell kS (show W4.drew.cell? _ = _ from h1))
            have he0 := Grew.cell hG' (Grew.cell kS (show W4.drew.cell? _ = _ from e0))
            have he1 := Grew.cell hG' (Grew.cell kS (show W4.drew.cell? _ = _ from e1))
            have he2 := Grew.cell hG' (Grew.cell kS (show W4.drew.cell? _ = _ from e2))
            have he3 := Grew.cell hG' (Grew.cell kS (show W4.drew.cell? _ = _ from e3))
            have he4 := Grew.cell hG' (Grew.cell kS (show W4.drew.cell? _ = _ from e4))
            have he5 := Grew.cell hG' (Grew.cell kS (show W4.drew.cell? _ = _ from e5))
            go_simp <;> (try simp only [Bool.false_eq_true, if_false]) <;> with_reducible rfl
          simp only [List.setIfInBounds_toArray, List.set_cons_zero, List.set_cons_succ]
          refine wpAnyG_pure 7 40 (v := ?_) rfl (by kernel_rfl) rfl (by rfl) (fun w' => ?_) ?_
          rotate_left
          · go_simp <;> (try simp only [Bool.false_eq_true, if_false]) <;> with_reducible rfl
          simp only [List.setIfInBounds_toArray, List.set_cons_zero, List.set_cons_succ]
          refine wpAnyG_take 8 41 (v := ?_) rfl (by kernel_rfl) rfl (by rfl) (fun w' hG' => ?_) ?_
          rotate_left
          · have hg0 := Grew.cell hG' (Grew.cell kS (show W4.drew.cell? _ = _ from g0))
            have hg1 := Grew.cell hG' (Grew.cell kS (show W4.drew.cell? _ = _ from g1))
            have hh0 := Grew.cell hG' (Grew.cell kS (show W4.drew.cell? _ = _ from h0))
            have hh1 := Grew.cell hG' (Grew.cell kS (show W4.drew.cell? _ = _ from h1))
            have he0 := Grew.cell hG' (Grew.cell kS (show W4.drew.cell? _ = _ from e0))
            have he1 := Grew.cell hG' (Grew.cell kS (show W4.drew.cell? _ = _ from e1))
            have he2 := Grew.cell hG' (Grew.cell kS (show W4.drew.cell? _ = _ from e2))
            have he3 := Grew.cell hG' (Grew.cell kS (show W4.drew.cell? _ = _ from e3))
            have he4 := Grew.cell hG' (Grew.cell kS (show W4.drew.cell? _ = _ from e4))
            have he5 := Grew.cell hG' (Grew.cell kS (show W4.drew.cell? _ = _ from e5))
            go_simp <;> (try simp only [Bool.false_eq_true, if_false]) <;> with_reducible rfl
          simp only [List.setIfInBounds_toArray, List.set_cons_zero, List.set_cons_succ]
          refine wpAnyG_pure 9 42 (v := ?_) rfl (by kernel_rfl) rfl (by rfl) (fun w' => ?_) ?_
          rotate_left
          · go_simp <;> (try simp only [Bool.false_eq_true, if_false]) <;> with_reducible rfl
          simp only [List.setIfInBounds_toArray, List.set_cons_zero, List.set_cons_succ]
          refine wpAnyG_pure 10 43 (v := ?_) rfl (by kernel_rfl) rfl (by rfl) (fun w' => ?_) ?_
          rotate_left
          · go_simp <;> (try simp only [Bool.false_eq_true, if_false]) <;> with_reducible rfl
          simp only [List.setIfInBounds_toArray, List.set_cons_zero, List.set_cons_succ]
          refine wpAnyG_take 11 44 (v := ?_) rfl (by kernel_rfl) rfl (by rfl) (fun w' hG' => ?_) ?_
          rotate_left
          · have hg0 := Grew.cell hG' (Grew.cell kS (show W4.drew.cell? _ = _ from g0))
            have hg1 := Grew.cell hG' (Grew.cell kS (show W4.drew.cell? _ = _ from g1))
            have hh0 := Grew.cell hG' (Grew.cell kS (show W4.drew.cell? _ = _ from h0))
            have hh1 := Grew.cell hG' (Grew.cell kS (show W4.drew.cell? _ = _ from h1))
            have he0 := Grew.cell hG' (Grew.cell kS (show W4.drew.cell? _ = _ from e0))
            have he1 := Grew.cell hG' (Grew.cell kS (show W4.drew.cell? _ = _ from e1))
            have he2 := Grew.cell hG' (Grew.cell kS (show W4.drew.cell? _ = _ from e2))
            have he3 := Grew.cell hG' (Grew.cell kS (show W4.drew.cell? _ = _ from e3))
            have he4 := Grew.cell hG' (Grew.cell kS (show W4.drew.cell? _ = _ from e4))
            have he5 := Grew.cell hG' (Grew.cell kS (show W4.drew.cell? _ = _ from e5))
            go_simp <;> (try simp only [Bool.false_eq_true, if_false]) <;> with_reducible rfl
          simp only [List.setIfInBounds_toArray, List.set_cons_zero, List.set_cons_succ]
          refine wpAnyG_step 12 45 rfl (by kernel_rfl) rfl (by rfl) (fun K hK' => ?_)
          go_simp
          refine (HC2.out _ ((Kept.refl (fun _ => False) W4).drew.trans kS)).mono ?_
          rintro e wT ⟨⟨b2, rfl, hb2⟩, kT⟩
          obtain rfl : b2 = true := hb2.2 HT.out
          refine hK' _ _ (fun _ => kT) ?_
          clear hK'
          simp only [List.setIfInBounds_toArray, List.set_cons_zero, List.set_cons_succ]
          refine wpAnyG_pure 13 46 (v := ?_) rfl (by kernel_rfl) rfl (by rfl) (fun w' => ?_) ?_
          rotate_left
          · go_simp <;> (try simp only [Bool.false_eq_true, if_false]) <;> with_reducible rfl
          simp only [List.setIfInBounds_toArray, List.set_cons_zero, List.set_cons_succ]
          refine wpAnyG_pure 14 47 (v := ?_) rfl (by kernel_rfl) rfl (by rfl) (fun w' => ?_) ?_
          rotate_left
          · go_simp <;> (try simp only [Bool.false_eq_true, if_false]) <;> with_reducible rfl
          simp only [List.setIfInBounds_toArray, List.set_cons_zero, List.set_cons_succ]
          refine wpAnyG_done (by kernel_rfl) ?_
          have hS6 := Lib.hid (hS5.out.lit (((Kept.refl (fun _ => False) W4).drew.trans kS).trans kT))
          clear hS5 kS kT hb1 hb2 HC1 HC2 e0 e1 e2 e3 e4 e5 x0 x1 x2 x3 x4 x5 g0 g1 h0 h1
          go_wp2_with fail
          go_roundw
          case rel => exact ⟨k + 1, by omega, by go_num, hS6⟩
          case measure => simp [intOf]; omega
        · as_aux_lemma =>
          have hno : Hid (¬ (rightF n es = 0 ∧ made n es rk ss)) := fun h => by
            rcases h.2.2.2 k x HX.out with h | h
            · exact hE1 h
            · exact hT h
          have HE1 := Lib.hid hE1
          have HT := Lib.hid hT
          clear hE1 hT
          go_upto_region 8 with fail
          refine wp_region_grow [] (fun _ => False) (by kernel_rfl) ?_
          simp only [List.size_toArray, List.length_cons, List.length_nil, Nat.reduceAdd]
          refine wpAnyG_take 0 33 (v := ?_) rfl (by kernel_rfl) rfl (by rfl) (fun w' hG' => ?_) ?_
          rotate_left
          · have hg0 := Grew.cell hG' (show W4.drew.cell? _ = _ from g0)
            have hg1 := Grew.cell hG' (show W4.drew.cell? _ = _ from g1)
            have hh0 := Grew.cell hG' (show W4.drew.cell? _ = _ from h0)
            have hh1 := Grew.cell hG' (show W4.drew.cell? _ = _ from h1)
            have he0 := Grew.cell hG' (show W4.drew.cell? _ = _ from e0)
            have he1 := Grew.cell hG' (show W4.drew.cell? _ = _ from e1)
            have he2 := Grew.cell hG' (show W4.drew.cell? _ = _ from e2)
            have he3 := Grew.cell hG' (show W4.drew.cell? _ = _ from e3)
            have he4 := Grew.cell hG' (show W4.drew.cell? _ = _ from e4)
            have he5 := Grew.cell hG' (show W4.drew.cell? _ = _ from e5)
            go_simp <;> (try simp only [Bool.false_eq_true, if_false]) <;> with_reducible rfl
          simp only [List.setIfInBounds_toArray, List.set_cons_zero, List.set_cons_succ]
          refine wpAnyG_take 1 34 (v := ?_) rfl (by kernel_rfl) rfl (by rfl) (fun w' hG' => ?_) ?_
          rotate_left
          · have hg0 := Grew.cell hG' (show W4.drew.cell? _ = _ from g0)
            have hg1 := Grew.cell hG' (show W4.drew.cell? _ = _ from g1)
            have hh0 := Grew.cell hG' (show W4.drew.cell? _ = _ from h0)
            have hh1 := Grew.cell hG' (show W4.drew.cell? _ = _ from h1)
            have he0 := Grew.cell hG' (show W4.drew.cell? _ = _ from e0)
            have he1 := Grew.cell hG' (show W4.drew.cell? _ = _ from e1)
            have he2 := Grew.cell hG' (show W4.drew.cell? _ = _ from e2)
            have he3 := Grew.cell hG' (show W4.drew.cell? _ = _ from e3)
            have he4 := Grew.cell hG' (show W4.drew.cell? _ = _ from e4)
            have he5 := Grew.cell hG' (show W4.drew.cell? _ = _ from e5)
            go_simp <;> (try simp only [Bool.false_eq_true, if_false]) <;> with_reducible rfl
          simp only [List.setIfInBounds_toArray, List.set_cons_zero, List.set_cons_succ]
          refine wpAnyG_step 2 35 rfl (by kernel_rfl) rfl (by rfl) (fun K hK' => ?_)
          go_simp
          refine (HC1.out _ ((Kept.refl _ _).drew)).mono ?_
          rintro e wS ⟨⟨b1, rfl, hb1⟩, kS⟩
          obtain rfl : b1 = false := by
            cases b1 with
            | false => rfl
            | true => exact absurd (hb1.1 rfl) HE1.out
          refine hK' _ _ (fun _ => kS) ?_
          clear hK'
          simp only [List.setIfInBounds_toArray, List.set_cons_zero, List.set_cons_succ]
          refine wpAnyG_pure 3 36 (v := ?_) rfl (by kernel_rfl) rfl (by rfl) (fun w' => ?_) ?_
          rotate_left
          · go_simp <;> (try simp only [Bool.false_eq_true, if_false]) <;> with_reducible rfl
          simp only [List.setIfInBounds_toArray, List.set_cons_zero, List.set_cons_succ]
          refine wpAnyG_pure 4 37 (v := ?_) rfl (by kernel_rfl) rfl (by rfl) (fun w' => ?_) ?_
          rotate_left
          · go_simp <;> (try simp only [Bool.false_eq_true, if_false]) <;> with_reducible rfl
          simp only [List.setIfInBounds_toArray, List.set_cons_zero, List.set_cons_succ]
          refine wpAnyG_pure 5 38 (v := ?_) rfl (by kernel_rfl) rfl (by rfl) (fun w' => ?_) ?_
          rotate_left
          · go_simp <;> (try simp only [Bool.false_eq_true, if_false]) <;> with_reducible rfl
          simp only [List.setIfInBounds_toArray, List.set_cons_zero, List.set_cons_succ]
          refine wpAnyG_take 6 39 (v := ?_) rfl (by kernel_rfl) rfl (by rfl) (fun w' hG' => ?_) ?_
          rotate_left
          · have hg0 := Grew.cell hG' (Grew.cell kS (show W4.drew.cell? _ = _ from g0))
            have hg1 := Grew.cell hG' (Grew.cell kS (show W4.drew.cell? _ = _ from g1))
            have hh0 := Grew.cell hG' (Grew.cell kS (show W4.drew.cell? _ = _ from h0))
            have hh1 := Grew.cell hG' (Grew.cell kS (show W4.drew.cell? _ = _ from h1))
            have he0 := Grew.cell hG' (Grew.cell kS (show W4.drew.cell? _ = _ from e0))
            have he1 := Grew.cell hG' (Grew.cell kS (show W4.drew.cell? _ = _ from e1))
            have he2 := Grew.cell hG' (Grew.cell kS (show W4.drew.cell? _ = _ from e2))
            have he3 := Grew.cell hG' (Grew.cell kS (show W4.drew.cell? _ = _ from e3))
            have he4 := Grew.cell hG' (Grew.cell kS (show W4.drew.cell? _ = _ from e4))
            have he5 := Grew.cell hG' (Grew.cell kS (show W4.drew.cell? _ = _ from e5))
            go_simp <;> (try simp only [Bool.false_eq_true, if_false]) <;> with_reducible rfl
          simp only [List.setIfInBounds_toArray, List.set_cons_zero, List.set_cons_succ]
          refine wpAnyG_pure 7 40 (v := ?_) rfl (by kernel_rfl) rfl (by rfl) (fun w' => ?_) ?_
          rotate_left
          · go_simp <;> (try simp only [Bool.false_eq_true, if_false]) <;> with_reducible rfl
          simp only [List.setIfInBounds_toArray, List.set_cons_zero, List.set_cons_succ]
          refine wpAnyG_take 8 41 (v := ?_) rfl (by kernel_rfl) rfl (by rfl) (fun w' hG' => ?_) ?_
          rotate_left
          · have hg0 := Grew.cell hG' (Grew.cell kS (show W4.drew.cell? _ = _ from g0))
            have hg1 := Grew.cell hG' (Grew.cell kS (show W4.drew.cell? _ = _ from g1))
            have hh0 := Grew.cell hG' (Grew.cell kS (show W4.drew.cell? _ = _ from h0))
            have hh1 := Grew.cell hG' (Grew.cell kS (show W4.drew.cell? _ = _ from h1))
            have he0 := Grew.cell hG' (Grew.cell kS (show W4.drew.cell? _ = _ from e0))
            have he1 := Grew.cell hG' (Grew.cell kS (show W4.drew.cell? _ = _ from e1))
            have he2 := Grew.cell hG' (Grew.cell kS (show W4.drew.cell? _ = _ from e2))
            have he3 := Grew.cell hG' (Grew.cell kS (show W4.drew.cell? _ = _ from e3))
            have he4 := Grew.cell hG' (Grew.cell kS (show W4.drew.cell? _ = _ from e4))
            have he5 := Grew.cell hG' (Grew.cell kS (show W4.drew.cell? _ = _ from e5))
            go_simp <;> (try simp only [Bool.false_eq_true, if_false]) <;> with_reducible rfl
          simp only [List.setIfInBounds_toArray, List.set_cons_zero, List.set_cons_succ]
          refine wpAnyG_pure 9 42 (v := ?_) rfl (by kernel_rfl) rfl (by rfl) (fun w' => ?_) ?_
          rotate_left
          · go_simp <;> (try simp only [Bool.false_eq_true, if_false]) <;> with_reducible rfl
          simp only [List.setIfInBounds_toArray, List.set_cons_zero, List.set_cons_succ]
          refine wpAnyG_pure 10 43 (v := ?_) rfl (by kernel_rfl) rfl (by rfl) (fun w' => ?_) ?_
          rotate_left
          · go_simp <;> (try simp only [Bool.false_eq_true, if_false]) <;> with_reducible rfl
          simp only [List.setIfInBounds_toArray, List.set_cons_zero, List.set_cons_succ]
          refine wpAnyG_take 11 44 (v := ?_) rfl (by kernel_rfl) rfl (by rfl) (fun w' hG' => ?_) ?_
          rotate_left
          · have hg0 := Grew.cell hG' (Grew.cell kS (show W4.drew.cell? _ = _ from g0))
            have hg1 := Grew.cell hG' (Grew.cell kS (show W4.drew.cell? _ = _ from g1))
            have hh0 := Grew.cell hG' (Grew.cell kS (show W4.drew.cell? _ = _ from h0))
            have hh1 := Grew.cell hG' (Grew.cell kS (show W4.drew.cell? _ = _ from h1))
            have he0 := Grew.cell hG' (Grew.cell kS (show W4.drew.cell? _ = _ from e0))
            have he1 := Grew.cell hG' (Grew.cell kS (show W4.drew.cell? _ = _ from e1))
            have he2 := Grew.cell hG' (Grew.cell kS (show W4.drew.cell? _ = _ from e2))
            have he3 := Grew.cell hG' (Grew.cell kS (show W4.drew.cell? _ = _ from e3))
            have he4 := Grew.cell hG' (Grew.cell kS (show W4.drew.cell? _ = _ from e4))
            have he5 := Grew.cell hG' (Grew.cell kS (show W4.drew.cell? _ = _ from e5))
            go_simp <;> (try simp only [Bool.false_eq_true, if_false]) <;> with_reducible rfl
          simp only [List.setIfInBounds_toArray, List.set_cons_zero, List.set_cons_succ]
          refine wpAnyG_step 12 45 rfl (by kernel_rfl) rfl (by rfl) (fun K hK' => ?_)
          go_simp
          refine (HC2.out _ ((Kept.refl (fun _ => False) W4).drew.trans kS)).mono ?_
          rintro e wT ⟨⟨b2, rfl, hb2⟩, kT⟩
          obtain rfl : b2 = false := by
            cases b2 with
            | false => rfl
            | true => exact absurd (hb2.1 rfl) HT.out
          refine hK' _ _ (fun _ => kT) ?_
          clear hK'
          simp only [List.setIfInBounds_toArray, List.set_cons_zero, List.set_cons_succ]
          refine wpAnyG_pure 13 46 (v := ?_) rfl (by kernel_rfl) rfl (by rfl) (fun w' => ?_) ?_
          rotate_left
          · go_simp <;> (try simp only [Bool.false_eq_true, if_false]) <;> with_reducible rfl
          simp only [List.setIfInBounds_toArray, List.set_cons_zero, List.set_cons_succ]
          refine wpAnyG_pure 14 47 (v := ?_) rfl (by kernel_rfl) rfl (by rfl) (fun w' => ?_) ?_
          rotate_left
          · go_simp <;> (try simp only [Bool.false_eq_true, if_false]) <;> with_reducible rfl
          simp only [List.setIfInBounds_toArray, List.set_cons_zero, List.set_cons_succ]
          refine wpAnyG_done (by kernel_rfl) ?_
          have hkk := Lib.hid (hS4.out.kept.trans (((Kept.refl (fun _ => False) W4).drew.trans kS).trans kT))
          clear hS4 kS kT hb1 hb2 HC1 HC2 e0 e1 e2 e3 e4 e5 x0 x1 x2 x3 x4 x5 g0 g1 h0 h1
          go_wp2_with fail
          go_ret2
          exact ⟨.no hno.out, hkk.out⟩
    · as_aux_lemma =>
      obtain rfl : k = m := by omega
      have hf : Hid ((rightF n es = 0 ∧ made n es rk ss) ∧ Grew w wr) := ⟨⟨HF.out, by rw [HN.out]; exact Hn.out, HRO.out, fun i s hs => hS.out.ok i s (by have := get_lt hs; rw [HM.out] at this; exact this) hs⟩, hS.out.kept⟩
      clear hS
      go_wp2_with fail
      go_ret2
      exact ⟨.yes hf.out.1, hf.out.2⟩
end Go.Proofs.Ytjbjomodponapaa
