/- Shortcuts in memory; whether two meet. -/
import Derived.Test.YtjbjomodponapaaRanks
namespace Go.Proofs.Ytjbjomodponapaa
open Go.RowKit

def scVals (s : Sc) : Array Value := #[i64 s.from', i64 s.to', .int .u64 s.w, i64 s.edge, i64 s.a, i64 s.b]
abbrev scV (s : Sc) : Value := .agg #[i64 s.from', i64 s.to', .int .u64 s.w, i64 s.edge, i64 s.a, i64 s.b]
/-- The shortcuts ss lie from A on. -/
def RowS (w : World) (A : Option Addr) (ss : List Sc) : Prop := ∀ (i : Nat) (s : Sc), ss[i]? = some s → ∃ b off, A = some ⟨b, off, none⟩ ∧ b < w.heap.size ∧
  w.cell? ⟨b, off + i * 6, none⟩ = some (i64 s.from') ∧ w.cell? ⟨b, off + i * 6 + 1, none⟩ = some (i64 s.to') ∧ w.cell? ⟨b, off + i * 6 + 2, none⟩ = some (.int .u64 s.w) ∧
  w.cell? ⟨b, off + i * 6 + 3, none⟩ = some (i64 s.edge) ∧ w.cell? ⟨b, off + i * 6 + 4, none⟩ = some (i64 s.a) ∧ w.cell? ⟨b, off + i * 6 + 5, none⟩ = some (i64 s.b)
theorem RowS.kept {F : Nat → Prop} {w w' : World} {A : Option Addr} {l : List Sc} (h : RowS w A l) (hK : Kept F w w') (hF : ∀ a, A = some a → ¬ F a.block) : RowS w' A l := fun i x hx => by
  obtain ⟨b, off, hA, hb, c0, c1, c2, c3, c4, c5⟩ := h i x hx
  have hf : ¬ F b := hF _ hA
  exact ⟨b, off, hA, Nat.lt_of_lt_of_le hb hK.size, hK.cell c0 hf, hK.cell c1 hf, hK.cell c2 hf, hK.cell c3 hf, hK.cell c4 hf, hK.cell c5 hf⟩
theorem RowS.grew {w w' : World} {A : Option Addr} {l : List Sc} (h : RowS w A l) (hK : Grew w w') : RowS w' A l := h.kept hK fun _ _ h => h
theorem rank_at {rk : List Int} {x : Int} (h0 : 0 ≤ x) (h1 : x < (rk.length : Int)) : rk[x.toNat]? = some (rk.getD x.toNat 0) := by
  rw [List.getD_eq_getElem?_getD, List.getElem?_eq_getElem (by omega)]; rfl
set_option maxHeartbeats 4000000 in
set_option maxRecDepth 100000 in
theorem meets_any (rk : List Int) (ss : List Sc) (Ar As : Option Addr) (cr cs i j : Nat) (x y : Sc) (w : World) (hr : RowI w Ar rk) (hs : RowS w As ss) (hlr : rk.length ≤ 100000) (hls : ss.length ≤ 100000) (hx : ss[i]? = some x) (hy : ss[j]? = some y)
    (h1 : 0 ≤ x.to' ∧ x.to' < (rk.length : Int)) (h2 : 0 ≤ x.from' ∧ x.from' < (rk.length : Int)) (h3 : 0 ≤ y.to' ∧ y.to' < (rk.length : Int)) :
    Calls Try.prog 26 #[.agg #[.slice Ar rk.length cr, .slice As ss.length cs], scV (scT x y i j)] w fun e w' => e = .returned (.bool (meetsB rk x y)) ∧ Grew w w' := by
  have hil := get_lt hx
  have hjl := get_lt hy
  obtain ⟨br, ofr, hAr, _, rt⟩ := hr _ _ (rank_at h1.1 h1.2)
  obtain ⟨br2, ofr2, hAr2, _, rf⟩ := hr _ _ (rank_at h2.1 h2.2)
  obtain ⟨br3, ofr3, hAr3, _, rg⟩ := hr _ _ (rank_at h3.1 h3.2)
  obtain ⟨bs, ofs, hAs, _, x0, x1, _⟩ := hs i x hx
  obtain ⟨bs2, ofs2, hAs2, _, y0, _⟩ := hs j y hy
  rw [hAr] at hAr2 hAr3
  rw [hAs] at hAs2
  cases hAr2
  cases hAr3
  cases hAs2
  subst hAr
  subst hAs
  obtain ⟨b, hbq⟩ : ∃ b, meetsB rk x y = b := ⟨_, rfl⟩
  have HB : Hid (b = true ↔ (x.to' = y.from' ∧ x.from' ≠ y.to' ∧ rk.getD x.to'.toNat 0 < min (rk.getD x.from'.toNat 0) (rk.getD y.to'.toNat 0))) := by
    show _ ↔ _
    rw [← hbq]
    exact decide_eq_true_iff
  rw [hbq]
  obtain ⟨n, hn⟩ : ∃ n, rk.length = n := ⟨_, rfl⟩
  obtain ⟨m, hm⟩ : ∃ n, ss.length = n := ⟨_, rfl⟩
  rw [hn] at h1 h2 h3 hlr ⊢
  rw [hm] at hil hjl hls ⊢
  obtain ⟨xf, xt, xw, xe, xa, xb⟩ := x
  obtain ⟨yf, yt, yw, ye, ya, yb⟩ := y
  simp only at *
  obtain ⟨t, rfl⟩ := Int.eq_ofNat_of_zero_le h1.1
  obtain ⟨f, rfl⟩ := Int.eq_ofNat_of_zero_le h2.1
  obtain ⟨g, rfl⟩ := Int.eq_ofNat_of_zero_le h3.1
  simp only [Int.toNat_natCast] at rt rf rg HB
  obtain ⟨rt', hrt⟩ : ∃ q, rk.getD t 0 = q := ⟨_, rfl⟩
  obtain ⟨rf', hrf⟩ : ∃ q, rk.getD f 0 = q := ⟨_, rfl⟩
  obtain ⟨rg', hrg⟩ : ∃ q, rk.getD g 0 = q := ⟨_, rfl⟩
  rw [hrt] at rt HB
  rw [hrf] at rf HB
  rw [hrg] at rg HB
  have a1 : (t : Int) < (n : Int) := h1.2
  have a2 : (f : Int) < (n : Int) := h2.2
  have a3 : (g : Int) < (n : Int) := h3.2
  have a4 : (0 : Int) ≤ (t : Int) := by omega
  have a5 : (0 : Int) ≤ (f : Int) := by omega
  have a6 : (0 : Int) ≤ (g : Int) := by omega
  have a7 : (0 : Int) ≤ (i : Int) := by omega
  have a8 : (0 : Int) ≤ (j : Int) := by omega
  have a9 : (i : Int) < (m : Int) := by omega
  have a10 : (j : Int) < (m : Int) := by omega
  obtain ⟨S, hSv⟩ : ∃ S, scT ⟨f, t, xw, xe, xa, xb⟩ ⟨yf, g, yw, ye, ya, yb⟩ i j = S := ⟨_, rfl⟩
  have S0 : S.from' = (f : Int) := by rw [← hSv]; rfl
  have S1 : S.to' = (g : Int) := by rw [← hSv]; rfl
  have S4 : S.a = (i : Int) := by rw [← hSv]; rfl
  have S5 : S.b = (j : Int) := by rw [← hSv]; rfl
  rw [hSv]
  unfold scV
  rw [S0, S1, S4, S5]
  obtain ⟨sw, hsw⟩ : ∃ q, S.w = q := ⟨_, rfl⟩
  obtain ⟨se, hse⟩ : ∃ q, S.edge = q := ⟨_, rfl⟩
  rw [hsw, hse]
  have k2 : Grew w ((w.alloc (.cells #[.slice (some ⟨br, ofr, none⟩) n cr, .slice (some ⟨bs, ofs, none⟩) m cs] 28)).alloc (.cells #[i64 f, i64 g, .int .u64 sw, i64 se, i64 i, i64 j] 66)) := ((Kept.refl _ _).alloc _).alloc _
  have bH := (Blk.new w 28 #[.slice (some ⟨br, ofr, none⟩) n cr, .slice (some ⟨bs, ofs, none⟩) m cs]).alloc (.cells #[i64 f, i64 g, .int .u64 sw, i64 se, i64 i, i64 j] 66)
  have bS := Blk.new (w.alloc (.cells #[.slice (some ⟨br, ofr, none⟩) n cr, .slice (some ⟨bs, ofs, none⟩) m cs] 28)) 66 #[i64 f, i64 g, .int .u64 sw, i64 se, i64 i, i64 j]
  rw [World.size_alloc] at bS
  obtain ⟨w2, hw2⟩ : ∃ W, (w.alloc (.cells #[.slice (some ⟨br, ofr, none⟩) n cr, .slice (some ⟨bs, ofs, none⟩) m cs] 28)).alloc (.cells #[i64 f, i64 g, .int .u64 sw, i64 se, i64 i, i64 j] 66) = W := ⟨_, rfl⟩
  rw [hw2] at k2 bH bS
  replace rt := Grew.cell k2 rt
  replace rf := Grew.cell k2 rf
  replace rg := Grew.cell k2 rg
  replace x0 := Grew.cell k2 x0
  replace x1 := Grew.cell k2 x1
  replace y0 := Grew.cell k2 y0
  have h0 := bH.cell 0
  have h1 := bH.cell 1
  have s0 := bS.cell 0
  have s1 := bS.cell 1
  have s2 := bS.cell 2
  have s3 := bS.cell 3
  have s4 := bS.cell 4
  have s5 := bS.cell 5
  simp at h0 h1 s0 s1 s2 s3 s4 s5
  clear hr hs hx hy hbq hn hm hrt hrf hrg hSv S0 S1 S4 S5 hsw hse bH bS
  by_cases q1 : (t : Int) = yf
  · by_cases q2 : (f : Int) = (g : Int)
    · as_aux_lemma =>
      obtain rfl : false = b := by
        cases b with
        | false => rfl
        | true => exact absurd q2 (HB.out.1 rfl).2.1
      subst q1
      have q2' : f = g := by omega
      subst q2'
      clear HB
      go_enter Try.func26, Try.ntmps26
      go_wp2_with fail
      go_upto_region 2 with fail
      refine wp_region_grow [] (fun _ => False) (by kernel_rfl) ?_
      simp only [List.size_toArray, List.length_cons, List.length_nil, Nat.reduceAdd]
      refine wpAnyG_pure 0 13 (v := ?_) rfl (by kernel_rfl) rfl (by rfl) (fun w' => ?_) ?_
      rotate_left
      · go_simp <;> with_reducible rfl
      simp only [List.setIfInBounds_toArray, List.set_cons_zero, List.set_cons_succ]
      refine wpAnyG_pure 1 14 (v := ?_) rfl (by kernel_rfl) rfl (by rfl) (fun w' => ?_) ?_
      rotate_left
      · go_simp <;> with_reducible rfl
      simp only [List.setIfInBounds_toArray, List.set_cons_zero, List.set_cons_succ]
      refine wpAnyG_take 2 15 (v := ?_) rfl (by kernel_rfl) rfl (by rfl) (fun w' hG' => ?_) ?_
      rotate_left
      · have hx0 := Grew.cell hG' (show w2.drew.cell? _ = _ from h0)
        have hx1 := Grew.cell hG' (show w2.drew.cell? _ = _ from h1)
        have hy0 := Grew.cell hG' (show w2.drew.cell? _ = _ from s0)
        have hy1 := Grew.cell hG' (show w2.drew.cell? _ = _ from s1)
        have hy2 := Grew.cell hG' (show w2.drew.cell? _ = _ from s2)
        have hy3 := Grew.cell hG' (show w2.drew.cell? _ = _ from s3)
        have hy4 := Grew.cell hG' (show w2.drew.cell? _ = _ from s4)
        have hy5 := Grew.cell hG' (show w2.drew.cell? _ = _ from s5)
        have hz0 := Grew.cell hG' (show w2.drew.cell? _ = _ from y0)
        have hrt := Grew.cell hG' (show w2.drew.cell? _ = _ from rt)
        have hrf := Grew.cell hG' (show w2.drew.cell? _ = _ from rf)
        have hrg := Grew.cell hG' (show w2.drew.cell? _ = _ from rg)
        go_simp <;> with_reducible rfl
      simp only [List.setIfInBounds_toArray, List.set_cons_zero, List.set_cons_succ]
      refine wpAnyG_pure 3 16 (v := ?_) rfl (by kernel_rfl) rfl (by rfl) (fun w' => ?_) ?_
      rotate_left
      · go_simp <;> with_reducible rfl
      simp only [List.setIfInBounds_toArray, List.set_cons_zero, List.set_cons_succ]
      refine wpAnyG_take 4 17 (v := ?_) rfl (by kernel_rfl) rfl (by rfl) (fun w' hG' => ?_) ?_
      rotate_left
      · have hx0 := Grew.cell hG' (show w2.drew.cell? _ = _ from h0)
        have hx1 := Grew.cell hG' (show w2.drew.cell? _ = _ from h1)
        have hy0 := Grew.cell hG' (show w2.drew.cell? _ = _ from s0)
        have hy1 := Grew.cell hG' (show w2.drew.cell? _ = _ from s1)
        have hy2 := Grew.cell hG' (show w2.drew.cell? _ = _ from s2)
        have hy3 := Grew.cell hG' (show w2.drew.cell? _ = _ from s3)
        have hy4 := Grew.cell hG' (show w2.drew.cell? _ = _ from s4)
        have hy5 := Grew.cell hG' (show w2.drew.cell? _ = _ from s5)
        have hz0 := Grew.cell hG' (show w2.drew.cell? _ = _ from y0)
        have hrt := Grew.cell hG' (show w2.drew.cell? _ = _ from rt)
        have hrf := Grew.cell hG' (show w2.drew.cell? _ = _ from rf)
        have hrg := Grew.cell hG' (show w2.drew.cell? _ = _ from rg)
        go_simp <;> with_reducible rfl
      simp only [List.setIfInBounds_toArray, List.set_cons_zero, List.set_cons_succ]
      refine wpAnyG_pure 5 18 (v := ?_) rfl (by kernel_rfl) rfl (by rfl) (fun w' => ?_) ?_
      rotate_left
      · go_simp <;> with_reducible rfl
      simp only [List.setIfInBounds_toArray, List.set_cons_zero, List.set_cons_succ]
      refine wpAnyG_pure 6 19 (v := ?_) rfl (by kernel_rfl) rfl (by rfl) (fun w' => ?_) ?_
      rotate_left
      · go_simp <;> with_reducible rfl
      simp only [List.setIfInBounds_toArray, List.set_cons_zero, List.set_cons_succ]
      refine wpAnyG_take 7 20 (v := ?_) rfl (by kernel_rfl) rfl (by rfl) (fun w' hG' => ?_) ?_
      rotate_left
      · have hx0 := Grew.cell hG' (show w2.drew.cell? _ = _ from h0)
        have hx1 := Grew.cell hG' (show w2.drew.cell? _ = _ from h1)
        have hy0 := Grew.cell hG' (show w2.drew.cell? _ = _ from s0)
        have hy1 := Grew.cell hG' (show w2.drew.cell? _ = _ from s1)
        have hy2 := Grew.cell hG' (show w2.drew.cell? _ = _ from s2)
        have hy3 := Grew.cell hG' (show w2.drew.cell? _ = _ from s3)
        have hy4 := Grew.cell hG' (show w2.drew.cell? _ = _ from s4)
        have hy5 := Grew.cell hG' (show w2.drew.cell? _ = _ from s5)
        have hz0 := Grew.cell hG' (show w2.drew.cell? _ = _ from y0)
        have hrt := Grew.cell hG' (show w2.drew.cell? _ = _ from rt)
        have hrf := Grew.cell hG' (show w2.drew.cell? _ = _ from rf)
        have hrg := Grew.cell hG' (show w2.drew.cell? _ = _ from rg)
        go_simp <;> with_reducible rfl
      simp only [List.setIfInBounds_toArray, List.set_cons_zero, List.set_cons_succ]
      refine wpAnyG_pure 8 21 (v := ?_) rfl (by kernel_rfl) rfl (by rfl) (fun w' => ?_) ?_
      rotate_left
      · go_simp <;> with_reducible rfl
      simp only [List.setIfInBounds_toArray, List.set_cons_zero, List.set_cons_succ]
      refine wpAnyG_pure 9 22 (v := ?_) rfl (by kernel_rfl) rfl (by rfl) (fun w' => ?_) ?_
      rotate_left
      · go_simp <;> with_reducible rfl
      simp only [List.setIfInBounds_toArray, List.set_cons_zero, List.set_cons_succ]
      refine wpAnyG_pure 10 23 (v := ?_) rfl (by kernel_rfl) rfl (by rfl) (fun w' => ?_) ?_
      rotate_left
      · go_simp <;> with_reducible rfl
      simp only [List.setIfInBounds_toArray, List.set_cons_zero, List.set_cons_succ]
      refine wpAnyG_take 11 24 (v := ?_) rfl (by kernel_rfl) rfl (by rfl) (fun w' hG' => ?_) ?_
      rotate_left
      · have hx0 := Grew.cell hG' (show w2.drew.cell? _ = _ from h0)
        have hx1 := Grew.cell hG' (show w2.drew.cell? _ = _ from h1)
        have hy0 := Grew.cell hG' (show w2.drew.cell? _ = _ from s0)
        have hy1 := Grew.cell hG' (show w2.drew.cell? _ = _ from s1)
        have hy2 := Grew.cell hG' (show w2.drew.cell? _ = _ from s2)
        have hy3 := Grew.cell hG' (show w2.drew.cell? _ = _ from s3)
        have hy4 := Grew.cell hG' (show w2.drew.cell? _ = _ from s4)
        have hy5 := Grew.cell hG' (show w2.drew.cell? _ = _ from s5)
        have hz0 := Grew.cell hG' (show w2.drew.cell? _ = _ from y0)
        have hrt := Grew.cell hG' (show w2.drew.cell? _ = _ from rt)
        have hrf := Grew.cell hG' (show w2.drew.cell? _ = _ from rf)
        have hrg := Grew.cell hG' (show w2.drew.cell? _ = _ from rg)
        go_simp <;> with_reducible rfl
      simp only [List.setIfInBounds_toArray, List.set_cons_zero, List.set_cons_succ]
      refine wpAnyG_pure 12 25 (v := ?_) rfl (by kernel_rfl) rfl (by rfl) (fun w' => ?_) ?_
      rotate_left
      · go_simp <;> with_reducible rfl
      simp only [List.setIfInBounds_toArray, List.set_cons_zero, List.set_cons_succ]
      refine wpAnyG_take 13 26 (v := ?_) rfl (by kernel_rfl) rfl (by rfl) (fun w' hG' => ?_) ?_
      rotate_left
      · have hx0 := Grew.cell hG' (show w2.drew.cell? _ = _ from h0)
        have hx1 := Grew.cell hG' (show w2.drew.cell? _ = _ from h1)
        have hy0 := Grew.cell hG' (show w2.drew.cell? _ = _ from s0)
        have hy1 := Grew.cell hG' (show w2.drew.cell? _ = _ from s1)
        have hy2 := Grew.cell hG' (show w2.drew.cell? _ = _ from s2)
        have hy3 := Grew.cell hG' (show w2.drew.cell? _ = _ from s3)
        have hy4 := Grew.cell hG' (show w2.drew.cell? _ = _ from s4)
        have hy5 := Grew.cell hG' (show w2.drew.cell? _ = _ from s5)
        have hz0 := Grew.cell hG' (show w2.drew.cell? _ = _ from y0)
        have hrt := Grew.cell hG' (show w2.drew.cell? _ = _ from rt)
        have hrf := Grew.cell hG' (show w2.drew.cell? _ = _ from rf)
        have hrg := Grew.cell hG' (show w2.drew.cell? _ = _ from rg)
        go_simp <;> with_reducible rfl
      simp only [List.setIfInBounds_toArray, List.set_cons_zero, List.set_cons_succ]
      refine wpAnyG_pure 14 27 (v := ?_) rfl (by kernel_rfl) rfl (by rfl) (fun w' => ?_) ?_
      rotate_left
      · go_simp <;> with_reducible rfl
      simp only [List.setIfInBounds_toArray, List.set_cons_zero, List.set_cons_succ]
      refine wpAnyG_pure 15 28 (v := ?_) rfl (by kernel_rfl) rfl (by rfl) (fun w' => ?_) ?_
      rotate_left
      · go_simp <;> with_reducible rfl
      simp only [List.setIfInBounds_toArray, List.set_cons_zero, List.set_cons_succ]
      refine wpAnyG_pure 16 29 (v := ?_) rfl (by kernel_rfl) rfl (by rfl) (fun w' => ?_) ?_
      rotate_left
      · go_simp <;> with_reducible rfl
      simp only [List.setIfInBounds_toArray, List.set_cons_zero, List.set_cons_succ]
      refine wpAnyG_pass 17 30 rfl (by kernel_rfl) rfl (by rfl) ?_
      simp only [List.setIfInBounds_toArray, List.set_cons_zero, List.set_cons_succ]
      refine wpAnyG_pass 18 31 rfl (by kernel_rfl) rfl (by rfl) ?_
      simp only [List.setIfInBounds_toArray, List.set_cons_zero, List.set_cons_succ]
      refine wpAnyG_pass 19 32 rfl (by kernel_rfl) rfl (by rfl) ?_
      simp only [List.setIfInBounds_toArray, List.set_cons_zero, List.set_cons_succ]
      refine wpAnyG_pass 20 33 rfl (by kernel_rfl) rfl (by rfl) ?_
      simp only [List.setIfInBounds_toArray, List.set_cons_zero, List.set_cons_succ]
      refine wpAnyG_pass 21 34 rfl (by kernel_rfl) rfl (by rfl) ?_
      simp only [List.setIfInBounds_toArray, List.set_cons_zero, List.set_cons_succ]
      refine wpAnyG_pass 22 35 rfl (by kernel_rfl) rfl (by rfl) ?_
      simp only [List.setIfInBounds_toArray, List.set_cons_zero, List.set_cons_succ]
      refine wpAnyG_pass 23 36 rfl (by kernel_rfl) rfl (by rfl) ?_
      simp only [List.setIfInBounds_toArray, List.set_cons_zero, List.set_cons_succ]
      refine wpAnyG_pass 24 37 rfl (by kernel_rfl) rfl (by rfl) ?_
      simp only [List.setIfInBounds_toArray, List.set_cons_zero, List.set_cons_succ]
      refine wpAnyG_pass 25 38 rfl (by kernel_rfl) rfl (by rfl) ?_
      simp only [List.setIfInBounds_toArray, List.set_cons_zero, List.set_cons_succ]
      refine wpAnyG_pass 26 39 rfl (by kernel_rfl) rfl (by rfl) ?_
      simp only [List.setIfInBounds_toArray, List.set_cons_zero, List.set_cons_succ]
      refine wpAnyG_pass 27 40 rfl (by kernel_rfl) rfl (by rfl) ?_
      simp only [List.setIfInBounds_toArray, List.set_cons_zero, List.set_cons_succ]
      refine wpAnyG_pass 28 41 rfl (by kernel_rfl) rfl (by rfl) ?_
      simp only [List.setIfInBounds_toArray, List.set_cons_zero, List.set_cons_succ]
      refine wpAnyG_pass 29 42 rfl (by kernel_rfl) rfl (by rfl) ?_
      simp only [List.setIfInBounds_toArray, List.set_cons_zero, List.set_cons_succ]
      refine wpAnyG_pass 30 43 rfl (by kernel_rfl) rfl (by rfl) ?_
      simp only [List.setIfInBounds_toArray, List.set_cons_zero, List.set_cons_succ]
      refine wpAnyG_pass 31 44 rfl (by kernel_rfl) rfl (by rfl) ?_
      simp only [List.setIfInBounds_toArray, List.set_cons_zero, List.set_cons_succ]
      refine wpAnyG_pass 32 45 rfl (by kernel_rfl) rfl (by rfl) ?_
      simp only [List.setIfInBounds_toArray, List.set_cons_zero, List.set_cons_succ]
      refine wpAnyG_pass 33 46 rfl (by kernel_rfl) rfl (by rfl) ?_
      simp only [List.setIfInBounds_toArray, List.set_cons_zero, List.set_cons_succ]
      refine wpAnyG_pass 34 47 rfl (by kernel_rfl) rfl (by rfl) ?_
      simp only [List.setIfInBounds_toArray, List.set_cons_zero, List.set_cons_succ]
      refine wpAnyG_pass 35 48 rfl (by kernel_rfl) rfl (by rfl) ?_
      simp only [List.setIfInBounds_toArray, List.set_cons_zero, List.set_cons_succ]
      refine wpAnyG_pure 36 49 (v := ?_) rfl (by kernel_rfl) rfl (by rfl) (fun w' => ?_) ?_
      rotate_left
      · go_simp <;> with_reducible rfl
      simp only [List.setIfInBounds_toArray, List.set_cons_zero, List.set_cons_succ]
      refine wpAnyG_pure 37 4 (v := ?_) rfl (by kernel_rfl) rfl (by rfl) (fun w' => ?_) ?_
      rotate_left
      · go_simp <;> with_reducible rfl
      simp only [List.setIfInBounds_toArray, List.set_cons_zero, List.set_cons_succ]
      refine wpAnyG_done (by kernel_rfl) ?_
      go_wp2_with fail
      go_ret
      exact ⟨rfl, k2.drew⟩
    · as_aux_lemma =>
      subst q1
      have q2' : ¬ f = g := by omega
      have q3 : ((f : Int) != (g : Int)) = true := by simp; omega
      have q4 : (f != g) = true := by simp; omega
      have HB2 : Hid (decide (rt' < min rf' rg') = b) := by
        show _ = _
        rw [Bool.eq_iff_iff, decide_eq_true_iff, HB.out]
        exact ⟨fun h => ⟨rfl, q2, h⟩, fun h => h.2.2⟩
      clear HB
      rcases Int.lt_or_le rg' rf' with mm | mm
      · have HB3 : Hid (decide (rt' < rg') = b) := by
          have := HB2.out
          rw [Int.min_eq_right (by omega)] at this
          exact this
        clear HB2
        go_enter Try.func26, Try.ntmps26
        go_wp2_with fail
        go_upto_region 2 with fail
        refine wp_region_grow [] (fun _ => False) (by kernel_rfl) ?_
        simp only [List.size_toArray, List.length_cons, List.length_nil, Nat.reduceAdd]
        refine wpAnyG_pure 0 13 (v := ?_) rfl (by kernel_rfl) rfl (by rfl) (fun w' => ?_) ?_
        rotate_left
        · go_simp <;> with_reducible rfl
        simp only [List.setIfInBounds_toArray, List.set_cons_zero, List.set_cons_succ]
        refine wpAnyG_pure 1 14 (v := ?_) rfl (by kernel_rfl) rfl (by rfl) (fun w' => ?_) ?_
        rotate_left
        · go_simp <;> with_reducible rfl
        simp only [List.setIfInBounds_toArray, List.set_cons_zero, List.set_cons_succ]
        refine wpAnyG_take 2 15 (v := ?_) rfl (by kernel_rfl) rfl (by rfl) (fun w' hG' => ?_) ?_
        rotate_left
        · have hx0 := Grew.cell hG' (show w2.drew.cell? _ = _ from h0)
          have hx1 := Grew.cell hG' (show w2.drew.cell? _ = _ from h1)
          have hy0 := Grew.cell hG' (show w2.drew.cell? _ = _ from s0)
          have hy1 := Grew.cell hG' (show w2.drew.cell? _ = _ from s1)
          have hy2 := Grew.cell hG' (show w2.drew.cell? _ = _ from s2)
          have hy3 := Grew.cell hG' (show w2.drew.cell? _ = _ from s3)
          have hy4 := Grew.cell hG' (show w2.drew.cell? _ = _ from s4)
          have hy5 := Grew.cell hG' (show w2.drew.cell? _ = _ from s5)
          have hz0 := Grew.cell hG' (show w2.drew.cell? _ = _ from y0)
          have hrt := Grew.cell hG' (show w2.drew.cell? _ = _ from rt)
          have hrf := Grew.cell hG' (show w2.drew.cell? _ = _ from rf)
          have hrg := Grew.cell hG' (show w2.drew.cell? _ = _ from rg)
          go_simp <;> with_reducible rfl
        simp only [List.setIfInBounds_toArray, List.set_cons_zero, List.set_cons_succ]
        refine wpAnyG_pure 3 16 (v := ?_) rfl (by kernel_rfl) rfl (by rfl) (fun w' => ?_) ?_
        rotate_left
        · go_simp <;> with_reducible rfl
        simp only [List.setIfInBounds_toArray, List.set_cons_zero, List.set_cons_succ]
        refine wpAnyG_take 4 17 (v := ?_) rfl (by kernel_rfl) rfl (by rfl) (fun w' hG' => ?_) ?_
        rotate_left
        · have hx0 := Grew.cell hG' (show w2.drew.cell? _ = _ from h0)
          have hx1 := Grew.cell hG' (show w2.drew.cell? _ = _ from h1)
          have hy0 := Grew.cell hG' (show w2.drew.cell? _ = _ from s0)
          have hy1 := Grew.cell hG' (show w2.drew.cell? _ = _ from s1)
          have hy2 := Grew.cell hG' (show w2.drew.cell? _ = _ from s2)
          have hy3 := Grew.cell hG' (show w2.drew.cell? _ = _ from s3)
          have hy4 := Grew.cell hG' (show w2.drew.cell? _ = _ from s4)
          have hy5 := Grew.cell hG' (show w2.drew.cell? _ = _ from s5)
          have hz0 := Grew.cell hG' (show w2.drew.cell? _ = _ from y0)
          have hrt := Grew.cell hG' (show w2.drew.cell? _ = _ from rt)
          have hrf := Grew.cell hG' (show w2.drew.cell? _ = _ from rf)
          have hrg := Grew.cell hG' (show w2.drew.cell? _ = _ from rg)
          go_simp <;> with_reducible rfl
        simp only [List.setIfInBounds_toArray, List.set_cons_zero, List.set_cons_succ]
        refine wpAnyG_pure 5 18 (v := ?_) rfl (by kernel_rfl) rfl (by rfl) (fun w' => ?_) ?_
        rotate_left
        · go_simp <;> with_reducible rfl
        simp only [List.setIfInBounds_toArray, List.set_cons_zero, List.set_cons_succ]
        refine wpAnyG_pure 6 19 (v := ?_) rfl (by kernel_rfl) rfl (by rfl) (fun w' => ?_) ?_
        rotate_left
        · go_simp <;> with_reducible rfl
        simp only [List.setIfInBounds_toArray, List.set_cons_zero, List.set_cons_succ]
        refine wpAnyG_take 7 20 (v := ?_) rfl (by kernel_rfl) rfl (by rfl) (fun w' hG' => ?_) ?_
        rotate_left
        · have hx0 := Grew.cell hG' (show w2.drew.cell? _ = _ from h0)
          have hx1 := Grew.cell hG' (show w2.drew.cell? _ = _ from h1)
          have hy0 := Grew.cell hG' (show w2.drew.cell? _ = _ from s0)
          have hy1 := Grew.cell hG' (show w2.drew.cell? _ = _ from s1)
          have hy2 := Grew.cell hG' (show w2.drew.cell? _ = _ from s2)
          have hy3 := Grew.cell hG' (show w2.drew.cell? _ = _ from s3)
          have hy4 := Grew.cell hG' (show w2.drew.cell? _ = _ from s4)
          have hy5 := Grew.cell hG' (show w2.drew.cell? _ = _ from s5)
          have hz0 := Grew.cell hG' (show w2.drew.cell? _ = _ from y0)
          have hrt := Grew.cell hG' (show w2.drew.cell? _ = _ from rt)
          have hrf := Grew.cell hG' (show w2.drew.cell? _ = _ from rf)
          have hrg := Grew.cell hG' (show w2.drew.cell? _ = _ from rg)
          go_simp <;> with_reducible rfl
        simp only [List.setIfInBounds_toArray, List.set_cons_zero, List.set_cons_succ]
        refine wpAnyG_pure 8 21 (v := ?_) rfl (by kernel_rfl) rfl (by rfl) (fun w' => ?_) ?_
        rotate_left
        · go_simp <;> with_reducible rfl
        simp only [List.setIfInBounds_toArray, List.set_cons_zero, List.set_cons_succ]
        refine wpAnyG_pure 9 22 (v := ?_) rfl (by kernel_rfl) rfl (by rfl) (fun w' => ?_) ?_
        rotate_left
        · go_simp <;> with_reducible rfl
        simp only [List.setIfInBounds_toArray, List.set_cons_zero, List.set_cons_succ]
        refine wpAnyG_pure 10 23 (v := ?_) rfl (by kernel_rfl) rfl (by rfl) (fun w' => ?_) ?_
        rotate_left
        · go_simp <;> with_reducible rfl
        simp only [List.setIfInBounds_toArray, List.set_cons_zero, List.set_cons_succ]
        refine wpAnyG_take 11 24 (v := ?_) rfl (by kernel_rfl) rfl (by rfl) (fun w' hG' => ?_) ?_
        rotate_left
        · have hx0 := Grew.cell hG' (show w2.drew.cell? _ = _ from h0)
          have hx1 := Grew.cell hG' (show w2.drew.cell? _ = _ from h1)
          have hy0 := Grew.cell hG' (show w2.drew.cell? _ = _ from s0)
          have hy1 := Grew.cell hG' (show w2.drew.cell? _ = _ from s1)
          have hy2 := Grew.cell hG' (show w2.drew.cell? _ = _ from s2)
          have hy3 := Grew.cell hG' (show w2.drew.cell? _ = _ from s3)
          have hy4 := Grew.cell hG' (show w2.drew.cell? _ = _ from s4)
          have hy5 := Grew.cell hG' (show w2.drew.cell? _ = _ from s5)
          have hz0 := Grew.cell hG' (show w2.drew.cell? _ = _ from y0)
          have hrt := Grew.cell hG' (show w2.drew.cell? _ = _ from rt)
          have hrf := Grew.cell hG' (show w2.drew.cell? _ = _ from rf)
          have hrg := Grew.cell hG' (show w2.drew.cell? _ = _ from rg)
          go_simp <;> with_reducible rfl
        simp only [List.setIfInBounds_toArray, List.set_cons_zero, List.set_cons_succ]
        refine wpAnyG_pure 12 25 (v := ?_) rfl (by kernel_rfl) rfl (by rfl) (fun w' => ?_) ?_
        rotate_left
        · go_simp <;> with_reducible rfl
        simp only [List.setIfInBounds_toArray, List.set_cons_zero, List.set_cons_succ]
        refine wpAnyG_take 13 26 (v := ?_) rfl (by kernel_rfl) rfl (by rfl) (fun w' hG' => ?_) ?_
        rotate_left
        · have hx0 := Grew.cell hG' (show w2.drew.cell? _ = _ from h0)
          have hx1 := Grew.cell hG' (show w2.drew.cell? _ = _ from h1)
          have hy0 := Grew.cell hG' (show w2.drew.cell? _ = _ from s0)
          have hy1 := Grew.cell hG' (show w2.drew.cell? _ = _ from s1)
          have hy2 := Grew.cell hG' (show w2.drew.cell? _ = _ from s2)
          have hy3 := Grew.cell hG' (show w2.drew.cell? _ = _ from s3)
          have hy4 := Grew.cell hG' (show w2.drew.cell? _ = _ from s4)
          have hy5 := Grew.cell hG' (show w2.drew.cell? _ = _ from s5)
          have hz0 := Grew.cell hG' (show w2.drew.cell? _ = _ from y0)
          have hrt := Grew.cell hG' (show w2.drew.cell? _ = _ from rt)
          have hrf := Grew.cell hG' (show w2.drew.cell? _ = _ from rf)
          have hrg := Grew.cell hG' (show w2.drew.cell? _ = _ from rg)
          go_simp <;> with_reducible rfl
        simp only [List.setIfInBounds_toArray, List.set_cons_zero, List.set_cons_succ]
        refine wpAnyG_pure 14 27 (v := ?_) rfl (by kernel_rfl) rfl (by rfl) (fun w' => ?_) ?_
        rotate_left
        · go_simp <;> with_reducible rfl
        simp only [List.setIfInBounds_toArray, List.set_cons_zero, List.set_cons_succ]
        refine wpAnyG_pure 15 28 (v := ?_) rfl (by kernel_rfl) rfl (by rfl) (fun w' => ?_) ?_
        rotate_left
        · go_simp <;> with_reducible rfl
        simp only [List.setIfInBounds_toArray, List.set_cons_zero, List.set_cons_succ]
        refine wpAnyG_pure 16 29 (v := ?_) rfl (by kernel_rfl) rfl (by rfl) (fun w' => ?_) ?_
        rotate_left
        · go_simp <;> with_reducible rfl
        simp only [List.setIfInBounds_toArray, List.set_cons_zero, List.set_cons_succ]
        refine wpAnyG_pure 17 30 (v := ?_) rfl (by kernel_rfl) rfl (by rfl) (fun w' => ?_) ?_
        rotate_left
        · go_simp <;> with_reducible rfl
        simp only [List.setIfInBounds_toArray, List.set_cons_zero, List.set_cons_succ]
        refine wpAnyG_take 18 31 (v := ?_) rfl (by kernel_rfl) rfl (by rfl) (fun w' hG' => ?_) ?_
        rotate_left
        · have hx0 := Grew.cell hG' (show w2.drew.cell? _ = _ from h0)
          have hx1 := Grew.cell hG' (show w2.drew.cell? _ = _ from h1)
          have hy0 := Grew.cell hG' (show w2.drew.cell? _ = _ from s0)
          have hy1 := Grew.cell hG' (show w2.drew.cell? _ = _ from s1)
          have hy2 := Grew.cell hG' (show w2.drew.cell? _ = _ from s2)
          have hy3 := Grew.cell hG' (show w2.drew.cell? _ = _ from s3)
          have hy4 := Grew.cell hG' (show w2.drew.cell? _ = _ from s4)
          have hy5 := Grew.cell hG' (show w2.drew.cell? _ = _ from s5)
          have hz0 := Grew.cell hG' (show w2.drew.cell? _ = _ from y0)
          have hrt := Grew.cell hG' (show w2.drew.cell? _ = _ from rt)
          have hrf := Grew.cell hG' (show w2.drew.cell? _ = _ from rf)
          have hrg := Grew.cell hG' (show w2.drew.cell? _ = _ from rg)
          go_simp <;> with_reducible rfl
        simp only [List.setIfInBounds_toArray, List.set_cons_zero, List.set_cons_succ]
        refine wpAnyG_pure 19 32 (v := ?_) rfl (by kernel_rfl) rfl (by rfl) (fun w' => ?_) ?_
        rotate_left
        · go_simp <;> with_reducible rfl
        simp only [List.setIfInBounds_toArray, List.set_cons_zero, List.set_cons_succ]
        refine wpAnyG_pure 20 33 (v := ?_) rfl (by kernel_rfl) rfl (by rfl) (fun w' => ?_) ?_
        rotate_left
        · go_simp <;> with_reducible rfl
        simp only [List.setIfInBounds_toArray, List.set_cons_zero, List.set_cons_succ]
        refine wpAnyG_take 21 34 (v := ?_) rfl (by kernel_rfl) rfl (by rfl) (fun w' hG' => ?_) ?_
        rotate_left
        · have hx0 := Grew.cell hG' (show w2.drew.cell? _ = _ from h0)
          have hx1 := Grew.cell hG' (show w2.drew.cell? _ = _ from h1)
          have hy0 := Grew.cell hG' (show w2.drew.cell? _ = _ from s0)
          have hy1 := Grew.cell hG' (show w2.drew.cell? _ = _ from s1)
          have hy2 := Grew.cell hG' (show w2.drew.cell? _ = _ from s2)
          have hy3 := Grew.cell hG' (show w2.drew.cell? _ = _ from s3)
          have hy4 := Grew.cell hG' (show w2.drew.cell? _ = _ from s4)
          have hy5 := Grew.cell hG' (show w2.drew.cell? _ = _ from s5)
          have hz0 := Grew.cell hG' (show w2.drew.cell? _ = _ from y0)
          have hrt := Grew.cell hG' (show w2.drew.cell? _ = _ from rt)
          have hrf := Grew.cell hG' (show w2.drew.cell? _ = _ from rf)
          have hrg := Grew.cell hG' (show w2.drew.cell? _ = _ from rg)
          go_simp <;> with_reducible rfl
        simp only [List.setIfInBounds_toArray, List.set_cons_zero, List.set_cons_succ]
        refine wpAnyG_pure 22 35 (v := ?_) rfl (by kernel_rfl) rfl (by rfl) (fun w' => ?_) ?_
        rotate_left
        · go_simp <;> with_reducible rfl
        simp only [List.setIfInBounds_toArray, List.set_cons_zero, List.set_cons_succ]
        refine wpAnyG_take 23 36 (v := ?_) rfl (by kernel_rfl) rfl (by rfl) (fun w' hG' => ?_) ?_
        rotate_left
        · have hx0 := Grew.cell hG' (show w2.drew.cell? _ = _ from h0)
          have hx1 := Grew.cell hG' (show w2.drew.cell? _ = _ from h1)
          have hy0 := Grew.cell hG' (show w2.drew.cell? _ = _ from s0)
          have hy1 := Grew.cell hG' (show w2.drew.cell? _ = _ from s1)
          have hy2 := Grew.cell hG' (show w2.drew.cell? _ = _ from s2)
          have hy3 := Grew.cell hG' (show w2.drew.cell? _ = _ from s3)
          have hy4 := Grew.cell hG' (show w2.drew.cell? _ = _ from s4)
          have hy5 := Grew.cell hG' (show w2.drew.cell? _ = _ from s5)
          have hz0 := Grew.cell hG' (show w2.drew.cell? _ = _ from y0)
          have hrt := Grew.cell hG' (show w2.drew.cell? _ = _ from rt)
          have hrf := Grew.cell hG' (show w2.drew.cell? _ = _ from rf)
          have hrg := Grew.cell hG' (show w2.drew.cell? _ = _ from rg)
          go_simp <;> with_reducible rfl
        simp only [List.setIfInBounds_toArray, List.set_cons_zero, List.set_cons_succ]
        refine wpAnyG_pure 24 37 (v := ?_) rfl (by kernel_rfl) rfl (by rfl) (fun w' => ?_) ?_
        rotate_left
        · go_simp <;> with_reducible rfl
        simp only [List.setIfInBounds_toArray, List.set_cons_zero, List.set_cons_succ]
        refine wpAnyG_take 25 38 (v := ?_) rfl (by kernel_rfl) rfl (by rfl) (fun w' hG' => ?_) ?_
        rotate_left
        · have hx0 := Grew.cell hG' (show w2.drew.cell? _ = _ from h0)
          have hx1 := Grew.cell hG' (show w2.drew.cell? _ = _ from h1)
          have hy0 := Grew.cell hG' (show w2.drew.cell? _ = _ from s0)
          have hy1 := Grew.cell hG' (show w2.drew.cell? _ = _ from s1)
          have hy2 := Grew.cell hG' (show w2.drew.cell? _ = _ from s2)
          have hy3 := Grew.cell hG' (show w2.drew.cell? _ = _ from s3)
          have hy4 := Grew.cell hG' (show w2.drew.cell? _ = _ from s4)
          have hy5 := Grew.cell hG' (show w2.drew.cell? _ = _ from s5)
          have hz0 := Grew.cell hG' (show w2.drew.cell? _ = _ from y0)
          have hrt := Grew.cell hG' (show w2.drew.cell? _ = _ from rt)
          have hrf := Grew.cell hG' (show w2.drew.cell? _ = _ from rf)
          have hrg := Grew.cell hG' (show w2.drew.cell? _ = _ from rg)
          go_simp <;> with_reducible rfl
        simp only [List.setIfInBounds_toArray, List.set_cons_zero, List.set_cons_succ]
        refine wpAnyG_pure 26 39 (v := ?_) rfl (by kernel_rfl) rfl (by rfl) (fun w' => ?_) ?_
        rotate_left
        · go_simp <;> with_reducible rfl
        simp only [List.setIfInBounds_toArray, List.set_cons_zero, List.set_cons_succ]
        refine wpAnyG_take 27 40 (v := ?_) rfl (by kernel_rfl) rfl (by rfl) (fun w' hG' => ?_) ?_
        rotate_left
        · have hx0 := Grew.cell hG' (show w2.drew.cell? _ = _ from h0)
          have hx1 := Grew.cell hG' (show w2.drew.cell? _ = _ from h1)
          have hy0 := Grew.cell hG' (show w2.drew.cell? _ = _ from s0)
          have hy1 := Grew.cell hG' (show w2.drew.cell? _ = _ from s1)
          have hy2 := Grew.cell hG' (show w2.drew.cell? _ = _ from s2)
          have hy3 := Grew.cell hG' (show w2.drew.cell? _ = _ from s3)
          have hy4 := Grew.cell hG' (show w2.drew.cell? _ = _ from s4)
          have hy5 := Grew.cell hG' (show w2.drew.cell? _ = _ from s5)
          have hz0 := Grew.cell hG' (show w2.drew.cell? _ = _ from y0)
          have hrt := Grew.cell hG' (show w2.drew.cell? _ = _ from rt)
          have hrf := Grew.cell hG' (show w2.drew.cell? _ = _ from rf)
          have hrg := Grew.cell hG' (show w2.drew.cell? _ = _ from rg)
          go_simp <;> with_reducible rfl
        simp only [List.setIfInBounds_toArray, List.set_cons_zero, List.set_cons_succ]
        refine wpAnyG_pure 28 41 (v := ?_) rfl (by kernel_rfl) rfl (by rfl) (fun w' => ?_) ?_
        rotate_left
        · go_simp <;> with_reducible rfl
        simp only [List.setIfInBounds_toArray, List.set_cons_zero, List.set_cons_succ]
        refine wpAnyG_take 29 42 (v := ?_) rfl (by kernel_rfl) rfl (by rfl) (fun w' hG' => ?_) ?_
        rotate_left
        · have hx0 := Grew.cell hG' (show w2.drew.cell? _ = _ from h0)
          have hx1 := Grew.cell hG' (show w2.drew.cell? _ = _ from h1)
          have hy0 := Grew.cell hG' (show w2.drew.cell? _ = _ from s0)
          have hy1 := Grew.cell hG' (show w2.drew.cell? _ = _ from s1)
          have hy2 := Grew.cell hG' (show w2.drew.cell? _ = _ from s2)
          have hy3 := Grew.cell hG' (show w2.drew.cell? _ = _ from s3)
          have hy4 := Grew.cell hG' (show w2.drew.cell? _ = _ from s4)
          have hy5 := Grew.cell hG' (show w2.drew.cell? _ = _ from s5)
          have hz0 := Grew.cell hG' (show w2.drew.cell? _ = _ from y0)
          have hrt := Grew.cell hG' (show w2.drew.cell? _ = _ from rt)
          have hrf := Grew.cell hG' (show w2.drew.cell? _ = _ from rf)
          have hrg := Grew.cell hG' (show w2.drew.cell? _ = _ from rg)
          go_simp <;> with_reducible rfl
        simp only [List.setIfInBounds_toArray, List.set_cons_zero, List.set_cons_succ]
        refine wpAnyG_pure 30 43 (v := ?_) rfl (by kernel_rfl) rfl (by rfl) (fun w' => ?_) ?_
        rotate_left
        · go_simp <;> with_reducible rfl
        simp only [List.setIfInBounds_toArray, List.set_cons_zero, List.set_cons_succ]
        refine wpAnyG_take 31 44 (v := ?_) rfl (by kernel_rfl) rfl (by rfl) (fun w' hG' => ?_) ?_
        rotate_left
        · have hx0 := Grew.cell hG' (show w2.drew.cell? _ = _ from h0)
          have hx1 := Grew.cell hG' (show w2.drew.cell? _ = _ from h1)
          have hy0 := Grew.cell hG' (show w2.drew.cell? _ = _ from s0)
          have hy1 := Grew.cell hG' (show w2.drew.cell? _ = _ from s1)
          have hy2 := Grew.cell hG' (show w2.drew.cell? _ = _ from s2)
          have hy3 := Grew.cell hG' (show w2.drew.cell? _ = _ from s3)
          have hy4 := Grew.cell hG' (show w2.drew.cell? _ = _ from s4)
          have hy5 := Grew.cell hG' (show w2.drew.cell? _ = _ from s5)
          have hz0 := Grew.cell hG' (show w2.drew.cell? _ = _ from y0)
          have hrt := Grew.cell hG' (show w2.drew.cell? _ = _ from rt)
          have hrf := Grew.cell hG' (show w2.drew.cell? _ = _ from rf)
          have hrg := Grew.cell hG' (show w2.drew.cell? _ = _ from rg)
          go_simp <;> with_reducible rfl
        simp only [List.setIfInBounds_toArray, List.set_cons_zero, List.set_cons_succ]
        refine wpAnyG_pure 32 45 (v := ?_) rfl (by kernel_rfl) rfl (by rfl) (fun w' => ?_) ?_
        rotate_left
        · go_simp <;> with_reducible rfl
        simp only [List.setIfInBounds_toArray, List.set_cons_zero, List.set_cons_succ]
        refine wpAnyG_take 33 46 (v := ?_) rfl (by kernel_rfl) rfl (by rfl) (fun w' hG' => ?_) ?_
        rotate_left
        · have hx0 := Grew.cell hG' (show w2.drew.cell? _ = _ from h0)
          have hx1 := Grew.cell hG' (show w2.drew.cell? _ = _ from h1)
          have hy0 := Grew.cell hG' (show w2.drew.cell? _ = _ from s0)
          have hy1 := Grew.cell hG' (show w2.drew.cell? _ = _ from s1)
          have hy2 := Grew.cell hG' (show w2.drew.cell? _ = _ from s2)
          have hy3 := Grew.cell hG' (show w2.drew.cell? _ = _ from s3)
          have hy4 := Grew.cell hG' (show w2.drew.cell? _ = _ from s4)
          have hy5 := Grew.cell hG' (show w2.drew.cell? _ = _ from s5)
          have hz0 := Grew.cell hG' (show w2.drew.cell? _ = _ from y0)
          have hrt := Grew.cell hG' (show w2.drew.cell? _ = _ from rt)
          have hrf := Grew.cell hG' (show w2.drew.cell? _ = _ from rf)
          have hrg := Grew.cell hG' (show w2.drew.cell? _ = _ from rg)
          go_simp <;> with_reducible rfl
        simp only [List.setIfInBounds_toArray, List.set_cons_zero, List.set_cons_succ]
        refine wpAnyG_pure 34 47 (v := ?_) rfl (by kernel_rfl) rfl (by rfl) (fun w' => ?_) ?_
        rotate_left
        · go_simp <;> with_reducible rfl
        simp only [List.setIfInBounds_toArray, List.set_cons_zero, List.set_cons_succ]
        refine wpAnyG_pure 35 48 (v := ?_) rfl (by kernel_rfl) rfl (by rfl) (fun w' => ?_) ?_
        rotate_left
        · go_simp <;> with_reducible rfl
        simp only [List.setIfInBounds_toArray, List.set_cons_zero, List.set_cons_succ]
        refine wpAnyG_pure 36 49 (v := ?_) rfl (by kernel_rfl) rfl (by rfl) (fun w' => ?_) ?_
        rotate_left
        · go_simp <;> with_reducible rfl
        simp only [List.setIfInBounds_toArray, List.set_cons_zero, List.set_cons_succ]
        refine wpAnyG_pure 37 4 (v := ?_) rfl (by kernel_rfl) rfl (by rfl) (fun w' => ?_) ?_
        rotate_left
        · go_simp <;> with_reducible rfl
        simp only [List.setIfInBounds_toArray, List.set_cons_zero, List.set_cons_succ]
        refine wpAnyG_done (by kernel_rfl) ?_
        go_wp2_with fail
        go_ret
        rw [← HB3.out]
        exact ⟨rfl, k2.drew⟩
      · have HB3 : Hid (decide (rt' < rf') = b) := by
          have := HB2.out
          rw [Int.min_eq_left mm] at this
          exact this
        clear HB2
        go_enter Try.func26, Try.ntmps26
        go_wp2_with fail
        go_upto_region 2 with fail
        refine wp_region_grow [] (fun _ => False) (by kernel_rfl) ?_
        simp only [List.size_toArray, List.length_cons, List.length_nil, Nat.reduceAdd]
        refine wpAnyG_pure 0 13 (v := ?_) rfl (by kernel_rfl) rfl (by rfl) (fun w' => ?_) ?_
        rotate_left
        · go_simp <;> with_reducible rfl
        simp only [List.setIfInBounds_toArray, List.set_cons_zero, List.set_cons_succ]
        refine wpAnyG_pure 1 14 (v := ?_) rfl (by kernel_rfl) rfl (by rfl) (fun w' => ?_) ?_
        rotate_left
        · go_simp <;> with_reducible rfl
        simp only [List.setIfInBounds_toArray, List.set_cons_zero, List.set_cons_succ]
        refine wpAnyG_take 2 15 (v := ?_) rfl (by kernel_rfl) rfl (by rfl) (fun w' hG' => ?_) ?_
        rotate_left
        · have hx0 := Grew.cell hG' (show w2.drew.cell? _ = _ from h0)
          have hx1 := Grew.cell hG' (show w2.drew.cell? _ = _ from h1)
          have hy0 := Grew.cell hG' (show w2.drew.cell? _ = _ from s0)
          have hy1 := Grew.cell hG' (show w2.drew.cell? _ = _ from s1)
          have hy2 := Grew.cell hG' (show w2.drew.cell? _ = _ from s2)
          have hy3 := Grew.cell hG' (show w2.drew.cell? _ = _ from s3)
          have hy4 := Grew.cell hG' (show w2.drew.cell? _ = _ from s4)
          have hy5 := Grew.cell hG' (show w2.drew.cell? _ = _ from s5)
          have hz0 := Grew.cell hG' (show w2.drew.cell? _ = _ from y0)
          have hrt := Grew.cell hG' (show w2.drew.cell? _ = _ from rt)
          have hrf := Grew.cell hG' (show w2.drew.cell? _ = _ from rf)
          have hrg := Grew.cell hG' (show w2.drew.cell? _ = _ from rg)
          go_simp <;> with_reducible rfl
        simp only [List.setIfInBounds_toArray, List.set_cons_zero, List.set_cons_succ]
        refine wpAnyG_pure 3 16 (v := ?_) rfl (by kernel_rfl) rfl (by rfl) (fun w' => ?_) ?_
        rotate_left
        · go_simp <;> with_reducible rfl
        simp only [List.setIfInBounds_toArray, List.set_cons_zero, List.set_cons_succ]
        refine wpAnyG_take 4 17 (v := ?_) rfl (by kernel_rfl) rfl (by rfl) (fun w' hG' => ?_) ?_
        rotate_left
        · have hx0 := Grew.cell hG' (show w2.drew.cell? _ = _ from h0)
          have hx1 := Grew.cell hG' (show w2.drew.cell? _ = _ from h1)
          have hy0 := Grew.cell hG' (show w2.drew.cell? _ = _ from s0)
          have hy1 := Grew.cell hG' (show w2.drew.cell? _ = _ from s1)
          have hy2 := Grew.cell hG' (show w2.drew.cell? _ = _ from s2)
          have hy3 := Grew.cell hG' (show w2.drew.cell? _ = _ from s3)
          have hy4 := Grew.cell hG' (show w2.drew.cell? _ = _ from s4)
          have hy5 := Grew.cell hG' (show w2.drew.cell? _ = _ from s5)
          have hz0 := Grew.cell hG' (show w2.drew.cell? _ = _ from y0)
          have hrt := Grew.cell hG' (show w2.drew.cell? _ = _ from rt)
          have hrf := Grew.cell hG' (show w2.drew.cell? _ = _ from rf)
          have hrg := Grew.cell hG' (show w2.drew.cell? _ = _ from rg)
          go_simp <;> with_reducible rfl
        simp only [List.setIfInBounds_toArray, List.set_cons_zero, List.set_cons_succ]
        refine wpAnyG_pure 5 18 (v := ?_) rfl (by kernel_rfl) rfl (by rfl) (fun w' => ?_) ?_
        rotate_left
        · go_simp <;> with_reducible rfl
        simp only [List.setIfInBounds_toArray, List.set_cons_zero, List.set_cons_succ]
        refine wpAnyG_pure 6 19 (v := ?_) rfl (by kernel_rfl) rfl (by rfl) (fun w' => ?_) ?_
        rotate_left
        · go_simp <;> with_reducible rfl
        simp only [List.setIfInBounds_toArray, List.set_cons_zero, List.set_cons_succ]
        refine wpAnyG_take 7 20 (v := ?_) rfl (by kernel_rfl) rfl (by rfl) (fun w' hG' => ?_) ?_
        rotate_left
        · have hx0 := Grew.cell hG' (show w2.drew.cell? _ = _ from h0)
          have hx1 := Grew.cell hG' (show w2.drew.cell? _ = _ from h1)
          have hy0 := Grew.cell hG' (show w2.drew.cell? _ = _ from s0)
          have hy1 := Grew.cell hG' (show w2.drew.cell? _ = _ from s1)
          have hy2 := Grew.cell hG' (show w2.drew.cell? _ = _ from s2)
          have hy3 := Grew.cell hG' (show w2.drew.cell? _ = _ from s3)
          have hy4 := Grew.cell hG' (show w2.drew.cell? _ = _ from s4)
          have hy5 := Grew.cell hG' (show w2.drew.cell? _ = _ from s5)
          have hz0 := Grew.cell hG' (show w2.drew.cell? _ = _ from y0)
          have hrt := Grew.cell hG' (show w2.drew.cell? _ = _ from rt)
          have hrf := Grew.cell hG' (show w2.drew.cell? _ = _ from rf)
          have hrg := Grew.cell hG' (show w2.drew.cell? _ = _ from rg)
          go_simp <;> with_reducible rfl
        simp only [List.setIfInBounds_toArray, List.set_cons_zero, List.set_cons_succ]
        refine wpAnyG_pure 8 21 (v := ?_) rfl (by kernel_rfl) rfl (by rfl) (fun w' => ?_) ?_
        rotate_left
        · go_simp <;> with_reducible rfl
        simp only [List.setIfInBounds_toArray, List.set_cons_zero, List.set_cons_succ]
        refine wpAnyG_pure 9 22 (v := ?_) rfl (by kernel_rfl) rfl (by rfl) (fun w' => ?_) ?_
        rotate_left
        · go_simp <;> with_reducible rfl
        simp only [List.setIfInBounds_toArray, List.set_cons_zero, List.set_cons_succ]
        refine wpAnyG_pure 10 23 (v := ?_) rfl (by kernel_rfl) rfl (by rfl) (fun w' => ?_) ?_
        rotate_left
        · go_simp <;> with_reducible rfl
        simp only [List.setIfInBounds_toArray, List.set_cons_zero, List.set_cons_succ]
        refine wpAnyG_take 11 24 (v := ?_) rfl (by kernel_rfl) rfl (by rfl) (fun w' hG' => ?_) ?_
        rotate_left
        · have hx0 := Grew.cell hG' (show w2.drew.cell? _ = _ from h0)
          have hx1 := Grew.cell hG' (show w2.drew.cell? _ = _ from h1)
          have hy0 := Grew.cell hG' (show w2.drew.cell? _ = _ from s0)
          have hy1 := Grew.cell hG' (show w2.drew.cell? _ = _ from s1)
          have hy2 := Grew.cell hG' (show w2.drew.cell? _ = _ from s2)
          have hy3 := Grew.cell hG' (show w2.drew.cell? _ = _ from s3)
          have hy4 := Grew.cell hG' (show w2.drew.cell? _ = _ from s4)
          have hy5 := Grew.cell hG' (show w2.drew.cell? _ = _ from s5)
          have hz0 := Grew.cell hG' (show w2.drew.cell? _ = _ from y0)
          have hrt := Grew.cell hG' (show w2.drew.cell? _ = _ from rt)
          have hrf := Grew.cell hG' (show w2.drew.cell? _ = _ from rf)
          have hrg := Grew.cell hG' (show w2.drew.cell? _ = _ from rg)
          go_simp <;> with_reducible rfl
        simp only [List.setIfInBounds_toArray, List.set_cons_zero, List.set_cons_succ]
        refine wpAnyG_pure 12 25 (v := ?_) rfl (by kernel_rfl) rfl (by rfl) (fun w' => ?_) ?_
        rotate_left
        · go_simp <;> with_reducible rfl
        simp only [List.setIfInBounds_toArray, List.set_cons_zero, List.set_cons_succ]
        refine wpAnyG_take 13 26 (v := ?_) rfl (by kernel_rfl) rfl (by rfl) (fun w' hG' => ?_) ?_
        rotate_left
        · have hx0 := Grew.cell hG' (show w2.drew.cell? _ = _ from h0)
          have hx1 := Grew.cell hG' (show w2.drew.cell? _ = _ from h1)
          have hy0 := Grew.cell hG' (show w2.drew.cell? _ = _ from s0)
          have hy1 := Grew.cell hG' (show w2.drew.cell? _ = _ from s1)
          have hy2 := Grew.cell hG' (show w2.drew.cell? _ = _ from s2)
          have hy3 := Grew.cell hG' (show w2.drew.cell? _ = _ from s3)
          have hy4 := Grew.cell hG' (show w2.drew.cell? _ = _ from s4)
          have hy5 := Grew.cell hG' (show w2.drew.cell? _ = _ from s5)
          have hz0 := Grew.cell hG' (show w2.drew.cell? _ = _ from y0)
          have hrt := Grew.cell hG' (show w2.drew.cell? _ = _ from rt)
          have hrf := Grew.cell hG' (show w2.drew.cell? _ = _ from rf)
          have hrg := Grew.cell hG' (show w2.drew.cell? _ = _ from rg)
          go_simp <;> with_reducible rfl
        simp only [List.setIfInBounds_toArray, List.set_cons_zero, List.set_cons_succ]
        refine wpAnyG_pure 14 27 (v := ?_) rfl (by kernel_rfl) rfl (by rfl) (fun w' => ?_) ?_
        rotate_left
        · go_simp <;> with_reducible rfl
        simp only [List.setIfInBounds_toArray, List.set_cons_zero, List.set_cons_succ]
        refine wpAnyG_pure 15 28 (v := ?_) rfl (by kernel_rfl) rfl (by rfl) (fun w' => ?_) ?_
        rotate_left
        · go_simp <;> with_reducible rfl
        simp only [List.setIfInBounds_toArray, List.set_cons_zero, List.set_cons_succ]
        refine wpAnyG_pure 16 29 (v := ?_) rfl (by kernel_rfl) rfl (by rfl) (fun w' => ?_) ?_
        rotate_left
        · go_simp <;> with_reducible rfl
        simp only [List.setIfInBounds_toArray, List.set_cons_zero, List.set_cons_succ]
        refine wpAnyG_pure 17 30 (v := ?_) rfl (by kernel_rfl) rfl (by rfl) (fun w' => ?_) ?_
        rotate_left
        · go_simp <;> with_reducible rfl
        simp only [List.setIfInBounds_toArray, List.set_cons_zero, List.set_cons_succ]
        refine wpAnyG_take 18 31 (v := ?_) rfl (by kernel_rfl) rfl (by rfl) (fun w' hG' => ?_) ?_
        rotate_left
        · have hx0 := Grew.cell hG' (show w2.drew.cell? _ = _ from h0)
          have hx1 := Grew.cell hG' (show w2.drew.cell? _ = _ from h1)
          have hy0 := Grew.cell hG' (show w2.drew.cell? _ = _ from s0)
          have hy1 := Grew.cell hG' (show w2.drew.cell? _ = _ from s1)
          have hy2 := Grew.cell hG' (show w2.drew.cell? _ = _ from s2)
          have hy3 := Grew.cell hG' (show w2.drew.cell? _ = _ from s3)
          have hy4 := Grew.cell hG' (show w2.drew.cell? _ = _ from s4)
          have hy5 := Grew.cell hG' (show w2.drew.cell? _ = _ from s5)
          have hz0 := Grew.cell hG' (show w2.drew.cell? _ = _ from y0)
          have hrt := Grew.cell hG' (show w2.drew.cell? _ = _ from rt)
          have hrf := Grew.cell hG' (show w2.drew.cell? _ = _ from rf)
          have hrg := Grew.cell hG' (show w2.drew.cell? _ = _ from rg)
          go_simp <;> with_reducible rfl
        simp only [List.setIfInBounds_toArray, List.set_cons_zero, List.set_cons_succ]
        refine wpAnyG_pure 19 32 (v := ?_) rfl (by kernel_rfl) rfl (by rfl) (fun w' => ?_) ?_
        rotate_left
        · go_simp <;> with_reducible rfl
        simp only [List.setIfInBounds_toArray, List.set_cons_zero, List.set_cons_succ]
        refine wpAnyG_pure 20 33 (v := ?_) rfl (by kernel_rfl) rfl (by rfl) (fun w' => ?_) ?_
        rotate_left
        · go_simp <;> with_reducible rfl
        simp only [List.setIfInBounds_toArray, List.set_cons_zero, List.set_cons_succ]
        refine wpAnyG_take 21 34 (v := ?_) rfl (by kernel_rfl) rfl (by rfl) (fun w' hG' => ?_) ?_
        rotate_left
        · have hx0 := Grew.cell hG' (show w2.drew.cell? _ = _ from h0)
          have hx1 := Grew.cell hG' (show w2.drew.cell? _ = _ from h1)
          have hy0 := Grew.cell hG' (show w2.drew.cell? _ = _ from s0)
          have hy1 := Grew.cell hG' (show w2.drew.cell? _ = _ from s1)
          have hy2 := Grew.cell hG' (show w2.drew.cell? _ = _ from s2)
          have hy3 := Grew.cell hG' (show w2.drew.cell? _ = _ from s3)
          have hy4 := Grew.cell hG' (show w2.drew.cell? _ = _ from s4)
          have hy5 := Grew.cell hG' (show w2.drew.cell? _ = _ from s5)
          have hz0 := Grew.cell hG' (show w2.drew.cell? _ = _ from y0)
          have hrt := Grew.cell hG' (show w2.drew.cell? _ = _ from rt)
          have hrf := Grew.cell hG' (show w2.drew.cell? _ = _ from rf)
          have hrg := Grew.cell hG' (show w2.drew.cell? _ = _ from rg)
          go_simp <;> with_reducible rfl
        simp only [List.setIfInBounds_toArray, List.set_cons_zero, List.set_cons_succ]
        refine wpAnyG_pure 22 35 (v := ?_) rfl (by kernel_rfl) rfl (by rfl) (fun w' => ?_) ?_
        rotate_left
        · go_simp <;> with_reducible rfl
        simp only [List.setIfInBounds_toArray, List.set_cons_zero, List.set_cons_succ]
        refine wpAnyG_take 23 36 (v := ?_) rfl (by kernel_rfl) rfl (by rfl) (fun w' hG' => ?_) ?_
        rotate_left
        · have hx0 := Grew.cell hG' (show w2.drew.cell? _ = _ from h0)
          have hx1 := Grew.cell hG' (show w2.drew.cell? _ = _ from h1)
          have hy0 := Grew.cell hG' (show w2.drew.cell? _ = _ from s0)
          have hy1 := Grew.cell hG' (show w2.drew.cell? _ = _ from s1)
          have hy2 := Grew.cell hG' (show w2.drew.cell? _ = _ from s2)
          have hy3 := Grew.cell hG' (show w2.drew.cell? _ = _ from s3)
          have hy4 := Grew.cell hG' (show w2.drew.cell? _ = _ from s4)
          have hy5 := Grew.cell hG' (show w2.drew.cell? _ = _ from s5)
          have hz0 := Grew.cell hG' (show w2.drew.cell? _ = _ from y0)
          have hrt := Grew.cell hG' (show w2.drew.cell? _ = _ from rt)
          have hrf := Grew.cell hG' (show w2.drew.cell? _ = _ from rf)
          have hrg := Grew.cell hG' (show w2.drew.cell? _ = _ from rg)
          go_simp <;> with_reducible rfl
        simp only [List.setIfInBounds_toArray, List.set_cons_zero, List.set_cons_succ]
        refine wpAnyG_pure 24 37 (v := ?_) rfl (by kernel_rfl) rfl (by rfl) (fun w' => ?_) ?_
        rotate_left
        · go_simp <;> with_reducible rfl
        simp only [List.setIfInBounds_toArray, List.set_cons_zero, List.set_cons_succ]
        refine wpAnyG_take 25 38 (v := ?_) rfl (by kernel_rfl) rfl (by rfl) (fun w' hG' => ?_) ?_
        rotate_left
        · have hx0 := Grew.cell hG' (show w2.drew.cell? _ = _ from h0)
          have hx1 := Grew.cell hG' (show w2.drew.cell? _ = _ from h1)
          have hy0 := Grew.cell hG' (show w2.drew.cell? _ = _ from s0)
          have hy1 := Grew.cell hG' (show w2.drew.cell? _ = _ from s1)
          have hy2 := Grew.cell hG' (show w2.drew.cell? _ = _ from s2)
          have hy3 := Grew.cell hG' (show w2.drew.cell? _ = _ from s3)
          have hy4 := Grew.cell hG' (show w2.drew.cell? _ = _ from s4)
          have hy5 := Grew.cell hG' (show w2.drew.cell? _ = _ from s5)
          have hz0 := Grew.cell hG' (show w2.drew.cell? _ = _ from y0)
          have hrt := Grew.cell hG' (show w2.drew.cell? _ = _ from rt)
          have hrf := Grew.cell hG' (show w2.drew.cell? _ = _ from rf)
          have hrg := Grew.cell hG' (show w2.drew.cell? _ = _ from rg)
          go_simp <;> with_reducible rfl
        simp only [List.setIfInBounds_toArray, List.set_cons_zero, List.set_cons_succ]
        refine wpAnyG_pure 26 39 (v := ?_) rfl (by kernel_rfl) rfl (by rfl) (fun w' => ?_) ?_
        rotate_left
        · go_simp <;> with_reducible rfl
        simp only [List.setIfInBounds_toArray, List.set_cons_zero, List.set_cons_succ]
        refine wpAnyG_take 27 40 (v := ?_) rfl (by kernel_rfl) rfl (by rfl) (fun w' hG' => ?_) ?_
        rotate_left
        · have hx0 := Grew.cell hG' (show w2.drew.cell? _ = _ from h0)
          have hx1 := Grew.cell hG' (show w2.drew.cell? _ = _ from h1)
          have hy0 := Grew.cell hG' (show w2.drew.cell? _ = _ from s0)
          have hy1 := Grew.cell hG' (show w2.drew.cell? _ = _ from s1)
          have hy2 := Grew.cell hG' (show w2.drew.cell? _ = _ from s2)
          have hy3 := Grew.cell hG' (show w2.drew.cell? _ = _ from s3)
          have hy4 := Grew.cell hG' (show w2.drew.cell? _ = _ from s4)
          have hy5 := Grew.cell hG' (show w2.drew.cell? _ = _ from s5)
          have hz0 := Grew.cell hG' (show w2.drew.cell? _ = _ from y0)
          have hrt := Grew.cell hG' (show w2.drew.cell? _ = _ from rt)
          have hrf := Grew.cell hG' (show w2.drew.cell? _ = _ from rf)
          have hrg := Grew.cell hG' (show w2.drew.cell? _ = _ from rg)
          go_simp <;> with_reducible rfl
        simp only [List.setIfInBounds_toArray, List.set_cons_zero, List.set_cons_succ]
        refine wpAnyG_pure 28 41 (v := ?_) rfl (by kernel_rfl) rfl (by rfl) (fun w' => ?_) ?_
        rotate_left
        · go_simp <;> with_reducible rfl
        simp only [List.setIfInBounds_toArray, List.set_cons_zero, List.set_cons_succ]
        refine wpAnyG_take 29 42 (v := ?_) rfl (by kernel_rfl) rfl (by rfl) (fun w' hG' => ?_) ?_
        rotate_left
        · have hx0 := Grew.cell hG' (show w2.drew.cell? _ = _ from h0)
          have hx1 := Grew.cell hG' (show w2.drew.cell? _ = _ from h1)
          have hy0 := Grew.cell hG' (show w2.drew.cell? _ = _ from s0)
          have hy1 := Grew.cell hG' (show w2.drew.cell? _ = _ from s1)
          have hy2 := Grew.cell hG' (show w2.drew.cell? _ = _ from s2)
          have hy3 := Grew.cell hG' (show w2.drew.cell? _ = _ from s3)
          have hy4 := Grew.cell hG' (show w2.drew.cell? _ = _ from s4)
          have hy5 := Grew.cell hG' (show w2.drew.cell? _ = _ from s5)
          have hz0 := Grew.cell hG' (show w2.drew.cell? _ = _ from y0)
          have hrt := Grew.cell hG' (show w2.drew.cell? _ = _ from rt)
          have hrf := Grew.cell hG' (show w2.drew.cell? _ = _ from rf)
          have hrg := Grew.cell hG' (show w2.drew.cell? _ = _ from rg)
          go_simp <;> with_reducible rfl
        simp only [List.setIfInBounds_toArray, List.set_cons_zero, List.set_cons_succ]
        refine wpAnyG_pure 30 43 (v := ?_) rfl (by kernel_rfl) rfl (by rfl) (fun w' => ?_) ?_
        rotate_left
        · go_simp <;> with_reducible rfl
        simp only [List.setIfInBounds_toArray, List.set_cons_zero, List.set_cons_succ]
        refine wpAnyG_take 31 44 (v := ?_) rfl (by kernel_rfl) rfl (by rfl) (fun w' hG' => ?_) ?_
        rotate_left
        · have hx0 := Grew.cell hG' (show w2.drew.cell? _ = _ from h0)
          have hx1 := Grew.cell hG' (show w2.drew.cell? _ = _ from h1)
          have hy0 := Grew.cell hG' (show w2.drew.cell? _ = _ from s0)
          have hy1 := Grew.cell hG' (show w2.drew.cell? _ = _ from s1)
          have hy2 := Grew.cell hG' (show w2.drew.cell? _ = _ from s2)
          have hy3 := Grew.cell hG' (show w2.drew.cell? _ = _ from s3)
          have hy4 := Grew.cell hG' (show w2.drew.cell? _ = _ from s4)
          have hy5 := Grew.cell hG' (show w2.drew.cell? _ = _ from s5)
          have hz0 := Grew.cell hG' (show w2.drew.cell? _ = _ from y0)
          have hrt := Grew.cell hG' (show w2.drew.cell? _ = _ from rt)
          have hrf := Grew.cell hG' (show w2.drew.cell? _ = _ from rf)
          have hrg := Grew.cell hG' (show w2.drew.cell? _ = _ from rg)
          go_simp <;> with_reducible rfl
        simp only [List.setIfInBounds_toArray, List.set_cons_zero, List.set_cons_succ]
        refine wpAnyG_pure 32 45 (v := ?_) rfl (by kernel_rfl) rfl (by rfl) (fun w' => ?_) ?_
        rotate_left
        · go_simp <;> with_reducible rfl
        simp only [List.setIfInBounds_toArray, List.set_cons_zero, List.set_cons_succ]
        refine wpAnyG_take 33 46 (v := ?_) rfl (by kernel_rfl) rfl (by rfl) (fun w' hG' => ?_) ?_
        rotate_left
        · have hx0 := Grew.cell hG' (show w2.drew.cell? _ = _ from h0)
          have hx1 := Grew.cell hG' (show w2.drew.cell? _ = _ from h1)
          have hy0 := Grew.cell hG' (show w2.drew.cell? _ = _ from s0)
          have hy1 := Grew.cell hG' (show w2.drew.cell? _ = _ from s1)
          have hy2 := Grew.cell hG' (show w2.drew.cell? _ = _ from s2)
          have hy3 := Grew.cell hG' (show w2.drew.cell? _ = _ from s3)
          have hy4 := Grew.cell hG' (show w2.drew.cell? _ = _ from s4)
          have hy5 := Grew.cell hG' (show w2.drew.cell? _ = _ from s5)
          have hz0 := Grew.cell hG' (show w2.drew.cell? _ = _ from y0)
          have hrt := Grew.cell hG' (show w2.drew.cell? _ = _ from rt)
          have hrf := Grew.cell hG' (show w2.drew.cell? _ = _ from rf)
          have hrg := Grew.cell hG' (show w2.drew.cell? _ = _ from rg)
          go_simp <;> with_reducible rfl
        simp only [List.setIfInBounds_toArray, List.set_cons_zero, List.set_cons_succ]
        refine wpAnyG_pure 34 47 (v := ?_) rfl (by kernel_rfl) rfl (by rfl) (fun w' => ?_) ?_
        rotate_left
        · go_simp <;> with_reducible rfl
        simp only [List.setIfInBounds_toArray, List.set_cons_zero, List.set_cons_succ]
        refine wpAnyG_pure 35 48 (v := ?_) rfl (by kernel_rfl) rfl (by rfl) (fun w' => ?_) ?_
        rotate_left
        · go_simp <;> with_reducible rfl
        simp only [List.setIfInBounds_toArray, List.set_cons_zero, List.set_cons_succ]
        refine wpAnyG_pure 36 49 (v := ?_) rfl (by kernel_rfl) rfl (by rfl) (fun w' => ?_) ?_
        rotate_left
        · go_simp <;> with_reducible rfl
        simp only [List.setIfInBounds_toArray, List.set_cons_zero, List.set_cons_succ]
        refine wpAnyG_pure 37 4 (v := ?_) rfl (by kernel_rfl) rfl (by rfl) (fun w' => ?_) ?_
        rotate_left
        · go_simp <;> with_reducible rfl
        simp only [List.setIfInBounds_toArray, List.set_cons_zero, List.set_cons_succ]
        refine wpAnyG_done (by kernel_rfl) ?_
        go_wp2_with fail
        go_ret
        rw [← HB3.out]
        exact ⟨rfl, k2.drew⟩
  · as_aux_lemma =>
    obtain rfl : false = b := by
      cases b with
      | false => rfl
      | true => exact absurd (HB.out.1 rfl).1 q1
    have q3 : ((t : Int) == yf) = false := by simp [q1]
    clear HB
    go_enter Try.func26, Try.ntmps26
    go_wp2_with fail
    go_upto_region 2 with fail
    refine wp_region_grow [] (fun _ => False) (by kernel_rfl) ?_
    simp only [List.size_toArray, List.length_cons, List.length_nil, Nat.reduceAdd]
    refine wpAnyG_pure 0 13 (v := ?_) rfl (by kernel_rfl) rfl (by rfl) (fun w' => ?_) ?_
    rotate_left
    · go_simp <;> with_reducible rfl
    simp only [List.setIfInBounds_toArray, List.set_cons_zero, List.set_cons_succ]
    refine wpAnyG_pure 1 14 (v := ?_) rfl (by kernel_rfl) rfl (by rfl) (fun w' => ?_) ?_
    rotate_left
    · go_simp <;> with_reducible rfl
    simp only [List.setIfInBounds_toArray, List.set_cons_zero, List.set_cons_succ]
    refine wpAnyG_take 2 15 (v := ?_) rfl (by kernel_rfl) rfl (by rfl) (fun w' hG' => ?_) ?_
    rotate_left
    · have hx0 := Grew.cell hG' (show w2.drew.cell? _ = _ from h0)
      have hx1 := Grew.cell hG' (show w2.drew.cell? _ = _ from h1)
      have hy0 := Grew.cell hG' (show w2.drew.cell? _ = _ from s0)
      have hy1 := Grew.cell hG' (show w2.drew.cell? _ = _ from s1)
      have hy2 := Grew.cell hG' (show w2.drew.cell? _ = _ from s2)
      have hy3 := Grew.cell hG' (show w2.drew.cell? _ = _ from s3)
      have hy4 := Grew.cell hG' (show w2.drew.cell? _ = _ from s4)
      have hy5 := Grew.cell hG' (show w2.drew.cell? _ = _ from s5)
      have hz0 := Grew.cell hG' (show w2.drew.cell? _ = _ from y0)
      have hrt := Grew.cell hG' (show w2.drew.cell? _ = _ from rt)
      have hrf := Grew.cell hG' (show w2.drew.cell? _ = _ from rf)
      have hrg := Grew.cell hG' (show w2.drew.cell? _ = _ from rg)
      go_simp <;> with_reducible rfl
    simp only [List.setIfInBounds_toArray, List.set_cons_zero, List.set_cons_succ]
    refine wpAnyG_pure 3 16 (v := ?_) rfl (by kernel_rfl) rfl (by rfl) (fun w' => ?_) ?_
    rotate_left
    · go_simp <;> with_reducible rfl
    simp only [List.setIfInBounds_toArray, List.set_cons_zero, List.set_cons_succ]
    refine wpAnyG_take 4 17 (v := ?_) rfl (by kernel_rfl) rfl (by rfl) (fun w' hG' => ?_) ?_
    rotate_left
    · have hx0 := Grew.cell hG' (show w2.drew.cell? _ = _ from h0)
      have hx1 := Grew.cell hG' (show w2.drew.cell? _ = _ from h1)
      have hy0 := Grew.cell hG' (show w2.drew.cell? _ = _ from s0)
      have hy1 := Grew.cell hG' (show w2.drew.cell? _ = _ from s1)
      have hy2 := Grew.cell hG' (show w2.drew.cell? _ = _ from s2)
      have hy3 := Grew.cell hG' (show w2.drew.cell? _ = _ from s3)
      have hy4 := Grew.cell hG' (show w2.drew.cell? _ = _ from s4)
      have hy5 := Grew.cell hG' (show w2.drew.cell? _ = _ from s5)
      have hz0 := Grew.cell hG' (show w2.drew.cell? _ = _ from y0)
      have hrt := Grew.cell hG' (show w2.drew.cell? _ = _ from rt)
      have hrf := Grew.cell hG' (show w2.drew.cell? _ = _ from rf)
      have hrg := Grew.cell hG' (show w2.drew.cell? _ = _ from rg)
      go_simp <;> with_reducible rfl
    simp only [List.setIfInBounds_toArray, List.set_cons_zero, List.set_cons_succ]
    refine wpAnyG_pure 5 18 (v := ?_) rfl (by kernel_rfl) rfl (by rfl) (fun w' => ?_) ?_
    rotate_left
    · go_simp <;> with_reducible rfl
    simp only [List.setIfInBounds_toArray, List.set_cons_zero, List.set_cons_succ]
    refine wpAnyG_pure 6 19 (v := ?_) rfl (by kernel_rfl) rfl (by rfl) (fun w' => ?_) ?_
    rotate_left
    · go_simp <;> with_reducible rfl
    simp only [List.setIfInBounds_toArray, List.set_cons_zero, List.set_cons_succ]
    refine wpAnyG_take 7 20 (v := ?_) rfl (by kernel_rfl) rfl (by rfl) (fun w' hG' => ?_) ?_
    rotate_left
    · have hx0 := Grew.cell hG' (show w2.drew.cell? _ = _ from h0)
      have hx1 := Grew.cell hG' (show w2.drew.cell? _ = _ from h1)
      have hy0 := Grew.cell hG' (show w2.drew.cell? _ = _ from s0)
      have hy1 := Grew.cell hG' (show w2.drew.cell? _ = _ from s1)
      have hy2 := Grew.cell hG' (show w2.drew.cell? _ = _ from s2)
      have hy3 := Grew.cell hG' (show w2.drew.cell? _ = _ from s3)
      have hy4 := Grew.cell hG' (show w2.drew.cell? _ = _ from s4)
      have hy5 := Grew.cell hG' (show w2.drew.cell? _ = _ from s5)
      have hz0 := Grew.cell hG' (show w2.drew.cell? _ = _ from y0)
      have hrt := Grew.cell hG' (show w2.drew.cell? _ = _ from rt)
      have hrf := Grew.cell hG' (show w2.drew.cell? _ = _ from rf)
      have hrg := Grew.cell hG' (show w2.drew.cell? _ = _ from rg)
      go_simp <;> with_reducible rfl
    simp only [List.setIfInBounds_toArray, List.set_cons_zero, List.set_cons_succ]
    refine wpAnyG_pure 8 21 (v := ?_) rfl (by kernel_rfl) rfl (by rfl) (fun w' => ?_) ?_
    rotate_left
    · go_simp <;> with_reducible rfl
    simp only [List.setIfInBounds_toArray, List.set_cons_zero, List.set_cons_succ]
    refine wpAnyG_pure 9 22 (v := ?_) rfl (by kernel_rfl) rfl (by rfl) (fun w' => ?_) ?_
    rotate_left
    · go_simp <;> with_reducible rfl
    simp only [List.setIfInBounds_toArray, List.set_cons_zero, List.set_cons_succ]
    refine wpAnyG_pass 10 23 rfl (by kernel_rfl) rfl (by rfl) ?_
    simp only [List.setIfInBounds_toArray, List.set_cons_zero, List.set_cons_succ]
    refine wpAnyG_pass 11 24 rfl (by kernel_rfl) rfl (by rfl) ?_
    simp only [List.setIfInBounds_toArray, List.set_cons_zero, List.set_cons_succ]
    refine wpAnyG_pass 12 25 rfl (by kernel_rfl) rfl (by rfl) ?_
    simp only [List.setIfInBounds_toArray, List.set_cons_zero, List.set_cons_succ]
    refine wpAnyG_pass 13 26 rfl (by kernel_rfl) rfl (by rfl) ?_
    simp only [List.setIfInBounds_toArray, List.set_cons_zero, List.set_cons_succ]
    refine wpAnyG_pass 14 27 rfl (by kernel_rfl) rfl (by rfl) ?_
    simp only [List.setIfInBounds_toArray, List.set_cons_zero, List.set_cons_succ]
    refine wpAnyG_pure 15 28 (v := ?_) rfl (by kernel_rfl) rfl (by rfl) (fun w' => ?_) ?_
    rotate_left
    · go_simp <;> with_reducible rfl
    simp only [List.setIfInBounds_toArray, List.set_cons_zero, List.set_cons_succ]
    refine wpAnyG_pure 16 29 (v := ?_) rfl (by kernel_rfl) rfl (by rfl) (fun w' => ?_) ?_
    rotate_left
    · go_simp <;> with_reducible rfl
    simp only [List.setIfInBounds_toArray, List.set_cons_zero, List.set_cons_succ]
    refine wpAnyG_pass 17 30 rfl (by kernel_rfl) rfl (by rfl) ?_
    simp only [List.setIfInBounds_toArray, List.set_cons_zero, List.set_cons_succ]
    refine wpAnyG_pass 18 31 rfl (by kernel_rfl) rfl (by rfl) ?_
    simp only [List.setIfInBounds_toArray, List.set_cons_zero, List.set_cons_succ]
    refine wpAnyG_pass 19 32 rfl (by kernel_rfl) rfl (by rfl) ?_
    simp only [List.setIfInBounds_toArray, List.set_cons_zero, List.set_cons_succ]
    refine wpAnyG_pass 20 33 rfl (by kernel_rfl) rfl (by rfl) ?_
    simp only [List.setIfInBounds_toArray, List.set_cons_zero, List.set_cons_succ]
    refine wpAnyG_pass 21 34 rfl (by kernel_rfl) rfl (by rfl) ?_
    simp only [List.setIfInBounds_toArray, List.set_cons_zero, List.set_cons_succ]
    refine wpAnyG_pass 22 35 rfl (by kernel_rfl) rfl (by rfl) ?_
    simp only [List.setIfInBounds_toArray, List.set_cons_zero, List.set_cons_succ]
    refine wpAnyG_pass 23 36 rfl (by kernel_rfl) rfl (by rfl) ?_
    simp only [List.setIfInBounds_toArray, List.set_cons_zero, List.set_cons_succ]
    refine wpAnyG_pass 24 37 rfl (by kernel_rfl) rfl (by rfl) ?_
    simp only [List.setIfInBounds_toArray, List.set_cons_zero, List.set_cons_succ]
    refine wpAnyG_pass 25 38 rfl (by kernel_rfl) rfl (by rfl) ?_
    simp only [List.setIfInBounds_toArray, List.set_cons_zero, List.set_cons_succ]
    refine wpAnyG_pass 26 39 rfl (by kernel_rfl) rfl (by rfl) ?_
    simp only [List.setIfInBounds_toArray, List.set_cons_zero, List.set_cons_succ]
    refine wpAnyG_pass 27 40 rfl (by kernel_rfl) rfl (by rfl) ?_
    simp only [List.setIfInBounds_toArray, List.set_cons_zero, List.set_cons_succ]
    refine wpAnyG_pass 28 41 rfl (by kernel_rfl) rfl (by rfl) ?_
    simp only [List.setIfInBounds_toArray, List.set_cons_zero, List.set_cons_succ]
    refine wpAnyG_pass 29 42 rfl (by kernel_rfl) rfl (by rfl) ?_
    simp only [List.setIfInBounds_toArray, List.set_cons_zero, List.set_cons_succ]
    refine wpAnyG_pass 30 43 rfl (by kernel_rfl) rfl (by rfl) ?_
    simp only [List.setIfInBounds_toArray, List.set_cons_zero, List.set_cons_succ]
    refine wpAnyG_pass 31 44 rfl (by kernel_rfl) rfl (by rfl) ?_
    simp only [List.setIfInBounds_toArray, List.set_cons_zero, List.set_cons_succ]
    refine wpAnyG_pass 32 45 rfl (by kernel_rfl) rfl (by rfl) ?_
    simp only [List.setIfInBounds_toArray, List.set_cons_zero, List.set_cons_succ]
    refine wpAnyG_pass 33 46 rfl (by kernel_rfl) rfl (by rfl) ?_
    simp only [List.setIfInBounds_toArray, List.set_cons_zero, List.set_cons_succ]
    refine wpAnyG_pass 34 47 rfl (by kernel_rfl) rfl (by rfl) ?_
    simp only [List.setIfInBounds_toArray, List.set_cons_zero, List.set_cons_succ]
    refine wpAnyG_pass 35 48 rfl (by kernel_rfl) rfl (by rfl) ?_
    simp only [List.setIfInBounds_toArray, List.set_cons_zero, List.set_cons_succ]
    refine wpAnyG_pure 36 49 (v := ?_) rfl (by kernel_rfl) rfl (by rfl) (fun w' => ?_) ?_
    rotate_left
    · go_simp <;> with_reducible rfl
    simp only [List.setIfInBounds_toArray, List.set_cons_zero, List.set_cons_succ]
    refine wpAnyG_pure 37 4 (v := ?_) rfl (by kernel_rfl) rfl (by rfl) (fun w' => ?_) ?_
    rotate_left
    · go_simp <;> with_reducible rfl
    simp only [List.setIfInBounds_toArray, List.set_cons_zero, List.set_cons_succ]
    refine wpAnyG_done (by kernel_rfl) ?_
    go_wp2_with fail
    go_ret
    exact ⟨rfl, k2.drew⟩
end Go.Proofs.Ytjbjomodponapaa
