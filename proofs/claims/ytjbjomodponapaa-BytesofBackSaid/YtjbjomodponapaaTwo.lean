/- Whether a shortcut is two others. -/
import Derived.Test.YtjbjomodponapaaHEdge
namespace Go.Proofs.Ytjbjomodponapaa
open Go.RowKit

set_option maxHeartbeats 8000000 in
set_option maxRecDepth 100000 in
theorem two_any (rk : List Int) (ss : List Sc) (Ar As : Option Addr) (cr cs : Nat) (s : Sc) (w : World) (hr : RowI w Ar rk) (hs : RowS w As ss) (hlr : rk.length ≤ 100000) (hls : ss.length ≤ 100000) (hin : ∀ x ∈ ss, inN rk.length x) :
    Calls Try.prog 37 #[.slice Ar rk.length cr, .slice As ss.length cs, scV s] w fun e w' => SaysB (twoOk rk ss s) e ∧ Grew w w' := by
  obtain ⟨sf, st, sw, se, sa, sb⟩ := s
  obtain ⟨n, hn⟩ : ∃ n, rk.length = n := ⟨_, rfl⟩
  obtain ⟨m, hm⟩ : ∃ n, ss.length = n := ⟨_, rfl⟩
  have HN := Lib.hid hn
  have HM := Lib.hid hm
  have HIN := Lib.hid hin
  have HRr := Lib.hid hr
  have HSr := Lib.hid hs
  rw [hn] at hlr ⊢
  rw [hm] at hls ⊢
  have k0 : Grew w ((w.alloc (.cells #[.slice As m cs] 26)).alloc (.cells #[i64 sf, i64 st, .int .u64 sw, i64 se, i64 sa, i64 sb] 66)) := ((Kept.refl _ _).alloc _).alloc _
  have bA := (Blk.new w 26 #[.slice As m cs]).alloc (.cells #[i64 sf, i64 st, .int .u64 sw, i64 se, i64 sa, i64 sb] 66)
  have bS := Blk.new (w.alloc (.cells #[.slice As m cs] 26)) 66 #[i64 sf, i64 st, .int .u64 sw, i64 se, i64 sa, i64 sb]
  rw [World.size_alloc] at bS
  obtain ⟨r0, hr0⟩ : ∃ r, w.heap.size = r := ⟨_, rfl⟩
  rw [hr0] at bA bS
  obtain ⟨W1, hW1⟩ : ∃ W, (w.alloc (.cells #[.slice As m cs] 26)).alloc (.cells #[i64 sf, i64 st, .int .u64 sw, i64 se, i64 sa, i64 sb] 66) = W := ⟨_, rfl⟩
  rw [hW1] at k0 bA bS
  have HCa := Lib.hid (there_any r0 As m cs sa W1 hls bA)
  have HCb := Lib.hid (there_any r0 As m cs sb W1 hls bA)
  have HK := Lib.hid k0
  have HbS := Lib.hid bS
  have a0 := bA.cell 0
  have s0 := bS.cell 0
  have s1 := bS.cell 1
  have s2 := bS.cell 2
  have s3 := bS.cell 3
  have s4 := bS.cell 4
  have s5 := bS.cell 5
  simp at a0 s0 s1 s2 s3 s4 s5
  have HbA := Lib.hid bA
  have hmf : ∀ (fn : Fn) (first cap : Array Value) (w : World), (Instr.makeFunc fn first cap).run Try.prog w = .ok (.func fn first cap) w := fun _ _ _ _ => rfl
  clear hr hs hin hn hm k0 bA bS
  show Calls Try.prog 37 #[.slice Ar n cr, .slice As m cs, .agg #[i64 sf, i64 st, .int .u64 sw, i64 se, i64 sa, i64 sb]] w fun e w' => SaysB (twoOk rk ss ⟨sf, st, sw, se, sa, sb⟩) e ∧ Grew w w'
  by_cases he : se = -1
  rotate_left
  · as_aux_lemma =>
    have hf : Hid (¬ twoOk rk ss ⟨sf, st, sw, se, sa, sb⟩) := fun ho => he ho.1
    have hq : (se != -1) = true := by simpa using he
    clear he
    go_enter Try.func37, Try.ntmps37
    go_wp2_with fail
    go_ret
    exact ⟨.no hf.out, HK.out⟩
  subst he
  have hq : ((-1 : Int) != -1) = false := rfl
  by_cases ha : 0 ≤ sa ∧ sa < (m : Int)
  rotate_left
  · as_aux_lemma =>
    have hf : Hid (¬ twoOk rk ss ⟨sf, st, sw, -1, sa, sb⟩) := fun ho => ha ⟨ho.2.1, by
      obtain ⟨h0, _, _, x, y, hx, _⟩ := ho.2
      have := get_lt hx
      rw [HM.out] at this
      simp only at this h0
      omega⟩
    rw [decide_eq_false ha] at HCa
    clear ha
    go_enter Try.func37, Try.ntmps37
    go_wp2_with fail
    refine HCa.out.mono ?_
    rintro e w' ⟨rfl, rfl⟩
    go_wp2_with fail
    go_ret
    exact ⟨.no hf.out, HK.out⟩
  rw [decide_eq_true ha] at HCa
  by_cases hb : 0 ≤ sb ∧ sb < (m : Int)
  rotate_left
  · as_aux_lemma =>
    have hf : Hid (¬ twoOk rk ss ⟨sf, st, sw, -1, sa, sb⟩) := fun ho => hb ⟨ho.2.2.1, by
      obtain ⟨_, h0, _, x, y, _, hx, _⟩ := ho.2
      have := get_lt hx
      rw [HM.out] at this
      simp only at this h0
      omega⟩
    rw [decide_eq_false hb] at HCb
    clear hb
    go_enter Try.func37, Try.ntmps37
    go_wp2_with fail
    refine HCa.out.mono ?_
    rintro e w' ⟨rfl, rfl⟩
    go_wp2_with fail
    refine HCb.out.mono ?_
    rintro e w' ⟨rfl, rfl⟩
    go_wp2_with fail
    go_ret
    exact ⟨.no hf.out, HK.out⟩
  rw [decide_eq_true hb] at HCb
  by_cases hft : sf = st
  · as_aux_lemma =>
    have hf : Hid (¬ twoOk rk ss ⟨sf, st, sw, -1, sa, sb⟩) := fun ho => ho.2.2.2.1 hft
    have hft2 : (sf == st) = true := by simpa using hft
    clear hft
    go_enter Try.func37, Try.ntmps37
    go_wp2_with fail
    refine HCa.out.mono ?_
    rintro e w' ⟨rfl, rfl⟩
    go_wp2_with fail
    refine HCb.out.mono ?_
    rintro e w' ⟨rfl, rfl⟩
    go_wp2_with fail
    go_ret
    exact ⟨.no hf.out, HK.out⟩
  have hft2 : (sf == st) = false := by simpa using hft
  as_aux_lemma =>
    obtain ⟨i, rfl⟩ := Int.eq_ofNat_of_zero_le ha.1
    obtain ⟨j, rfl⟩ := Int.eq_ofNat_of_zero_le hb.1
    have i0 : (0 : Int) ≤ (i : Int) := by omega
    have j0 : (0 : Int) ≤ (j : Int) := by omega
    have i1 : (i : Int) < (m : Int) := ha.2
    have j1 : (j : Int) < (m : Int) := hb.2
    obtain ⟨x, hx⟩ : ∃ e, ss[i]? = some e := ⟨_, List.getElem?_eq_getElem (by rw [HM.out]; omega)⟩
    obtain ⟨y, hy⟩ : ∃ e, ss[j]? = some e := ⟨_, List.getElem?_eq_getElem (by rw [HM.out]; omega)⟩
    have hiff : Hid (twoOk rk ss ⟨sf, st, sw, -1, i, j⟩ ↔ (x.from' = sf ∧ x.to' = y.from' ∧ y.to' = st ∧ wrapW (x.w + y.w) = sw ∧ rk.getD x.to'.toNat 0 < min (rk.getD sf.toNat 0) (rk.getD st.toNat 0))) := by
      show _ ↔ _
      constructor
      · rintro ⟨_, _, _, _, x', y', hx', hy', r⟩
        simp only [Int.toNat_natCast] at hx' hy'
        rw [hx] at hx'
        rw [hy] at hy'
        cases hx'
        cases hy'
        exact r
      · intro r
        exact ⟨rfl, i0, j0, hft, x, y, by simpa using hx, by simpa using hy, r⟩
    obtain ⟨bA', oA', hAs, hb', x0, x1, x2, x3, x4, x5⟩ := HSr.out i x hx
    obtain ⟨bB', oB', hBs, hb'', y0, y1, y2, y3, y4, y5⟩ := HSr.out j y hy
    obtain ⟨rfl, rfl⟩ : bB' = bA' ∧ oB' = oA' := by rw [hAs] at hBs; simp at hBs; exact ⟨hBs.1.symm, hBs.2.symm⟩
    have Hb : Hid (bB' < W1.heap.size) := Nat.lt_of_lt_of_le hb' HK.out.size
    have inx := HIN.out x (List.mem_of_getElem? hx)
    have iny := HIN.out y (List.mem_of_getElem? hy)
    rw [HN.out] at inx iny
    unfold inN at inx iny
    subst hAs
    replace x0 := Grew.cell HK.out x0
    replace x1 := Grew.cell HK.out x1
    replace x2 := Grew.cell HK.out x2
    replace x3 := Grew.cell HK.out x3
    replace x4 := Grew.cell HK.out x4
    replace x5 := Grew.cell HK.out x5
    replace y0 := Grew.cell HK.out y0
    replace y1 := Grew.cell HK.out y1
    replace y2 := Grew.cell HK.out y2
    replace y3 := Grew.cell HK.out y3
    replace y4 := Grew.cell HK.out y4
    replace y5 := Grew.cell HK.out y5
    clear ha hb hft hx hy hBs hb' hb'' HSr
    have hcell : ∀ (a : Addr) (v : Value), W1.cell? a = some v → a.block < W1.heap.size → (∀ o, (W1.alloc o).cell? a = some v) ∧ ∀ o q, ((W1.alloc o).alloc q).cell? a = some v := fun a v ha hb => by
      have h1 : ∀ o, (W1.alloc o).cell? a = some v := fun o => ((Kept.refl (fun _ => False) W1).alloc o).cell ha (fun h => h)
      exact ⟨h1, fun o q => ((Kept.refl (fun _ => False) (W1.alloc o)).alloc q).cell (h1 o) (fun h => h)⟩
    obtain ⟨x0A, x0B⟩ := hcell _ _ x0 Hb.out
    obtain ⟨x1A, x1B⟩ := hcell _ _ x1 Hb.out
    obtain ⟨x2A, x2B⟩ := hcell _ _ x2 Hb.out
    obtain ⟨x3A, x3B⟩ := hcell _ _ x3 Hb.out
    obtain ⟨x4A, x4B⟩ := hcell _ _ x4 Hb.out
    obtain ⟨x5A, x5B⟩ := hcell _ _ x5 Hb.out
    obtain ⟨y0A, y0B⟩ := hcell _ _ y0 Hb.out
    obtain ⟨y1A, y1B⟩ := hcell _ _ y1 Hb.out
    obtain ⟨y2A, y2B⟩ := hcell _ _ y2 Hb.out
    obtain ⟨y3A, y3B⟩ := hcell _ _ y3 Hb.out
    obtain ⟨y4A, y4B⟩ := hcell _ _ y4 Hb.out
    obtain ⟨y5A, y5B⟩ := hcell _ _ y5 Hb.out
    obtain ⟨s4A, s4B⟩ := hcell _ _ s4 HbS.out.lt
    obtain ⟨s5A, s5B⟩ := hcell _ _ s5 HbS.out.lt
    obtain ⟨a0A, a0B⟩ := hcell _ _ a0 HbA.out.lt
    clear hcell
    go_enter Try.func37, Try.ntmps37
    go_wp2_with fail
    refine HCa.out.mono ?_
    rintro e w' ⟨rfl, rfl⟩
    go_wp2_with fail
    refine HCb.out.mono ?_
    rintro e w' ⟨rfl, rfl⟩
    clear HCa HCb
    go_upto_region 4 with fail
    go_cut [8, 9] (fun v8 v9 wx => ∃ gx gy : Nat, v8 = pt gx ∧ v9 = pt gy ∧ Hid (Blk wx gx 66 #[i64 x.from', i64 x.to', .int .u64 x.w, i64 x.edge, i64 x.a, i64 x.b] ∧ Blk wx gy 66 #[i64 y.from', i64 y.to', .int .u64 y.w, i64 y.edge, i64 y.a, i64 y.b] ∧
      Blk wx (r0 + 1) 66 #[i64 sf, i64 st, .int .u64 sw, i64 (-1), i64 i, i64 j] ∧ Grew W1 wx))
    case first =>
      go_region
      all_goals go_wp2_with fail
      all_goals go_meet
      · have n1 := Blk.new W1 66 #[i64 x.from', i64 x.to', .int .u64 x.w, i64 x.edge, i64 x.a, i64 x.b]
        have n2 := Blk.new (W1.alloc (.cells #[i64 x.from', i64 x.to', .int .u64 x.w, i64 x.edge, i64 x.a, i64 x.b] 66)) 66 #[i64 y.from', i64 y.to', .int .u64 y.w, i64 y.edge, i64 y.a, i64 y.b]
        rw [World.size_alloc] at n2
        exact ⟨_, _, rfl, rfl, n1.alloc _, n2, (HbS.out.alloc _).alloc _, (((Kept.refl _ W1).alloc _).alloc _).drew⟩
      · have n1 := Blk.new W1 66 #[i64 y.from', i64 y.to', .int .u64 y.w, i64 y.edge, i64 y.a, i64 y.b]
        have n2 := Blk.new (W1.alloc (.cells #[i64 y.from', i64 y.to', .int .u64 y.w, i64 y.edge, i64 y.a, i64 y.b] 66)) 66 #[i64 x.from', i64 x.to', .int .u64 x.w, i64 x.edge, i64 x.a, i64 x.b]
        rw [World.size_alloc] at n2
        exact ⟨_, _, rfl, rfl, n2, n1.alloc _, (HbS.out.alloc _).alloc _, (((Kept.refl _ W1).alloc _).alloc _).drew⟩
    case rest =>
      obtain ⟨gx, gy, rfl, rfl, hS⟩ := hcut
      have HBx := Lib.hid hS.out.1
      have HBy := Lib.hid hS.out.2.1
      have HBs := Lib.hid hS.out.2.2.1
      have HKc := Lib.hid (HK.out.trans hS.out.2.2.2)
      clear hS x0 x0A x0B x1 x1A x1B x2 x2A x2B x3 x3A x3B x4 x4A x4B x5 x5A x5B y0 y0A y0B y1 y1A y1B y2 y2A y2B y3 y3A y3B y4 y4A y4B y5 y5A y5B s4A s4B s5A s5B a0A a0B s0 s1 s2 s3 s4 s5 a0 HbS HbA HK
      have x0 := HBx.out.cell 0
      have x1 := HBx.out.cell 1
      have x2 := HBx.out.cell 2
      have y0 := HBy.out.cell 0
      have y1 := HBy.out.cell 1
      have y2 := HBy.out.cell 2
      have s0 := HBs.out.cell 0
      have s1 := HBs.out.cell 1
      have s2 := HBs.out.cell 2
      simp at x0 x1 x2 y0 y1 y2 s0 s1 s2
      clear HBx HBy HBs
      obtain ⟨xf, xt, xw, xe, xa, xb⟩ := x
      obtain ⟨yf, yt, yw, ye, ya, yb⟩ := y
      simp only at *
      by_cases d1 : xf = sf
      rotate_left
      · as_aux_lemma =>
        have hf : Hid (¬ twoOk rk ss ⟨sf, st, sw, -1, i, j⟩) := fun h => d1 (hiff.out.1 h).1
        have hd : (xf != sf) = true := by simpa using d1
        clear d1 hiff
        go_wp2_with fail
        go_ret
        exact ⟨.no hf.out, HKc.out⟩
      have e1 : (xf != sf) = false := by simpa using d1
      by_cases d2 : xt = yf
      rotate_left
      · as_aux_lemma =>
        have hf : Hid (¬ twoOk rk ss ⟨sf, st, sw, -1, i, j⟩) := fun h => d2 (hiff.out.1 h).2.1
        have hd : (xt != yf) = true := by simpa using d2
        clear d1 d2 hiff
        go_wp2_with fail
        go_ret
        exact ⟨.no hf.out, HKc.out⟩
      have e2 : (xt != yf) = false := by simpa using d2
      by_cases d3 : yt = st
      rotate_left
      · as_aux_lemma =>
        have hf : Hid (¬ twoOk rk ss ⟨sf, st, sw, -1, i, j⟩) := fun h => d3 (hiff.out.1 h).2.2.1
        have hd : (yt != st) = true := by simpa using d3
        clear d1 d2 d3 hiff
        go_wp2_with fail
        go_ret
        exact ⟨.no hf.out, HKc.out⟩
      have e3 : (yt != st) = false := by simpa using d3
      by_cases d4 : wrapW (xw + yw) = sw
      rotate_left
      · as_aux_lemma =>
        have hf : Hid (¬ twoOk rk ss ⟨sf, st, sw, -1, i, j⟩) := fun h => d4 (hiff.out.1 h).2.2.2.1
        have hd : (IntKind.u64.wrap (xw + yw) != sw) = true := by
          have d4' : ¬ IntKind.u64.wrap (xw + yw) = sw := d4
          simpa using d4'
        clear d1 d2 d3 d4 hiff
        go_wp2_with fail
        go_ret
        exact ⟨.no hf.out, HKc.out⟩
      have e4 : (IntKind.u64.wrap (xw + yw) != sw) = false := by
        have d4' : IntKind.u64.wrap (xw + yw) = sw := d4
        simpa using d4'
      as_aux_lemma =>
        have hsf : 0 ≤ sf ∧ sf < (n : Int) := by omega
        have hst : 0 ≤ st ∧ st < (n : Int) := by omega
        obtain ⟨t, rfl⟩ := Int.eq_ofNat_of_zero_le inx.2.2.1
        obtain ⟨f, rfl⟩ := Int.eq_ofNat_of_zero_le hsf.1
        obtain ⟨g, rfl⟩ := Int.eq_ofNat_of_zero_le hst.1
        have a1 : (t : Int) < (n : Int) := inx.2.2.2
        have a2 : (f : Int) < (n : Int) := hsf.2
        have a3 : (g : Int) < (n : Int) := hst.2
        have a4 : (0 : Int) ≤ (t : Int) := by omega
        have a5 : (0 : Int) ≤ (f : Int) := by omega
        have a6 : (0 : Int) ≤ (g : Int) := by omega
        have hrow := HRr.out.grew HKc.out
        obtain ⟨br, ofr, hAr, _, rt⟩ := hrow _ _ (rank_at a4 (by rw [HN.out]; exact a1))
        obtain ⟨br2, ofr2, hAr2, _, rf⟩ := hrow _ _ (rank_at a5 (by rw [HN.out]; exact a2))
        obtain ⟨br3, ofr3, hAr3, _, rg⟩ := hrow _ _ (rank_at a6 (by rw [HN.out]; exact a3))
        rw [hAr] at hAr2 hAr3
        cases hAr2
        cases hAr3
        subst hAr
        simp only [Int.toNat_natCast] at rt rf rg
        have hB : Hid (twoOk rk ss ⟨f, g, sw, -1, i, j⟩ ↔ rk.getD t 0 < min (rk.getD f 0) (rk.getD g 0)) := by
          show _ ↔ _
          rw [hiff.out]
          exact ⟨fun h => by simpa using h.2.2.2.2, fun h => ⟨d1, d2, d3, d4, by simpa using h⟩⟩
        obtain ⟨rt', hrt⟩ : ∃ q, rk.getD t 0 = q := ⟨_, rfl⟩
        obtain ⟨rf', hrf⟩ : ∃ q, rk.getD f 0 = q := ⟨_, rfl⟩
        obtain ⟨rg', hrg⟩ : ∃ q, rk.getD g 0 = q := ⟨_, rfl⟩
        rw [hrt] at rt hB
        rw [hrf] at rf hB
        rw [hrg] at rg hB
        clear hrow hrt hrf hrg hiff d1 d2 d3 d4 hsf hst inx iny
        rcases Int.lt_or_le rg' rf' with mm | mm
        · have hC : Hid (rt' < rg' ↔ twoOk rk ss ⟨f, g, sw, -1, i, j⟩) := by
            show _ ↔ _
            rw [hB.out, Int.min_eq_right (by omega)]
          clear hB
          go_upto_region 7 with fail
          refine wp_region_grow [] (fun _ => False) (by kernel_rfl) ?_
          simp only [List.size_toArray, List.length_cons, List.length_nil, Nat.reduceAdd]
          refine wpAnyG_pure 0 74 (v := ?_) rfl (by kernel_rfl) rfl (by rfl) (fun w' => ?_) ?_
          rotate_left
          · go_simp <;> with_reducible rfl
          simp only [List.setIfInBounds_toArray, List.set_cons_zero, List.set_cons_succ]
          refine wpAnyG_pure 1 75 (v := ?_) rfl (by kernel_rfl) rfl (by rfl) (fun w' => ?_) ?_
          rotate_left
          · go_simp <;> with_reducible rfl
          simp only [List.setIfInBounds_toArray, List.set_cons_zero, List.set_cons_succ]
          refine wpAnyG_take 2 76 (v := ?_) rfl (by kernel_rfl) rfl (by rfl) (fun w' hG' => ?_) ?_
          rotate_left
          · have hx1 := Grew.cell hG' (show wc.drew.cell? _ = _ from x1)
            have hs0 := Grew.cell hG' (show wc.drew.cell? _ = _ from s0)
            have hs1 := Grew.cell hG' (show wc.drew.cell? _ = _ from s1)
            have hrt := Grew.cell hG' (show wc.drew.cell? _ = _ from rt)
            have hrf := Grew.cell hG' (show wc.drew.cell? _ = _ from rf)
            have hrg := Grew.cell hG' (show wc.drew.cell? _ = _ from rg)
            go_simp <;> with_reducible rfl
          simp only [List.setIfInBounds_toArray, List.set_cons_zero, List.set_cons_succ]
          refine wpAnyG_pure 3 77 (v := ?_) rfl (by kernel_rfl) rfl (by rfl) (fun w' => ?_) ?_
          rotate_left
          · go_simp <;> with_reducible rfl
          simp only [List.setIfInBounds_toArray, List.set_cons_zero, List.set_cons_succ]
          refine wpAnyG_take 4 78 (v := ?_) rfl (by kernel_rfl) rfl (by rfl) (fun w' hG' => ?_) ?_
          rotate_left
          · have hx1 := Grew.cell hG' (show wc.drew.cell? _ = _ from x1)
            have hs0 := Grew.cell hG' (show wc.drew.cell? _ = _ from s0)
            have hs1 := Grew.cell hG' (show wc.drew.cell? _ = _ from s1)
            have hrt := Grew.cell hG' (show wc.drew.cell? _ = _ from rt)
            have hrf := Grew.cell hG' (show wc.drew.cell? _ = _ from rf)
            have hrg := Grew.cell hG' (show wc.drew.cell? _ = _ from rg)
            go_simp <;> with_reducible rfl
          simp only [List.setIfInBounds_toArray, List.set_cons_zero, List.set_cons_succ]
          refine wpAnyG_pure 5 79 (v := ?_) rfl (by kernel_rfl) rfl (by rfl) (fun w' => ?_) ?_
          rotate_left
          · go_simp <;> with_reducible rfl
          simp only [List.setIfInBounds_toArray, List.set_cons_zero, List.set_cons_succ]
          refine wpAnyG_pure 6 80 (v := ?_) rfl (by kernel_rfl) rfl (by rfl) (fun w' => ?_) ?_
          rotate_left
          · go_simp <;> with_reducible rfl
          simp only [List.setIfInBounds_toArray, List.set_cons_zero, List.set_cons_succ]
          refine wpAnyG_take 7 81 (v := ?_) rfl (by kernel_rfl) rfl (by rfl) (fun w' hG' => ?_) ?_
          rotate_left
          · have hx1 := Grew.cell hG' (show wc.drew.cell? _ = _ from x1)
            have hs0 := Grew.cell hG' (show wc.drew.cell? _ = _ from s0)
            have hs1 := Grew.cell hG' (show wc.drew.cell? _ = _ from s1)
            have hrt := Grew.cell hG' (show wc.drew.cell? _ = _ from rt)
            have hrf := Grew.cell hG' (show wc.drew.cell? _ = _ from rf)
            have hrg := Grew.cell hG' (show wc.drew.cell? _ = _ from rg)
            go_simp <;> with_reducible rfl
          simp only [List.setIfInBounds_toArray, List.set_cons_zero, List.set_cons_succ]
          refine wpAnyG_pure 8 82 (v := ?_) rfl (by kernel_rfl) rfl (by rfl) (fun w' => ?_) ?_
          rotate_left
          · go_simp <;> with_reducible rfl
          simp only [List.setIfInBounds_toArray, List.set_cons_zero, List.set_cons_succ]
          refine wpAnyG_take 9 83 (v := ?_) rfl (by kernel_rfl) rfl (by rfl) (fun w' hG' => ?_) ?_
          rotate_left
          · have hx1 := Grew.cell hG' (show wc.drew.cell? _ = _ from x1)
            have hs0 := Grew.cell hG' (show wc.drew.cell? _ = _ from s0)
            have hs1 := Grew.cell hG' (show wc.drew.cell? _ = _ from s1)
            have hrt := Grew.cell hG' (show wc.drew.cell? _ = _ from rt)
            have hrf := Grew.cell hG' (show wc.drew.cell? _ = _ from rf)
            have hrg := Grew.cell hG' (show wc.drew.cell? _ = _ from rg)
            go_simp <;> with_reducible rfl
          simp only [List.setIfInBounds_toArray, List.set_cons_zero, List.set_cons_succ]
          refine wpAnyG_pure 10 84 (v := ?_) rfl (by kernel_rfl) rfl (by rfl) (fun w' => ?_) ?_
          rotate_left
          · go_simp <;> with_reducible rfl
          simp only [List.setIfInBounds_toArray, List.set_cons_zero, List.set_cons_succ]
          refine wpAnyG_pure 11 85 (v := ?_) rfl (by kernel_rfl) rfl (by rfl) (fun w' => ?_) ?_
          rotate_left
          · go_simp <;> with_reducible rfl
          simp only [List.setIfInBounds_toArray, List.set_cons_zero, List.set_cons_succ]
          refine wpAnyG_take 12 86 (v := ?_) rfl (by kernel_rfl) rfl (by rfl) (fun w' hG' => ?_) ?_
          rotate_left
          · have hx1 := Grew.cell hG' (show wc.drew.cell? _ = _ from x1)
            have hs0 := Grew.cell hG' (show wc.drew.cell? _ = _ from s0)
            have hs1 := Grew.cell hG' (show wc.drew.cell? _ = _ from s1)
            have hrt := Grew.cell hG' (show wc.drew.cell? _ = _ from rt)
            have hrf := Grew.cell hG' (show wc.drew.cell? _ = _ from rf)
            have hrg := Grew.cell hG' (show wc.drew.cell? _ = _ from rg)
            go_simp <;> with_reducible rfl
          simp only [List.setIfInBounds_toArray, List.set_cons_zero, List.set_cons_succ]
          refine wpAnyG_pure 13 87 (v := ?_) rfl (by kernel_rfl) rfl (by rfl) (fun w' => ?_) ?_
          rotate_left
          · go_simp <;> with_reducible rfl
          simp only [List.setIfInBounds_toArray, List.set_cons_zero, List.set_cons_succ]
          refine wpAnyG_take 14 88 (v := ?_) rfl (by kernel_rfl) rfl (by rfl) (fun w' hG' => ?_) ?_
          rotate_left
          · have hx1 := Grew.cell hG' (show wc.drew.cell? _ = _ from x1)
            have hs0 := Grew.cell hG' (show wc.drew.cell? _ = _ from s0)
            have hs1 := Grew.cell hG' (show wc.drew.cell? _ = _ from s1)
            have hrt := Grew.cell hG' (show wc.drew.cell? _ = _ from rt)
            have hrf := Grew.cell hG' (show wc.drew.cell? _ = _ from rf)
            have hrg := Grew.cell hG' (show wc.drew.cell? _ = _ from rg)
            go_simp <;> with_reducible rfl
          simp only [List.setIfInBounds_toArray, List.set_cons_zero, List.set_cons_succ]
          refine wpAnyG_pure 15 89 (v := ?_) rfl (by kernel_rfl) rfl (by rfl) (fun w' => ?_) ?_
          rotate_left
          · go_simp <;> with_reducible rfl
          simp only [List.setIfInBounds_toArray, List.set_cons_zero, List.set_cons_succ]
          refine wpAnyG_pure 16 90 (v := ?_) rfl (by kernel_rfl) rfl (by rfl) (fun w' => ?_) ?_
          rotate_left
          · go_simp <;> with_reducible rfl
          simp only [List.setIfInBounds_toArray, List.set_cons_zero, List.set_cons_succ]
          refine wpAnyG_pure 17 6 (v := ?_) rfl (by kernel_rfl) rfl (by rfl) (fun w' => ?_) ?_
          rotate_left
          · go_simp <;> with_reducible rfl
          simp only [List.setIfInBounds_toArray, List.set_cons_zero, List.set_cons_succ]
          refine wpAnyG_done (by kernel_rfl) ?_
          go_wp2_with fail
          go_ret
          exact ⟨⟨_, rfl, by rw [decide_eq_true_iff]; exact hC.out⟩, HKc.out.drew⟩
        · have hC : Hid (rt' < rf' ↔ twoOk rk ss ⟨f, g, sw, -1, i, j⟩) := by
            show _ ↔ _
            rw [hB.out, Int.min_eq_left mm]
          clear hB
          go_upto_region 7 with fail
          refine wp_region_grow [] (fun _ => False) (by kernel_rfl) ?_
          simp only [List.size_toArray, List.length_cons, List.length_nil, Nat.reduceAdd]
          refine wpAnyG_pure 0 74 (v := ?_) rfl (by kernel_rfl) rfl (by rfl) (fun w' => ?_) ?_
          rotate_left
          · go_simp <;> with_reducible rfl
          simp only [List.setIfInBounds_toArray, List.set_cons_zero, List.set_cons_succ]
          refine wpAnyG_pure 1 75 (v := ?_) rfl (by kernel_rfl) rfl (by rfl) (fun w' => ?_) ?_
          rotate_left
          · go_simp <;> with_reducible rfl
          simp only [List.setIfInBounds_toArray, List.set_cons_zero, List.set_cons_succ]
          refine wpAnyG_take 2 76 (v := ?_) rfl (by kernel_rfl) rfl (by rfl) (fun w' hG' => ?_) ?_
          rotate_left
          · have hx1 := Grew.cell hG' (show wc.drew.cell? _ = _ from x1)
            have hs0 := Grew.cell hG' (show wc.drew.cell? _ = _ from s0)
            have hs1 := Grew.cell hG' (show wc.drew.cell? _ = _ from s1)
            have hrt := Grew.cell hG' (show wc.drew.cell? _ = _ from rt)
            have hrf := Grew.cell hG' (show wc.drew.cell? _ = _ from rf)
            have hrg := Grew.cell hG' (show wc.drew.cell? _ = _ from rg)
            go_simp <;> with_reducible rfl
          simp only [List.setIfInBounds_toArray, List.set_cons_zero, List.set_cons_succ]
          refine wpAnyG_pure 3 77 (v := ?_) rfl (by kernel_rfl) rfl (by rfl) (fun w' => ?_) ?_
          rotate_left
          · go_simp <;> with_reducible rfl
          simp only [List.setIfInBounds_toArray, List.set_cons_zero, List.set_cons_succ]
          refine wpAnyG_take 4 78 (v := ?_) rfl (by kernel_rfl) rfl (by rfl) (fun w' hG' => ?_) ?_
          rotate_left
          · have hx1 := Grew.cell hG' (show wc.drew.cell? _ = _ from x1)
            have hs0 := Grew.cell hG' (show wc.drew.cell? _ = _ from s0)
            have hs1 := Grew.cell hG' (show wc.drew.cell? _ = _ from s1)
            have hrt := Grew.cell hG' (show wc.drew.cell? _ = _ from rt)
            have hrf := Grew.cell hG' (show wc.drew.cell? _ = _ from rf)
            have hrg := Grew.cell hG' (show wc.drew.cell? _ = _ from rg)
            go_simp <;> with_reducible rfl
          simp only [List.setIfInBounds_toArray, List.set_cons_zero, List.set_cons_succ]
          refine wpAnyG_pure 5 79 (v := ?_) rfl (by kernel_rfl) rfl (by rfl) (fun w' => ?_) ?_
          rotate_left
          · go_simp <;> with_reducible rfl
          simp only [List.setIfInBounds_toArray, List.set_cons_zero, List.set_cons_succ]
          refine wpAnyG_pure 6 80 (v := ?_) rfl (by kernel_rfl) rfl (by rfl) (fun w' => ?_) ?_
          rotate_left
          · go_simp <;> with_reducible rfl
          simp only [List.setIfInBounds_toArray, List.set_cons_zero, List.set_cons_succ]
          refine wpAnyG_take 7 81 (v := ?_) rfl (by kernel_rfl) rfl (by rfl) (fun w' hG' => ?_) ?_
          rotate_left
          · have hx1 := Grew.cell hG' (show wc.drew.cell? _ = _ from x1)
            have hs0 := Grew.cell hG' (show wc.drew.cell? _ = _ from s0)
            have hs1 := Grew.cell hG' (show wc.drew.cell? _ = _ from s1)
            have hrt := Grew.cell hG' (show wc.drew.cell? _ = _ from rt)
            have hrf := Grew.cell hG' (show wc.drew.cell? _ = _ from rf)
            have hrg := Grew.cell hG' (show wc.drew.cell? _ = _ from rg)
            go_simp <;> with_reducible rfl
          simp only [List.setIfInBounds_toArray, List.set_cons_zero, List.set_cons_succ]
          refine wpAnyG_pure 8 82 (v := ?_) rfl (by kernel_rfl) rfl (by rfl) (fun w' => ?_) ?_
          rotate_left
          · go_simp <;> with_reducible rfl
          simp only [List.setIfInBounds_toArray, List.set_cons_zero, List.set_cons_succ]
          refine wpAnyG_take 9 83 (v := ?_) rfl (by kernel_rfl) rfl (by rfl) (fun w' hG' => ?_) ?_
          rotate_left
          · have hx1 := Grew.cell hG' (show wc.drew.cell? _ = _ from x1)
            have hs0 := Grew.cell hG' (show wc.drew.cell? _ = _ from s0)
            have hs1 := Grew.cell hG' (show wc.drew.cell? _ = _ from s1)
            have hrt := Grew.cell hG' (show wc.drew.cell? _ = _ from rt)
            have hrf := Grew.cell hG' (show wc.drew.cell? _ = _ from rf)
            have hrg := Grew.cell hG' (show wc.drew.cell? _ = _ from rg)
            go_simp <;> with_reducible rfl
          simp only [List.setIfInBounds_toArray, List.set_cons_zero, List.set_cons_succ]
          refine wpAnyG_pure 10 84 (v := ?_) rfl (by kernel_rfl) rfl (by rfl) (fun w' => ?_) ?_
          rotate_left
          · go_simp <;> with_reducible rfl
          simp only [List.setIfInBounds_toArray, List.set_cons_zero, List.set_cons_succ]
          refine wpAnyG_pure 11 85 (v := ?_) rfl (by kernel_rfl) rfl (by rfl) (fun w' => ?_) ?_
          rotate_left
          · go_simp <;> with_reducible rfl
          simp only [List.setIfInBounds_toArray, List.set_cons_zero, List.set_cons_succ]
          refine wpAnyG_take 12 86 (v := ?_) rfl (by kernel_rfl) rfl (by rfl) (fun w' hG' => ?_) ?_
          rotate_left
          · have hx1 := Grew.cell hG' (show wc.drew.cell? _ = _ from x1)
            have hs0 := Grew.cell hG' (show wc.drew.cell? _ = _ from s0)
            have hs1 := Grew.cell hG' (show wc.drew.cell? _ = _ from s1)
            have hrt := Grew.cell hG' (show wc.drew.cell? _ = _ from rt)
            have hrf := Grew.cell hG' (show wc.drew.cell? _ = _ from rf)
            have hrg := Grew.cell hG' (show wc.drew.cell? _ = _ from rg)
            go_simp <;> with_reducible rfl
          simp only [List.setIfInBounds_toArray, List.set_cons_zero, List.set_cons_succ]
          refine wpAnyG_pure 13 87 (v := ?_) rfl (by kernel_rfl) rfl (by rfl) (fun w' => ?_) ?_
          rotate_left
          · go_simp <;> with_reducible rfl
          simp only [List.setIfInBounds_toArray, List.set_cons_zero, List.set_cons_succ]
          refine wpAnyG_take 14 88 (v := ?_) rfl (by kernel_rfl) rfl (by rfl) (fun w' hG' => ?_) ?_
          rotate_left
          · have hx1 := Grew.cell hG' (show wc.drew.cell? _ = _ from x1)
            have hs0 := Grew.cell hG' (show wc.drew.cell? _ = _ from s0)
            have hs1 := Grew.cell hG' (show wc.drew.cell? _ = _ from s1)
            have hrt := Grew.cell hG' (show wc.drew.cell? _ = _ from rt)
            have hrf := Grew.cell hG' (show wc.drew.cell? _ = _ from rf)
            have hrg := Grew.cell hG' (show wc.drew.cell? _ = _ from rg)
            go_simp <;> with_reducible rfl
          simp only [List.setIfInBounds_toArray, List.set_cons_zero, List.set_cons_succ]
          refine wpAnyG_pure 15 89 (v := ?_) rfl (by kernel_rfl) rfl (by rfl) (fun w' => ?_) ?_
          rotate_left
          · go_simp <;> with_reducible rfl
          simp only [List.setIfInBounds_toArray, List.set_cons_zero, List.set_cons_succ]
          refine wpAnyG_pure 16 90 (v := ?_) rfl (by kernel_rfl) rfl (by rfl) (fun w' => ?_) ?_
          rotate_left
          · go_simp <;> with_reducible rfl
          simp only [List.setIfInBounds_toArray, List.set_cons_zero, List.set_cons_succ]
          refine wpAnyG_pure 17 6 (v := ?_) rfl (by kernel_rfl) rfl (by rfl) (fun w' => ?_) ?_
          rotate_left
          · go_simp <;> with_reducible rfl
          simp only [List.setIfInBounds_toArray, List.set_cons_zero, List.set_cons_succ]
          refine wpAnyG_done (by kernel_rfl) ?_
          go_wp2_with fail
          go_ret
          exact ⟨⟨_, rfl, by rw [decide_eq_true_iff]; exact hC.out⟩, HKc.out.drew⟩
end Go.Proofs.Ytjbjomodponapaa
