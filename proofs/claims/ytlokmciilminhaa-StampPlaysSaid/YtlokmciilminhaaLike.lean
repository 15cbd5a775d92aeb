/- Is a row so? The walk. -/
import Derived.Test.YtlokmciilminhaaAll
namespace Go.Proofs.Ytlokmciilminhaa
open Go.RowKit Go.Shelf
attribute [local go_sem] Oper.semAt_some

def lastOf (l : List (Int × Int)) : Int := (l.getLast?.map Prod.fst).getD (-1)
theorem lastOf_snoc (l : List (Int × Int)) (x : Int × Int) : lastOf (l ++ [x]) = x.1 := by simp [lastOf]
def OkSeq (h : Have) (n : Nat) (l : List (Int × Int)) : Prop := ∀ (l' : List (Int × Int)) (x : Int × Int) (t : List (Int × Int)), l = l' ++ x :: t → lastOf l' < x.1 ∧ x.1 < (n : Int) ∧ h x.1 = some x.2
theorem OkSeq.nil (h : Have) (n : Nat) : OkSeq h n [] := fun l' x t e => by simp at e
theorem OkSeq.pre {h : Have} {n : Nat} {l : List (Int × Int)} {x : Int × Int} (k : OkSeq h n (l ++ [x])) : OkSeq h n l := fun l' y t e => k l' y (t ++ [x]) (by rw [e]; simp)
theorem OkSeq.last {h : Have} {n : Nat} {l : List (Int × Int)} {x : Int × Int} (k : OkSeq h n (l ++ [x])) : lastOf l < x.1 ∧ x.1 < (n : Int) ∧ h x.1 = some x.2 := k l x [] rfl
theorem OkSeq.snoc {h : Have} {n : Nat} {l : List (Int × Int)} {x : Int × Int} (k : OkSeq h n l) (h1 : lastOf l < x.1) (h2 : x.1 < (n : Int)) (h3 : h x.1 = some x.2) : OkSeq h n (l ++ [x]) := fun l' y t e => by
  rcases List.eq_nil_or_concat t with rfl | ⟨t', z, rfl⟩
  · have := List.append_inj' e (by simp)
    obtain ⟨rfl, e2⟩ := this
    simp at e2
    subst e2
    exact ⟨h1, h2, h3⟩
  · have e' : l ++ [x] = (l' ++ y :: t') ++ [z] := by rw [e]; simp
    have := List.append_inj' e' (by simp)
    exact k l' y t' this.1
theorem OkSeq.of_pre {h : Have} {n : Nat} {l m : List (Int × Int)} (k : OkSeq h n m) (hp : l <+: m) : OkSeq h n l := fun l' x t e => by
  obtain ⟨r, rfl⟩ := hp
  exact k l' x (t ++ r) (by rw [e]; simp)
theorem OkSeq.ge {h : Have} {n : Nat} : ∀ (m : Nat) (l : List (Int × Int)), l.length = m → OkSeq h n l → -1 ≤ lastOf l
  | 0, l, hm, _ => by
    obtain rfl := List.length_eq_zero_iff.1 hm
    simp [lastOf]
  | m + 1, l, hm, k => by
    rcases List.eq_nil_or_concat l with rfl | ⟨l', x, rfl⟩
    · simp at hm
    · rw [List.concat_eq_append] at hm k ⊢
      have := OkSeq.ge m l' (by simpa using hm) k.pre
      have h2 := k.last.1
      rw [lastOf_snoc]
      omega
theorem seqOf_last (h : Have) : ∀ k : Nat, lastOf (seqOf h k) < k
  | 0 => by simp [seqOf, lastOf]
  | k + 1 => by
    have := seqOf_last h k
    cases hk : h k with
    | none => rw [seqOf_none hk]; omega
    | some v => rw [seqOf_some hk, lastOf_snoc]; omega
theorem seqOf_ok (h : Have) (n : Nat) : ∀ k, k ≤ n → OkSeq h n (seqOf h k)
  | 0, _ => OkSeq.nil h n
  | k + 1, hk => by
    have ih := seqOf_ok h n k (by omega)
    cases hh : h k with
    | none => rw [seqOf_none hh]; exact ih
    | some v => rw [seqOf_some hh]; exact ih.snoc (seqOf_last h k) (by show (k : Int) < n; omega) hh

theorem own_stamp {β : Type} (B R C n : Nat) (h : Have) (now many : Int) : OwnFrom B (fun (_ : β) W => Stamp W R C n h now many) := fun s A W row hs hg hr => by
  obtain ⟨cs, hb, hx⟩ := hs.cells
  have hnot : ∀ (g : Nat) (t : TypeId) (c : Array Value), Blk A g t c → some g ≠ row := fun g t c hb e => by
    obtain ⟨_, o, ho, hc⟩ := hr g e.symm
    rw [hb.iscells o ho] at hc
    cases hc
  exact ⟨hs.ne, hs.row.grown hg (hnot _ _ _ hs.row), ⟨cs, hb.grown hg (hnot _ _ _ hb), hx⟩, hs.small, hs.now1, hs.now2, hs.many0, hs.many1, hs.out⟩

theorem func_nil' (w : World) (b : Nat) : (binOp .eql 40 (.func (.func 19) #[] #[.pointer (some ⟨b, 0, none⟩)]) Value.nilFunc).run Try.prog w = .ok (.bool false) w := by kernel_rfl

set_option maxRecDepth 100000 in
set_option maxHeartbeats 8000000 in
theorem like_any (R C n B : Nat) (h : Have) (now : Int) (X : Value) (w : World) (hs : Stamp w R C n h now ((seqOf h n).length : Int)) (hr : RefR w B X n h) (hX : ∀ k, X.ownBlock = some k → k < w.heap.size) :
    Calls Try.prog 13 #[pt R, X] w fun e w' => e = .returned (.bool true) ∧ Grew w w' := by
  obtain ⟨A, c, rfl⟩ := hr.form
  have hsm := hs.small
  have hq := func_nil'
  have hsl := hs.row.lt
  have hcl : C < w.heap.size := by obtain ⟨cs, hb, _⟩ := hs.cells; exact hb.lt
  have hM := Lib.hid (all_made (some ⟨R, 0, none⟩))
  refine (callsIn_wide (n := 9)).1 ?_
  refine callsIn_of_wp_marks Try.func13 rfl trivial ?_ rfl
  simp only [Try.ntmps13, List.size_toArray, List.length_cons, List.length_nil, Nat.reduceAdd, Nat.reduceSub, Array.replicate_succ, Array.replicate_zero, List.push_toArray, List.append_toArray, List.nil_append, List.cons_append]
  refine wpIn_wide.2 ?_
  have w3 : Grew w (((w.alloc (.cells #[.slice A n c] 34)).alloc (.cells #[.bool false] 4)).alloc (.cells #[i64 (-1)] 3)) := (((Kept.refl _ _).alloc _).alloc _).alloc _
  have T3 := ((Blk.new w 34 #[.slice A n c]).alloc (.cells #[.bool false] 4)).alloc (.cells #[i64 (-1)] 3)
  have T4 := (Blk.new (w.alloc (.cells #[.slice A n c] 34)) 4 #[.bool false]).alloc (.cells #[i64 (-1)] 3)
  have T6 := Blk.new ((w.alloc (.cells #[.slice A n c] 34)).alloc (.cells #[.bool false] 4)) 3 #[i64 (-1)]
  simp only [World.size_alloc] at T4 T6
  have hs3 := Lib.hid (hs.kept w3 (fun h => h) (fun h => h))
  have hr3 := Lib.hid (hr.grew w3)
  clear hs hr
  go_wp2_with fail
  go_loopw [5, 7, 8, 9] (fun q i u8 u9 wr => ∃ (k : Nat) (m : Nat), k ≤ n ∧ m ≤ k ∧ i = .int .i64 k ∧ q = .int .i64 m ∧ Hid (m = (seqOf h k).length) ∧ Hid (Stamp wr R C n h now ((seqOf h n).length : Int)) ∧ Hid (RefR wr B (.slice A n c) n h) ∧ Blk wr w.heap.size 34 #[.slice A n c] ∧ Blk wr (w.heap.size + 1) 4 #[.bool false] ∧ Blk wr (w.heap.size + 1 + 1) 3 #[i64 (-1)] ∧ Grew w wr) (fun q i u8 u9 _ => n - (intOf i).toNat)
  case atStart => exact ⟨0, 0, by omega, by omega, rfl, rfl, rfl, hs3, hr3, T3, T4, T6, w3⟩
  case round =>
    clear hs3 hr3 T3 T4 T6 w3
    obtain ⟨k, m, hk, hmk, rfl, rfl, hm, hs, hr, T3, T4, T6, hK⟩ := hrel
    have c3 := T3.cell 0
    simp at c3
    by_cases hlt : k < n
    · obtain ⟨g, hA, hBg, hg, r0, r1⟩ := hr.out.at hlt
      subst hA
      have hG := Lib.hid (get_any _ R C n h now _ k hs.out)
      cases hh : h k with
      | none =>
        rw [hh] at hG r0 r1
        simp at r0 r1
        have hm1 : Hid (m = (seqOf h (k + 1)).length) := by show _ = _; rw [seqOf_none hh]; exact hm.out
        clear hh
        go_wp2_with fail
        refine hG.out.mono ?_
        rintro e w1 ⟨he, k1⟩
        simp only [getE, Option.getD_none, Option.isSome_none] at he
        subst he
        have T3' := T3.grew k1
        replace c3 := T3'.cell 0
        simp at c3
        replace r0 := Grew.cell k1 r0
        replace r1 := Grew.cell k1 r1
        go_wp2_with fail
        go_roundw
        case rel => exact ⟨k + 1, m, by omega, by omega, by go_num, rfl, hm1, Lib.hid (hs.out.kept k1 (fun h => h) (fun h => h)), Lib.hid (hr.out.grew k1), T3', T4.grew k1, T6.grew k1, hK.trans k1⟩
        case measure => simp [intOf]; omega
      | some x =>
        rw [hh] at hG r0 r1
        simp at r0 r1
        have hm1 : Hid (m + 1 = (seqOf h (k + 1)).length) := by show _ = _; rw [seqOf_some hh]; simp; exact hm.out
        clear hh
        go_wp2_with fail
        refine hG.out.mono ?_
        rintro e w1 ⟨he, k1⟩
        simp only [getE, Option.getD_some, Option.isSome_some] at he
        subst he
        have T3' := T3.grew k1
        replace c3 := T3'.cell 0
        simp at c3
        replace r0 := Grew.cell k1 r0
        replace r1 := Grew.cell k1 r1
        go_wp2_with fail
        go_roundw
        case rel => exact ⟨k + 1, m + 1, by omega, by omega, by go_num, by go_num, hm1, Lib.hid (hs.out.kept k1 (fun h => h) (fun h => h)), Lib.hid (hr.out.grew k1), T3', T4.grew k1, T6.grew k1, hK.trans k1⟩
        case measure => simp [intOf]; omega
    · obtain rfl : k = n := by omega
      go_wp2_with fail
      refine (hM.out _).mono ?_
      rintro e w2 ⟨rfl, rfl⟩
      go_wp2_with fail
      have hzr := hK.size
      obtain ⟨w2, hw2⟩ : ∃ w2, (wr.alloc (.cells #[.int .i64 0] 3)).alloc (.cells #[pt R] 24) = w2 := ⟨_, rfl⟩
      have k2 : Grew wr w2 := by rw [← hw2]; exact ((Kept.refl _ _).alloc _).alloc _
      have T10 : Blk w2 wr.heap.size 3 #[i64 0] := by rw [← hw2]; exact (Blk.new wr _ _).alloc _
      have Tb : Blk w2 (wr.heap.size + 1) 24 #[pt R] := by
        rw [← hw2]
        have h := Blk.new (wr.alloc (.cells #[.int .i64 0] 3)) 24 #[pt R]
        rw [World.size_alloc] at h; exact h
      have hz2 : w2.heap.size = wr.heap.size + 1 + 1 := by rw [← hw2]; simp
      rw [hw2]
      have hl3 := T3.lt
      have hl6 := T6.lt
      have hS := hs.out.kept k2 (fun h => h) (fun h => h)
      have hRf := hr.out.grew k2
      have hXo : ∀ j, (Value.slice A k c).ownBlock = some j → ¬ (j = w.heap.size + 1 + 1 ∨ j = wr.heap.size) := fun j hj h => by have := hX j hj; omega
      have I0 : (Blk w2 (w.heap.size + 1 + 1) 3 #[i64 (lastOf [])] ∧ Blk w2 wr.heap.size 3 #[i64 (([] : List (Int × Int)).length : Int)] ∧ Blk w2 w.heap.size 34 #[.slice A k c] ∧ Blk w2 (w.heap.size + 1) 4 #[.bool false] ∧ RefR w2 B (.slice A k c) k h ∧ Stamp w2 R C k h now ((seqOf h k).length : Int) ∧ Grew w w2 ∧ OkSeq h k []) := ⟨T6.grew k2, T10, T3.grew k2, T4.grew k2, hRf, hS, hK.trans k2, OkSeq.nil h k⟩
      clear hw2
      refine (wpIn_wide (n := 9)).1 ?_
      refine wpIn_rangeFunc_ownF rfl (by omega) (gf := 19) (lb := #[.pointer (some ⟨wr.heap.size + 1, 0, none⟩)]) rfl trivial (enters_of Try.func19 (by kernel_rfl) rfl)
        (stops_any _ (wr.heap.size + 1) R C k h now _ (fun j => j = w.heap.size + 1 + 1 ∨ j = wr.heap.size) w2 (fun j hj => by omega) (by omega) (by omega) (by omega) (Tb.cell 0) hS) KeptC.trans (fun W l o o' _ hl ho _ => KeptC.put W l o o' hl ho) (Below.refl _ _) (fun _ => rfl)
        (fun pre W => Blk W (w.heap.size + 1 + 1) 3 #[i64 (lastOf pre)] ∧ Blk W wr.heap.size 3 #[i64 (pre.length : Int)] ∧ Blk W w.heap.size 34 #[.slice A k c] ∧ Blk W (w.heap.size + 1) 4 #[.bool false] ∧ RefR W B (.slice A k c) k h ∧ Stamp W R C k h now ((seqOf h k).length : Int) ∧ Grew w W ∧ OkSeq h k pre)
        (fun _ pre _ => ¬ OkSeq h k pre)
        (OwnFrom.and (own_blk _ _ _ (fun pre => #[i64 (lastOf pre)])) (OwnFrom.and (own_blk _ _ _ (fun pre => #[i64 ((List.length pre : Nat) : Int)])) (OwnFrom.and (own_blk _ _ _ (fun _ => #[.slice A k c])) (OwnFrom.and (own_blk _ _ _ (fun _ => #[.bool false])) (OwnFrom.and (own_row _ _ _ _ (fun _ => .slice A k c) (fun _ => k) (fun _ => cellsR h k)) (OwnFrom.and (own_stamp _ R C k h now _) (OwnFrom.and (own_grew (by omega)) (own_pure _))))))))
        (fun _ => own_pure _)
        I0 ?a1 ?assign ?body ?done ?stop
      case assign =>
        intro l x W K hK
        gi_wp2
        exact hK
      case body =>
        rintro l pre ⟨i, v⟩ W ⟨T6, T10, T3, T4, hr, hs, hK, hok⟩ hlen
        have hge := OkSeq.ge _ pre rfl hok
        obtain ⟨q, hq⟩ : ∃ q, lastOf pre = q := ⟨_, rfl⟩
        obtain ⟨m, hm⟩ : ∃ m, pre.length = m := ⟨_, rfl⟩
        rw [hq] at T6 hge
        rw [hm] at T10 hlen
        have c6 := T6.cell 0
        have c10 := T10.cell 0
        have c3 := T3.cell 0
        have c4 := T4.cell 0
        have f6 := T6.frozen 0
        have f10 := T10.frozen 0
        have f4 := T4.frozen 0
        simp at c6 c10 c3 c4
        have hne1 : ¬ w.heap.size + 1 + 1 = wr.heap.size := by omega
        have hne2 : ¬ wr.heap.size = w.heap.size + 1 + 1 := by omega
        have hq := Lib.hid hq
        have hm := Lib.hid hm
        have hok := Lib.hid hok
        have hr := Lib.hid hr
        have hs := Lib.hid hs
        have hbad : Hid (¬ (q < i ∧ i < (k : Int) ∧ h i = some v) → ¬ OkSeq h k (pre ++ [(i, v)])) := fun hn hk => hn (by have := hk.last; rw [hq.out] at this; exact this)
        rcases Int.lt_or_le q i with h1 | h1
        · rcases Int.lt_or_le i k with h2 | h2
          · obtain ⟨j, rfl⟩ := Int.eq_ofNat_of_zero_le (show 0 ≤ i by omega)
            obtain ⟨g, hA, hBg, hg, r0, r1⟩ := hr.out.at (i := j) (by omega)
            subst hA
            have h3 : j < k := by omega
            cases hh : h j with
            | none =>
              rw [hh] at r0 r1
              simp at r0 r1
              have hno := Lib.hid (hbad.out (fun hx => by rw [hh] at hx; cases hx.2.2))
              clear hh
              gi_wp2
              exact ⟨KeepsOthers.setCell _ _ _, hno.out⟩
            | some y =>
              rw [hh] at r0 r1
              simp at r0 r1
              by_cases hy : y = v
              · subst hy
                have hyes := Lib.hid (hok.out.snoc (x := ((j : Int), y)) (by rw [hq.out]; exact h1) h2 hh)
                clear hh
                gi_wp2
                refine ⟨(KeepsOthers.setCell _ _ _).trans (KeepsOthers.setCell _ _ _), ?_, ?_, ?_, ?_, ?_, ?_, ?_, ?_, hyes.out⟩
                · exact Kept.keptC (((Kept.refl (fun j => j = w.heap.size + 1 + 1 ∨ j = wr.heap.size) W).setCell (p := ⟨w.heap.size + 1 + 1, 0, none⟩) (.inl (.inl rfl)) _).setCell (p := ⟨wr.heap.size, 0, none⟩) (.inl (.inr rfl)) _) (fun _ h => h)
                · rw [lastOf_snoc]
                  exact (T6.set 0 (i64 (j : Int))).far (p := ⟨wr.heap.size, 0, none⟩) (by show w.heap.size + 1 + 1 ≠ wr.heap.size; omega) _
                · rw [List.length_append, hm.out]
                  exact (T10.far (p := ⟨w.heap.size + 1 + 1, 0, none⟩) (by show wr.heap.size ≠ w.heap.size + 1 + 1; omega) _).set 0 _
                · exact (T3.far (p := ⟨w.heap.size + 1 + 1, 0, none⟩) (by show w.heap.size ≠ w.heap.size + 1 + 1; omega) _).far (p := ⟨wr.heap.size, 0, none⟩) (by show w.heap.size ≠ wr.heap.size; omega) _
                · exact (T4.far (p := ⟨w.heap.size + 1 + 1, 0, none⟩) (by show w.heap.size + 1 ≠ w.heap.size + 1 + 1; omega) _).far (p := ⟨wr.heap.size, 0, none⟩) (by show w.heap.size + 1 ≠ wr.heap.size; omega) _
                · exact hr.out.keptT (((Kept.refl (fun j => j = w.heap.size + 1 + 1 ∨ j = wr.heap.size) W).setCell (p := ⟨w.heap.size + 1 + 1, 0, none⟩) (.inl (.inl rfl)) _).setCell (p := ⟨wr.heap.size, 0, none⟩) (.inl (.inr rfl)) _) hXo
                · exact hs.out.kept (((Kept.refl (fun j => j = w.heap.size + 1 + 1 ∨ j = wr.heap.size) W).setCell (p := ⟨w.heap.size + 1 + 1, 0, none⟩) (.inl (.inl rfl)) _).setCell (p := ⟨wr.heap.size, 0, none⟩) (.inl (.inr rfl)) _) (by omega) (by omega)
                · exact (hK.setCell (p := ⟨w.heap.size + 1 + 1, 0, none⟩) (.inr (by show w.heap.size ≤ w.heap.size + 1 + 1; omega)) _).setCell (p := ⟨wr.heap.size, 0, none⟩) (.inr (by show w.heap.size ≤ wr.heap.size; omega)) _
              · have hno := Lib.hid (hbad.out (fun hx => by rw [hh] at hx; exact hy (Option.some.inj hx.2.2)))
                have hy2 : (y == v) = false := by simpa using hy
                have hy3 : (y != v) = true := by simpa using hy
                clear hh hy
                gi_wp2
                exact ⟨KeepsOthers.setCell _ _ _, hno.out⟩
          · have hno := Lib.hid (hbad.out (fun hx => by omega))
            gi_wp2
            exact ⟨KeepsOthers.setCell _ _ _, hno.out⟩
        · have hno := Lib.hid (hbad.out (fun hx => by omega))
          gi_wp2
          exact ⟨KeepsOthers.setCell _ _ _, hno.out⟩
      case stop =>
        rintro D c' pre W _ hp hb _
        exact absurd ((seqOf_ok h k k (Nat.le_refl _)).of_pre hp) hb
      case done =>
        rintro D ys W hD rfl ⟨T6, T10, T3, T4, hr, hs, hK, _⟩ hDd
        clear hq hM
        obtain ⟨m, hm'⟩ : ∃ m, (seqOf h k).length = m := ⟨_, rfl⟩
        obtain rfl : m = _ := hm'.symm.trans hm.out.symm
        rw [hm'] at T10 hs
        clear hm'
        have d4 := T4.drew.cell 0
        simp at d4
        go_wp2_with fail
        refine wp_region_grow [16] (fun _ => False) (by kernel_rfl) ?_
        simp only [List.size_toArray, List.length_cons, List.length_nil, Nat.reduceAdd]
        refine wpAnyG_pure 0 81 (v := ?_) rfl (by kernel_rfl) rfl (by rfl) (fun w' => ?_) ?_
        rotate_left
        · go_simp <;> with_reducible rfl
        simp only [List.setIfInBounds_toArray, List.set_cons_zero, List.set_cons_succ]
        refine wpAnyG_pure 2 83 (v := ?_) rfl (by kernel_rfl) rfl (by rfl) (fun w' => ?_) ?_
        rotate_left
        · go_simp <;> with_reducible rfl
        simp only [List.setIfInBounds_toArray, List.set_cons_zero, List.set_cons_succ]
        refine wpAnyG_step 1 82 rfl (by kernel_rfl) rfl (by rfl) (fun K hK' => ?_)
        go_simp
        refine (count_any _ R C k h now _ (hs.kept (F := fun _ => False) (Kept.refl _ _).drew (fun h => h) (fun h => h))).mono ?_
        rintro e z1 ⟨rfl, rfl⟩
        refine hK' _ _ (fun _ => Kept.refl _ _) ?_
        clear hK'
        simp only [List.setIfInBounds_toArray, List.set_cons_zero, List.set_cons_succ]
        refine wpAnyG_pure 3 84 (v := ?_) rfl (by kernel_rfl) rfl (by rfl) (fun w' => ?_) ?_
        rotate_left
        · go_simp <;> with_reducible rfl
        simp only [List.setIfInBounds_toArray, List.set_cons_zero, List.set_cons_succ]
        refine wpAnyG_pure 4 85 (v := ?_) rfl (by kernel_rfl) rfl (by rfl) (fun w' => ?_) ?_
        rotate_left
        · go_simp <;> with_reducible rfl
        simp only [List.setIfInBounds_toArray, List.set_cons_zero, List.set_cons_succ]
        refine wpAnyG_take 5 86 (v := ?_) rfl (by kernel_rfl) rfl (by rfl) (fun w' hG' => ?_) ?_
        rotate_left
        · have hx0 := (T10.drew.grew hG').cell 0
          have hx1 := (T3.drew.grew hG').cell 0
          simp at hx0 hx1
          go_simp <;> with_reducible rfl
        simp only [List.setIfInBounds_toArray, List.set_cons_zero, List.set_cons_succ]
        refine wpAnyG_pure 6 87 (v := ?_) rfl (by kernel_rfl) rfl (by rfl) (fun w' => ?_) ?_
        rotate_left
        · go_simp <;> with_reducible rfl
        simp only [List.setIfInBounds_toArray, List.set_cons_zero, List.set_cons_succ]
        refine wpAnyG_pure 7 88 (v := ?_) rfl (by kernel_rfl) rfl (by rfl) (fun w' => ?_) ?_
        rotate_left
        · go_simp <;> with_reducible rfl
        simp only [List.setIfInBounds_toArray, List.set_cons_zero, List.set_cons_succ]
        refine wpAnyG_pure 8 89 (v := ?_) rfl (by kernel_rfl) rfl (by rfl) (fun w' => ?_) ?_
        rotate_left
        · go_simp <;> with_reducible rfl
        simp only [List.setIfInBounds_toArray, List.set_cons_zero, List.set_cons_succ]
        refine wpAnyG_pure 9 90 (v := ?_) rfl (by kernel_rfl) rfl (by rfl) (fun w' => ?_) ?_
        rotate_left
        · go_simp <;> with_reducible rfl
        simp only [List.setIfInBounds_toArray, List.set_cons_zero, List.set_cons_succ]
        refine wpAnyG_pure 10 91 (v := ?_) rfl (by kernel_rfl) rfl (by rfl) (fun w' => ?_) ?_
        rotate_left
        · go_simp <;> with_reducible rfl
        simp only [List.setIfInBounds_toArray, List.set_cons_zero, List.set_cons_succ]
        refine wpAnyG_take 12 93 (v := ?_) rfl (by kernel_rfl) rfl (by rfl) (fun w' hG' => ?_) ?_
        rotate_left
        · have hx0 := (T10.drew.grew hG').cell 0
          have hx1 := (T3.drew.grew hG').cell 0
          simp at hx0 hx1
          go_simp <;> with_reducible rfl
        simp only [List.setIfInBounds_toArray, List.set_cons_zero, List.set_cons_succ]
        refine wpAnyG_pure 13 94 (v := ?_) rfl (by kernel_rfl) rfl (by rfl) (fun w' => ?_) ?_
        rotate_left
        · go_simp <;> with_reducible rfl
        simp only [List.setIfInBounds_toArray, List.set_cons_zero, List.set_cons_succ]
        refine wpAnyG_step 11 92 rfl (by kernel_rfl) rfl (by rfl) (fun K hK' => ?_)
        go_simp
        refine (len_any _ R C k h now _ (hs.kept (F := fun _ => False) (Kept.refl _ _).drew (fun h => h) (fun h => h))).mono ?_
        rintro e z1 ⟨rfl, rfl⟩
        refine hK' _ _ (fun _ => Kept.refl _ _) ?_
        clear hK'
        simp only [List.setIfInBounds_toArray, List.set_cons_zero, List.set_cons_succ]
        refine wpAnyG_pure 14 95 (v := ?_) rfl (by kernel_rfl) rfl (by rfl) (fun w' => ?_) ?_
        rotate_left
        · go_simp <;> with_reducible rfl
        simp only [List.setIfInBounds_toArray, List.set_cons_zero, List.set_cons_succ]
        refine wpAnyG_pure 15 96 (v := ?_) rfl (by kernel_rfl) rfl (by rfl) (fun w' => ?_) ?_
        rotate_left
        · go_simp <;> with_reducible rfl
        simp only [List.setIfInBounds_toArray, List.set_cons_zero, List.set_cons_succ]
        refine wpAnyG_store 16 rfl (by kernel_rfl) rfl (by rfl) (fun K hK' => ?_)
        have d4 := T4.drew.cell 0
        have f4 := T4.drew.frozen 0
        simp at d4
        go_simp
        refine hK' _ (fun h => absurd (by simp) h) ?_
        clear hK'
        refine wpAnyG_done (by kernel_rfl) ?_
        go_wp2_with fail
        have hD4 : w.heap.size + 1 ≠ D := by
          have := T4.lt
          have h3 := k2.size
          omega
        have hx : ((W.setCell ⟨w.heap.size + 1, 0, none⟩ (.bool true)).drew).heap[D]? = some (.deferred (some [])) := (Below.heap_setCell W ⟨w.heap.size + 1, 0, none⟩ (.bool true) D (fun e => hD4 e.symm)).trans hDd
        have T5 := ((T4.set 0 (.bool true)).drew).grown (grownBy_putObj' _ D (.deferred none)) (fun e => hD4 (Option.some.inj e))
        have c5 := T5.cell 0
        simp at c5
        refine ⟨by simp, .inl ⟨_, _, rfl, run_takeDeferred hx, ?_⟩⟩
        refine ⟨.bool true, by simp [results, Try.f13, go_sem, c5], rfl, ?_⟩
        exact ((hK.setCell (p := ⟨w.heap.size + 1, 0, none⟩) (.inr (by show w.heap.size ≤ w.heap.size + 1; omega)) (.bool true)).drew).putObj D _ (.inr (by omega))
end Go.Proofs.Ytlokmciilminhaa
