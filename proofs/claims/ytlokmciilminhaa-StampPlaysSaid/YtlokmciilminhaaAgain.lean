/- The chapter's example comes; what act does; the law StampAgain is walked. -/
import Derived.Test.YtlokmciilminhaaStamp
namespace Go.Proofs.Ytlokmciilminhaa
open Go.RowKit

/-- What an act answers, and what is to be had then: Kind 0 Put, 1 Least, else Forget. -/
structure Act3 where
  kind : Int
  i : Int
  v : Int
def actB (n : Nat) (h : Have) (a : Act3) : Bool := if a.kind = 0 then inn n a.i else if a.kind = 1 then leastB n h a.i a.v else false
def actH (n : Nat) (h : Have) (a : Act3) : Have := if a.kind = 0 then putH n h a.i a.v else if a.kind = 1 then leastH n h a.i a.v else fun _ => none
def actM (n : Nat) (h : Have) (a : Act3) (many : Int) : Int := if a.kind = 0 then putM n h a.i many else if a.kind = 1 then leastM n h a.i a.v many else 0
def actN (a : Act3) (now : Int) : Int := if a.kind = 0 then now else if a.kind = 1 then now else now + 1

abbrev actV (a : Act3) : Value := .agg #[i64 a.kind, i64 a.i, u64 a.v]

theorem act_any (w : World) (R C n : Nat) (h : Have) (now many : Int) (a : Act3) (s : Stamp w R C n h now many) (h100 : many < 1000000) (h200 : now < 1000000) :
    Calls Try.prog 8 #[pt R, actV a] w fun e w' => e = .returned (.bool (actB n h a)) ∧ Stamp w' R C n (actH n h a) (actN a now) (actM n h a many) ∧ Kept (Two R C) w w' := by
  obtain ⟨k, i, v⟩ := a
  have hkw : ∀ (W W' : World) (o : Obj), Kept (Two R C) (W.alloc o) W' → Kept (Two R C) W W' := fun W W' o h => ((Kept.refl _ _).alloc o).trans h
  have hB := Blk.new w 29 #[i64 k, i64 i, u64 v]
  have hc0 := hB.cell 0
  have hc1 := hB.cell 1
  have hc2 := hB.cell 2
  simp at hc0 hc1 hc2
  have hk : Grew w (w.alloc (.cells #[i64 k, i64 i, u64 v] 29)) := (Kept.refl _ _).alloc _
  have s' := s.kept hk (fun h => h) (fun h => h)

  by_cases h0 : k = 0
  · subst h0
    simp only [actB, actH, actM, actN, if_true]
    have hP := Lib.hid (put_any _ R C n h now many i v s' h100)
    go_enter Try.func8, Try.ntmps8
    go_wp2_with fail
    refine hP.out.mono ?_
    rintro e w2 ⟨rfl, hs2, hK2⟩
    go_wp2_with fail
    go_ret
    exact ⟨rfl, hs2, hkw _ _ _ hK2⟩
  · by_cases h1 : k = 1
    · subst h1
      simp only [actB, actH, actM, actN, if_true, if_neg h0]
      have hP := Lib.hid (least_any _ R C n h now many i v s' h100)
      clear h0
      go_enter Try.func8, Try.ntmps8
      go_wp2_with fail
      refine hP.out.mono ?_
      rintro e w2 ⟨rfl, hs2, hK2⟩
      go_wp2_with fail
      go_ret
      exact ⟨rfl, hs2, hkw _ _ _ hK2⟩
    · simp only [actB, actH, actM, actN, if_neg h0, if_neg h1]
      have hP := Lib.hid (forget_any _ R C n h now many s' h200)
      have e0 : (k == 0) = false := by simpa using h0
      have e1 : (k == 1) = false := by simpa using h1
      go_enter Try.func8, Try.ntmps8
      go_wp2_with fail
      refine hP.out.mono ?_
      rintro e w2 ⟨rfl, hs2, hK2⟩
      go_wp2_with fail
      go_ret
      exact ⟨rfl, hs2, hkw _ _ _ hK2⟩

theorem alive_any (w : World) : Calls Try.prog 6 #[] w fun e w' => e = .returned (.bool true) ∧ Grew w w' := by
  have hN := Lib.hid (new_yes 2 w (by omega))
  go_enter Try.func6, Try.ntmps6
  go_wp2_with fail
  refine hN.out.mono ?_
  rintro e w1 ⟨R, C, rfl, hR, hC, s, hK⟩
  go_wp2_with fail
  refine (put_any _ R C 2 _ 1 0 1 5 s (by omega)).mono ?_
  rintro e w2 ⟨he, s2, hK2⟩
  have e1 : e = .returned (.bool true) := he
  clear he; subst e1
  go_wp2_with fail
  refine (get_any _ R C 2 _ _ _ 1 s2).mono ?_
  rintro e w3 ⟨he, hK3⟩
  have e1 : e = .returned (.tuple #[u64 5, .bool true]) := he
  clear he; subst e1
  have s3 := s2.kept hK3 (fun h => h) (fun h => h)
  go_wp2_with fail
  refine (forget_any _ R C 2 _ _ _ s3 (by omega)).mono ?_
  rintro e w4 ⟨rfl, s4, hK4⟩
  go_wp2_with fail
  refine (get_any _ R C 2 _ _ _ 1 s4).mono ?_
  rintro e w5 ⟨he, hK5⟩
  have e1 : e = .returned (.tuple #[u64 0, .bool false]) := he
  clear he; subst e1
  have s5 := s4.kept hK5 (fun h => h) (fun h => h)
  go_wp2_with fail
  refine (len_any _ R C 2 _ _ _ s5).mono ?_
  rintro e w6 ⟨rfl, rfl⟩
  go_wp2_with fail
  go_ret
  have hF : ∀ i, i < w.heap.size → Two R C i → False := fun i hi h => by rcases h with h | h <;> omega
  exact ⟨rfl, (((hK.then hK2 hF).grew hK3).then hK4 hF).grew hK5⟩

theorem actM_bd (n : Nat) (h : Have) (a : Act3) (many : Int) (h0 : 0 ≤ many) : 0 ≤ actM n h a many ∧ actM n h a many ≤ many + 1 := by
  unfold actM putM leastM manyP
  repeat' split
  all_goals omega
theorem actN_bd (a : Act3) (now : Int) : actN a now ≤ now + 1 := by
  unfold actN; repeat' split
  all_goals omega

/-- A slice of acts. -/
def RowA (w : World) (A : Option Addr) (len : Nat) (z : Nat → Act3) : Prop :=
  ∀ i, i < len → ∃ b off, A = some ⟨b, off, none⟩ ∧ w.cell? ⟨b, off + i * 3, none⟩ = some (i64 (z i).kind) ∧ w.cell? ⟨b, off + i * 3 + 1, none⟩ = some (i64 (z i).i) ∧ w.cell? ⟨b, off + i * 3 + 2, none⟩ = some (u64 (z i).v)

set_option maxHeartbeats 2000000 in
set_option maxRecDepth 100000 in
theorem again_law (A1 A2 : Option Addr) (len1 cap1 len2 cap2 : Nat) (z1 z2 : Nat → Act3) (w : World) (r1 : RowA w A1 len1 z1) (r2 : RowA w A2 len2 z2) (l1 : len1 ≤ 9223372036854775807) (l2 : len2 ≤ 9223372036854775807) :
    Calls Try.prog 3 #[.slice A1 len1 cap1, .slice A2 len2 cap2] w fun e w' => e = .returned (.bool true) ∧ Grew w w' := by
  have hA := Lib.hid alive_any
  by_cases hbig : 60 < len1 ∨ 60 < len2
  · rcases Nat.lt_or_ge 60 len1 with g | g
    · clear hbig
      go_enter Try.func3, Try.ntmps3
      go_wp2_with (go_at_call 6; refine (hA.out _).mono ?_; rintro e w' ⟨rfl, hK⟩)
      go_ret
      exact ⟨rfl, hK⟩
    · have g2 : 60 < len2 := by omega
      clear hbig
      go_enter Try.func3, Try.ntmps3
      go_wp2_with (go_at_call 6; refine (hA.out _).mono ?_; rintro e w' ⟨rfl, hK⟩)
      go_ret
      exact ⟨rfl, hK⟩
  · have g1 : len1 ≤ 60 := by omega
    have g2 : len2 ≤ 60 := by omega
    clear hbig
    go_enter Try.func3, Try.ntmps3
    go_wp2_with fail
    refine (new_yes 9 w (by omega)).mono ?_
    rintro e w1 ⟨R1, C1, rfl, hR1, hC1, s1, hK1⟩
    go_wp2_with fail
    refine (new_yes 9 w1 (by omega)).mono ?_
    rintro e w2 ⟨R2, C2, rfl, hR2, hC2, s2, hK2⟩
    have b1 := s1.row.lt
    have b2 : C1 < w1.heap.size := by obtain ⟨cs, hb, _⟩ := s1.cells; exact hb.lt
    have hs1 := hK1.size
    have hd1 : ¬ Two R1 C1 R2 := by rintro (h | h) <;> omega
    have hd2 : ¬ Two R1 C1 C2 := by rintro (h | h) <;> omega
    have hd3 : ¬ Two R2 C2 R1 := by rintro (h | h) <;> omega
    have hd4 : ¬ Two R2 C2 C1 := by rintro (h | h) <;> omega
    have s1k := s1.kept hK2 (fun h => h) (fun h => h)
    have hKK := hK1.trans hK2
    clear s1 hK1 hK2
    go_wp2_with fail
    go_loopw [7] (fun i wr => ∃ (k : Nat) (h : Have) (now many : Int), k ≤ len1 ∧ i = .int .i64 k ∧ now ≤ 1 + k ∧ many ≤ k ∧ Stamp wr R1 C1 9 h now many ∧ Stamp wr R2 C2 9 (fun _ => none) 1 0 ∧ Grew w wr) (fun i _ => len1 - (intOf i).toNat)
    case atStart => exact ⟨0, _, 1, 0, by omega, rfl, by omega, by omega, s1k, s2, hKK⟩
    case round =>
      obtain ⟨k, h, now, many, hk, rfl, hn1, hm1, t1, t2, hK⟩ := hrel
      have hm0 := t1.many0
      by_cases hlt : k < len1
      · obtain ⟨b, off, rfl, hc0, hc1, hc2⟩ := r1 k hlt
        replace hc0 := hK.cell hc0
        replace hc1 := hK.cell hc1
        replace hc2 := hK.cell hc2
        have hX := Lib.hid (act_any wr R1 C1 9 h now many (z1 k) t1 (by omega) (by omega))
        have hb1 := actM_bd 9 h (z1 k) many hm0
        have hb2 := actN_bd (z1 k) now
        clear r1
        go_wp2_with fail
        refine hX.out.mono ?_
        rintro e w3 ⟨rfl, t1', hK3⟩
        go_wp2_with fail
        go_roundw
        case rel => exact ⟨k + 1, _, _, _, by omega, by go_num, by omega, by omega, t1', t2.kept hK3 hd1 hd2, hK.then hK3 (fun i h1 h2 => by rcases h2 with h2 | h2 <;> omega)⟩
        case measure => simp [intOf]; omega
      · have hX := Lib.hid (forget_any wr R1 C1 9 h now many t1 (by omega))
        go_wp2_with fail
        refine hX.out.mono ?_
        rintro e w3 ⟨rfl, u1, hK3⟩
        have u2 := t2.kept hK3 hd1 hd2
        have hK4 : Grew w w3 := hK.then hK3 (fun i h1 h2 => by rcases h2 with h2 | h2 <;> omega)
        have hnow3 : now + 1 ≤ 100 := by omega
        clear hX hK3 hK t1 t2 s1k s2 hKK hn1 hm1 hm0 hk hlt r1
        go_wp2_with fail
        go_loopw [8] (fun i wr => ∃ (k : Nat) (h : Have) (now now2 many : Int), k ≤ len2 ∧ i = .int .i64 k ∧ now ≤ 100 + k ∧ now2 ≤ 1 + k ∧ many ≤ k ∧ Stamp wr R1 C1 9 h now many ∧ Stamp wr R2 C2 9 h now2 many ∧ Grew w wr) (fun i _ => len2 - (intOf i).toNat)
        case atStart => exact ⟨0, _, _, 1, 0, by omega, rfl, by omega, by omega, by omega, u1, u2, hK4⟩
        clear u1 u2 hK4 hnow3
        case round =>
          obtain ⟨k, h, now, now2, many, hk, rfl, hn1, hn2, hm1, s1, s2, hK⟩ := hrel
          have hm0 := s1.many0
          by_cases hlt : k < len2
          · obtain ⟨b, off, rfl, hc0, hc1, hc2⟩ := r2 k hlt
            have hbF : ¬ w.heap.size ≤ b := by have := World.block_lt_of_cell? _ _ hc0; simp at this; omega
            replace hc0 := hK.cell hc0
            replace hc1 := hK.cell hc1
            replace hc2 := hK.cell hc2
            have hb1 := actM_bd 9 h (z2 k) many hm0
            have hb2 := actN_bd (z2 k) now
            have hb3 := actN_bd (z2 k) now2
            have hlti : (k : Int) < (len2 : Int) := by omega
            clear r2
            go_wp2_with fail
            refine wp_region_grow [] (fun k => w.heap.size ≤ k) (by kernel_rfl) ?_
            simp only [List.size_toArray, List.length_cons, List.length_nil, Nat.reduceAdd]
            refine wpAnyG_pure 0 44 (v := ?_) rfl (by kernel_rfl) rfl (by rfl) (fun w' => ?_) ?_
            rotate_left
            · go_simp <;> with_reducible rfl
            simp only [List.setIfInBounds_toArray, List.set_cons_zero, List.set_cons_succ]
            refine wpAnyG_pure 1 45 (v := ?_) rfl (by kernel_rfl) rfl (by rfl) (fun w' => ?_) ?_
            rotate_left
            · go_simp <;> with_reducible rfl
            simp only [List.setIfInBounds_toArray, List.set_cons_zero, List.set_cons_succ]
            refine wpAnyG_pure 2 46 (v := ?_) rfl (by kernel_rfl) rfl (by rfl) (fun w' => ?_) ?_
            rotate_left
            · go_simp <;> with_reducible rfl
            simp only [List.setIfInBounds_toArray, List.set_cons_zero, List.set_cons_succ]
            refine wpAnyG_pure 3 47 (v := ?_) rfl (by kernel_rfl) rfl (by rfl) (fun w' => ?_) ?_
            rotate_left
            · go_simp <;> with_reducible rfl
            simp only [List.setIfInBounds_toArray, List.set_cons_zero, List.set_cons_succ]
            refine wpAnyG_take 4 48 (v := ?_) rfl (by kernel_rfl) rfl (by rfl) (fun w' hG => ?_) ?_
            rotate_left
            · have g0 := hG.cell hc0 hbF
              have g1 := hG.cell hc1 hbF
              have g2 := hG.cell hc2 hbF
              go_simp <;> with_reducible rfl
            simp only [List.setIfInBounds_toArray, List.set_cons_zero, List.set_cons_succ]
            refine wpAnyG_pure 6 50 (v := ?_) rfl (by kernel_rfl) rfl (by rfl) (fun w' => ?_) ?_
            rotate_left
            · go_simp <;> with_reducible rfl
            simp only [List.setIfInBounds_toArray, List.set_cons_zero, List.set_cons_succ]
            refine wpAnyG_pure 7 51 (v := ?_) rfl (by kernel_rfl) rfl (by rfl) (fun w' => ?_) ?_
            rotate_left
            · go_simp <;> with_reducible rfl
            simp only [List.setIfInBounds_toArray, List.set_cons_zero, List.set_cons_succ]
            refine wpAnyG_pure 8 52 (v := ?_) rfl (by kernel_rfl) rfl (by rfl) (fun w' => ?_) ?_
            rotate_left
            · go_simp <;> with_reducible rfl
            simp only [List.setIfInBounds_toArray, List.set_cons_zero, List.set_cons_succ]
            refine wpAnyG_pure 9 53 (v := ?_) rfl (by kernel_rfl) rfl (by rfl) (fun w' => ?_) ?_
            rotate_left
            · go_simp <;> with_reducible rfl
            simp only [List.setIfInBounds_toArray, List.set_cons_zero, List.set_cons_succ]
            refine wpAnyG_take 10 54 (v := ?_) rfl (by kernel_rfl) rfl (by rfl) (fun w' hG => ?_) ?_
            rotate_left
            · have g0 := hG.cell hc0 hbF
              have g1 := hG.cell hc1 hbF
              have g2 := hG.cell hc2 hbF
              go_simp <;> with_reducible rfl
            simp only [List.setIfInBounds_toArray, List.set_cons_zero, List.set_cons_succ]
            refine wpAnyG_step 5 49 rfl (by kernel_rfl) rfl (by rfl) (fun K hK' => ?_)
            -- 49 call 8 - [law.go:94]
            go_simp
            refine (act_any wr.drew R1 C1 9 h now many (z2 k) (s1.kept (Kept.refl (fun _ => False) wr).drew (fun h => h) (fun h => h)) (by omega) (by omega)).mono ?_
            rintro e w1 ⟨rfl, s1', hK1⟩
            have s2a := s2.kept (((Kept.refl (Two R1 C1) wr).drew).trans hK1) hd1 hd2
            refine hK' _ _ (fun _ => hK1.mono (fun i h1 h2 => by rcases h2 with h2 | h2 <;> omega)) ?_
            clear hK'
            simp only [List.setIfInBounds_toArray, List.set_cons_zero, List.set_cons_succ]
            refine wpAnyG_step 11 55 rfl (by kernel_rfl) rfl (by rfl) (fun K hK' => ?_)
            -- 55 call 8 - [law.go:94]
            go_simp
            refine (act_any w1 R2 C2 9 h now2 many (z2 k) s2a (by omega) (by omega)).mono ?_
            rintro e w2 ⟨rfl, s2', hK2⟩
            have s1a := s1'.kept hK2 hd3 hd4
            refine hK' _ _ (fun _ => hK2.mono (fun i h1 h2 => by rcases h2 with h2 | h2 <;> omega)) ?_
            clear hK'
            simp only [List.setIfInBounds_toArray, List.set_cons_zero, List.set_cons_succ]
            refine wpAnyG_pure 12 56 (v := ?_) rfl (by kernel_rfl) rfl (by rfl) (fun w' => ?_) ?_
            rotate_left
            · go_simp <;> with_reducible rfl
            simp only [List.setIfInBounds_toArray, List.set_cons_zero, List.set_cons_succ]
            refine wpAnyG_pure 13 57 (v := ?_) rfl (by kernel_rfl) rfl (by rfl) (fun w' => ?_) ?_
            rotate_left
            · go_simp <;> with_reducible rfl
            simp only [List.setIfInBounds_toArray, List.set_cons_zero, List.set_cons_succ]
            refine wpAnyG_pure 14 58 (v := ?_) rfl (by kernel_rfl) rfl (by rfl) (fun w' => ?_) ?_
            rotate_left
            · go_simp <;> with_reducible rfl
            simp only [List.setIfInBounds_toArray, List.set_cons_zero, List.set_cons_succ]
            refine wpAnyG_pure 16 60 (v := ?_) rfl (by kernel_rfl) rfl (by rfl) (fun w' => ?_) ?_
            rotate_left
            · go_simp <;> with_reducible rfl
            simp only [List.setIfInBounds_toArray, List.set_cons_zero, List.set_cons_succ]
            refine wpAnyG_step 15 59 rfl (by kernel_rfl) rfl (by rfl) (fun K hK' => ?_)
            -- 59 call 10 guard 13 false [law.go:94]
            go_simp
            refine (count_any w2 R1 C1 9 _ _ _ s1a).mono ?_
            rintro e w3 ⟨rfl, rfl⟩
            refine hK' _ _ (fun _ => Kept.refl _ _) ?_
            clear hK'
            simp only [List.setIfInBounds_toArray, List.set_cons_zero, List.set_cons_succ]
            refine wpAnyG_step 17 61 rfl (by kernel_rfl) rfl (by rfl) (fun K hK' => ?_)
            -- 61 call 10 guard 13 false [law.go:94]
            go_simp
            refine (count_any w2 R2 C2 9 _ _ _ s2').mono ?_
            rintro e w3 ⟨rfl, rfl⟩
            refine hK' _ _ (fun _ => Kept.refl _ _) ?_
            clear hK'
            simp only [List.setIfInBounds_toArray, List.set_cons_zero, List.set_cons_succ]
            refine wpAnyG_pure 18 62 (v := ?_) rfl (by kernel_rfl) rfl (by rfl) (fun w' => ?_) ?_
            rotate_left
            · go_simp <;> with_reducible rfl
            simp only [List.setIfInBounds_toArray, List.set_cons_zero, List.set_cons_succ]
            refine wpAnyG_pure 19 63 (v := ?_) rfl (by kernel_rfl) rfl (by rfl) (fun w' => ?_) ?_
            rotate_left
            · go_simp <;> with_reducible rfl
            simp only [List.setIfInBounds_toArray, List.set_cons_zero, List.set_cons_succ]
            refine wpAnyG_done (by kernel_rfl) ?_
            have kF : Kept (fun k => w.heap.size ≤ k) wr w2 := (((Kept.refl _ wr).drew).then hK1 (fun i h1 h2 => by rcases h2 with h2 | h2 <;> omega)).then hK2 (fun i h1 h2 => by rcases h2 with h2 | h2 <;> omega)
            have d1 := kF.cell hc1 hbF
            have kG : Grew w w2 := hK.then kF (fun i h1 h2 => by omega)
            have sA := s1a
            have sB := s2'
            clear s1a s2' s1' s2a s1 s2 hK1 hK2 hc0 hc1 hc2 hK
            go_wp2_with fail
            refine (get_any w2 R1 C1 9 _ _ _ (z2 k).i sA).mono ?_
            rintro e w3 ⟨he, hK3⟩
            simp only [getE] at he
            subst he
            have d2 := hK3.cell d1
            have sA3 := sA.kept hK3 (fun h => h) (fun h => h)
            have sB3 := sB.kept hK3 (fun h => h) (fun h => h)
            clear sA sB d1
            go_wp2_with fail
            refine (get_any w3 R2 C2 9 _ _ _ (z2 k).i sB3).mono ?_
            rintro e w4 ⟨he, hK4⟩
            simp only [getE] at he
            subst he
            have sA4 := sA3.kept hK4 (fun h => h) (fun h => h)
            have sB4 := sB3.kept hK4 (fun h => h) (fun h => h)
            clear sA3 sB3 d2
            go_wp2_with fail
            go_roundw
            case rel => exact ⟨k + 1, _, _, _, _, by omega, by go_num, by omega, by omega, by omega, sA4, sB4, (kG.grew hK3).grew hK4⟩
            case measure => simp [intOf]; omega
          · go_wp2_with fail
            refine (hA.out _).mono ?_
            rintro e w3 ⟨rfl, hK3⟩
            go_wp2_with fail
            go_ret
            exact ⟨rfl, hK.trans hK3⟩
end Go.Proofs.Ytlokmciilminhaa
