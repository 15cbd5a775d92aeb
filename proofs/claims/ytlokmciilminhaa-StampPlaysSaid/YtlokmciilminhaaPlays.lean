/- The law StampPlays. -/
import Derived.Test.YtlokmciilminhaaLike
namespace Go.Proofs.Ytlokmciilminhaa
open Go.RowKit Go.Shelf

theorem seqOf_nil : ∀ n, seqOf (fun _ => none) n = []
  | 0 => rfl
  | n + 1 => by rw [seqOf_none rfl, seqOf_nil n]
theorem seqOf_upd_far (h : Have) (v : Int) (i : Nat) : ∀ k, k ≤ i → (seqOf (upd h i v) k) = seqOf h k
  | 0, _ => rfl
  | k + 1, hk => by
    have ih := seqOf_upd_far h v i k (by omega)
    have e : upd h i v (k : Int) = h (k : Int) := by unfold upd; rw [if_neg (by omega)]
    cases hh : h (k : Int) with
    | none => rw [seqOf_none hh, seqOf_none (e.trans hh), ih]
    | some x => rw [seqOf_some hh, seqOf_some (e.trans hh), ih]
theorem seqOf_upd (h : Have) (v : Int) (i : Nat) : ∀ n, i < n → ((seqOf (upd h i v) n).length : Int) = manyP (h i) ((seqOf h n).length : Int)
  | n + 1, hi => by
    rcases Nat.lt_or_ge i n with hl | hl
    · have ih := seqOf_upd h v i n hl
      have e : upd h i v (n : Int) = h (n : Int) := by unfold upd; rw [if_neg (by omega)]
      cases hh : h (n : Int) with
      | none => rw [seqOf_none hh, seqOf_none (e.trans hh), ih]
      | some x =>
        rw [seqOf_some hh, seqOf_some (e.trans hh), List.length_append, List.length_append]
        simp only [List.length_cons, List.length_nil, Nat.zero_add, Int.natCast_add, ih]
        unfold manyP
        split <;> omega
    · obtain rfl : i = n := by omega
      have e : upd h i v (i : Int) = some v := by simp [upd]
      rw [seqOf_some e, seqOf_upd_far h v i i (Nat.le_refl _), List.length_append]
      cases hh : h (i : Int) with
      | none => rw [seqOf_none hh]; simp [manyP]
      | some x => rw [seqOf_some hh]; simp [manyP]
theorem seqOf_act (n : Nat) (h : Have) (a : Act3) (hout : ∀ i : Int, i < 0 ∨ n ≤ i → h i = none) (hk : a.kind = 0 ∨ a.kind = 1 ∨ a.kind = 2) : actM n h a ((seqOf h n).length : Int) = ((seqOf (actH n h a) n).length : Int) := by
  obtain ⟨k, i, v⟩ := a
  have key : inn n i = true → ((seqOf (upd h i v) n).length : Int) = manyP (h i) ((seqOf h n).length : Int) := fun hi => by
    have hi' : 0 ≤ i ∧ i < n := of_decide_eq_true hi
    obtain ⟨j, rfl⟩ := Int.eq_ofNat_of_zero_le hi'.1
    exact seqOf_upd h v j n (by omega)
  rcases hk with rfl | rfl | rfl
  · show putM n h i _ = ((seqOf (putH n h i v) n).length : Int)
    unfold putM putH
    cases hb : inn n i with
    | true => simp only [if_true]; exact (key hb).symm
    | false => simp only [Bool.false_eq_true, if_false]
  · show leastM n h i v _ = ((seqOf (leastH n h i v) n).length : Int)
    unfold leastM leastH
    cases hb : leastB n h i v with
    | true =>
      simp only [if_true]
      have : inn n i = true := by unfold leastB at hb; exact (Bool.and_eq_true _ _ ▸ hb).1
      exact (key this).symm
    | false => simp only [Bool.false_eq_true, if_false]
  · show (0 : Int) = ((seqOf (fun _ => none) n).length : Int)
    rw [seqOf_nil]; rfl
set_option maxHeartbeats 8000000 in
set_option maxRecDepth 100000 in
theorem plays_main (n : Nat) (A : Option Addr) (len cap : Nat) (z : Nat → Act3) (w : World) (r : RowA w A len z) (hl : len ≤ 100) (hn : n ≤ 100) :
    Calls Try.prog 4 #[i64 n, .slice A len cap] w fun e w' => e = .returned (.bool true) ∧ Grew w w' := by
  have hA := Lib.hid alive_any
  have HR := Lib.hid r
  obtain ⟨i0, hi, hz0, hz1, hz2⟩ := info_parts info_rcell
  have hmk := fun W => run_make (P := Try.prog) W 34 51 i0 _ Try.underlying34 hi hz0 .i64 .i64 (n : Int) (n : Int) (by omega) (Int.le_refl _) (by rw [hz2]; omega) (by omega)
  simp only [Int.toNat_natCast, hz1] at hmk
  clear hi hz0 hz1 hz2 r
  go_enter Try.func4, Try.ntmps4
  go_wp2_with fail
  refine (new_yes n w (by omega)).mono ?_
  rintro e w1 ⟨R, C, rfl, hR, hC, s1, k1⟩
  have hRl := s1.row.lt
  have hCl : C < w1.heap.size := by obtain ⟨cs, hb, _⟩ := s1.cells; exact hb.lt
  have hX0 := made_row n w1 w1.heap.size (Nat.le_refl _) (by omega)
  have hs0 : Hid (Stamp (w1.alloc (.cells (madeCells #[.bool false, u64 0] (n * 2)) 51)) R C n (fun _ => none) 1 ((seqOf (fun _ => none) n).length : Int)) := by
    show Stamp _ _ _ _ _ _ _
    rw [seqOf_nil]
    exact s1.kept ((Kept.refl (fun _ => False) w1).alloc _) (fun h => h) (fun h => h)
  have hx0 := Lib.hid hX0
  have hK0 := k1.alloc (.cells (madeCells #[.bool false, u64 0] (n * 2)) 51)
  have hzs : w1.heap.size ≤ (w1.alloc (.cells (madeCells #[.bool false, u64 0] (n * 2)) 51)).heap.size := by simp
  obtain ⟨B, hBe⟩ : ∃ B, w1.heap.size = B := ⟨_, rfl⟩
  rw [hBe] at hx0 hRl hCl hzs
  have hBe := Lib.hid hBe
  clear hX0 s1 k1
  go_wp2_with fail
  go_loopw [6, 7, 8, 9, 10] (fun x i u8 u9 u10 wr => ∃ (k : Nat) (h : Have) (now : Int), k ≤ len ∧ i = .int .i64 k ∧ Hid (Stamp wr R C n h now ((seqOf h n).length : Int)) ∧ Hid (RefR wr B x n h) ∧ now ≤ k + 1 ∧ Grew w wr ∧ B ≤ wr.heap.size) (fun x i u8 u9 u10 _ => len - (intOf i).toNat)
  case atStart => exact ⟨0, _, 1, by omega, rfl, hs0, hx0, by omega, hK0, hzs⟩
  case round =>
    clear hs0 hx0 hK0 hmk hzs
    obtain ⟨k, h, now, hk, rfl, hs, hr, hnow, hK, hB⟩ := hrel
    by_cases hlt : k < len
    · obtain ⟨b, off, hAe, e0, e1, e2⟩ := HR.out k hlt
      subst hAe
      have hml := seqOf_len h n
      have hm0 : (0 : Int) ≤ ((seqOf h n).length : Int) := by omega
      obtain ⟨ak, hak⟩ : ∃ a, z k = a := ⟨_, rfl⟩
      rw [hak] at e0 e1 e2
      clear hak
      obtain ⟨kd, i, v⟩ := ak
      replace e0 := Grew.cell hK e0
      replace e1 := Grew.cell hK e1
      replace e2 := Grew.cell hK e2
      have hout := Lib.hid hs.out.out
      by_cases hk0 : kd = 0
      · subst hk0
        have hs0 := hs
        have hKb := hK.alloc (.cells #[i64 0, i64 i, .int .u64 v] 29)
        have T := Blk.new wr 29 #[i64 0, i64 i, .int .u64 v]
        have t0 := T.cell 0
        have t1 := T.cell 1
        have t2 := T.cell 2
        have f0 := T.frozen 0
        simp at t0 t1 t2
        replace hs0 := Lib.hid (hs.out.kept ((Kept.refl (fun _ => False) wr).alloc (.cells #[i64 0, i64 i, .int .u64 v] 29)) (fun h => h) (fun h => h))
        replace hr := Lib.hid (hr.out.grew ((Kept.refl _ wr).alloc (.cells #[i64 0, i64 i, .int .u64 v] 29)))
        replace hB : B ≤ (wr.alloc (.cells #[i64 0, i64 i, .int .u64 v] 29)).heap.size := by simp; omega
        clear hs
        go_wp2_with fail
        refine (do_any ⟨0, i, v⟩ n h _ B u6 hr.out (by omega) hB hout.out (.inl rfl)).mono ?_
        rintro e wb ⟨X', rfl, hr1, kb⟩
        have T1 := T.grew kb
        replace t0 := T1.cell 0
        replace t1 := T1.cell 1
        replace t2 := T1.cell 2
        simp at t0 t1 t2
        have hs1 := Lib.hid (hs0.out.kept kb (fun h => h) (fun h => h))
        have hz1 := kb.size
        go_wp2_with fail
        refine (act_any _ R C n h now _ ⟨0, i, v⟩ hs1.out (by omega) (by omega)).mono ?_
        rintro e wc ⟨rfl, hs2, kc⟩
        have hr2 := hr1.keptT kc (fun j hj hf => by have := (World.ownsRow.lt hr1 j hj).1; rcases hf with rfl | rfl <;> omega)
        rw [seqOf_act n h ⟨0, i, v⟩ hout.out (.inl rfl)] at hs2
        have hs3 := Lib.hid hs2
        have hr3 := Lib.hid hr2
        have hlt := Lib.hid (World.ownsRow.lt hr2)
        clear hr1 hr2 hs2
        obtain ⟨bb, hbb⟩ : ∃ bb, actB n h ⟨0, i, v⟩ = bb := ⟨_, rfl⟩
        rw [hbb]
        clear hbb
        go_wp2_with fail
        refine (like_any R C n B _ _ X' _ hs3.out hr3.out (fun j hj => (hlt.out j hj).2)).mono ?_
        rintro e wd ⟨rfl, kd⟩
        go_wp2_with fail
        go_roundw
        case rel =>
          have hKc := (hKb.trans kb).then kc (fun i hi h => by rcases h with rfl | rfl <;> omega)
          have hn1 := actN_bd ⟨0, i, v⟩ now
          exact ⟨k + 1, _, _, by omega, by go_num, Lib.hid (hs3.out.kept kd (fun h => h) (fun h => h)), Lib.hid (hr3.out.grew kd), by omega, hKc.trans kd, by have := kc.size; have := kd.size; omega⟩
        case measure => simp [intOf]; omega
      by_cases hk1 : kd = 1
      · subst hk1
        have hs0 := hs
        have hKb := hK.alloc (.cells #[i64 1, i64 i, .int .u64 v] 29)
        have T := Blk.new wr 29 #[i64 1, i64 i, .int .u64 v]
        have t0 := T.cell 0
        have t1 := T.cell 1
        have t2 := T.cell 2
        have f0 := T.frozen 0
        simp at t0 t1 t2
        replace hs0 := Lib.hid (hs.out.kept ((Kept.refl (fun _ => False) wr).alloc (.cells #[i64 1, i64 i, .int .u64 v] 29)) (fun h => h) (fun h => h))
        replace hr := Lib.hid (hr.out.grew ((Kept.refl _ wr).alloc (.cells #[i64 1, i64 i, .int .u64 v] 29)))
        replace hB : B ≤ (wr.alloc (.cells #[i64 1, i64 i, .int .u64 v] 29)).heap.size := by simp; omega
        clear hs
        go_wp2_with fail
        refine (do_any ⟨1, i, v⟩ n h _ B u6 hr.out (by omega) hB hout.out (.inr (.inl rfl))).mono ?_
        rintro e wb ⟨X', rfl, hr1, kb⟩
        have T1 := T.grew kb
        replace t0 := T1.cell 0
        replace t1 := T1.cell 1
        replace t2 := T1.cell 2
        simp at t0 t1 t2
        have hs1 := Lib.hid (hs0.out.kept kb (fun h => h) (fun h => h))
        have hz1 := kb.size
        go_wp2_with fail
        refine (act_any _ R C n h now _ ⟨1, i, v⟩ hs1.out (by omega) (by omega)).mono ?_
        rintro e wc ⟨rfl, hs2, kc⟩
        have hr2 := hr1.keptT kc (fun j hj hf => by have := (World.ownsRow.lt hr1 j hj).1; rcases hf with rfl | rfl <;> omega)
        rw [seqOf_act n h ⟨1, i, v⟩ hout.out (.inr (.inl rfl))] at hs2
        have hs3 := Lib.hid hs2
        have hr3 := Lib.hid hr2
        have hlt := Lib.hid (World.ownsRow.lt hr2)
        clear hr1 hr2 hs2
        obtain ⟨bb, hbb⟩ : ∃ bb, actB n h ⟨1, i, v⟩ = bb := ⟨_, rfl⟩
        rw [hbb]
        clear hbb
        go_wp2_with fail
        refine (like_any R C n B _ _ X' _ hs3.out hr3.out (fun j hj => (hlt.out j hj).2)).mono ?_
        rintro e wd ⟨rfl, kd⟩
        go_wp2_with fail
        go_roundw
        case rel =>
          have hKc := (hKb.trans kb).then kc (fun i hi h => by rcases h with rfl | rfl <;> omega)
          have hn1 := actN_bd ⟨1, i, v⟩ now
          exact ⟨k + 1, _, _, by omega, by go_num, Lib.hid (hs3.out.kept kd (fun h => h) (fun h => h)), Lib.hid (hr3.out.grew kd), by omega, hKc.trans kd, by have := kc.size; have := kd.size; omega⟩
        case measure => simp [intOf]; omega
      rcases Int.lt_or_le kd 0 with hk2 | hk2
      · clear hk0 hk1
        have hs0 := hs
        have hKb := hK.alloc (.cells #[i64 2, i64 i, .int .u64 v] 29)
        have T := Blk.new wr 29 #[i64 2, i64 i, .int .u64 v]
        have t0 := T.cell 0
        have t1 := T.cell 1
        have t2 := T.cell 2
        have f0 := T.frozen 0
        simp at t0 t1 t2
        replace hs0 := Lib.hid (hs.out.kept ((Kept.refl (fun _ => False) wr).alloc (.cells #[i64 2, i64 i, .int .u64 v] 29)) (fun h => h) (fun h => h))
        replace hr := Lib.hid (hr.out.grew ((Kept.refl _ wr).alloc (.cells #[i64 2, i64 i, .int .u64 v] 29)))
        replace hB : B ≤ (wr.alloc (.cells #[i64 2, i64 i, .int .u64 v] 29)).heap.size := by simp; omega
        clear hs
        go_wp2_with fail
        refine (do_any ⟨2, i, v⟩ n h _ B u6 hr.out (by omega) hB hout.out (.inr (.inr rfl))).mono ?_
        rintro e wb ⟨X', rfl, hr1, kb⟩
        have T1 := T.grew kb
        replace t0 := T1.cell 0
        replace t1 := T1.cell 1
        replace t2 := T1.cell 2
        simp at t0 t1 t2
        have hs1 := Lib.hid (hs0.out.kept kb (fun h => h) (fun h => h))
        have hz1 := kb.size
        go_wp2_with fail
        refine (act_any _ R C n h now _ ⟨2, i, v⟩ hs1.out (by omega) (by omega)).mono ?_
        rintro e wc ⟨rfl, hs2, kc⟩
        have hr2 := hr1.keptT kc (fun j hj hf => by have := (World.ownsRow.lt hr1 j hj).1; rcases hf with rfl | rfl <;> omega)
        rw [seqOf_act n h ⟨2, i, v⟩ hout.out (.inr (.inr rfl))] at hs2
        have hs3 := Lib.hid hs2
        have hr3 := Lib.hid hr2
        have hlt := Lib.hid (World.ownsRow.lt hr2)
        clear hr1 hr2 hs2
        obtain ⟨bb, hbb⟩ : ∃ bb, actB n h ⟨2, i, v⟩ = bb := ⟨_, rfl⟩
        rw [hbb]
        clear hbb
        go_wp2_with fail
        refine (like_any R C n B _ _ X' _ hs3.out hr3.out (fun j hj => (hlt.out j hj).2)).mono ?_
        rintro e wd ⟨rfl, kd⟩
        go_wp2_with fail
        go_roundw
        case rel =>
          have hKc := (hKb.trans kb).then kc (fun i hi h => by rcases h with rfl | rfl <;> omega)
          have hn1 := actN_bd ⟨2, i, v⟩ now
          exact ⟨k + 1, _, _, by omega, by go_num, Lib.hid (hs3.out.kept kd (fun h => h) (fun h => h)), Lib.hid (hr3.out.grew kd), by omega, hKc.trans kd, by have := kc.size; have := kd.size; omega⟩
        case measure => simp [intOf]; omega
      · have hk3 : 1 < kd := by omega
        clear hk0 hk1
        have hs0 := hs
        have hKb := hK.alloc (.cells #[i64 2, i64 i, .int .u64 v] 29)
        have T := Blk.new wr 29 #[i64 2, i64 i, .int .u64 v]
        have t0 := T.cell 0
        have t1 := T.cell 1
        have t2 := T.cell 2
        have f0 := T.frozen 0
        simp at t0 t1 t2
        replace hs0 := Lib.hid (hs.out.kept ((Kept.refl (fun _ => False) wr).alloc (.cells #[i64 2, i64 i, .int .u64 v] 29)) (fun h => h) (fun h => h))
        replace hr := Lib.hid (hr.out.grew ((Kept.refl _ wr).alloc (.cells #[i64 2, i64 i, .int .u64 v] 29)))
        replace hB : B ≤ (wr.alloc (.cells #[i64 2, i64 i, .int .u64 v] 29)).heap.size := by simp; omega
        clear hs
        go_wp2_with fail
        refine (do_any ⟨2, i, v⟩ n h _ B u6 hr.out (by omega) hB hout.out (.inr (.inr rfl))).mono ?_
        rintro e wb ⟨X', rfl, hr1, kb⟩
        have T1 := T.grew kb
        replace t0 := T1.cell 0
        replace t1 := T1.cell 1
        replace t2 := T1.cell 2
        simp at t0 t1 t2
        have hs1 := Lib.hid (hs0.out.kept kb (fun h => h) (fun h => h))
        have hz1 := kb.size
        go_wp2_with fail
        refine (act_any _ R C n h now _ ⟨2, i, v⟩ hs1.out (by omega) (by omega)).mono ?_
        rintro e wc ⟨rfl, hs2, kc⟩
        have hr2 := hr1.keptT kc (fun j hj hf => by have := (World.ownsRow.lt hr1 j hj).1; rcases hf with rfl | rfl <;> omega)
        rw [seqOf_act n h ⟨2, i, v⟩ hout.out (.inr (.inr rfl))] at hs2
        have hs3 := Lib.hid hs2
        have hr3 := Lib.hid hr2
        have hlt := Lib.hid (World.ownsRow.lt hr2)
        clear hr1 hr2 hs2
        obtain ⟨bb, hbb⟩ : ∃ bb, actB n h ⟨2, i, v⟩ = bb := ⟨_, rfl⟩
        rw [hbb]
        clear hbb
        go_wp2_with fail
        refine (like_any R C n B _ _ X' _ hs3.out hr3.out (fun j hj => (hlt.out j hj).2)).mono ?_
        rintro e wd ⟨rfl, kd⟩
        go_wp2_with fail
        go_roundw
        case rel =>
          have hKc := (hKb.trans kb).then kc (fun i hi h => by rcases h with rfl | rfl <;> omega)
          have hn1 := actN_bd ⟨2, i, v⟩ now
          exact ⟨k + 1, _, _, by omega, by go_num, Lib.hid (hs3.out.kept kd (fun h => h) (fun h => h)), Lib.hid (hr3.out.grew kd), by omega, hKc.trans kd, by have := kc.size; have := kd.size; omega⟩
        case measure => simp [intOf]; omega
    · obtain rfl : k = len := by omega
      have hG := Lib.hid (get_any _ R C n h now _ n hs.out)
      rw [hs.out.out n (.inr (by omega))] at hG
      go_wp2_with fail
      refine hG.out.mono ?_
      rintro e wa ⟨he, ka⟩
      simp only [getE, Option.getD_none, Option.isSome_none] at he
      subst he
      go_wp2_with fail
      refine (hA.out _).mono ?_
      rintro e wb ⟨rfl, kb⟩
      go_wp2_with fail
      go_ret
      exact ⟨rfl, (hK.trans ka).trans kb⟩

set_option maxHeartbeats 2000000 in
set_option maxRecDepth 100000 in
theorem plays_law (n : Int) (A : Option Addr) (len cap : Nat) (z : Nat → Act3) (w : World) (r : RowA w A len z) (hl : len ≤ 9223372036854775807) :
    Calls Try.prog 4 #[i64 n, .slice A len cap] w fun e w' => e = .returned (.bool true) ∧ Grew w w' := by
  have hA := Lib.hid alive_any
  by_cases h1 : 100 < len
  · clear r
    go_enter Try.func4, Try.ntmps4
    go_wp2_with fail
    refine (hA.out _).mono ?_
    rintro e wb ⟨rfl, kb⟩
    go_wp2_with fail
    go_ret
    exact ⟨rfl, kb⟩
  by_cases h2 : 100 < n ∧ n ≤ 65536
  · obtain ⟨h3, h4⟩ := h2
    have h5 : len ≤ 100 := by omega
    clear r h1
    go_enter Try.func4, Try.ntmps4
    go_wp2_with fail
    refine (hA.out _).mono ?_
    rintro e wb ⟨rfl, kb⟩
    go_wp2_with fail
    go_ret
    exact ⟨rfl, kb⟩
  by_cases h3 : 0 ≤ n ∧ n ≤ 100
  · obtain ⟨m, rfl⟩ := Int.eq_ofNat_of_zero_le h3.1
    exact plays_main m A len cap z w r (by omega) (by omega)
  · have hN := Lib.hid (fun W => new_no n W (by omega))
    have h5 : len ≤ 100 := by omega
    rcases Int.lt_or_le n 0 with h4 | h4
    · clear r h1 h2 h3
      go_enter Try.func4, Try.ntmps4
      go_wp2_with fail
      refine (hN.out _).mono ?_
      rintro e wa ⟨rfl, rfl⟩
      go_wp2_with fail
      refine (hA.out _).mono ?_
      rintro e wb ⟨rfl, kb⟩
      go_wp2_with fail
      go_ret
      exact ⟨rfl, kb⟩
    · have h6 : 65536 < n := by omega
      clear r h1 h2 h3
      go_enter Try.func4, Try.ntmps4
      go_wp2_with fail
      refine (hN.out _).mono ?_
      rintro e wa ⟨rfl, rfl⟩
      go_wp2_with fail
      refine (hA.out _).mono ?_
      rintro e wb ⟨rfl, kb⟩
      go_wp2_with fail
      go_ret
      exact ⟨rfl, kb⟩
end Go.Proofs.Ytlokmciilminhaa
