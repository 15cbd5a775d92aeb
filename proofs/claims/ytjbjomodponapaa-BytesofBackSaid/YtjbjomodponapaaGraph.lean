/- Whether a graph is right: the program's walk. -/
import Derived.Test.YtjbjomodponapaaRefRight
namespace Go.Proofs.Ytjbjomodponapaa
open Go.RowKit

theorem node_any (n : Int) (A : Option Addr) (L c : Nat) (v : Int) (w : World) : Calls Try.prog 29 #[.agg #[i64 n, .slice A L c], i64 v] w fun e w' => e = .returned (.bool (decide (0 ≤ v ∧ v < n))) ∧ Grew w w' := by
  have hk : Grew w (w.alloc (.cells #[i64 n, .slice A L c] 24)) := (Kept.refl _ _).alloc _
  rcases Int.lt_or_le v 0 with h1 | h1
  · have hr : decide (0 ≤ v ∧ v < n) = false := decide_eq_false (by omega)
    rw [hr]
    clear hr
    have h2 : ¬ 0 ≤ v := by omega
    go_enter Try.func29, Try.ntmps29
    go_wp2_with fail
    go_ret
    exact ⟨rfl, hk⟩
  · rcases Int.lt_or_le v n with h2 | h2
    · have hr : decide (0 ≤ v ∧ v < n) = true := decide_eq_true (by omega)
      rw [hr]
      clear hr
      go_enter Try.func29, Try.ntmps29
      go_wp2_with fail
      go_ret
      exact ⟨rfl, hk⟩
    · have hr : decide (0 ≤ v ∧ v < n) = false := decide_eq_false (by omega)
      rw [hr]
      clear hr
      have h3 : ¬ v < n := by omega
      go_enter Try.func29, Try.ntmps29
      go_wp2_with fail
      go_ret
      exact ⟨by simp, hk⟩
theorem weight_any (v : Int) (w : World) : Calls Try.prog 31 #[u64 v] w fun e w' => e = .returned (.bool (decide (1 ≤ v ∧ v ≤ 4294967296))) ∧ w = w' := by
  rcases Int.lt_or_le v 1 with h1 | h1
  · have hr : decide (1 ≤ v ∧ v ≤ 4294967296) = false := decide_eq_false (by omega)
    rw [hr]
    clear hr
    have h2 : ¬ 1 ≤ v := by omega
    go_enter Try.func31, Try.ntmps31
    go_wp2_with fail
    go_ret
    exact ⟨rfl, rfl⟩
  · rcases Int.lt_or_le 4294967296 v with h2 | h2
    · have hr : decide (1 ≤ v ∧ v ≤ 4294967296) = false := decide_eq_false (by omega)
      rw [hr]
      clear hr
      have h3 : ¬ v ≤ 4294967296 := by omega
      go_enter Try.func31, Try.ntmps31
      go_wp2_with fail
      go_ret
      exact ⟨by simp, rfl⟩
    · have hr : decide (1 ≤ v ∧ v ≤ 4294967296) = true := decide_eq_true (by omega)
      rw [hr]
      clear hr
      go_enter Try.func31, Try.ntmps31
      go_wp2_with fail
      go_ret
      exact ⟨rfl, rfl⟩

theorem loose_any (n p q r : Int) (A : Option Addr) (L c G : Nat) (w : World) (hB : Blk w G 24 #[i64 n, .slice A L c]) :
    Calls Try.prog 28 #[.agg #[i64 p, i64 q, u64 r], pt G] w fun e w' => e = .returned (.bool (!nodeOk n (p, q, r))) ∧ Grew w w' := by
  have b1 : Blk (w.alloc (.cells #[i64 p, i64 q, u64 r] 51)) G 24 #[i64 n, .slice A L c] := hB.alloc _
  have bE := Blk.new w 51 #[i64 p, i64 q, u64 r]
  have hK : Grew w (w.alloc (.cells #[i64 p, i64 q, u64 r] 51)) := (Kept.refl _ _).alloc _
  have e0 := bE.cell 0
  have e1 := bE.cell 1
  have g0 := b1.cell 0
  have g1 := b1.cell 1
  simp at e0 e1 g0 g1
  have hN := Lib.hid (fun v W => node_any n A L c v W)
  by_cases hp : 0 ≤ p ∧ p < n
  · have hnp : Hid (decide (0 ≤ p ∧ p < n) = true) := decide_eq_true hp
    by_cases hq : 0 ≤ q ∧ q < n
    · have hnq : Hid (decide (0 ≤ q ∧ q < n) = true) := decide_eq_true hq
      by_cases hpq : p = q
      · have hr : Hid (nodeOk n (p, q, r) = false) := by show _ = _; simp [nodeOk, hpq]
        have hb : (p == q) = true := by simpa using hpq
        clear hp hq hpq
        go_enter Try.func28, Try.ntmps28
        go_wp2_with fail
        refine (hN.out _ _).mono ?_
        rintro e w1 ⟨rfl, k1⟩
        rw [hnp.out]
        replace b1 := b1.grew k1
        replace bE := bE.grew k1
        replace e0 := bE.cell 0
        replace e1 := bE.cell 1
        replace g0 := b1.cell 0
        replace g1 := b1.cell 1
        simp at e0 e1 g0 g1
        go_wp2_with fail
        refine (hN.out _ _).mono ?_
        rintro e w2 ⟨rfl, k2⟩
        rw [hnq.out]
        replace bE := bE.grew k2
        replace e0 := bE.cell 0
        replace e1 := bE.cell 1
        simp at e0 e1
        go_wp2_with fail
        go_ret
        rw [hr.out]
        exact ⟨rfl, (hK.trans k1).trans k2⟩
      · have hr : Hid (nodeOk n (p, q, r) = true) := by show _ = _; simp [nodeOk, hnp.out, hnq.out, hpq]
        have hb : (p == q) = false := by simpa using hpq
        clear hp hq hpq
        go_enter Try.func28, Try.ntmps28
        go_wp2_with fail
        refine (hN.out _ _).mono ?_
        rintro e w1 ⟨rfl, k1⟩
        rw [hnp.out]
        replace b1 := b1.grew k1
        replace bE := bE.grew k1
        replace e0 := bE.cell 0
        replace e1 := bE.cell 1
        replace g0 := b1.cell 0
        replace g1 := b1.cell 1
        simp at e0 e1 g0 g1
        go_wp2_with fail
        refine (hN.out _ _).mono ?_
        rintro e w2 ⟨rfl, k2⟩
        rw [hnq.out]
        replace bE := bE.grew k2
        replace e0 := bE.cell 0
        replace e1 := bE.cell 1
        simp at e0 e1
        go_wp2_with fail
        go_ret
        rw [hr.out]
        exact ⟨rfl, (hK.trans k1).trans k2⟩
    · have hnq : Hid (decide (0 ≤ q ∧ q < n) = false) := decide_eq_false hq
      have hr : Hid (nodeOk n (p, q, r) = false) := by show _ = _; simp [nodeOk, hnq.out]
      clear hp hq
      go_enter Try.func28, Try.ntmps28
      go_wp2_with fail
      refine (hN.out _ _).mono ?_
      rintro e w1 ⟨rfl, k1⟩
      rw [hnp.out]
      replace b1 := b1.grew k1
      replace bE := bE.grew k1
      replace e0 := bE.cell 0
      replace e1 := bE.cell 1
      replace g0 := b1.cell 0
      replace g1 := b1.cell 1
      simp at e0 e1 g0 g1
      go_wp2_with fail
      refine (hN.out _ _).mono ?_
      rintro e w2 ⟨rfl, k2⟩
      rw [hnq.out]
      go_wp2_with fail
      go_ret
      rw [hr.out]
      exact ⟨rfl, (hK.trans k1).trans k2⟩
  · have hnp : Hid (decide (0 ≤ p ∧ p < n) = false) := decide_eq_false hp
    have hr : Hid (nodeOk n (p, q, r) = false) := by show _ = _; simp [nodeOk, hnp.out]
    clear hp
    go_enter Try.func28, Try.ntmps28
    go_wp2_with fail
    refine (hN.out _ _).mono ?_
    rintro e w1 ⟨rfl, k1⟩
    rw [hnp.out]
    go_wp2_with fail
    go_ret
    rw [hr.out]
    exact ⟨rfl, hK.trans k1⟩

theorem heavy_any (p q r : Int) (w : World) : Calls Try.prog 30 #[.agg #[i64 p, i64 q, u64 r]] w fun e w' => e = .returned (.bool (!wOk (p, q, r))) ∧ Grew w w' := by
  have bE := Blk.new w 51 #[i64 p, i64 q, u64 r]
  have hK : Grew w (w.alloc (.cells #[i64 p, i64 q, u64 r] 51)) := (Kept.refl _ _).alloc _
  have hN : Hid (∀ W, Calls Try.prog 31 #[u64 r] W fun e w' => e = .returned (.bool (wOk (p, q, r))) ∧ W = w') := fun W => weight_any r W
  have e2 := bE.cell 2
  simp at e2
  go_enter Try.func30, Try.ntmps30
  go_wp2_with fail
  refine (hN.out _).mono ?_
  rintro e w1 ⟨rfl, rfl⟩
  go_wp2_with fail
  go_ret
  exact ⟨rfl, hK⟩

/-- The first that is not so; -1: there is none. -/
def idxF (ok : Edg → Bool) (es : List Edg) : Int := if es.all ok = true then -1 else ((es.takeWhile ok).length : Int)
theorem idxF_none {ok : Edg → Bool} {es : List Edg} (h : es.all ok = true) : idxF ok es = -1 := if_pos h
theorem takeWhile_at (ok : Edg → Bool) : ∀ (es : List Edg) (k : Nat) (e : Edg), (es.take k).all ok = true → es[k]? = some e → ok e = false → (es.takeWhile ok).length = k
  | [], k, e, _, h, _ => by simp at h
  | x :: es, 0, e, _, h, ho => by
    simp only [List.getElem?_cons_zero, Option.some.injEq] at h
    subst h
    simp [List.takeWhile, ho]
  | x :: es, k + 1, e, hk, h, ho => by
    simp only [List.take_succ_cons, List.all_cons, Bool.and_eq_true] at hk
    rw [List.getElem?_cons_succ] at h
    simp [List.takeWhile, hk.1, takeWhile_at ok es k e hk.2 h ho]
theorem idxF_at {ok : Edg → Bool} {es : List Edg} {k : Nat} {e : Edg} (hk : (es.take k).all ok = true) (h : es[k]? = some e) (ho : ok e = false) : idxF ok es = k := by
  unfold idxF
  rw [if_neg (by rw [all_fail h ho]; simp), takeWhile_at ok es k e hk h ho]


set_option maxHeartbeats 1000000 in
theorem index_loose (n : Int) (A0 : Option Addr) (L0 c0 G : Nat) (A : Option Addr) (c : Nat) (es : List Edg) (w : World) (hB : Blk w G 24 #[i64 n, .slice A0 L0 c0]) (h : RowE w A es) (hl : es.length ≤ 100000) :
    Calls Try.prog 38 #[.slice A es.length c, .func (.func 28) #[] #[pt G]] w fun e w' => e = .returned (i64 (idxF (nodeOk n) es)) ∧ Grew w w' := by
  obtain ⟨L, hL⟩ : ∃ L, es.length = L := ⟨_, rfl⟩
  have HL := Lib.hid hL
  rw [hL] at hl
  rw [hL]
  clear hL
  have hE := Lib.hid h
  clear h
  have hk0 : Grew w w := Kept.refl _ _
  go_enter Try.func38, Try.ntmps38
  go_wp2_with fail
  go_loopw [5, 8] (fun u i wr => ∃ (k : Nat), k ≤ L ∧ i = .int .i64 k ∧ Hid ((es.take k).all (nodeOk n) = true) ∧ Blk wr G 24 #[i64 n, .slice A0 L0 c0] ∧ Hid (RowE wr A es) ∧ Grew w wr) (fun u i _ => L - (intOf i).toNat)
  case atStart => exact ⟨0, by omega, rfl, rfl, hB, hE, hk0⟩
  case round =>
    clear hE hk0 hB
    rename_i wr _ _
    obtain ⟨k, hk, rfl, hS, hB, hE, hK⟩ := hrel
    by_cases hlt : k < L
    · obtain ⟨x, hx⟩ : ∃ x, es[k]? = some x := ⟨_, List.getElem?_eq_getElem (by rw [HL.out]; exact hlt)⟩
      obtain ⟨b, off, hAe, hb, e0, e1, e2⟩ := hE.out k x hx
      have HX := Lib.hid hx
      clear hx
      subst hAe
      obtain ⟨p, q, r⟩ := x
      have hC := Lib.hid (loose_any n p q r A0 L0 c0 G wr hB)
      go_wp2_with fail
      refine (hC.out).mono ?_
      rintro e w1 ⟨rfl, k1⟩
      by_cases ho : (nodeOk n) (p, q, r) = true
      · have hS1 : Hid ((es.take (k + 1)).all (nodeOk n) = true) := all_next hS.out HX.out ho
        rw [ho]
        clear ho
        go_wp2_with fail
        go_roundw
        case rel => exact ⟨k + 1, by omega, by go_num, hS1, hB.grew k1, Lib.hid (hE.out.grew k1), hK.trans k1⟩
        case measure => simp [intOf]; omega
      · have ho' : (nodeOk n) (p, q, r) = false := by simpa using ho
        have hr : Hid (idxF (nodeOk n) es = k) := idxF_at hS.out HX.out ho'
        rw [ho']
        clear ho ho'
        go_wp2_with fail
        go_ret
        rw [hr.out]
        exact ⟨rfl, hK.trans k1⟩
    · obtain rfl : k = L := by omega
      have hr : Hid (idxF (nodeOk n) es = -1) := by
        have h := hS.out
        rw [List.take_of_length_le (by rw [HL.out]; exact Nat.le_refl _)] at h
        exact idxF_none h
      go_wp2_with fail
      go_ret
      rw [hr.out]
      exact ⟨rfl, hK⟩

theorem contains_loose (n : Int) (A0 : Option Addr) (L0 c0 G : Nat) (A : Option Addr) (c : Nat) (es : List Edg) (w : World) (hB : Blk w G 24 #[i64 n, .slice A0 L0 c0]) (h : RowE w A es) (hl : es.length ≤ 100000) :
    Calls Try.prog 32 #[.slice A es.length c, .func (.func 28) #[] #[pt G]] w fun e w' => e = .returned (.bool (!es.all (nodeOk n))) ∧ Grew w w' := by
  have hC := Lib.hid (index_loose n A0 L0 c0 G A c es w hB h hl)
  by_cases ho : es.all (nodeOk n) = true
  · have hr := idxF_none ho
    rw [hr] at hC
    rw [ho]
    clear hr ho h
    go_enter Try.func32, Try.ntmps32
    go_wp2_with fail
    refine hC.out.mono ?_
    rintro e w1 ⟨rfl, k1⟩
    go_wp2_with fail
    go_ret
    exact ⟨rfl, k1⟩
  · have ho' : es.all (nodeOk n) = false := by simpa using ho
    obtain ⟨m, hm⟩ : ∃ m : Nat, idxF (nodeOk n) es = m := ⟨_, if_neg ho⟩
    rw [hm] at hC
    rw [ho']
    clear hm ho ho' h
    have hm0 : (0 : Int) ≤ (m : Int) := by omega
    go_enter Try.func32, Try.ntmps32
    go_wp2_with fail
    refine hC.out.mono ?_
    rintro e w1 ⟨rfl, k1⟩
    go_wp2_with fail
    go_ret
    exact ⟨rfl, k1⟩

set_option maxHeartbeats 1000000 in
theorem index_heavy (A : Option Addr) (c : Nat) (es : List Edg) (w : World) (h : RowE w A es) (hl : es.length ≤ 100000) :
    Calls Try.prog 38 #[.slice A es.length c, .func (.func 30) #[] #[]] w fun e w' => e = .returned (i64 (idxF wOk es)) ∧ Grew w w' := by
  obtain ⟨L, hL⟩ : ∃ L, es.length = L := ⟨_, rfl⟩
  have HL := Lib.hid hL
  rw [hL] at hl
  rw [hL]
  clear hL
  have hE := Lib.hid h
  clear h
  have hk0 : Grew w w := Kept.refl _ _
  go_enter Try.func38, Try.ntmps38
  go_wp2_with fail
  go_loopw [5, 8] (fun u i wr => ∃ (k : Nat), k ≤ L ∧ i = .int .i64 k ∧ Hid ((es.take k).all wOk = true) ∧ Hid (RowE wr A es) ∧ Grew w wr) (fun u i _ => L - (intOf i).toNat)
  case atStart => exact ⟨0, by omega, rfl, rfl, hE, hk0⟩
  case round =>
    clear hE hk0
    rename_i wr _ _
    obtain ⟨k, hk, rfl, hS, hE, hK⟩ := hrel
    by_cases hlt : k < L
    · obtain ⟨x, hx⟩ : ∃ x, es[k]? = some x := ⟨_, List.getElem?_eq_getElem (by rw [HL.out]; exact hlt)⟩
      obtain ⟨b, off, hAe, hb, e0, e1, e2⟩ := hE.out k x hx
      have HX := Lib.hid hx
      clear hx
      subst hAe
      obtain ⟨p, q, r⟩ := x
      have hC := Lib.hid (heavy_any p q r wr)
      go_wp2_with fail
      refine (hC.out).mono ?_
      rintro e w1 ⟨rfl, k1⟩
      by_cases ho : wOk (p, q, r) = true
      · have hS1 : Hid ((es.take (k + 1)).all wOk = true) := all_next hS.out HX.out ho
        rw [ho]
        clear ho
        go_wp2_with fail
        go_roundw
        case rel => exact ⟨k + 1, by omega, by go_num, hS1, Lib.hid (hE.out.grew k1), hK.trans k1⟩
        case measure => simp [intOf]; omega
      · have ho' : wOk (p, q, r) = false := by simpa using ho
        have hr : Hid (idxF wOk es = k) := idxF_at hS.out HX.out ho'
        rw [ho']
        clear ho ho'
        go_wp2_with fail
        go_ret
        rw [hr.out]
        exact ⟨rfl, hK.trans k1⟩
    · obtain rfl : k = L := by omega
      have hr : Hid (idxF wOk es = -1) := by
        have h := hS.out
        rw [List.take_of_length_le (by rw [HL.out]; exact Nat.le_refl _)] at h
        exact idxF_none h
      go_wp2_with fail
      go_ret
      rw [hr.out]
      exact ⟨rfl, hK⟩

theorem contains_heavy (A : Option Addr) (c : Nat) (es : List Edg) (w : World) (h : RowE w A es) (hl : es.length ≤ 100000) :
    Calls Try.prog 32 #[.slice A es.length c, .func (.func 30) #[] #[]] w fun e w' => e = .returned (.bool (!es.all wOk)) ∧ Grew w w' := by
  have hC := Lib.hid (index_heavy A c es w h hl)
  by_cases ho : es.all wOk = true
  · have hr := idxF_none ho
    rw [hr] at hC
    rw [ho]
    clear hr ho h
    go_enter Try.func32, Try.ntmps32
    go_wp2_with fail
    refine hC.out.mono ?_
    rintro e w1 ⟨rfl, k1⟩
    go_wp2_with fail
    go_ret
    exact ⟨rfl, k1⟩
  · have ho' : es.all wOk = false := by simpa using ho
    obtain ⟨m, hm⟩ : ∃ m : Nat, idxF wOk es = m := ⟨_, if_neg ho⟩
    rw [hm] at hC
    rw [ho']
    clear hm ho ho' h
    have hm0 : (0 : Int) ≤ (m : Int) := by omega
    go_enter Try.func32, Try.ntmps32
    go_wp2_with fail
    refine hC.out.mono ?_
    rintro e w1 ⟨rfl, k1⟩
    go_wp2_with fail
    go_ret
    exact ⟨rfl, k1⟩

set_option maxHeartbeats 1000000 in
theorem right_any (n : Int) (A : Option Addr) (c : Nat) (es : List Edg) (w : World) (h : RowE w A es) (hl : es.length ≤ 100000) :
    Calls Try.prog 15 #[.agg #[i64 n, .slice A es.length c]] w fun e w' => e = .returned (i64 (rightF n es)) ∧ Grew w w' := by
  have b0 := Blk.new w 24 #[i64 n, .slice A es.length c]
  have hK0 : Grew w (w.alloc (.cells #[i64 n, .slice A es.length c] 24)) := (Kept.refl _ _).alloc _
  have hE := h.grew hK0
  have hC1 := Lib.hid (contains_loose n A es.length c w.heap.size A c es _ b0 hE hl)
  have hC2 := Lib.hid (fun W h => contains_heavy A c es W h hl)
  have HE := Lib.hid hE
  clear hE h
  obtain ⟨L, hL⟩ : ∃ L, es.length = L := ⟨_, rfl⟩
  rw [hL] at hl b0 hC1 hC2 HE hK0
  rw [hL]
  have HL := Lib.hid hL
  clear hL
  have g0 := b0.cell 0
  have g1 := b0.cell 1
  simp at g0 g1
  rcases Int.lt_or_le n 1 with h1 | h1
  · have hr : Hid (rightF n es = 2) := if_pos (.inl h1)
    go_enter Try.func15, Try.ntmps15
    go_wp2_with fail
    go_ret
    rw [hr.out]
    exact ⟨rfl, hK0⟩
  rcases Int.lt_or_le 4096 n with h2 | h2
  · have hr : Hid (rightF n es = 2) := if_pos (.inr h2)
    go_enter Try.func15, Try.ntmps15
    go_wp2_with fail
    go_ret
    rw [hr.out]
    exact ⟨rfl, hK0⟩
  have hs0 : Hid (rightF n es = if 16384 < es.length then 5 else if es.all (nodeOk n) = true then (if es.all wOk = true then 0 else 2) else 7) := if_neg (by omega)
  rcases Nat.lt_or_ge 16384 L with h3 | h3
  · have hr : Hid (rightF n es = 5) := hs0.out.trans (if_pos (by rw [HL.out]; exact h3))
    go_enter Try.func15, Try.ntmps15
    go_wp2_with fail
    go_ret
    rw [hr.out]
    exact ⟨rfl, hK0⟩
  have hs1 : Hid (rightF n es = if es.all (nodeOk n) = true then (if es.all wOk = true then 0 else 2) else 7) := hs0.out.trans (if_neg (by rw [HL.out]; omega))
  clear hs0
  by_cases ho : es.all (nodeOk n) = true
  · have hs2 : Hid (rightF n es = if es.all wOk = true then 0 else 2) := hs1.out.trans (if_pos ho)
    rw [ho] at hC1
    clear ho hs1
    by_cases ho : es.all wOk = true
    · have hr : Hid (rightF n es = 0) := hs2.out.trans (if_pos ho)
      rw [ho] at hC2
      clear ho hs2
      go_enter Try.func15, Try.ntmps15
      go_wp2_with fail
      refine hC1.out.mono ?_
      rintro e w1 ⟨rfl, k1⟩
      have b1 := b0.grew k1
      have g0' := b1.cell 0
      have g1' := b1.cell 1
      simp at g0' g1'
      go_wp2_with fail
      refine (hC2.out _ (HE.out.grew k1)).mono ?_
      rintro e w2 ⟨rfl, k2⟩
      go_wp2_with fail
      go_ret
      rw [hr.out]
      exact ⟨rfl, (hK0.trans k1).trans k2⟩
    · have hr : Hid (rightF n es = 2) := hs2.out.trans (if_neg ho)
      have ho' : es.all wOk = false := by simpa using ho
      rw [ho'] at hC2
      clear ho ho' hs2
      go_enter Try.func15, Try.ntmps15
      go_wp2_with fail
      refine hC1.out.mono ?_
      rintro e w1 ⟨rfl, k1⟩
      have b1 := b0.grew k1
      have g0' := b1.cell 0
      have g1' := b1.cell 1
      simp at g0' g1'
      go_wp2_with fail
      refine (hC2.out _ (HE.out.grew k1)).mono ?_
      rintro e w2 ⟨rfl, k2⟩
      go_wp2_with fail
      go_ret
      rw [hr.out]
      exact ⟨rfl, (hK0.trans k1).trans k2⟩
  · have hr : Hid (rightF n es = 7) := hs1.out.trans (if_neg ho)
    have ho' : es.all (nodeOk n) = false := by simpa using ho
    rw [ho'] at hC1
    clear ho ho' hs1
    go_enter Try.func15, Try.ntmps15
    go_wp2_with fail
    refine hC1.out.mono ?_
    rintro e w1 ⟨rfl, k1⟩
    go_wp2_with fail
    go_ret
    rw [hr.out]
    exact ⟨rfl, hK0.trans k1⟩
end Go.Proofs.Ytjbjomodponapaa
