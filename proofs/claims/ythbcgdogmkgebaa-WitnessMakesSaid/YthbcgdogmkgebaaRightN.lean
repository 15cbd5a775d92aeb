/- Which nets may be. -/
import Derived.Test.YthbcgdogmkgebaaNet
namespace Go.Proofs.Ythbcgdogmkgebaa
open Go.RowKit

def okA (N : Nat) (e : Ar) : Bool := decide (0 ≤ e.1 ∧ e.1 < (N : Int)) && decide (1 ≤ e.2 ∧ e.2 ≤ 1125899906842624)
def okRow (N : Nat) (l : List Ar) : Bool := l.all (okA N)
def rightN (ls : List (List Ar)) (G : Nat) : Bool := decide (1 ≤ ls.length ∧ ls.length ≤ 4096 ∧ G = ls.length) && ls.all (okRow ls.length)
theorem all_next {α : Type} {es : List α} {p : α → Bool} {k : Nat} {e : α} (h : (es.take k).all p = true) (he : es[k]? = some e) (hp : p e = true) : (es.take (k + 1)).all p = true := by
  rw [List.take_add_one, he]
  simp only [List.all_append, h, Option.toList_some, List.all_cons, hp, List.all_nil, Bool.and_self]
theorem all_fail {α : Type} {es : List α} {p : α → Bool} {k : Nat} {e : α} (he : es[k]? = some e) (hp : p e = false) : es.all p = false := by
  rw [List.all_eq_false]
  exact ⟨e, List.mem_of_getElem? he, by simp [hp]⟩
/-- The first that is not so; -1: there is none. -/
def idxF {α : Type} (ok : α → Bool) (es : List α) : Int := if es.all ok = true then -1 else ((es.takeWhile ok).length : Int)
theorem idxF_none {α : Type} {ok : α → Bool} {es : List α} (h : es.all ok = true) : idxF ok es = -1 := if_pos h
theorem takeWhile_at {α : Type} (ok : α → Bool) : ∀ (es : List α) (k : Nat) (e : α), (es.take k).all ok = true → es[k]? = some e → ok e = false → (es.takeWhile ok).length = k
  | [], k, e, _, h, _ => by simp at h
  | x :: es, 0, e, _, h, ho => by
    simp only [List.getElem?_cons_zero, Option.some.injEq] at h
    subst h
    simp [List.takeWhile, ho]
  | x :: es, k + 1, e, hk, h, ho => by
    simp only [List.take_succ_cons, List.all_cons, Bool.and_eq_true] at hk
    rw [List.getElem?_cons_succ] at h
    simp [List.takeWhile, hk.1, takeWhile_at ok es k e hk.2 h ho]
theorem idxF_at {α : Type} {ok : α → Bool} {es : List α} {k : Nat} {e : α} (hk : (es.take k).all ok = true) (h : es[k]? = some e) (ho : ok e = false) : idxF ok es = k := by
  unfold idxF
  rw [if_neg (by rw [all_fail h ho]; simp), takeWhile_at ok es k e hk h ho]

set_option maxHeartbeats 1000000 in
theorem wrong_any (p q : Int) (A V : Option Addr) (N c G cG Gb : Nat) (w : World) (hB : Blk w Gb 33 #[.slice A N c, .slice V G cG]) :
    Calls Try.prog 23 #[.agg #[i64 p, u64 q], pt Gb] w fun e w' => e = .returned (.bool (!okA N (p, q))) ∧ Grew w w' := by
  have hK : Grew w (w.alloc (.cells #[i64 p, u64 q] 56)) := (Kept.refl _ _).alloc _
  have b0 := hB.alloc (.cells #[i64 p, u64 q] 56)
  have c0 := b0.cell 0
  have bE := Blk.new w 56 #[i64 p, u64 q]
  have e0 := bE.cell 0
  have e1 := bE.cell 1
  simp at c0 e0 e1
  have hr : ∀ b : Bool, okA N (p, q) = b → Hid (okA N (p, q) = b) := fun b h => h
  rcases Int.lt_or_le p 0 with h1 | h1
  · have HR : Hid (okA N (p, q) = false) := by show okA N (p, q) = false; unfold okA; rw [decide_eq_false (by omega : ¬ (0 ≤ p ∧ p < (N : Int)))]; rfl
    clear hr
    go_enter Try.func23, Try.ntmps23
    go_wp2_with fail
    go_ret
    rw [HR.out]
    first
      | exact ⟨rfl, hK⟩
      | exact ⟨by simp <;> omega, hK⟩
  rcases Int.lt_or_le p (N : Int) with h2 | h2
  · rcases Int.lt_or_le q 1 with h3 | h3
    · have HR : Hid (okA N (p, q) = false) := by show okA N (p, q) = false; unfold okA; rw [decide_eq_false (by omega : ¬ (1 ≤ q ∧ q ≤ 1125899906842624))]; simp
      clear hr
      go_enter Try.func23, Try.ntmps23
      go_wp2_with fail
      go_ret
      rw [HR.out]
      first
        | exact ⟨rfl, hK⟩
        | exact ⟨by simp <;> omega, hK⟩
    rcases Int.lt_or_le 1125899906842624 q with h4 | h4
    · have HR : Hid (okA N (p, q) = false) := by show okA N (p, q) = false; unfold okA; rw [decide_eq_false (by omega : ¬ (1 ≤ q ∧ q ≤ 1125899906842624))]; simp
      clear hr
      go_enter Try.func23, Try.ntmps23
      go_wp2_with fail
      go_ret
      rw [HR.out]
      first
        | exact ⟨rfl, hK⟩
        | exact ⟨by simp <;> omega, hK⟩
    · have HR : Hid (okA N (p, q) = true) := by show okA N (p, q) = true; unfold okA; rw [decide_eq_true (by omega : 1 ≤ q ∧ q ≤ 1125899906842624), decide_eq_true (by omega : 0 ≤ p ∧ p < (N : Int))]; rfl
      clear hr
      go_enter Try.func23, Try.ntmps23
      go_wp2_with fail
      go_ret
      rw [HR.out]
      first
        | exact ⟨rfl, hK⟩
        | exact ⟨by simp <;> omega, hK⟩
  · have HR : Hid (okA N (p, q) = false) := by show okA N (p, q) = false; unfold okA; rw [decide_eq_false (by omega : ¬ (0 ≤ p ∧ p < (N : Int)))]; rfl
    clear hr
    go_enter Try.func23, Try.ntmps23
    go_wp2_with fail
    go_ret
    rw [HR.out]
    first
      | exact ⟨rfl, hK⟩
      | exact ⟨by simp <;> omega, hK⟩

set_option maxHeartbeats 1000000 in
theorem index_wrong (A0 V0 : Option Addr) (N c0 G0 cG0 Gb : Nat) (A : Option Addr) (c : Nat) (es : List Ar) (w : World) (hB : Blk w Gb 33 #[.slice A0 N c0, .slice V0 G0 cG0]) (h : RowA w A es) (hl : es.length ≤ 100000) :
    Calls Try.prog 45 #[.slice A es.length c, .func (.func 23) #[] #[pt Gb]] w fun e w' => e = .returned (i64 (idxF (okA N) es)) ∧ Grew w w' := by
  obtain ⟨L, hL⟩ : ∃ L, es.length = L := ⟨_, rfl⟩
  have HL := Lib.hid hL
  rw [hL] at hl
  rw [hL]
  clear hL
  have hE := Lib.hid h
  clear h
  have HB := Lib.hid hB
  have hk0 : Grew w w := Kept.refl _ _
  go_enter Try.func45, Try.ntmps45
  go_wp2_with fail
  go_loopw [5, 8] (fun u i wr => ∃ (k : Nat), k ≤ L ∧ i = .int .i64 k ∧ Hid ((es.take k).all (okA N) = true) ∧ Hid (RowA wr A es) ∧ Grew w wr) (fun u i _ => L - (intOf i).toNat)
  case atStart => exact ⟨0, by omega, rfl, rfl, hE, hk0⟩
  case round =>
    clear hE hk0
    obtain ⟨k, hk, rfl, hS, hE, hK⟩ := hrel
    by_cases hlt : k < L
    · obtain ⟨x, hx⟩ : ∃ x, es[k]? = some x := ⟨_, List.getElem?_eq_getElem (by rw [HL.out]; exact hlt)⟩
      obtain ⟨b, off, hAe, hb, e0, e1⟩ := hE.out k x hx
      have HX := Lib.hid hx
      clear hx
      subst hAe
      obtain ⟨p, q⟩ := x
      have hC := Lib.hid (wrong_any p q A0 V0 N c0 G0 cG0 Gb wr (HB.out.grew hK))
      go_wp2_with fail
      refine (hC.out).mono ?_
      rintro e w1 ⟨rfl, k1⟩
      have hE1 := Lib.hid (hE.out.grew k1)
      by_cases ho : (okA N) (p, q) = true
      · have hS1 : Hid ((es.take (k + 1)).all (okA N) = true) := all_next hS.out HX.out ho
        rw [ho]
        clear ho
        go_wp2_with fail
        go_roundw
        case rel => exact ⟨k + 1, by omega, by go_num, hS1, hE1, hK.trans k1⟩
        case measure => simp [intOf]; omega
      · have ho' : (okA N) (p, q) = false := by simpa using ho
        have hr : Hid (idxF (okA N) es = k) := idxF_at hS.out HX.out ho'
        rw [ho']
        clear ho ho'
        go_wp2_with fail
        go_ret
        rw [hr.out]
        exact ⟨rfl, hK.trans k1⟩
    · obtain rfl : k = L := by omega
      have hr : Hid (idxF (okA N) es = -1) := by
        have h := hS.out
        rw [List.take_of_length_le (by rw [HL.out]; exact Nat.le_refl _)] at h
        exact idxF_none h
      go_wp2_with fail
      go_ret
      rw [hr.out]
      exact ⟨rfl, hK⟩
theorem contains_wrong (A0 V0 : Option Addr) (N c0 G0 cG0 Gb : Nat) (A : Option Addr) (c : Nat) (es : List Ar) (w : World) (hB : Blk w Gb 33 #[.slice A0 N c0, .slice V0 G0 cG0]) (h : RowA w A es) (hl : es.length ≤ 100000) :
    Calls Try.prog 26 #[.slice A es.length c, .func (.func 23) #[] #[pt Gb]] w fun e w' => e = .returned (.bool (!es.all (okA N))) ∧ Grew w w' := by
  have hC := Lib.hid (index_wrong A0 V0 N c0 G0 cG0 Gb A c es w hB h hl)
  by_cases ho : es.all (okA N) = true
  · have hr := idxF_none ho
    rw [hr] at hC
    rw [ho]
    clear hr ho h
    go_enter Try.func26, Try.ntmps26
    go_wp2_with fail
    refine hC.out.mono ?_
    rintro e w1 ⟨rfl, k1⟩
    go_wp2_with fail
    go_ret
    exact ⟨rfl, k1⟩
  · have ho' : es.all (okA N) = false := by simpa using ho
    obtain ⟨m, hm⟩ : ∃ m : Nat, idxF (okA N) es = m := ⟨_, if_neg ho⟩
    rw [hm] at hC
    rw [ho']
    clear hm ho ho' h
    have hm0 : (0 : Int) ≤ (m : Int) := by omega
    go_enter Try.func26, Try.ntmps26
    go_wp2_with fail
    refine hC.out.mono ?_
    rintro e w1 ⟨rfl, k1⟩
    go_wp2_with fail
    go_ret
    exact ⟨rfl, k1⟩


theorem row_wrong (A0 V0 : Option Addr) (N c0 G0 cG0 Gb Fb : Nat) (A : Option Addr) (c : Nat) (es : List Ar) (w : World) (hB : Blk w Gb 33 #[.slice A0 N c0, .slice V0 G0 cG0]) (hF : Blk w Fb 59 #[.func (.func 23) #[] #[pt Gb]]) (h : RowA w A es) (hl : es.length ≤ 100000) :
    Calls Try.prog 25 #[.slice A es.length c, pt Fb] w fun e w' => e = .returned (.bool (!okRow N es)) ∧ Grew w w' := by
  have hC := Lib.hid (contains_wrong A0 V0 N c0 G0 cG0 Gb A c es w hB h hl)
  have c0 := hF.cell 0
  simp at c0
  unfold okRow
  obtain ⟨L, hL⟩ : ∃ L, es.length = L := ⟨_, rfl⟩
  obtain ⟨r, hr⟩ : ∃ r, es.all (okA N) = r := ⟨_, rfl⟩
  rw [hL, hr] at hC
  rw [hL, hr]
  clear h hL hr hl
  go_enter Try.func25, Try.ntmps25
  go_wp2_with fail
  refine hC.out.mono ?_
  rintro e w1 ⟨rfl, k1⟩
  go_wp2_with fail
  go_ret
  exact ⟨rfl, k1⟩


set_option maxHeartbeats 1000000 in
theorem index_rows (A0 V0 : Option Addr) (N c0 G0 cG0 Gb Fb : Nat) (A : Option Addr) (c : Nat) (es : List (List Ar)) (w : World) (hB : Blk w Gb 33 #[.slice A0 N c0, .slice V0 G0 cG0] ∧ Blk w Fb 59 #[.func (.func 23) #[] #[pt Gb]]) (hls : Hid (∀ l ∈ es, l.length ≤ 100000)) (h : RowN w A es) (hl : es.length ≤ 100000) :
    Calls Try.prog 44 #[.slice A es.length c, .func (.func 25) #[] #[pt Fb]] w fun e w' => e = .returned (i64 (idxF (okRow N) es)) ∧ Grew w w' := by
  obtain ⟨L, hL⟩ : ∃ L, es.length = L := ⟨_, rfl⟩
  have HL := Lib.hid hL
  rw [hL] at hl
  rw [hL]
  clear hL
  have hE := Lib.hid h
  clear h
  have HB := Lib.hid hB
  have hk0 : Grew w w := Kept.refl _ _
  go_enter Try.func44, Try.ntmps44
  go_wp2_with fail
  go_loopw [5, 8] (fun u i wr => ∃ (k : Nat), k ≤ L ∧ i = .int .i64 k ∧ Hid ((es.take k).all (okRow N) = true) ∧ Hid (RowN wr A es) ∧ Grew w wr) (fun u i _ => L - (intOf i).toNat)
  case atStart => exact ⟨0, by omega, rfl, rfl, hE, hk0⟩
  case round =>
    clear hE hk0
    obtain ⟨k, hk, rfl, hS, hE, hK⟩ := hrel
    by_cases hlt : k < L
    · obtain ⟨x, hx⟩ : ∃ x, es[k]? = some x := ⟨_, List.getElem?_eq_getElem (by rw [HL.out]; exact hlt)⟩
      obtain ⟨b, off, Ai, ci, hAe, hb, e0, hRA⟩ := hE.out k x hx
      have hxl := hls.out x (List.mem_of_getElem? hx)
      have HX := Lib.hid hx
      clear hx
      subst hAe
      have hC := Lib.hid (row_wrong A0 V0 N c0 G0 cG0 Gb Fb Ai ci x wr (HB.out.1.grew hK) (HB.out.2.grew hK) hRA hxl)
      obtain ⟨lx, hlx⟩ : ∃ l, x.length = l := ⟨_, rfl⟩
      rw [hlx] at hC e0 hxl
      clear hlx hRA
      go_wp2_with fail
      refine (hC.out).mono ?_
      rintro e w1 ⟨rfl, k1⟩
      have hE1 := Lib.hid (hE.out.grew k1)
      by_cases ho : (okRow N) x = true
      · have hS1 : Hid ((es.take (k + 1)).all (okRow N) = true) := all_next hS.out HX.out ho
        rw [ho]
        clear ho
        go_wp2_with fail
        go_roundw
        case rel => exact ⟨k + 1, by omega, by go_num, hS1, hE1, hK.trans k1⟩
        case measure => simp [intOf]; omega
      · have ho' : (okRow N) x = false := by simpa using ho
        have hr : Hid (idxF (okRow N) es = k) := idxF_at hS.out HX.out ho'
        rw [ho']
        clear ho ho'
        go_wp2_with fail
        go_ret
        rw [hr.out]
        exact ⟨rfl, hK.trans k1⟩
    · obtain rfl : k = L := by omega
      have hr : Hid (idxF (okRow N) es = -1) := by
        have h := hS.out
        rw [List.take_of_length_le (by rw [HL.out]; exact Nat.le_refl _)] at h
        exact idxF_none h
      go_wp2_with fail
      go_ret
      rw [hr.out]
      exact ⟨rfl, hK⟩
theorem contains_rows (A0 V0 : Option Addr) (N c0 G0 cG0 Gb Fb : Nat) (A : Option Addr) (c : Nat) (es : List (List Ar)) (w : World) (hB : Blk w Gb 33 #[.slice A0 N c0, .slice V0 G0 cG0] ∧ Blk w Fb 59 #[.func (.func 23) #[] #[pt Gb]]) (hls : Hid (∀ l ∈ es, l.length ≤ 100000)) (h : RowN w A es) (hl : es.length ≤ 100000) :
    Calls Try.prog 24 #[.slice A es.length c, .func (.func 25) #[] #[pt Fb]] w fun e w' => e = .returned (.bool (!es.all (okRow N))) ∧ Grew w w' := by
  have hC := Lib.hid (index_rows A0 V0 N c0 G0 cG0 Gb Fb A c es w hB hls h hl)
  by_cases ho : es.all (okRow N) = true
  · have hr := idxF_none ho
    rw [hr] at hC
    rw [ho]
    clear hr ho h
    go_enter Try.func24, Try.ntmps24
    go_wp2_with fail
    refine hC.out.mono ?_
    rintro e w1 ⟨rfl, k1⟩
    go_wp2_with fail
    go_ret
    exact ⟨rfl, k1⟩
  · have ho' : es.all (okRow N) = false := by simpa using ho
    obtain ⟨m, hm⟩ : ∃ m : Nat, idxF (okRow N) es = m := ⟨_, if_neg ho⟩
    rw [hm] at hC
    rw [ho']
    clear hm ho ho' h
    have hm0 : (0 : Int) ≤ (m : Int) := by omega
    go_enter Try.func24, Try.ntmps24
    go_wp2_with fail
    refine hC.out.mono ?_
    rintro e w1 ⟨rfl, k1⟩
    go_wp2_with fail
    go_ret
    exact ⟨rfl, k1⟩


theorem run_store_fn (w : World) (a : Addr) (f : Fn) (x y : Array Value) (m : Mode) : (store a (.func f x y) m).run Try.prog w = stored Try.prog w a (.func f x y) m := run_store Try.prog w a _ m rfl
attribute [local go_sem] run_store_fn
theorem okRow_len {N : Nat} {l : List Ar} : okRow N l = true ↔ ∀ e ∈ l, okA N e = true := List.all_eq_true
set_option maxHeartbeats 1000000 in
theorem right_any (A V : Option Addr) (c G cG : Nat) (ls : List (List Ar)) (w : World) (h : RowN w A ls) (hl : ls.length ≤ 9223372036854775807) (hG : G ≤ 9223372036854775807) (hls : ls.length ≤ 4096 → ∀ l ∈ ls, l.length ≤ 100000) :
    Calls Try.prog 11 #[.agg #[.slice A ls.length c, .slice V G cG]] w fun e w' => e = .returned (.bool (rightN ls G)) ∧ Grew w w' := by
  have b0 := Blk.new w 33 #[.slice A ls.length c, .slice V G cG]
  have hK0 : Grew w (w.alloc (.cells #[.slice A ls.length c, .slice V G cG] 33)) := (Kept.refl _ _).alloc _
  have bF0 := Blk.new (w.alloc (.cells #[.slice A ls.length c, .slice V G cG] 33)) 59 #[.func (.func 23) #[] #[pt w.heap.size]]
  rw [World.size_alloc] at bF0
  have hC : ls.length ≤ 4096 → Hid (Calls Try.prog 24 #[.slice A ls.length c, .func (.func 25) #[] #[pt (w.heap.size + 1)]] ((w.alloc (.cells #[.slice A ls.length c, .slice V G cG] 33)).alloc (.cells #[.func (.func 23) #[] #[pt w.heap.size]] 59)) fun e w' => e = .returned (.bool (!ls.all (okRow ls.length))) ∧ Grew ((w.alloc (.cells #[.slice A ls.length c, .slice V G cG] 33)).alloc (.cells #[.func (.func 23) #[] #[pt w.heap.size]] 59)) w') :=
    fun hle => contains_rows A V ls.length c G cG w.heap.size (w.heap.size + 1) A c ls _ ⟨b0.alloc _, bF0⟩ (hls hle) (h.grew (hK0.alloc _)) (by omega)
  obtain ⟨N, hN⟩ : ∃ N, ls.length = N := ⟨_, rfl⟩
  have hR : ∀ b : Bool, ls.all (okRow ls.length) = b → (1 ≤ ls.length ∧ ls.length ≤ 4096 ∧ G = ls.length) → rightN ls G = b := fun b hb hd => by
    unfold rightN
    rw [decide_eq_true hd, hb]; rfl
  have hR0 : ¬ (1 ≤ ls.length ∧ ls.length ≤ 4096 ∧ G = ls.length) → rightN ls G = false := fun hd => by
    unfold rightN
    rw [decide_eq_false hd]; rfl
  obtain ⟨r, hr⟩ : ∃ r, ls.all (okRow ls.length) = r := ⟨_, rfl⟩
  replace hR := hR r hr
  rw [hr] at hC
  obtain ⟨rr, hrr⟩ : ∃ rr, rightN ls G = rr := ⟨_, rfl⟩
  rw [hrr] at hR hR0 ⊢
  rw [hN] at b0 hK0 hC hR hR0 hl ⊢
  clear h hN hr hrr hls bF0
  have c0 := b0.cell 0
  have c1 := b0.cell 1
  simp at c0 c1
  by_cases h1 : N < 1
  · obtain rfl := hR0 (by omega)
    clear hC hR hR0
    go_enter Try.func11, Try.ntmps11
    go_wp2_with fail
    go_ret
    exact ⟨rfl, hK0⟩
  by_cases h2 : 4096 < N
  · obtain rfl := hR0 (by omega)
    have h3 : 1 ≤ N := by omega
    clear hC hR hR0 h1
    go_enter Try.func11, Try.ntmps11
    go_wp2_with fail
    go_ret
    exact ⟨rfl, hK0⟩
  have h3 : 1 ≤ N := by omega
  have h4 : N ≤ 4096 := by omega
  by_cases h5 : G = N
  · subst h5
    obtain rfl := hR ⟨h3, h4, rfl⟩
    have hC := hC h4
    have q0 := (b0.alloc (.cells #[.func (.func 23) #[] #[pt w.heap.size]] 59)).cell 0
    simp at q0
    have hq : ((G : Int) == (G : Int)) = true := by simp
    have bN := Blk.new (w.alloc (.cells #[.slice A G c, .slice V G cG] 33)) 59 #[Value.nilFunc]
    rw [World.size_alloc] at bN
    have sN := bN.cell 0
    have fN := bN.frozen 0
    simp at sN
    clear hR hR0 h1 h2
    go_enter Try.func11, Try.ntmps11
    go_wp2_with fail
    refine hC.out.mono ?_
    rintro e w1 ⟨rfl, k1⟩
    go_wp2_with fail
    go_ret
    exact ⟨by simp, (hK0.alloc _).trans k1⟩
  · obtain rfl := hR0 (by omega)
    have hq : ((G : Int) == (N : Int)) = false := by simp; omega
    have hq2 : ((G : Int) != (N : Int)) = true := by simp; omega
    clear hC hR hR0 h1 h2 h5
    go_enter Try.func11, Try.ntmps11
    go_wp2_with fail
    go_ret
    exact ⟨rfl, hK0⟩

end Go.Proofs.Ythbcgdogmkgebaa
