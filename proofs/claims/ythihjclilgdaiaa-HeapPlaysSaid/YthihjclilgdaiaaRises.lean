/- Keys come rising. -/
import Derived.Test.YthihjclilgdaiaaNils
namespace Go.Proofs.Ythihjclilgdaiaa
open Go.RowKit

structure Act3 where
  kind : Int
  i : Int
  v : Int
/-- A slice of acts. -/
def RowA (w : World) (A : Option Addr) (len : Nat) (z : Nat → Act3) : Prop :=
  ∀ i, i < len → ∃ b off, A = some ⟨b, off, none⟩ ∧ b < w.heap.size ∧ w.cell? ⟨b, off + i * 3, none⟩ = some (i64 (z i).kind) ∧ w.cell? ⟨b, off + i * 3 + 1, none⟩ = some (i64 (z i).i) ∧ w.cell? ⟨b, off + i * 3 + 2, none⟩ = some (u64 (z i).v) ∧ 0 ≤ (z i).v
/-- A slice of keys. -/
def RowU (w : World) (A : Option Addr) (zs : List Int) : Prop :=
  ∀ i x, zs[i]? = some x → ∃ b off, A = some ⟨b, off, none⟩ ∧ b < w.heap.size ∧ w.cell? ⟨b, off + i, none⟩ = some (u64 x) ∧ 0 ≤ x
theorem RowA.grew {w w' : World} {A : Option Addr} {n : Nat} {z : Nat → Act3} (h : RowA w A n z) (k : Grew w w') : RowA w' A n z := fun i hi => by
  obtain ⟨b, off, h1, h2, c0, c1, c2, h3⟩ := h i hi
  exact ⟨b, off, h1, Nat.lt_of_lt_of_le h2 k.size, k.cell c0, k.cell c1, k.cell c2, h3⟩
theorem RowU.grew {w w' : World} {A : Option Addr} {zs : List Int} (h : RowU w A zs) (k : Grew w w') : RowU w' A zs := fun i x hi => by
  obtain ⟨b, off, h1, h2, c0, h3⟩ := h i x hi
  exact ⟨b, off, h1, Nat.lt_of_lt_of_le h2 k.size, k.cell c0, h3⟩
theorem RowU.news {w : World} {a : Addr} {zs : List Int} (h : RowU w (some a) zs) : ∀ j u, (zs.map u64)[j]? = some u → w.cell? (a.add j) = some u := by
  intro j u hj
  rw [List.getElem?_map] at hj
  obtain ⟨x, hx, rfl⟩ := Option.map_eq_some_iff.1 hj
  obtain ⟨b, off, h1, h2, c0, h3⟩ := h j x hx
  cases h1
  rw [← c0]
  congr 1
  unfold Addr.add
  split <;> simp_all
/-- Row v has the keys fl, in a block of its own. -/
def Keys (w : World) (B : Nat) (v : Value) (fl : List Int) : Prop := w.ownsRow B 28 1 v fl.length (fl.map u64)
theorem Keys.empty (w : World) (B : Nat) (hB : B ≤ w.heap.size) : Keys (w.alloc (.cells #[] 28)) B (.slice (some ⟨w.heap.size, 0, none⟩) 0 0) [] :=
  ⟨rfl, .inr ⟨w.heap.size, 0, #[], rfl, hB, heap_alloc_new w _, Nat.le_refl _, by unfold maxLen; omega, rfl, rfl⟩⟩
theorem Keys.turn {w w' : World} {H A N B : Nat} {v v' x : Value} {l l' : List Itm} {fl : List Int} (h : Keys w B x fl) (s : Hp w H A N v l) (t : Turn w w' H A N v v' l') : Keys w' B x fl :=
  Kept.own t.kept h fun k hk => by
    rcases h.2 with ⟨hn, _⟩ | ⟨g, cap, cur, hv, hb, hg, _⟩
    · rw [hn] at hk; cases hk
    · rw [hv] at hk
      obtain rfl : g = k := Option.some.inj (show some g = some k from hk)
      exact s.apart hg (by decide) (by decide) (by decide)
theorem Keys.grew {w w' : World} {B : Nat} {x : Value} {fl : List Int} (h : Keys w B x fl) (k : Grew w w') : Keys w' B x fl := Grew.own k h
theorem Keys.slice {w : World} {B : Nat} {x : Value} {fl : List Int} (h : Keys w B x fl) : ∃ A c, x = .slice A fl.length c := by
  rcases h.2 with ⟨h1, h0⟩ | ⟨g, cap, _, hv, _⟩
  · exact ⟨none, 0, by rw [h1, h0]⟩
  · exact ⟨_, cap, hv⟩
theorem Keys.at {w : World} {B : Nat} {x : Value} {fl : List Int} (h : Keys w B x fl) {i : Nat} {y : Int} (hi : fl[i]? = some y) : ∃ g c, x = .slice (some ⟨g, 0, none⟩) fl.length c ∧ B ≤ g ∧ g < w.heap.size ∧ w.cell? ⟨g, i, none⟩ = some (u64 y) ∧ w.frozen? ⟨g, i, none⟩ = false := by
  have hl := (List.getElem?_eq_some_iff.1 hi).1
  rcases h.2 with ⟨_, h0⟩ | ⟨g, cap, cur, hv, hb, hg, _⟩
  · omega
  · have hr : w.ownsRow B 28 1 (.slice (some ⟨g, 0, none⟩) fl.length cap) fl.length (fl.map u64) := hv ▸ h
    refine ⟨g, cap, hv, hb, (Array.getElem?_eq_some_iff.1 hg).1, ?_, World.ownsRow.frozenAt hr i⟩
    rw [World.ownsRow.cellAt hr i (by omega), List.getElem?_map, hi]; rfl
theorem Keys.set {w : World} {B g c : Nat} {fl : List Int} (h : Keys w B (.slice (some ⟨g, 0, none⟩) fl.length c) fl) (i : Nat) (y : Int) : Keys (w.setCell ⟨g, i, none⟩ (u64 y)) B (.slice (some ⟨g, 0, none⟩) fl.length c) (fl.set i y) := by
  have h1 := (World.ownsRow.stored h i (u64 y)).1
  unfold Keys
  rw [List.length_set, List.map_set]
  exact h1

/-- The items are the numbers with the keys fl. -/
def Has (l : List Itm) (fl : List Int) : Prop := ∀ e, e ∈ l ↔ ∃ (i : Nat) (x : Int), fl[i]? = some x ∧ e = ((i : Int), x)
theorem Has.nil : Has [] [] := fun e => by simp
theorem Has.snoc {l l' : List Itm} {fl : List Int} {k : Nat} {x : Int} (h : Has l fl) (hk : fl.length = k) (p : l'.Perm (l ++ [((k : Int), x)])) : Has l' (fl ++ [x]) := fun e => by
  rw [p.mem_iff, List.mem_append, List.mem_singleton, h e]
  constructor
  · rintro (⟨i, y, hi, rfl⟩ | rfl)
    · exact ⟨i, y, by rw [List.getElem?_append_left (List.getElem?_eq_some_iff.1 hi).1]; exact hi, rfl⟩
    · exact ⟨k, x, by rw [List.getElem?_append_right (by omega), hk, Nat.sub_self]; rfl, rfl⟩
  · rintro ⟨i, y, hi, rfl⟩
    rcases Nat.lt_or_ge i fl.length with hl | hl
    · rw [List.getElem?_append_left hl] at hi
      exact .inl ⟨i, y, hi, rfl⟩
    · rw [List.getElem?_append_right hl] at hi
      have h1 := (List.getElem?_eq_some_iff.1 hi).1
      simp only [List.length_cons, List.length_nil] at h1
      obtain rfl : i = k := by omega
      rw [hk, Nat.sub_self] at hi
      obtain rfl := Option.some.inj (show some x = some y from hi)
      exact .inr rfl
theorem Has.set {l l' : List Itm} {fl : List Int} {j i : Nat} {x key : Int} (h : Has l fl) (hone : ∀ (a b : Nat) (e f : Itm), l[a]? = some e → l[b]? = some f → e.1 = f.1 → a = b) (hi : fl[i]? = some x) (hj : l[j]? = some ((i : Int), x)) (p : l'.Perm (l.set j ((i : Int), key))) : Has l' (fl.set i key) := fun e => by
  have hil := (List.getElem?_eq_some_iff.1 hi).1
  rw [p.mem_iff, mem_set_iff (get_lt hj)]
  constructor
  · rintro (rfl | ⟨k, hk, he⟩)
    · exact ⟨i, key, by simp [hil], rfl⟩
    · obtain ⟨q, y, hq, rfl⟩ := (h e).1 (List.mem_of_getElem? he)
      have hne : i ≠ q := fun hiq => hk (hone k j _ _ he hj (by simp [hiq]))
      exact ⟨q, y, by rw [List.getElem?_set_ne hne]; exact hq, rfl⟩
  · rintro ⟨q, y, hq, rfl⟩
    by_cases hiq : i = q
    · subst hiq
      rw [List.getElem?_set, if_pos rfl, if_pos hil] at hq
      obtain rfl := Option.some.inj hq
      exact .inl rfl
    · rw [List.getElem?_set_ne hiq] at hq
      obtain ⟨k, hk⟩ := List.getElem?_of_mem ((h ((q : Int), y)).2 ⟨q, y, hq, rfl⟩)
      refine .inr ⟨k, fun hkj => ?_, hk⟩
      subst hkj
      rw [hj] at hk
      simp at hk
      omega
theorem Hp.first {w : World} {H A N : Nat} {v : Value} {l : List Itm} (s : Hp w H A N v l) (h : 0 < l.length) : ∃ e, l[0]? = some e ∧ ∀ f ∈ l, ¬ lessI f e = true := by
  obtain ⟨a, _, g⟩ := s
  refine ⟨_, List.getElem?_eq_getElem h, fun f hf => ?_⟩
  obtain ⟨k, hk⟩ := List.getElem?_of_mem hf
  exact top_law g.2 (List.getElem?_eq_getElem h) k f hk

theorem info_key : (Try.prog.info? 28).map (fun i => (i.zero, i.size, i.bytes)) = some (some (u64 0), 1, 8) := by kernel_rfl
theorem keys_one (zs : List Int) : ∀ u ∈ zs.map u64, u.oneCell' = true := by
  intro u hu
  obtain ⟨x, _, rfl⟩ := List.mem_map.1 hu
  rfl

theorem Sess.store {w0 w : World} {H A N n B g c : Nat} {v : Value} {l : List Itm} {fl : List Int} (s : Sess w0 w H A N v l) (h : Keys w B (.slice (some ⟨g, 0, none⟩) n c) fl) (hg : w0.heap.size ≤ g) (hn : fl.length = n) (i : Nat) (u : Value) : Sess w0 (w.setCell ⟨g, i, none⟩ u).drew H A N v l := by
  have hb : ¬ HB H A v g := by
    rcases h.2 with ⟨h1, _⟩ | ⟨g1, cap, cur, hv, hb, hgg, _⟩
    · cases h1
    · cases hv
      exact s.hp.apart hgg (by decide) (by decide) (by decide)
  have k : Kept (· = g) w (w.setCell ⟨g, i, none⟩ u).drew := ((Kept.refl (· = g) w).setCell (p := ⟨g, i, none⟩) (.inl rfl) u).drew
  exact ⟨s.hp.kept k (fun j hj e => hb (e ▸ hj)), s.fro.then k (fun j hj e => by omega), s.new⟩
theorem Keys.store {w : World} {B n g c : Nat} {fl : List Int} (h : Keys w B (.slice (some ⟨g, 0, none⟩) n c) fl) (hn : fl.length = n) (i : Nat) (y : Int) : Keys (w.setCell ⟨g, i, none⟩ (u64 y)).drew B (.slice (some ⟨g, 0, none⟩) n c) (fl.set i y) := by
  subst hn
  exact Grew.own (Kept.refl _ _).drew (h.set i y)
theorem put_min {w0 wr : World} {H A n B : Nat} {v lv : Value} {l : List Itm} {fl : List Int} (S : Sess w0 wr H A n v l) (h : Has l fl) (hl : l.length = n) (hK : Keys wr B lv fl) {i : Nat} {x zv : Int} (hx : fl[i]? = some x) :
    Calls Try.prog 8 #[pt H, i64 (i : Int), u64 zv] wr (fun r w' => ∃ b v' l', r = .returned (.bool b) ∧ Has l' (fl.set i (if zv < x then zv else x)) ∧ l'.length = n ∧ Sess w0 w' H A n v' l' ∧ Keys w' B lv fl) := by
  have hil := (List.getElem?_eq_some_iff.1 hx).1
  have hmem := (h ((i : Int), x)).2 ⟨i, x, hx, rfl⟩
  obtain ⟨j, hj⟩ := List.getElem?_of_mem hmem
  rcases Int.lt_or_le zv x with hlt2 | hge2
  · refine (put_less2 wr H A n v l S.hp j _ zv hj hlt2).mono ?_
    rintro r w' ⟨rfl, v', l', p, t⟩
    refine ⟨true, v', l', rfl, ?_, by rw [p.length_eq, List.length_set, hl], S.turn t, hK.turn S.hp t⟩
    rw [if_pos hlt2]
    exact h.set (fun a b e f he hf => S.hp.one he hf) hx hj p
  · refine (put_false wr H A n v l S.hp (i : Int) zv (.inr (.inr ⟨_, hmem, rfl, hge2⟩))).mono ?_
    rintro r w' ⟨rfl, k0⟩
    refine ⟨false, v, l, rfl, ?_, hl, S.grew k0, hK.grew k0⟩
    rw [if_neg (by omega)]
    have hself : fl.set i x = fl := by
      apply List.ext_getElem?
      intro q
      rw [List.getElem?_set]
      split
      · rename_i hq; subst hq
        rw [hx]
      · rfl
    rw [hself]
    exact h

set_option maxHeartbeats 4000000 in
set_option maxRecDepth 100000 in
theorem rises_main (A1 A2 : Option Addr) (n c1 m c2 : Nat) (zs : List Int) (za : Nat → Act3) (w : World) (hz : zs.length = n) (r1 : RowU w A1 zs) (r2 : RowA w A2 m za) (hn : n ≤ 100) (hm : m ≤ 100) :
    Calls Try.prog 3 #[.slice A1 n c1, .slice A2 m c2] w fun e w' => e = .returned (.bool true) ∧ Grew w w' := by
  obtain ⟨i0, hi, hz0, hz1, hz2⟩ := info_parts info_key
  have hA := Lib.hid alive_any
  have hN : ∀ W, Grew w W → Calls Try.prog 7 #[i64 (n : Int)] W fun e w' => ∃ H A, e = .returned (pt H) ∧ Sess w w' H A n (.slice none 0 0) [] ∧ Grew W w' := fun W h => new3 n w W h (by omega)
  replace hN := Lib.hid hN
  have hn1 : decide (100 < n) = false := decide_eq_false (by omega)
  have hm1 : decide (100 < m) = false := decide_eq_false (by omega)
  have R1 := Lib.hid r1
  have R2 := Lib.hid r2
  have HZ := Lib.hid hz
  clear r1 r2 hz
  go_enter Try.func3, Try.ntmps3
  go_wp2_with fail
  refine (hN.out _ (Kept.refl _ _)).mono ?_
  rintro r w1 ⟨H, A, rfl, s1, _⟩
  have S1 := Lib.hid s1
  clear hN s1
  cases A1 with
  | none =>
    obtain rfl : n = 0 := by
      rcases Nat.eq_zero_or_pos n with h | h
      · exact h
      · obtain ⟨b, off, hb, _⟩ := R1.out 0 _ (List.getElem?_eq_getElem (by rw [HZ.out]; exact h))
        cases hb
    have hz0' : zs = [] := List.eq_nil_of_length_eq_zero HZ.out
    subst hz0'
    have hE := Keys.empty w1 w.heap.size S1.out.fro.size
    have k2 : Grew w1 (w1.alloc (.cells #[] 28)) := (Kept.refl _ _).alloc _
    have hsz := S1.out.fro.size
    obtain ⟨X, hX⟩ : ∃ X, w1.heap.size = X := ⟨_, rfl⟩
    obtain ⟨w2, hw2⟩ : ∃ w2, w1.alloc (.cells #[] 28) = w2 := ⟨_, rfl⟩
    rw [hw2] at hE k2
    rw [hX] at hE
    go_upto_region 5 with fail
    have S2 := Lib.hid (S1.out.grew k2)
    have HK := Lib.hid hE
    clear S1 hw2 hE k2 hX hsz
    go_wp2_with fail
    go_loopw [7] (fun s7 wr => ∃ (k : Nat) (v : Value) (l : List Itm), s7 = .int .i64 k ∧ k ≤ 0 ∧ Hid (Sess w wr H A 0 v l) ∧ Hid (Has l (([] : List Int).take k) ∧ l.length = k) ∧ Hid (Keys wr w.heap.size (.slice (some ⟨X, 0, none⟩) 0 0) ([] : List Int))) (fun s7 _ => 0 - (intOf s7).toNat)
    case atStart => exact ⟨0, _, _, rfl, by omega, S2, Lib.hid ⟨Has.nil, rfl⟩, HK⟩
    case round =>
      clear S2 HK
      obtain ⟨k, v, l, rfl, hk, S, HH, HK⟩ := hrel
      by_cases hlt : k < 0
      · exact absurd hlt (by omega)
      · obtain rfl : 0 = k := by omega
        have HF : Hid (([] : List Int).length = 0 ∧ Has l ([] : List Int) ∧ l.length = 0) := by
          refine ⟨HZ.out, ?_, HH.out.2⟩
          have h := HH.out.1
          rw [List.take_of_length_le (by rw [HZ.out]; exact Nat.le_refl _)] at h
          exact h
        clear HH hlt hk
        go_wp2_with fail
        go_loopw [8, 9] (fun s8 _ wr => ∃ (k : Nat) (v : Value) (l : List Itm) (fl : List Int), s8 = .int .i64 k ∧ k ≤ m ∧ Hid (Sess w wr H A 0 v l) ∧ Hid (fl.length = 0 ∧ Has l fl ∧ l.length = 0) ∧ Hid (Keys wr w.heap.size (.slice (some ⟨X, 0, none⟩) 0 0) fl) ∧ Hid (∀ x ∈ fl, 0 ≤ x)) (fun s8 _ _ => m - (intOf s8).toNat)
        case atStart => exact ⟨0, _, _, _, rfl, by omega, S, HF, HK, Lib.hid (fun x hx => by
          obtain ⟨i, hi2⟩ := List.getElem?_of_mem hx
          obtain ⟨_, _, _, _, _, h⟩ := R1.out i x hi2
          exact h)⟩
        case round =>
          clear S HF HK
          obtain ⟨k, v, l, fl, rfl, hk, S, HF, HK, HP⟩ := hrel
          by_cases hlt : k < m
          · obtain ⟨b, off, hA2, hb, c0, c1', c2', z0⟩ := R2.out k hlt
            subst hA2
            obtain ⟨⟨zk, zi, zv⟩, hza⟩ : ∃ z, za k = z := ⟨_, rfl⟩
            rw [hza] at c0 c1' c2' z0
            simp only at c0 c1' c2' z0
            replace c0 := S.out.fro.cell c0
            replace c1' := S.out.fro.cell c1'
            have c2w : w.cell? ⟨b, off + k * 3 + 2, none⟩ = some (.int .u64 zv) := c2'
            replace c2' := S.out.fro.cell c2'
            have i0' : (0 : Int) ≤ (k : Int) := by omega
            have i1' : (k : Int) < (m : Int) := by omega
            clear hza
            by_cases hin : 0 ≤ zi ∧ zi < (0 : Int)
            · exact absurd hin (by omega)
            · rcases Int.lt_or_le zi 0 with hneg | hge
              · have hPf := Lib.hid (put_false wr H A 0 v l S.out.hp zi zv (.inl hneg))
                have d0 : decide ((0 : Int) ≤ zi) = false := decide_eq_false (by omega)
                clear hin
                go_wp2_with fail
                refine hPf.out.mono ?_
                rintro r w2 ⟨rfl, k0⟩
                have S2 := Lib.hid (S.out.grew k0)
                have HK2 := Lib.hid (HK.out.grew k0)
                clear hPf c0 c1' c2'
                go_wp2_with fail
                go_roundw
                case rel => first | exact ⟨k + 1, v, l, fl, by go_num, by omega, S2, HF, HK2, HP⟩ | ((repeat apply Exists.intro); exact ⟨⟨k + 1, v, l, fl, by go_num, by omega, S2, HF, HK2, HP⟩, rfl⟩)
                case measure => simp [intOf]; omega
              · have hPf := Lib.hid (put_false wr H A 0 v l S.out.hp zi zv (.inr (.inl (by omega))))
                have d0 : decide ((0 : Int) ≤ zi) = true := decide_eq_true (by omega)
                have d1 : decide (zi < (0 : Int)) = false := decide_eq_false (by omega)
                clear hin
                go_wp2_with fail
                refine hPf.out.mono ?_
                rintro r w2 ⟨rfl, k0⟩
                have S2 := Lib.hid (S.out.grew k0)
                have HK2 := Lib.hid (HK.out.grew k0)
                clear hPf c0 c1' c2'
                go_wp2_with fail
                go_roundw
                case rel => first | exact ⟨k + 1, v, l, fl, by go_num, by omega, S2, HF, HK2, HP⟩ | ((repeat apply Exists.intro); exact ⟨⟨k + 1, v, l, fl, by go_num, by omega, S2, HF, HK2, HP⟩, rfl⟩)
                case measure => simp [intOf]; omega
          · obtain rfl : m = k := by omega
            have HF3 : Hid (l.length = 0 - 0 ∧ (∀ e ∈ l, ∃ i : Nat, fl[i]? = some e.2 ∧ e.1 = (i : Int)) ∧ ∀ e ∈ l, 0 ≤ e.2) := by
              refine ⟨HF.out.2.2, fun e he => ?_, fun e he => ?_⟩
              · obtain ⟨i, x, hx, rfl⟩ := (HF.out.2.1 e).1 he
                exact ⟨i, hx, rfl⟩
              · obtain ⟨i, x, hx, rfl⟩ := (HF.out.2.1 e).1 he
                exact HP.out x (List.mem_of_getElem? hx)
            have HFL := Lib.hid HF.out.1
            clear HF HP hlt hk
            go_wp2_with fail
            go_loopw [10, 11, 12, 13, 14] (fun s10 s11 _ _ _ wr => ∃ (j : Nat) (v : Value) (l : List Itm) (last : Int), s11 = .int .i64 j ∧ s10 = .int .u64 last ∧ j ≤ 0 ∧ Hid (Sess w wr H A 0 v l) ∧ Hid (l.length = 0 - j ∧ (∀ e ∈ l, ∃ i : Nat, fl[i]? = some e.2 ∧ e.1 = (i : Int)) ∧ ∀ e ∈ l, last ≤ e.2) ∧ Hid (Keys wr w.heap.size (.slice (some ⟨X, 0, none⟩) 0 0) fl)) (fun _ s11 _ _ _ _ => 0 - (intOf s11).toNat)
            case atStart => exact ⟨0, _, _, _, rfl, rfl, by omega, S, HF3, HK⟩
            case round =>
              clear S HF3 HK
              obtain ⟨j, v, l, last, rfl, rfl, hj, S, HF, HK⟩ := hrel
              by_cases hlt : j < 0
              · exact absurd hlt (by omega)
              · obtain rfl : 0 = j := by omega
                have hL := len2 wr H A _ v l S.out.hp
                rw [HF.out.1, Nat.sub_self] at hL
                replace hL := Lib.hid hL
                go_wp2_with fail
                refine hL.out.mono ?_
                rintro r w3 ⟨rfl, rfl⟩
                go_wp2_with fail
                refine (hA.out _).mono ?_
                rintro r w4 ⟨rfl, k4⟩
                go_wp2_with fail
                go_ret
                exact ⟨rfl, S.out.fro.trans k4⟩
  | some a =>
    have hnews := Lib.hid (R1.out.grew (S1.out.fro.alloc (.cells #[] 28))).news
    have hE := Lib.hid (Keys.empty w1 w.heap.size S1.out.fro.size)
    have h1 := Lib.hid (keys_one zs)
    have hL := Lib.hid (show (zs.map u64).length = n * 1 by rw [List.length_map, HZ.out, Nat.mul_one])
    have hsz := S1.out.fro.size
    go_upto_region 5 with (at_builtin; refine wpList_append_own _ rfl (.tmp 27) (.tmp 28) 22 (by rfl) w.heap.size 28 i0 (u64 0) 1 8 Try.underlying22 hi hz0 hz1 hz2 (by rfl) (by omega) _ 0 [] rfl hE.out a n c1 (zs.map u64) rfl hL.out hnews.out h1.out (by unfold maxLen; omega) (by omega) (by simp; omega) ?_; intro lv w2 hown hg _)
    rw [Nat.zero_add, List.nil_append] at hown
    have hKs : Keys w2 w.heap.size lv zs := by unfold Keys; rw [HZ.out]; exact hown
    obtain ⟨LA, lc, hlv⟩ := hKs.slice
    rw [HZ.out] at hlv
    subst hlv
    have HK := Lib.hid hKs
    have S2 : Hid (Sess w w2 H A n (.slice none 0 0) []) := by
      have k0 : Grew w1 w2 := ((Kept.refl (fun _ => False) w1).alloc _).grown hg (fun k hk => .inr (by cases hk; exact Nat.le_refl _))
      exact S1.out.grew k0
    clear S1 hnews hE h1 hL hsz hown hg hKs
    go_wp2_with fail
    go_loopw [7] (fun s7 wr => ∃ (k : Nat) (v : Value) (l : List Itm), s7 = .int .i64 k ∧ k ≤ n ∧ Hid (Sess w wr H A n v l) ∧ Hid (Has l (zs.take k) ∧ l.length = k) ∧ Hid (Keys wr w.heap.size (.slice LA n lc) zs)) (fun s7 _ => n - (intOf s7).toNat)
    case atStart => exact ⟨0, _, _, rfl, by omega, S2, Lib.hid ⟨Has.nil, rfl⟩, HK⟩
    case round =>
      clear S2 HK
      obtain ⟨k, v, l, rfl, hk, S, HH, HK⟩ := hrel
      by_cases hlt : k < n
      · obtain ⟨x, hx⟩ : ∃ x, zs[k]? = some x := ⟨_, List.getElem?_eq_getElem (by rw [HZ.out]; exact hlt)⟩
        obtain ⟨b, off, hA1, hb, c0, x0⟩ := R1.out k x hx
        cases hA1
        replace c0 := S.out.fro.cell c0
        have hno : ∀ e ∈ l, e.1 ≠ (k : Int) := by
          intro e he
          obtain ⟨i, y, hi2, rfl⟩ := (HH.out.1 e).1 he
          have := (List.getElem?_eq_some_iff.1 hi2).1
          rw [List.length_take] at this
          simp; omega
        have hP := Lib.hid (put_new2 wr H A n v l S.out.hp (k : Int) x (by omega) (by omega) hno)
        have i0' : (0 : Int) ≤ (k : Int) := by omega
        have i1' : (k : Int) < (n : Int) := by omega
        have HX := Lib.hid hx
        clear hno hx
        go_wp2_with fail
        refine hP.out.mono ?_
        rintro r w3 ⟨rfl, v', l', p, t⟩
        have S3 := Lib.hid (S.out.turn t)
        have HK3 := Lib.hid (HK.out.turn S.out.hp t)
        have HH3 : Hid (Has l' (zs.take (k + 1)) ∧ l'.length = k + 1) := by
          refine ⟨?_, by rw [p.length_eq, List.length_append, HH.out.2]; rfl⟩
          rw [List.take_add_one, show zs[k]? = some x from HX.out]
          exact HH.out.1.snoc (by rw [List.length_take, HZ.out]; omega) p
        clear t p hP
        go_wp2_with fail
        go_roundw
        case rel => exact ⟨k + 1, _, _, by go_num, by omega, S3, HH3, HK3⟩
        case measure => simp [intOf]; omega
      · obtain rfl : n = k := by omega
        have HF : Hid (zs.length = n ∧ Has l zs ∧ l.length = n) := by
          refine ⟨HZ.out, ?_, HH.out.2⟩
          have h := HH.out.1
          rw [List.take_of_length_le (by rw [HZ.out]; exact Nat.le_refl _)] at h
          exact h
        clear HH hlt hk
        go_wp2_with fail
        go_loopw [8, 9] (fun s8 _ wr => ∃ (k : Nat) (v : Value) (l : List Itm) (fl : List Int), s8 = .int .i64 k ∧ k ≤ m ∧ Hid (Sess w wr H A n v l) ∧ Hid (fl.length = n ∧ Has l fl ∧ l.length = n) ∧ Hid (Keys wr w.heap.size (.slice LA n lc) fl) ∧ Hid (∀ x ∈ fl, 0 ≤ x)) (fun s8 _ _ => m - (intOf s8).toNat)
        case atStart => exact ⟨0, _, _, _, rfl, by omega, S, HF, HK, Lib.hid (fun x hx => by
          obtain ⟨i, hi2⟩ := List.getElem?_of_mem hx
          obtain ⟨_, _, _, _, _, h⟩ := R1.out i x hi2
          exact h)⟩
        case round =>
          clear S HF HK
          obtain ⟨k, v, l, fl, rfl, hk, S, HF, HK, HP⟩ := hrel
          by_cases hlt : k < m
          · obtain ⟨b, off, hA2, hb, c0, c1', c2', z0⟩ := R2.out k hlt
            subst hA2
            obtain ⟨⟨zk, zi, zv⟩, hza⟩ : ∃ z, za k = z := ⟨_, rfl⟩
            rw [hza] at c0 c1' c2' z0
            simp only at c0 c1' c2' z0
            replace c0 := S.out.fro.cell c0
            replace c1' := S.out.fro.cell c1'
            have c2w : w.cell? ⟨b, off + k * 3 + 2, none⟩ = some (.int .u64 zv) := c2'
            replace c2' := S.out.fro.cell c2'
            have i0' : (0 : Int) ≤ (k : Int) := by omega
            have i1' : (k : Int) < (m : Int) := by omega
            clear hza
            by_cases hin : 0 ≤ zi ∧ zi < (n : Int)
            · obtain ⟨i, rfl⟩ := Int.eq_ofNat_of_zero_le hin.1
              have hil : i < n := by have := hin.2; omega
              have j0 : (0 : Int) ≤ (i : Int) := by omega
              have j1 : (i : Int) < (n : Int) := by omega
              have d0 : decide ((0 : Int) ≤ (i : Int)) = true := decide_eq_true (by omega)
              have d1 : decide ((i : Int) < (n : Int)) = true := decide_eq_true (by omega)
              have d2 : decide (i < n) = true := decide_eq_true hil
              obtain ⟨x, hx⟩ : ∃ x, fl[i]? = some x := ⟨_, List.getElem?_eq_getElem (by rw [HF.out.1]; exact hil)⟩
              have HX := Lib.hid hx
              have hx0 := HP.out x (List.mem_of_getElem? hx)
              have HPut := Lib.hid (put_min S.out HF.out.2.1 HF.out.2.2 HK.out (zv := zv) hx)
              clear hx hin
              go_wp2_with fail
              refine HPut.out.mono ?_
              rintro r w2 ⟨bp, v', l', rfl, hh', hl', s2, hk2⟩
              obtain ⟨gl, c', hlv, hgB, hgs, e2, ef⟩ := hk2.at HX.out
              rw [HF.out.1] at hlv
              cases hlv
              have HH2 := Lib.hid hh'
              have HL2 := Lib.hid hl'
              have S2 := Lib.hid s2
              have HK2 := Lib.hid hk2
              have hws := s2.fro.size
              have hneE : ¬ gl = gl → False := fun h => h rfl
              have c3 := s2.fro.cell c2w
              clear hh' hl' s2 hk2 hneE HPut c0 c1' c2'
              have e2d : w2.drew.cell? ⟨gl, i, none⟩ = some (.int .u64 x) := e2
              have c2d : w2.drew.cell? ⟨b, off + k * 3 + 2, none⟩ = some (.int .u64 zv) := c3
              go_wp2_with fail
              refine wp_region_grow [13] (fun _ => False) (by kernel_rfl) ?_
              simp only [List.size_toArray, List.length_cons, List.length_nil, Nat.reduceAdd]
              refine wpAnyG_pure 0 70 (v := ?_) rfl (by kernel_rfl) rfl (by rfl) (fun w' => ?_) ?_
              rotate_left
              · go_simp <;> with_reducible rfl
              simp only [List.setIfInBounds_toArray, List.set_cons_zero, List.set_cons_succ]
              refine wpAnyG_pure 1 71 (v := ?_) rfl (by kernel_rfl) rfl (by rfl) (fun w' => ?_) ?_
              rotate_left
              · go_simp <;> with_reducible rfl
              simp only [List.setIfInBounds_toArray, List.set_cons_zero, List.set_cons_succ]
              refine wpAnyG_pure 2 72 (v := ?_) rfl (by kernel_rfl) rfl (by rfl) (fun w' => ?_) ?_
              rotate_left
              · go_simp <;> with_reducible rfl
              simp only [List.setIfInBounds_toArray, List.set_cons_zero, List.set_cons_succ]
              refine wpAnyG_pure 3 73 (v := ?_) rfl (by kernel_rfl) rfl (by rfl) (fun w' => ?_) ?_
              rotate_left
              · go_simp <;> with_reducible rfl
              simp only [List.setIfInBounds_toArray, List.set_cons_zero, List.set_cons_succ]
              refine wpAnyG_pure 4 74 (v := ?_) rfl (by kernel_rfl) rfl (by rfl) (fun w' => ?_) ?_
              rotate_left
              · go_simp <;> with_reducible rfl
              simp only [List.setIfInBounds_toArray, List.set_cons_zero, List.set_cons_succ]
              refine wpAnyG_take 5 75 (v := ?_) rfl (by kernel_rfl) rfl (by rfl) (fun w' hG' => ?_) ?_
              rotate_left
              · have hx0 := Grew.cell hG' e2d
                have hx1 := Grew.cell hG' c2d
                go_simp <;> with_reducible rfl
              simp only [List.setIfInBounds_toArray, List.set_cons_zero, List.set_cons_succ]
              refine wpAnyG_pure 6 76 (v := ?_) rfl (by kernel_rfl) rfl (by rfl) (fun w' => ?_) ?_
              rotate_left
              · go_simp <;> with_reducible rfl
              simp only [List.setIfInBounds_toArray, List.set_cons_zero, List.set_cons_succ]
              refine wpAnyG_pure 7 77 (v := ?_) rfl (by kernel_rfl) rfl (by rfl) (fun w' => ?_) ?_
              rotate_left
              · go_simp <;> with_reducible rfl
              simp only [List.setIfInBounds_toArray, List.set_cons_zero, List.set_cons_succ]
              refine wpAnyG_pure 8 78 (v := ?_) rfl (by kernel_rfl) rfl (by rfl) (fun w' => ?_) ?_
              rotate_left
              · go_simp <;> with_reducible rfl
              simp only [List.setIfInBounds_toArray, List.set_cons_zero, List.set_cons_succ]
              refine wpAnyG_pure 9 79 (v := ?_) rfl (by kernel_rfl) rfl (by rfl) (fun w' => ?_) ?_
              rotate_left
              · go_simp <;> with_reducible rfl
              simp only [List.setIfInBounds_toArray, List.set_cons_zero, List.set_cons_succ]
              refine wpAnyG_take 10 80 (v := ?_) rfl (by kernel_rfl) rfl (by rfl) (fun w' hG' => ?_) ?_
              rotate_left
              · have hx0 := Grew.cell hG' e2d
                have hx1 := Grew.cell hG' c2d
                go_simp <;> with_reducible rfl
              simp only [List.setIfInBounds_toArray, List.set_cons_zero, List.set_cons_succ]
              refine wpAnyG_pure 11 81 (v := ?_) rfl (by kernel_rfl) rfl (by rfl) (fun w' => ?_) ?_
              rotate_left
              · go_simp <;> with_reducible rfl
              simp only [List.setIfInBounds_toArray, List.set_cons_zero, List.set_cons_succ]
              refine wpAnyG_pure 12 82 (v := ?_) rfl (by kernel_rfl) rfl (by rfl) (fun w' => ?_) ?_
              rotate_left
              · go_simp <;> with_reducible rfl
              simp only [List.setIfInBounds_toArray, List.set_cons_zero, List.set_cons_succ]
              refine wpAnyG_store 13 rfl (by kernel_rfl) rfl (by rfl) (fun K hK' => ?_)
              go_simp
              refine hK' _ (fun h => absurd (by simp) h) ?_
              clear hK'
              refine wpAnyG_done (by kernel_rfl) ?_
              go_wp2_with fail
              go_roundw
              case rel => exact ⟨k + 1, v', l', fl.set i (if zv < x then zv else x), by go_num, by omega, Lib.hid (S2.out.store HK2.out hgB HF.out.1 i _), Lib.hid ⟨by rw [List.length_set]; exact HF.out.1, HH2.out, HL2.out⟩, Lib.hid (HK2.out.store HF.out.1 i _), Lib.hid (fun y hy => by
                rcases List.mem_or_eq_of_mem_set hy with h | h
                · exact HP.out y h
                · have := HP.out x (List.mem_of_getElem? HX.out)
                  rw [h]
                  split <;> omega)⟩
              case measure => simp [intOf]; omega
            · rcases Int.lt_or_le zi 0 with hneg | hge
              · have hPf := Lib.hid (put_false wr H A n v l S.out.hp zi zv (.inl hneg))
                have d0 : decide ((0 : Int) ≤ zi) = false := decide_eq_false (by omega)
                clear hin
                go_wp2_with fail
                refine hPf.out.mono ?_
                rintro r w2 ⟨rfl, k0⟩
                have S2 := Lib.hid (S.out.grew k0)
                have HK2 := Lib.hid (HK.out.grew k0)
                clear hPf c0 c1' c2'
                go_wp2_with fail
                go_roundw
                case rel => first | exact ⟨k + 1, v, l, fl, by go_num, by omega, S2, HF, HK2, HP⟩ | ((repeat apply Exists.intro); exact ⟨⟨k + 1, v, l, fl, by go_num, by omega, S2, HF, HK2, HP⟩, rfl⟩)
                case measure => simp [intOf]; omega
              · have hPf := Lib.hid (put_false wr H A n v l S.out.hp zi zv (.inr (.inl (by omega))))
                have d0 : decide ((0 : Int) ≤ zi) = true := decide_eq_true (by omega)
                have d1 : decide (zi < (n : Int)) = false := decide_eq_false (by omega)
                clear hin
                go_wp2_with fail
                refine hPf.out.mono ?_
                rintro r w2 ⟨rfl, k0⟩
                have S2 := Lib.hid (S.out.grew k0)
                have HK2 := Lib.hid (HK.out.grew k0)
                clear hPf c0 c1' c2'
                go_wp2_with fail
                go_roundw
                case rel => first | exact ⟨k + 1, v, l, fl, by go_num, by omega, S2, HF, HK2, HP⟩ | ((repeat apply Exists.intro); exact ⟨⟨k + 1, v, l, fl, by go_num, by omega, S2, HF, HK2, HP⟩, rfl⟩)
                case measure => simp [intOf]; omega
          · obtain rfl : m = k := by omega
            have HF3 : Hid (l.length = n - 0 ∧ (∀ e ∈ l, ∃ i : Nat, fl[i]? = some e.2 ∧ e.1 = (i : Int)) ∧ ∀ e ∈ l, 0 ≤ e.2) := by
              refine ⟨HF.out.2.2, fun e he => ?_, fun e he => ?_⟩
              · obtain ⟨i, x, hx, rfl⟩ := (HF.out.2.1 e).1 he
                exact ⟨i, hx, rfl⟩
              · obtain ⟨i, x, hx, rfl⟩ := (HF.out.2.1 e).1 he
                exact HP.out x (List.mem_of_getElem? hx)
            have HFL := Lib.hid HF.out.1
            clear HF HP hlt hk
            go_wp2_with fail
            go_loopw [10, 11, 12, 13, 14] (fun s10 s11 _ _ _ wr => ∃ (j : Nat) (v : Value) (l : List Itm) (last : Int), s11 = .int .i64 j ∧ s10 = .int .u64 last ∧ j ≤ n ∧ Hid (Sess w wr H A n v l) ∧ Hid (l.length = n - j ∧ (∀ e ∈ l, ∃ i : Nat, fl[i]? = some e.2 ∧ e.1 = (i : Int)) ∧ ∀ e ∈ l, last ≤ e.2) ∧ Hid (Keys wr w.heap.size (.slice LA n lc) fl)) (fun _ s11 _ _ _ _ => n - (intOf s11).toNat)
            case atStart => exact ⟨0, _, _, _, rfl, rfl, by omega, S, HF3, HK⟩
            case round =>
              clear S HF3 HK
              obtain ⟨j, v, l, last, rfl, rfl, hj, S, HF, HK⟩ := hrel
              by_cases hlt : j < n
              · obtain ⟨e, he, hmin⟩ := S.out.hp.first (by rw [HF.out.1]; omega)
                have hP := Lib.hid (pop_some wr H A n v l S.out.hp 0 e he hmin)
                obtain ⟨i, hi2, hv⟩ := HF.out.2.1 e (List.mem_of_getElem? he)
                have hlast := HF.out.2.2 e (List.mem_of_getElem? he)
                obtain ⟨ev, ek⟩ := e
                simp only at hv hi2 hlast
                subst hv
                have hil : i < n := by have := (List.getElem?_eq_some_iff.1 hi2).1; rw [HFL.out] at this; exact this
                have HE := Lib.hid he
                have HM := Lib.hid hmin
                have HI := Lib.hid hi2
                have j0 : (0 : Int) ≤ (i : Int) := by omega
                have j1 : (i : Int) < (n : Int) := by omega
                clear he hmin hi2
                go_wp2_with fail
                refine hP.out.mono ?_
                rintro r w2 ⟨rfl, v', l', p, t⟩
                have S2 := Lib.hid (S.out.turn t)
                have hK2 := HK.out.turn S.out.hp t
                obtain ⟨gl, c', hlv, hgB, hgs, e2, ef⟩ := hK2.at HI.out
                rw [HFL.out] at hlv
                cases hlv
                have HK2 := Lib.hid hK2
                have HF2 : Hid (l'.length = n - (j + 1) ∧ (∀ e ∈ l', ∃ i : Nat, fl[i]? = some e.2 ∧ e.1 = (i : Int)) ∧ ∀ e ∈ l', ek ≤ e.2) := by
                  have hmem : ∀ f ∈ l', f ∈ l := fun f hf => (List.eraseIdx_sublist l 0).subset (p.mem_iff.1 hf)
                  refine ⟨by rw [p.length_eq, List.length_eraseIdx, if_pos (get_lt HE.out), HF.out.1]; omega, fun f hf => HF.out.2.1 f (hmem f hf), fun f hf => ?_⟩
                  have h := HM.out f (hmem f hf)
                  rw [lessI_iff] at h
                  simp only at h
                  omega
                have d3 : decide (ek < last) = false := decide_eq_false (by omega)
                have d4 : decide ((i : Int) < 0) = false := decide_eq_false (by omega)
                have d5 : decide (n ≤ i) = false := decide_eq_false (by omega)
                clear t p hP hK2 hlast
                go_wp2_with fail
                go_roundw
                case rel => exact ⟨j + 1, v', l', ek, by go_num, rfl, by omega, S2, HF2, HK2⟩
                case measure => simp [intOf]; omega
              · obtain rfl : n = j := by omega
                have hL := len2 wr H A _ v l S.out.hp
                rw [HF.out.1, Nat.sub_self] at hL
                replace hL := Lib.hid hL
                go_wp2_with fail
                refine hL.out.mono ?_
                rintro r w3 ⟨rfl, rfl⟩
                go_wp2_with fail
                refine (hA.out _).mono ?_
                rintro r w4 ⟨rfl, k4⟩
                go_wp2_with fail
                go_ret
                exact ⟨rfl, S.out.fro.trans k4⟩
theorem rises_law (A1 A2 : Option Addr) (n c1 m c2 : Nat) (zs : List Int) (za : Nat → Act3) (w : World) (hz : zs.length = n) (r1 : RowU w A1 zs) (r2 : RowA w A2 m za) (hn : n ≤ 9223372036854775807) (hm : m ≤ 9223372036854775807) :
    Calls Try.prog 3 #[.slice A1 n c1, .slice A2 m c2] w fun e w' => e = .returned (.bool true) ∧ Grew w w' := by
  have hA := Lib.hid alive_any
  by_cases h1 : 100 < n
  · clear r1 r2 hz
    go_enter Try.func3, Try.ntmps3
    go_wp2_with fail
    refine (hA.out _).mono ?_
    rintro e wb ⟨rfl, kb⟩
    go_wp2_with fail
    go_ret
    exact ⟨rfl, kb⟩
  · by_cases h2 : 100 < m
    · have h3 : n ≤ 100 := by omega
      clear r1 r2 hz h1
      go_enter Try.func3, Try.ntmps3
      go_wp2_with fail
      refine (hA.out _).mono ?_
      rintro e wb ⟨rfl, kb⟩
      go_wp2_with fail
      go_ret
      exact ⟨rfl, kb⟩
    · exact rises_main A1 A2 n c1 m c2 zs za w hz r1 r2 (by omega) (by omega)
end Go.Proofs.Ythihjclilgdaiaa
