/- Rows that forget at once: the walks of New, Len, Forget, at, Put, Get, Least, Count. -/
import Derived.Test.YthbcgdogmkgebaaRows
import Derived.Test.YthbcgdogmkgebaaWorld
import Derived.Deep.QuietTactic
import Derived.BigQuiet
import Derived.Outline
namespace Go.Proofs.Ythbcgdogmkgebaa.Sm
open Go.RowKit

abbrev pt (D : Nat) : Value := .pointer (some ⟨D, 0, none⟩)
abbrev u64 (x : Int) : Value := .int .u64 x
abbrev i64 (x : Int) : Value := .int .i64 x

abbrev Have := Int → Option Int

/-- One place: its value, its time, and what is to be had there. -/
structure Place (cs : Array Value) (now : Int) (i : Nat) (o : Option Int) (v t : Int) : Prop where
  cv : cs[i * 2]? = some (u64 v)
  ct : cs[i * 2 + 1]? = some (u64 t)
  t0 : 0 ≤ t
  t1 : t ≤ now
  yes : t = now → o = some v
  no : t ≠ now → o = none

/-- Row R, with its places in block C, has h; many of its n places have something. -/
structure Stamp (w : World) (R C n : Nat) (h : Have) (now many : Int) : Prop where
  ne : R ≠ C
  row : Blk w R 90 #[.slice (some ⟨C, 0, none⟩) n n, u64 now, i64 many]
  cells : ∃ cs : Array Value, Blk w C 97 cs ∧ cs.size = n * 2 ∧ ∀ i, i < n → ∃ v t, Place cs now i (h i) v t
  small : n ≤ 65536
  now1 : 1 ≤ now
  now2 : now ≤ 1000000
  many0 : 0 ≤ many
  many1 : many ≤ 1000000
  out : ∀ i : Int, i < 0 ∨ n ≤ i → h i = none

theorem Stamp.kept {F : Nat → Prop} {w w' : World} {R C n : Nat} {h : Have} {now many : Int} (s : Stamp w R C n h now many) (k : Kept F w w') (hR : ¬ F R) (hC : ¬ F C) : Stamp w' R C n h now many := by
  obtain ⟨cs, hb, hs⟩ := s.cells
  exact ⟨s.ne, s.row.kept k hR, ⟨cs, hb.kept k hC, hs⟩, s.small, s.now1, s.now2, s.many0, s.many1, s.out⟩

abbrev Two (R C : Nat) : Nat → Prop := fun k => k = R ∨ k = C

def inn (n : Nat) (i : Int) : Bool := decide (0 ≤ i ∧ i < n)
def upd (h : Have) (i v : Int) : Have := fun j => if j = i then some v else h j

theorem len_any (w : World) (R C n : Nat) (h : Have) (now many : Int) (s : Stamp w R C n h now many) :
    Calls Try.prog 62 #[pt R] w fun e w' => e = .returned (i64 n) ∧ w = w' := by
  have hc : w.cell? ⟨R, 0, none⟩ = some (.slice (some ⟨C, 0, none⟩) n n) := s.row.cell 0
  go_enter Try.func62, Try.ntmps62
  go_wp2
  go_ret
  exact ⟨rfl, rfl⟩

theorem at_out (w : World) (R C n : Nat) (h : Have) (now many i : Int) (s : Stamp w R C n h now many) (hi : i < 0 ∨ n ≤ i) :
    Calls Try.prog 54 #[pt R, i64 i] w fun e w' => e = .returned (.pointer none) ∧ Grew w w' := by
  have hL := Lib.hid (len_any w R C n h now many s)
  rcases Int.lt_or_le i 0 with h0 | h0
  · go_enter Try.func54, Try.ntmps54
    go_wp2_with fail
    go_ret
    exact ⟨rfl, Kept.refl _ _⟩
  · have hn : n ≤ i := by omega
    clear hi
    go_enter Try.func54, Try.ntmps54
    go_wp2_with fail
    refine hL.out.mono ?_
    rintro e w1 ⟨rfl, rfl⟩
    go_wp2_with fail
    go_ret
    exact ⟨rfl, Kept.refl _ _⟩

theorem at_in (w : World) (R C n : Nat) (h : Have) (now many : Int) (i : Nat) (s : Stamp w R C n h now many) (hi : i < n) :
    Calls Try.prog 54 #[pt R, i64 i] w fun e w' => e = .returned (.pointer (some ⟨C, i * 2, none⟩)) ∧ w = w' := by
  have hL := Lib.hid (len_any w R C n h now many s)
  have hc : w.cell? ⟨R, 0, none⟩ = some (.slice (some ⟨C, 0, none⟩) n n) := s.row.cell 0
  have hs := s.small
  go_enter Try.func54, Try.ntmps54
  go_wp2_with fail
  refine hL.out.mono ?_
  rintro e w1 ⟨rfl, rfl⟩
  go_wp2_with fail
  go_ret
  exact ⟨rfl, rfl⟩

def getE (o : Option Int) : Ending := .returned (.tuple #[u64 (o.getD 0), .bool o.isSome])

theorem get_out (w : World) (R C n : Nat) (h : Have) (now many i : Int) (s : Stamp w R C n h now many) (hi : i < 0 ∨ n ≤ i) :
    Calls Try.prog 58 #[pt R, i64 i] w fun e w' => e = getE none ∧ Grew w w' := by
  have hL := Lib.hid (at_out w R C n h now many i s hi)
  clear hi
  go_enter Try.func58, Try.ntmps58
  go_wp2_with fail
  refine hL.out.mono ?_
  rintro e w1 ⟨rfl, hK⟩
  go_wp2_with fail
  go_quiet (fail)
  go_wp2
  go_ret2
  exact ⟨rfl, hK.drewN _⟩

theorem get_in (w : World) (R C n : Nat) (h : Have) (now many : Int) (i : Nat) (s : Stamp w R C n h now many) (hi : i < n) :
    Calls Try.prog 58 #[pt R, i64 i] w fun e w' => e = getE (h i) ∧ Grew w w' := by
  have hL := Lib.hid (at_in w R C n h now many i s hi)
  have hc1 : w.cell? ⟨R, 1, none⟩ = some (u64 now) := s.row.cell 1
  obtain ⟨cs, hB, _, hpl⟩ := s.cells
  obtain ⟨v, t, pl⟩ := hpl i hi
  have hc2 : w.cell? ⟨C, i * 2, none⟩ = some (u64 v) := (hB.cell _).trans pl.cv
  have hc3 : w.cell? ⟨C, i * 2 + 1, none⟩ = some (u64 t) := (hB.cell _).trans pl.ct
  by_cases ht : t = now
  · subst ht
    have hh := Lib.hid (pl.yes rfl)
    go_enter Try.func58, Try.ntmps58
    go_wp2_with fail
    refine hL.out.mono ?_
    rintro e w1 ⟨rfl, rfl⟩
    go_wp2_with fail
    go_quiet (fail)
    go_wp2
    go_ret2
    rw [hh.out]
    exact ⟨rfl, (Kept.refl _ _).drewN _⟩
  · have hh := Lib.hid (pl.no ht)
    have ht2 : (t == now) = false := by simpa using ht
    go_enter Try.func58, Try.ntmps58
    go_wp2_with fail
    refine hL.out.mono ?_
    rintro e w1 ⟨rfl, rfl⟩
    go_wp2_with fail
    go_quiet (fail)
    go_wp2
    go_ret2
    rw [hh.out]
    exact ⟨rfl, (Kept.refl _ _).drewN _⟩

theorem get_any (w : World) (R C n : Nat) (h : Have) (now many i : Int) (s : Stamp w R C n h now many) :
    Calls Try.prog 58 #[pt R, i64 i] w fun e w' => e = getE (h i) ∧ Grew w w' := by
  by_cases hi : i < 0 ∨ n ≤ i
  · rw [s.out i hi]
    exact get_out w R C n h now many i s hi
  · obtain ⟨k, rfl⟩ := Int.eq_ofNat_of_zero_le (show 0 ≤ i by omega)
    exact get_in w R C n h now many k s (by omega)

def manyP (o : Option Int) (many : Int) : Int := if o = none then many + 1 else many

theorem Stamp.put {w w1 : World} {R C n : Nat} {h : Have} {now many many' v : Int} {i : Nat} (s : Stamp w R C n h now many) (hi : i < n) (hm : many' = manyP (h i) many) (h100 : many < 1000000)
    (hR : Blk w1 R 90 #[.slice (some ⟨C, 0, none⟩) n n, u64 now, i64 many']) (hC : ∀ cs, Blk w C 97 cs → Blk w1 C 97 cs) :
    Stamp ((w1.setCell ⟨C, i * 2, none⟩ (u64 v)).setCell ⟨C, i * 2 + 1, none⟩ (u64 now)) R C n (upd h i v) now many' := by
  obtain ⟨cs, hB, hsz, hpl⟩ := s.cells
  have hb := s.many0
  refine ⟨s.ne, (hR.far (p := ⟨C, i * 2, none⟩) s.ne _).far (p := ⟨C, i * 2 + 1, none⟩) s.ne _, ⟨_, ((hC cs hB).set (i * 2) _).set (i * 2 + 1) _, by simpa using hsz, fun j hj => ?_⟩, s.small, s.now1, s.now2, ?_, ?_, ?_⟩
  · by_cases hji : j = i
    · subst hji
      have := s.now1
      refine ⟨v, now, ?_, ?_, by omega, by omega, fun _ => by simp [upd], fun e => absurd rfl e⟩
      · rw [Array.getElem?_setIfInBounds_ne (by omega), Array.getElem?_setIfInBounds_self]; simp; omega
      · rw [Array.getElem?_setIfInBounds_self]; simp; omega
    · obtain ⟨v', t', pl⟩ := hpl j hj
      have hne : ¬ (j : Int) = (i : Int) := by omega
      refine ⟨v', t', ?_, ?_, pl.t0, pl.t1, fun e => by simp only [upd, if_neg hne]; exact pl.yes e, fun e => by simp only [upd, if_neg hne]; exact pl.no e⟩
      · rw [Array.getElem?_setIfInBounds_ne (by omega), Array.getElem?_setIfInBounds_ne (by omega)]; exact pl.cv
      · rw [Array.getElem?_setIfInBounds_ne (by omega), Array.getElem?_setIfInBounds_ne (by omega)]; exact pl.ct
  · rw [hm]; unfold manyP; split <;> omega
  · rw [hm]; unfold manyP; split
    · omega
    · exact s.many1
  · intro j hj
    have hne : ¬ j = (i : Int) := by omega
    simp only [upd, if_neg hne]; exact s.out j hj

theorem put_out (w : World) (R C n : Nat) (h : Have) (now many i v : Int) (s : Stamp w R C n h now many) (hi : i < 0 ∨ n ≤ i) :
    Calls Try.prog 40 #[pt R, i64 i, u64 v] w fun e w' => e = .returned (.bool false) ∧ Grew w w' := by
  have hL := Lib.hid (at_out w R C n h now many i s hi)
  clear hi
  go_enter Try.func40, Try.ntmps40
  go_wp2_with fail
  refine hL.out.mono ?_
  rintro e w1 ⟨rfl, hK⟩
  go_wp2_with fail
  go_ret
  exact ⟨rfl, hK⟩

theorem put_in (w : World) (R C n : Nat) (h : Have) (now many v : Int) (i : Nat) (s : Stamp w R C n h now many) (hi : i < n) (h100 : many < 1000000) :
    Calls Try.prog 40 #[pt R, i64 i, u64 v] w fun e w' => e = .returned (.bool true) ∧ Stamp w' R C n (upd h i v) now (manyP (h i) many) ∧ Kept (Two R C) w w' := by
  have hL := Lib.hid (at_in w R C n h now many i s hi)
  have hc1 : w.cell? ⟨R, 1, none⟩ = some (u64 now) := s.row.cell 1
  have hcm : w.cell? ⟨R, 2, none⟩ = some (i64 many) := s.row.cell 2
  have hfm := s.row.frozen 2
  obtain ⟨cs, hB, _, hpl⟩ := s.cells
  obtain ⟨v0, t, pl⟩ := hpl i hi
  have hc2 : w.cell? ⟨C, i * 2, none⟩ = some (u64 v0) := (hB.cell _).trans pl.cv
  have hc3 : w.cell? ⟨C, i * 2 + 1, none⟩ = some (u64 t) := (hB.cell _).trans pl.ct
  have hf2 := hB.frozen (i * 2)
  have hf3 := hB.frozen (i * 2 + 1)
  have hne := s.ne
  have hm0 := s.many0
  by_cases ht : t = now
  · subst ht
    have hh := Lib.hid (pl.yes rfl)
    have hm : Hid (many = manyP (h i) many) := by
      show many = manyP (h i) many
      rw [hh.out]; rfl
    go_enter Try.func40, Try.ntmps40
    go_wp2_with fail
    refine hL.out.mono ?_
    rintro e w1 ⟨rfl, rfl⟩
    go_wp2_with fail
    go_quiet (fail)
    go_wp2
    go_ret
    rw [← hm.out]
    refine ⟨rfl, s.put hi hm.out h100 s.row (fun _ h => h), ?_⟩
    exact (((Kept.refl (Two R C) w).drewN nq).setCell (p := ⟨C, i * 2, none⟩) (.inl (.inr rfl)) _).setCell (p := ⟨C, i * 2 + 1, none⟩) (.inl (.inr rfl)) _
  · have hh := Lib.hid (pl.no ht)
    have ht2 : (t == now) = false := by simpa using ht
    go_enter Try.func40, Try.ntmps40
    go_wp2_with fail
    refine hL.out.mono ?_
    rintro e w1 ⟨rfl, rfl⟩
    go_wp2_with fail
    go_quiet (fail)
    go_wp2
    go_ret
    have hm : many + 1 = manyP (h i) many := by rw [hh.out]; rfl
    refine ⟨rfl, ?_, ?_⟩
    · rw [← hm]
      exact s.put hi hm h100 ((show Blk (w.drewN nq) R _ _ from s.row).set 2 (i64 (many + 1))) (fun _ h => (show Blk (w.drewN nq) C _ _ from h).far (p := ⟨R, 2, none⟩) (Ne.symm hne) _)
    · exact ((((Kept.refl (Two R C) w).drewN nq).setCell (p := ⟨R, 2, none⟩) (.inl (.inl rfl)) _).setCell (p := ⟨C, i * 2, none⟩) (.inl (.inr rfl)) _).setCell (p := ⟨C, i * 2 + 1, none⟩) (.inl (.inr rfl)) _

/-- What Put answers, and what is to be had then. -/
def putH (n : Nat) (h : Have) (i v : Int) : Have := if inn n i then upd h i v else h
def putM (n : Nat) (h : Have) (i many : Int) : Int := if inn n i then manyP (h i) many else many

theorem put_any (w : World) (R C n : Nat) (h : Have) (now many i v : Int) (s : Stamp w R C n h now many) (h100 : many < 1000000) :
    Calls Try.prog 40 #[pt R, i64 i, u64 v] w fun e w' => e = .returned (.bool (inn n i)) ∧ Stamp w' R C n (putH n h i v) now (putM n h i many) ∧ Kept (Two R C) w w' := by
  by_cases hi : i < 0 ∨ n ≤ i
  · have e : inn n i = false := by simp [inn]; omega
    simp only [putH, putM, e, Bool.false_eq_true, if_false]
    refine (put_out w R C n h now many i v s hi).mono fun e w' ⟨he, hK⟩ => ⟨he, s.kept hK (fun h => h) (fun h => h), hK.kept⟩
  · obtain ⟨k, rfl⟩ := Int.eq_ofNat_of_zero_le (show 0 ≤ i by omega)
    have e : inn n k = true := by simp [inn]; omega
    simp only [putH, putM, e, if_true]
    exact put_in w R C n h now many v k s (by omega) h100

def leastB (n : Nat) (h : Have) (i v : Int) : Bool := inn n i && !(match h i with | some x => decide (x ≤ v) | none => false)
def leastH (n : Nat) (h : Have) (i v : Int) : Have := if leastB n h i v then upd h i v else h
def leastM (n : Nat) (h : Have) (i v many : Int) : Int := if leastB n h i v then manyP (h i) many else many

theorem least_any (w : World) (R C n : Nat) (h : Have) (now many i v : Int) (s : Stamp w R C n h now many) (h100 : many < 1000000) :
    Calls Try.prog 43 #[pt R, i64 i, u64 v] w fun e w' => e = .returned (.bool (leastB n h i v)) ∧ Stamp w' R C n (leastH n h i v) now (leastM n h i v many) ∧ Kept (Two R C) w w' := by
  have hG := Lib.hid (get_any w R C n h now many i s)
  cases ho : h i with
  | none =>
    rw [ho] at hG
    have hb : leastB n h i v = inn n i := by simp [leastB, ho]
    have hP := Lib.hid (fun W (k : Grew w W) => put_any W R C n h now many i v (s.kept k (fun h => h) (fun h => h)) h100)
    have hh : leastH n h i v = putH n h i v := by simp [leastH, putH, hb]
    have hm : leastM n h i v many = putM n h i many := by simp [leastM, putM, hb]
    rw [hb, hh, hm]
    clear hb hh hm ho
    go_enter Try.func43, Try.ntmps43
    go_wp2_with fail
    refine hG.out.mono ?_
    rintro e w1 ⟨he, hK⟩
    simp only [getE, Option.getD_none, Option.isSome_none] at he
    subst he
    go_wp2_with fail
    refine (hP.out _ hK).mono ?_
    rintro e w2 ⟨rfl, hs2, hK2⟩
    go_wp2_with fail
    go_ret
    exact ⟨rfl, hs2, hK.kept.trans hK2⟩
  | some x =>
    rw [ho] at hG
    have hin : inn n i = true := by
      by_cases hi : i < 0 ∨ n ≤ i
      · rw [s.out i hi] at ho; cases ho
      · simp [inn]; omega
    rcases Int.lt_or_le v x with hlt | hle
    · have hb : leastB n h i v = inn n i := by simp [leastB, ho]; intro _; omega
      have hP := Lib.hid (fun W (k : Grew w W) => put_any W R C n h now many i v (s.kept k (fun h => h) (fun h => h)) h100)
      have hh : leastH n h i v = putH n h i v := by simp [leastH, putH, hb]
      have hm : leastM n h i v many = putM n h i many := by simp [leastM, putM, hb]
      rw [hb, hh, hm]
      clear hb hh hm ho hin
      go_enter Try.func43, Try.ntmps43
      go_wp2_with fail
      refine hG.out.mono ?_
      rintro e w1 ⟨he, hK⟩
      simp only [getE, Option.getD_some, Option.isSome_some] at he
      subst he
      go_wp2_with fail
      refine (hP.out _ hK).mono ?_
      rintro e w2 ⟨rfl, hs2, hK2⟩
      go_wp2_with fail
      go_ret
      exact ⟨rfl, hs2, hK.kept.trans hK2⟩
    · have hb : leastB n h i v = false := by simp [leastB, ho, hle]
      simp only [leastH, leastM, hb, Bool.false_eq_true, if_false]
      clear hb ho hin
      go_enter Try.func43, Try.ntmps43
      go_wp2_with fail
      refine hG.out.mono ?_
      rintro e w1 ⟨he, hK⟩
      simp only [getE, Option.getD_some, Option.isSome_some] at he
      subst he
      go_wp2_with fail
      go_ret
      exact ⟨rfl, s.kept hK (fun h => h) (fun h => h), hK.kept⟩

theorem info_cell : (Try.prog.info? 97).map (fun i => (i.zero, i.size, i.bytes)) = some (some (.agg #[u64 0, u64 0]), 2, 16) := by kernel_rfl

theorem new_no (n : Int) (w : World) (hn : n < 0 ∨ 65536 < n) : Calls Try.prog 38 #[i64 n] w fun e w' => e = .returned (.pointer none) ∧ w = w' := by
  rcases Int.lt_or_le n 0 with h0 | h0
  · clear hn
    go_enter Try.func38, Try.ntmps38
    go_wp2
    go_ret
    exact ⟨rfl, rfl⟩
  · have h1 : 65536 < n := by omega
    clear hn
    go_enter Try.func38, Try.ntmps38
    go_wp2
    go_ret
    exact ⟨rfl, rfl⟩

set_option maxRecDepth 100000 in
theorem new_yes (n : Nat) (w : World) (hn : n ≤ 65536) : Calls Try.prog 38 #[i64 n] w fun e w' => ∃ R C, e = .returned (pt R) ∧ w.heap.size ≤ R ∧ w.heap.size ≤ C ∧ Stamp w' R C n (fun _ => none) 1 0 ∧ Grew w w' := by
  obtain ⟨i0, hi, hz0, hz1, hz2⟩ := info_parts info_cell
  have hmk := run_make (P := Try.prog) w 88 97 i0 _ Try.underlying88 hi hz0 .i64 .i64 (n : Int) (n : Int) (by omega) (Int.le_refl _) (by rw [hz2]; omega) (by omega)
  rw [Int.toNat_natCast, hz1] at hmk
  go_enter Try.func38, Try.ntmps38
  go_wp2
  go_ret
  refine ⟨_, w.heap.size, rfl, ?_, Nat.le_refl _, ?_, ((Kept.refl _ _).alloc _).alloc _⟩
  · simp
  · refine ⟨by simp, ?_, ⟨_, (Blk.new w _ _).alloc _, by rw [size_madeCells], fun i hi => ?_⟩, hn, by omega, by omega, by omega, by omega, fun _ _ => rfl⟩
    · have hb := Blk.new (w.alloc (.cells (madeCells #[u64 0, u64 0] (n * 2)) 97)) 90 #[.slice (some ⟨w.heap.size, 0, none⟩) n n, u64 1, i64 0]
      rw [World.size_alloc] at hb
      exact hb
    · refine ⟨0, 0, ?_, ?_, by omega, by omega, fun e => by omega, fun _ => rfl⟩
      · simp [madeCells, Value.cells, show i * 2 < n * 2 by omega, show i * 2 % 2 = 0 by omega]
      · simp [madeCells, Value.cells, show i * 2 + 1 < n * 2 by omega, show (i * 2 + 1) % 2 = 1 by omega]
end Go.Proofs.Ythbcgdogmkgebaa.Sm
