/- Grids that can't be, and what both makers of grids answer. -/
import Derived.Test.YtppnndhekikagaaRefGrid
namespace Go.Proofs.Ytppnndhekikagaa
open Go.RowKit

theorem grid_no (wide high seed most : Int) (w : World) (h : wide < 1 ∨ 4096 < wide ∨ high < 1 ∨ 4096 < high ∨ most < 1 ∨ 4294967296 < most ∨ 4096 < wide * high) :
    Calls Try.prog 14 #[i64 wide, i64 high, u64 seed, i64 most] w fun e w' => e = .returned (.tuple #[.agg #[i64 0, .slice none 0 0], .slice none 0 0, i64 (gridF wide high most)]) ∧ Grew w w' := by
  have hb0 := Blk.new w 37 #[i64 0, .slice none 0 0]
  have hq0 := hb0.cell 0
  have hq1 := hb0.cell 1
  have hf0 := hb0.frozen 0
  have hf1 := hb0.frozen 1
  simp at hq0 hq1
  have hk0 : Grew w (w.alloc (.cells #[i64 0, .slice none 0 0] 37)) := (Kept.refl _ _).alloc _
  by_cases h1 : wide < 1 ∨ 4096 < wide ∨ high < 1 ∨ 4096 < high ∨ most < 1 ∨ 4294967296 < most
  · have hr : Hid (gridF wide high most = 1) := if_pos h1
    by_cases g1 : wide < 1 ∨ 4096 < wide
    · have hA := Lib.hid (fun W => within_no wide 1 4096 W g1)
      clear h h1 g1
      go_enter Try.func14, Try.ntmps14
      go_wp2_with fail
      refine (hA.out _).mono ?_
      rintro e w1 ⟨rfl, rfl⟩
      go_wp2_with fail
      rw [hr.out]
      refine bodyPost_ret (v := .tuple #[.agg #[i64 0, .slice none 0 0], .slice none 0 0, i64 1]) (by simp [results, Try.results14, go_sem, hq0, hq1]) rfl ⟨rfl, hk0⟩
    · have hA := Lib.hid (fun W => within_yes wide 1 4096 W (by omega) (by omega))
      by_cases g2 : high < 1 ∨ 4096 < high
      · have hB := Lib.hid (fun W => within_no high 1 4096 W g2)
        clear h h1 g1 g2
        go_enter Try.func14, Try.ntmps14
        go_wp2_with fail
        refine (hA.out _).mono ?_
        rintro e w1 ⟨rfl, rfl⟩
        go_wp2_with fail
        refine (hB.out _).mono ?_
        rintro e w1 ⟨rfl, rfl⟩
        go_wp2_with fail
        rw [hr.out]
        refine bodyPost_ret (v := .tuple #[.agg #[i64 0, .slice none 0 0], .slice none 0 0, i64 1]) (by simp [results, Try.results14, go_sem, hq0, hq1]) rfl ⟨rfl, hk0⟩
      · have hB := Lib.hid (fun W => within_yes high 1 4096 W (by omega) (by omega))
        have hC := Lib.hid (fun W => within_no most 1 4294967296 W (by omega))
        clear h h1 g1 g2
        go_enter Try.func14, Try.ntmps14
        go_wp2_with fail
        refine (hA.out _).mono ?_
        rintro e w1 ⟨rfl, rfl⟩
        go_wp2_with fail
        refine (hB.out _).mono ?_
        rintro e w1 ⟨rfl, rfl⟩
        go_wp2_with fail
        refine (hC.out _).mono ?_
        rintro e w1 ⟨rfl, rfl⟩
        go_wp2_with fail
        rw [hr.out]
        refine bodyPost_ret (v := .tuple #[.agg #[i64 0, .slice none 0 0], .slice none 0 0, i64 1]) (by simp [results, Try.results14, go_sem, hq0, hq1]) rfl ⟨rfl, hk0⟩
  · have hA := Lib.hid (fun W => within_yes wide 1 4096 W (by omega) (by omega))
    have hB := Lib.hid (fun W => within_yes high 1 4096 W (by omega) (by omega))
    have hC := Lib.hid (fun W => within_yes most 1 4294967296 W (by omega) (by omega))
    have hP : 4096 < wide * high := by
      rcases h with h | h | h | h | h | h | h
      · omega
      · omega
      · omega
      · omega
      · omega
      · omega
      · exact h
    have hr : Hid (gridF wide high most = 5) := (if_neg h1).trans (if_pos hP)
    obtain ⟨a, rfl⟩ := Int.eq_ofNat_of_zero_le (show 0 ≤ wide by omega)
    obtain ⟨b, rfl⟩ := Int.eq_ofNat_of_zero_le (show 0 ≤ high by omega)
    have hab := Nat.mul_le_mul (show a ≤ 4096 by omega) (show b ≤ 4096 by omega)
    have hw1 : IntKind.i64.wrap ((a : Int) * (b : Int)) = (a : Int) * (b : Int) := by
      rw [← Int.natCast_mul]; exact IntWalk.i64_in _ (by omega)
    have g3 : 1 ≤ most := by omega
    have g4 : most ≤ 4294967296 := by omega
    clear h h1
    go_enter Try.func14, Try.ntmps14
    go_wp2_with fail
    refine (hA.out _).mono ?_
    rintro e w1 ⟨rfl, rfl⟩
    go_wp2_with fail
    refine (hB.out _).mono ?_
    rintro e w1 ⟨rfl, rfl⟩
    go_wp2_with fail
    refine (hC.out _).mono ?_
    rintro e w1 ⟨rfl, rfl⟩
    go_wp2_with fail
    rw [hr.out]
    refine bodyPost_ret (v := .tuple #[.agg #[i64 0, .slice none 0 0], .slice none 0 0, i64 5]) (by simp [results, Try.results14, go_sem, hq0, hq1]) rfl ⟨rfl, hk0⟩

theorem refGrid_no (wide high seed most : Int) (w : World) (h : wide < 1 ∨ 4096 < wide ∨ high < 1 ∨ 4096 < high ∨ most < 1 ∨ 4294967296 < most ∨ 4096 < wide * high) :
    Calls Try.prog 15 #[i64 wide, i64 high, u64 seed, i64 most] w fun e w' => e = .returned (.tuple #[.agg #[i64 0, .slice none 0 0], .slice none 0 0, i64 (gridF wide high most)]) ∧ Grew w w' := by
  have hb0 := Blk.new w 37 #[i64 0, .slice none 0 0]
  have hq0 := hb0.cell 0
  have hq1 := hb0.cell 1
  have hf0 := hb0.frozen 0
  have hf1 := hb0.frozen 1
  simp at hq0 hq1
  have hk0 : Grew w (w.alloc (.cells #[i64 0, .slice none 0 0] 37)) := (Kept.refl _ _).alloc _
  by_cases h1 : wide < 1 ∨ 4096 < wide ∨ high < 1 ∨ 4096 < high ∨ most < 1 ∨ 4294967296 < most
  · have hr : Hid (gridF wide high most = 1) := if_pos h1
    by_cases g1 : wide < 1 ∨ 4096 < wide
    · have hA := Lib.hid (fun W => side_no wide W g1)
      clear h h1 g1
      go_enter Try.func15, Try.ntmps15
      go_wp2_with fail
      refine (hA.out _).mono ?_
      rintro e w1 ⟨rfl, rfl⟩
      go_wp2_with fail
      rw [hr.out]
      refine bodyPost_ret (v := .tuple #[.agg #[i64 0, .slice none 0 0], .slice none 0 0, i64 1]) (by simp [results, Try.results15, go_sem, hq0, hq1]) rfl ⟨rfl, hk0⟩
    · have hA := Lib.hid (fun W => side_yes wide W (by omega) (by omega))
      by_cases g2 : high < 1 ∨ 4096 < high
      · have hB := Lib.hid (fun W => side_no high W g2)
        clear h h1 g1 g2
        go_enter Try.func15, Try.ntmps15
        go_wp2_with fail
        refine (hA.out _).mono ?_
        rintro e w1 ⟨rfl, rfl⟩
        go_wp2_with fail
        refine (hB.out _).mono ?_
        rintro e w1 ⟨rfl, rfl⟩
        go_wp2_with fail
        rw [hr.out]
        refine bodyPost_ret (v := .tuple #[.agg #[i64 0, .slice none 0 0], .slice none 0 0, i64 1]) (by simp [results, Try.results15, go_sem, hq0, hq1]) rfl ⟨rfl, hk0⟩
      · have hB := Lib.hid (fun W => side_yes high W (by omega) (by omega))
        rcases Int.lt_or_le most 1 with g3 | g3
        · clear h h1 g1 g2
          go_enter Try.func15, Try.ntmps15
          go_wp2_with fail
          refine (hA.out _).mono ?_
          rintro e w1 ⟨rfl, rfl⟩
          go_wp2_with fail
          refine (hB.out _).mono ?_
          rintro e w1 ⟨rfl, rfl⟩
          go_wp2_with fail
          rw [hr.out]
          refine bodyPost_ret (v := .tuple #[.agg #[i64 0, .slice none 0 0], .slice none 0 0, i64 1]) (by simp [results, Try.results15, go_sem, hq0, hq1]) rfl ⟨rfl, hk0⟩
        · have g4 : 4294967296 < most := by omega
          clear h h1 g1 g2
          go_enter Try.func15, Try.ntmps15
          go_wp2_with fail
          refine (hA.out _).mono ?_
          rintro e w1 ⟨rfl, rfl⟩
          go_wp2_with fail
          refine (hB.out _).mono ?_
          rintro e w1 ⟨rfl, rfl⟩
          go_wp2_with fail
          rw [hr.out]
          refine bodyPost_ret (v := .tuple #[.agg #[i64 0, .slice none 0 0], .slice none 0 0, i64 1]) (by simp [results, Try.results15, go_sem, hq0, hq1]) rfl ⟨rfl, hk0⟩
  · have hA := Lib.hid (fun W => side_yes wide W (by omega) (by omega))
    have hB := Lib.hid (fun W => side_yes high W (by omega) (by omega))
    have hP : 4096 < wide * high := by
      rcases h with h | h | h | h | h | h | h
      · omega
      · omega
      · omega
      · omega
      · omega
      · omega
      · exact h
    have hr : Hid (gridF wide high most = 5) := (if_neg h1).trans (if_pos hP)
    obtain ⟨a, rfl⟩ := Int.eq_ofNat_of_zero_le (show 0 ≤ wide by omega)
    obtain ⟨b, rfl⟩ := Int.eq_ofNat_of_zero_le (show 0 ≤ high by omega)
    have hab := Nat.mul_le_mul (show a ≤ 4096 by omega) (show b ≤ 4096 by omega)
    have hw1 : IntKind.i64.wrap ((a : Int) * (b : Int)) = (a : Int) * (b : Int) := by
      rw [← Int.natCast_mul]; exact IntWalk.i64_in _ (by omega)
    have g3 : 1 ≤ most := by omega
    have g4 : most ≤ 4294967296 := by omega
    clear h h1
    go_enter Try.func15, Try.ntmps15
    go_wp2_with fail
    refine (hA.out _).mono ?_
    rintro e w1 ⟨rfl, rfl⟩
    go_wp2_with fail
    refine (hB.out _).mono ?_
    rintro e w1 ⟨rfl, rfl⟩
    go_wp2_with fail
    rw [hr.out]
    refine bodyPost_ret (v := .tuple #[.agg #[i64 0, .slice none 0 0], .slice none 0 0, i64 5]) (by simp [results, Try.results15, go_sem, hq0, hq1]) rfl ⟨rfl, hk0⟩

/-- The places ps lie from A on. -/
def RowP (w : World) (A : Option Addr) (ps : List Plc) : Prop :=
  ∀ (i : Nat) (p : Plc), ps[i]? = some p → ∃ b off, A = some ⟨b, off, none⟩ ∧ b < w.heap.size ∧ w.cell? ⟨b, off + i * 2, none⟩ = some (i64 p.1) ∧ w.cell? ⟨b, off + i * 2 + 1, none⟩ = some (i64 p.2)
theorem RowP.grew {w w' : World} {A : Option Addr} {ps : List Plc} (h : RowP w A ps) (hK : Grew w w') : RowP w' A ps := by
  intro i e he
  obtain ⟨b, off, hA, hb, h0, h1⟩ := h i e he
  exact ⟨b, off, hA, Nat.lt_of_lt_of_le hb hK.size, hK.cell h0, hK.cell h1⟩
theorem RowP.nil (w : World) (A : Option Addr) : RowP w A [] := by intro i e he; simp at he
theorem plcsOf_get : ∀ (ps : List Plc) (i j : Nat) (e : Plc), ps[i]? = some e → j < 2 → (plcsOf ps)[i * 2 + j]? = (plcCells e)[j]?
  | [], i, j, e, h, _ => by simp at h
  | x :: es, 0, j, e, h, hj => by
    simp only [List.getElem?_cons_zero, Option.some.injEq] at h
    subst h
    rw [plcsOf, List.flatMap_cons, Nat.zero_mul, Nat.zero_add, List.getElem?_append_left (by simp [plcCells]; omega)]
  | x :: es, i + 1, j, e, h, hj => by
    rw [List.getElem?_cons_succ] at h
    have ih := plcsOf_get es i j e h hj
    have e3 : (plcCells x).length = 2 := rfl
    rw [plcsOf, List.flatMap_cons, List.getElem?_append_right (by omega), e3, show (i + 1) * 2 + j - 2 = i * 2 + j by omega]
    exact ih
theorem Places.row {w : World} {B : Nat} {v : Value} {ps : List Plc} (h : Places w B v ps) : ∃ A c, v = .slice A ps.length c ∧ RowP w A ps := by
  rcases Nat.eq_zero_or_pos ps.length with h0 | h0
  · obtain ⟨A, c, hv⟩ := own_slice h
    refine ⟨A, c, hv, ?_⟩
    rw [List.length_eq_zero_iff.1 h0]
    exact RowP.nil _ _
  · obtain ⟨g, c, rfl⟩ := own_form h h0
    refine ⟨_, c, rfl, fun i e he => ?_⟩
    have hi : i < ps.length := by
      rcases Nat.lt_or_ge i ps.length with hl | hl
      · exact hl
      · rw [List.getElem?_eq_none hl] at he; cases he
    have hc : ∀ j, j < 2 → w.cell? ⟨g, i * 2 + j, none⟩ = (plcCells e)[j]? := fun j hj => by
      rw [← plcsOf_get ps i j e he hj]
      exact World.ownsRow.cellAt h (i * 2 + j) (by omega)
    refine ⟨g, 0, rfl, (h.lt g rfl).2, ?_, ?_⟩
    · rw [Nat.zero_add]; exact hc 0 (by omega)
    · rw [Nat.zero_add]; exact hc 1 (by omega)

/-- What a maker of grids answers. -/
def MakerG (f : Nat) (args : Array Value) (n0 : Int) (es : List Edg) (ps : List Plc) (f0 : Int) : Prop :=
  ∀ w, Calls Try.prog f args w fun e w' => ∃ A c A' c', e = .returned (.tuple #[.agg #[i64 n0, .slice A es.length c], .slice A' ps.length c', i64 f0]) ∧ RowE w' A es ∧ RowP w' A' ps ∧ Grew w w'
theorem MakerG.yes {f : Nat} {args : Array Value} {n0 : Int} {es : List Edg} {ps : List Plc} (h : ∀ w, Calls Try.prog f args w fun e w' => ∃ v pv, e = .returned (.tuple #[.agg #[i64 n0, v], pv, i64 0]) ∧ Edges w' w.heap.size v es ∧ Places w' w.heap.size pv ps ∧ Grew w w') : MakerG f args n0 es ps 0 := by
  intro w
  refine (h w).mono ?_
  rintro e w' ⟨v, pv, rfl, hE, hP, hK⟩
  obtain ⟨A, c, rfl, hr⟩ := hE.row
  obtain ⟨A', c', rfl, hr'⟩ := Places.row hP
  exact ⟨A, c, A', c', rfl, hr, hr', hK⟩
theorem MakerG.no {f : Nat} {args : Array Value} {f0 : Int} (h : ∀ w, Calls Try.prog f args w fun e w' => e = .returned (.tuple #[.agg #[i64 0, .slice none 0 0], .slice none 0 0, i64 f0]) ∧ Grew w w') : MakerG f args 0 [] [] f0 := by
  intro w
  refine (h w).mono ?_
  rintro e w' ⟨rfl, hK⟩
  exact ⟨none, 0, none, 0, rfl, RowE.nil _ _, RowP.nil _ _, hK⟩
theorem grid_both (wide high seed most : Int) : ∃ n0 es ps f0, es.length ≤ 100000 ∧ ps.length ≤ 100000 ∧ MakerG 14 #[i64 wide, i64 high, u64 seed, i64 most] n0 es ps f0 ∧ MakerG 15 #[i64 wide, i64 high, u64 seed, i64 most] n0 es ps f0 := by
  by_cases h : wide < 1 ∨ 4096 < wide ∨ high < 1 ∨ 4096 < high ∨ most < 1 ∨ 4294967296 < most ∨ 4096 < wide * high
  · exact ⟨_, _, _, _, by simp, by simp, MakerG.no fun w => grid_no wide high seed most w h, MakerG.no fun w => refGrid_no wide high seed most w h⟩
  · have hP : wide * high ≤ 4096 := Int.not_lt.1 fun hn => h (.inr (.inr (.inr (.inr (.inr (.inr hn))))))
    have h' : 1 ≤ wide ∧ wide ≤ 4096 ∧ 1 ≤ high ∧ high ≤ 4096 ∧ 1 ≤ most ∧ most ≤ 4294967296 := by omega
    clear h
    obtain ⟨a, rfl⟩ := Int.eq_ofNat_of_zero_le (show 0 ≤ wide by omega)
    obtain ⟨b, rfl⟩ := Int.eq_ofNat_of_zero_le (show 0 ≤ high by omega)
    rw [← Int.natCast_mul] at hP
    have hPn : a * b ≤ 4096 := by omega
    have hl := gridS_length a b most seed (a * b)
    exact ⟨_, _, _, _, by omega, by rw [plL_length]; omega, MakerG.yes fun w => grid_yes a b seed most w (by omega) (by omega) (by omega) (by omega) (by omega) (by omega) hPn, MakerG.yes fun w => refGrid_yes a b seed most w (by omega) (by omega) (by omega) (by omega) (by omega) (by omega) hPn⟩
end Go.Proofs.Ytppnndhekikagaa
