/- The document's Both: in one of both, or in both. -/
import Derived.Test.YtabddnlcgmbopaaDoorRefB
namespace Go.Proofs.YtabddnlcgmbopaaDoor
open Go.RowKit

def bothF (o : Bool) (f h : Nat → Bool) : Nat → Bool := fun i => o && (f i || h i) || f i && h i
/-- What the first k places hold. -/
def upF (k : Nat) (f : Nat → Bool) : Nat → Bool := fun i => decide (i < k) && f i
theorem upF_step {w : World} {g n k : Nat} {f : Nat → Bool} (h : RowT w g n (upF k f)) (hk : k < n) : RowT (w.setCell ⟨g, k, none⟩ (.bool (f k))) g n (upF (k + 1) f) := by
  refine (h.set hk (f k)).congr fun i hi => ?_
  by_cases hik : i = k
  · subst hik
    rw [putF_hit _ _ hi]; simp [upF]
  · rw [putF_miss _ _ (by omega)]
    unfold upF
    by_cases h1 : i < k
    · rw [decide_eq_true h1, decide_eq_true (by omega : i < k + 1)]
    · rw [decide_eq_false h1, decide_eq_false (by omega : ¬ i < k + 1)]
theorem upF_all {w : World} {g n : Nat} {f : Nat → Bool} (h : RowT w g n (upF n f)) : RowT w g n f := h.congr fun i hi => by simp [upF, hi]

set_option maxHeartbeats 1000000 in
theorem refBoth_true (g1 g2 n : Nat) (f h : Nat → Bool) (w : World) (r1 : RowT w g1 n f) (r2 : RowT w g2 n h) (hn : n ≤ 65536) :
    Calls Tryd.prog 21 #[rowV g1 n, rowV g2 n, .bool true] w fun e w' => ∃ g, e = .returned (rowV g n) ∧ RowT w' g n (bothF true f h) ∧ Grew w w' ∧ w.heap.size ≤ g := by
  obtain ⟨i0, hi, hz0, hz1, hz2⟩ := info_parts info_bool
  have hmk := run_make (P := Tryd.prog) w 32 4 i0 _ Tryd.underlying32 hi hz0 .i64 .i64 (n : Int) (n : Int) (by omega) (Int.le_refl _) (by rw [hz2]; omega) (by omega)
  rw [Int.toNat_natCast, hz1, Nat.mul_one] at hmk
  clear hi hz0 hz1 hz2
  have R1 := Lib.hid r1
  have R2 := Lib.hid r2
  have l1 := r1.lt
  have l2 := r2.lt
  have HT : Hid (RowT (w.alloc (.cells (madeCells #[.bool false] n) 4)) w.heap.size n (upF 0 (bothF true f h)) ∧ Grew w (w.alloc (.cells (madeCells #[.bool false] n) 4))) := ⟨(made_truths w n).congr (fun i _ => by simp [upF]), (Kept.refl _ _).alloc _⟩
  clear r1 r2
  go_enter Tryd.func21, Tryd.ntmps21
  go_wp2_with fail
  obtain ⟨w1, hw1⟩ : ∃ w1, w.alloc (.cells (madeCells #[.bool false] n) 4) = w1 := ⟨_, rfl⟩
  rw [hw1] at HT ⊢
  clear hw1 hmk
  obtain ⟨g, hg⟩ : ∃ g, w.heap.size = g := ⟨_, rfl⟩
  have HG := Lib.hid hg
  rw [hg] at HT l1 l2 ⊢
  clear hg
  go_loopw [8] (fun i wr => ∃ k : Nat, k ≤ n ∧ i = .int .i64 k ∧ Hid (RowT wr g n (upF k (bothF true f h)) ∧ Grew w wr)) (fun i _ => n - (intOf i).toNat)
  case atStart => exact ⟨0, by omega, rfl, HT⟩
  case round =>
    clear HT
    obtain ⟨k, hk, rfl, HS⟩ := hrel
    by_cases hlt : k < n
    · have c1 := HS.out.2.cell (R1.out.cell hlt)
      have c2 := HS.out.2.cell (R2.out.cell hlt)
      have c3 := HS.out.1.cell hlt
      have f3 := HS.out.1.frozen k
      have k0 : (0 : Int) ≤ (k : Int) := by omega
      have k1 : (k : Int) < (n : Int) := by omega
      have HS3 : Hid (RowT (wr.setCell ⟨g, k, none⟩ (.bool (bothF true f h k))) g n (upF (k + 1) (bothF true f h)) ∧ Grew w (wr.setCell ⟨g, k, none⟩ (.bool (bothF true f h k)))) :=
        ⟨upF_step HS.out.1 hlt, HS.out.2.setCell (p := ⟨g, k, none⟩) (.inr (by rw [HG.out]; exact Nat.le_refl _)) _⟩
      unfold bothF at HS3
      cases hf : f k <;> cases hh : h k <;>
        (rw [hf] at c1; rw [hh] at c2; rw [hf, hh] at HS3; clear HS hf hh
         simp only [Bool.or_true, Bool.or_false, Bool.and_true, Bool.and_false, Bool.true_and, Bool.false_and, Bool.true_or, Bool.false_or, Bool.or_self, Bool.and_self] at HS3
         go_wp2_with fail
         go_roundw
         case rel => exact ⟨k + 1, by omega, by go_num, HS3⟩
         case measure => simp [intOf]; omega)
    · obtain rfl : n = k := by omega
      have HR : Hid (RowT wr g n (bothF true f h) ∧ Grew w wr) := ⟨upF_all HS.out.1, HS.out.2⟩
      clear HS
      go_wp2_with fail
      go_ret
      exact ⟨g, rfl, HR.out.1, HR.out.2, by rw [HG.out]; exact Nat.le_refl _⟩

set_option maxHeartbeats 1000000 in
theorem refBoth_false (g1 g2 n : Nat) (f h : Nat → Bool) (w : World) (r1 : RowT w g1 n f) (r2 : RowT w g2 n h) (hn : n ≤ 65536) :
    Calls Tryd.prog 21 #[rowV g1 n, rowV g2 n, .bool false] w fun e w' => ∃ g, e = .returned (rowV g n) ∧ RowT w' g n (bothF false f h) ∧ Grew w w' ∧ w.heap.size ≤ g := by
  obtain ⟨i0, hi, hz0, hz1, hz2⟩ := info_parts info_bool
  have hmk := run_make (P := Tryd.prog) w 32 4 i0 _ Tryd.underlying32 hi hz0 .i64 .i64 (n : Int) (n : Int) (by omega) (Int.le_refl _) (by rw [hz2]; omega) (by omega)
  rw [Int.toNat_natCast, hz1, Nat.mul_one] at hmk
  clear hi hz0 hz1 hz2
  have R1 := Lib.hid r1
  have R2 := Lib.hid r2
  have l1 := r1.lt
  have l2 := r2.lt
  have HT : Hid (RowT (w.alloc (.cells (madeCells #[.bool false] n) 4)) w.heap.size n (upF 0 (bothF false f h)) ∧ Grew w (w.alloc (.cells (madeCells #[.bool false] n) 4))) := ⟨(made_truths w n).congr (fun i _ => by simp [upF]), (Kept.refl _ _).alloc _⟩
  clear r1 r2
  go_enter Tryd.func21, Tryd.ntmps21
  go_wp2_with fail
  obtain ⟨w1, hw1⟩ : ∃ w1, w.alloc (.cells (madeCells #[.bool false] n) 4) = w1 := ⟨_, rfl⟩
  rw [hw1] at HT ⊢
  clear hw1 hmk
  obtain ⟨g, hg⟩ : ∃ g, w.heap.size = g := ⟨_, rfl⟩
  have HG := Lib.hid hg
  rw [hg] at HT l1 l2 ⊢
  clear hg
  go_loopw [8] (fun i wr => ∃ k : Nat, k ≤ n ∧ i = .int .i64 k ∧ Hid (RowT wr g n (upF k (bothF false f h)) ∧ Grew w wr)) (fun i _ => n - (intOf i).toNat)
  case atStart => exact ⟨0, by omega, rfl, HT⟩
  case round =>
    clear HT
    obtain ⟨k, hk, rfl, HS⟩ := hrel
    by_cases hlt : k < n
    · have c1 := HS.out.2.cell (R1.out.cell hlt)
      have c2 := HS.out.2.cell (R2.out.cell hlt)
      have c3 := HS.out.1.cell hlt
      have f3 := HS.out.1.frozen k
      have k0 : (0 : Int) ≤ (k : Int) := by omega
      have k1 : (k : Int) < (n : Int) := by omega
      have HS3 : Hid (RowT (wr.setCell ⟨g, k, none⟩ (.bool (bothF false f h k))) g n (upF (k + 1) (bothF false f h)) ∧ Grew w (wr.setCell ⟨g, k, none⟩ (.bool (bothF false f h k)))) :=
        ⟨upF_step HS.out.1 hlt, HS.out.2.setCell (p := ⟨g, k, none⟩) (.inr (by rw [HG.out]; exact Nat.le_refl _)) _⟩
      unfold bothF at HS3
      cases hf : f k <;> cases hh : h k <;>
        (rw [hf] at c1; rw [hh] at c2; rw [hf, hh] at HS3; clear HS hf hh
         simp only [Bool.or_true, Bool.or_false, Bool.and_true, Bool.and_false, Bool.true_and, Bool.false_and, Bool.true_or, Bool.false_or, Bool.or_self, Bool.and_self] at HS3
         go_wp2_with fail
         go_roundw
         case rel => exact ⟨k + 1, by omega, by go_num, HS3⟩
         case measure => simp [intOf]; omega)
    · obtain rfl : n = k := by omega
      have HR : Hid (RowT wr g n (bothF false f h) ∧ Grew w wr) := ⟨upF_all HS.out.1, HS.out.2⟩
      clear HS
      go_wp2_with fail
      go_ret
      exact ⟨g, rfl, HR.out.1, HR.out.2, by rw [HG.out]; exact Nat.le_refl _⟩
end Go.Proofs.YtabddnlcgmbopaaDoor
