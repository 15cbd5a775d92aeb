/- The stable sort of at most 60 arcs. -/
import Derived.Test.YthbcgdogmkgebaaSymM
namespace Go.Proofs.Ythbcgdogmkgebaa
open Go.RowKit

theorem sym_all (g N cap : Nat) (hN : N ≤ 1000) : ∀ d, SymT g N cap d
  | 0 => fun a m b f w _ h1 h2 _ h3 => by omega
  | d + 1 => fun a m b f w h h1 h2 h3 h4 s1 s2 => by
    by_cases e1 : a + 1 = m
    · exact sym_one g N cap a m b f w h h1 h2 h3 hN s1 s2 e1
    · by_cases e2 : m + 1 = b
      · exact sym_last g N cap a m b f w h h1 h2 h3 hN s1 s2 (by omega) e2
      · exact sym_many g N cap a m b f w h h1 h2 h3 hN s1 s2 (by omega) (by omega) (Lib.hid (fun a' m' b' f' w' q0 q1 q2 q3 q4 => sym_all g N cap hN d a' m' b' f' w' q0 q1 q2 q3 (by omega)))

/-- Each stretch of s arcs is sorted. -/
def BlkS (f : Row) (n s : Nat) : Prop := ∀ j e : Nat, e ≤ s * j + s → e ≤ n → Srt f (s * j) e
theorem Srt.past {f : Row} {a b : Nat} (h : b ≤ a + 1) : Srt f a b := fun i j i1 i2 i3 => by omega
set_option maxHeartbeats 8000000 in
set_option maxRecDepth 100000 in
theorem stable_any (g n cap : Nat) (f : Row) (w : World) (h : RowF w g n f) (hn : n ≤ 60) :
    Calls Try.prog 51 #[.slice (some ⟨g, 0, none⟩) n cap, i64 n, (.func (.func 30) #[] #[])] w fun e w' => e = .returned (.tuple #[]) ∧ ∃ f', RowF w' g n f' ∧ Kept (· = g) w w' ∧ Stp f f' 0 n ∧ Srt f' 0 n := by
  have hI := Lib.hid (fun (a b : Nat) (f : Row) (w : World) (h : RowF w g n f) (h1 : a ≤ b) (h2 : b ≤ n) => insertion_any g n cap a b f w h h1 h2 (by omega))
  have hM := Lib.hid (fun (a m b : Nat) (f : Row) (w : World) (h : RowF w g n f) (h1 : a < m) (h2 : m < b) (h3 : b ≤ n) (s1 : Srt f a m) (s2 : Srt f m b) => sym_all g n cap (by omega) (b - a + 1) a m b f w h h1 h2 h3 (by omega) s1 s2)
  have hS0 : Hid (RowF w g n f ∧ Kept (· = g) w w ∧ Stp f f 0 n ∧ ∀ j e, 20 * j < 20 * 0 → e ≤ 20 * j + 20 → e ≤ n → Srt f (20 * j) e) := ⟨h, Kept.refl _ _, Stp.refl _ _ _, fun j e h => by omega⟩
  clear h
  go_enter Try.func51, Try.ntmps51
  go_wp2_with fail
  go_loopw [7, 8] (fun a b wr => ∃ (q A B : Nat) (fk : Row), (A = 20 * q ∧ B = A + 20 ∧ A ≤ n) ∧ a = .int .i64 A ∧ b = .int .i64 B ∧ Hid (RowF wr g n fk ∧ Kept (· = g) w wr ∧ Stp f fk 0 n ∧ ∀ j e, 20 * j < 20 * q → e ≤ 20 * j + 20 → e ≤ n → Srt fk (20 * j) e)) (fun a _ _ => 100 - (intOf a).toNat)
  case atStart => exact ⟨0, 0, 20, f, ⟨rfl, rfl, by omega⟩, rfl, rfl, hS0⟩
  case round =>
    clear hS0
    obtain ⟨q, A, B, fk, ⟨hA, hB, hAn⟩, rfl, rfl, hS⟩ := hrel
    have HA := Lib.hid hA
    have HB := Lib.hid hB
    by_cases hlt : B ≤ n
    · have l1 : (B : Int) ≤ (n : Int) := by omega
      have hC := Lib.hid (hI.out A B fk wr hS.out.1 (by omega) hlt)
      have wB : IntKind.i64.wrap ((B : Int) + 20) = (B : Int) + 20 := Go.IntWalk.i64_in _ (by omega)
      clear hA hB
      go_wp2_with fail
      refine hC.out.mono ?_
      rintro e w2 ⟨rfl, f2, h2, k2, s2, t2⟩
      have hR : Hid (RowF w2 g n f2 ∧ Kept (· = g) w w2 ∧ Stp f f2 0 n ∧ ∀ j e, 20 * j < 20 * (q + 1) → e ≤ 20 * j + 20 → e ≤ n → Srt f2 (20 * j) e) := by
        have e1 := HA.out
        have e2 := HB.out
        refine ⟨h2, hS.out.2.1.trans k2, hS.out.2.2.1.trans (s2.wide (by omega) hlt), fun j e j1 j2 j3 => ?_⟩
        by_cases hj : j = q
        · rw [hj]; exact t2.less (by omega) (by omega)
        · exact (hS.out.2.2.2 j e (by omega) j2 j3).same fun k k1 k2 => s2.out k (.inl (by omega))
      have hbd : (B = 20 * (q + 1) ∧ B + 20 = B + 20 ∧ B ≤ n) ∧ 100 - B < 100 - A := by
        have e1 := HA.out
        have e2 := HB.out
        omega
      have HBD := Lib.hid hbd
      clear hS h2 k2 s2 t2 hC hbd
      go_wp2_with fail
      go_roundw
      case rel => exact ⟨q + 1, B, B + 20, f2, ⟨HBD.out.1.1, rfl, HBD.out.1.2.2⟩, by go_num, by go_num, hR⟩
      case measure =>
        have := HBD.out.2
        simp [intOf]; omega
    · have l1 : (n : Int) < (B : Int) := by omega
      have hC := Lib.hid (hI.out A n fk wr hS.out.1 (by omega) (by omega))
      clear hA hB
      go_wp2_with fail
      refine hC.out.mono ?_
      rintro e w2 ⟨rfl, f2, h2, k2, s2, t2⟩
      have hR : Hid (RowF w2 g n f2 ∧ Kept (· = g) w w2 ∧ Stp f f2 0 n ∧ BlkS f2 n 20) := by
        have e1 := HA.out
        have e2 := HB.out
        refine ⟨h2, hS.out.2.1.trans k2, hS.out.2.2.1.trans (s2.wide (by omega) (by omega)), fun j e j2 j3 => ?_⟩
        by_cases hj : j = q
        · rw [hj]; exact t2.less (by omega) (by omega)
        · by_cases hj2 : j < q
          · exact (hS.out.2.2.2 j e (by omega) j2 j3).same fun k k1 k2 => s2.out k (.inl (by omega))
          · exact Srt.past (by omega)
      clear hS h2 k2 s2 t2 hC hI
      go_wp2_with fail
      go_loopw [6, 7, 8, 9] (fun s _ _ _ wr => ∃ (z : Nat) (fk : Row), (z = 20 ∨ z = 40 ∨ z = 80) ∧ s = .int .i64 z ∧ Hid (RowF wr g n fk ∧ Kept (· = g) w wr ∧ Stp f fk 0 n ∧ BlkS fk n z)) (fun s _ _ _ _ => 100 - (intOf s).toNat)
      case atStart => exact ⟨20, f2, .inl rfl, rfl, hR⟩
      case round =>
        clear hR HA HB l1
        obtain ⟨z, fk, hz, rfl, hS⟩ := hrel
        by_cases hlt2 : z < n
        · rcases hz with rfl | rfl | rfl
          · have l1 : (20 : Int) < (n : Int) := by omega
            have hS0 : Hid (RowF wr g n fk ∧ Kept (· = g) w wr ∧ Stp f fk 0 n ∧ (∀ j e, 40 * j < 40 * 0 → e ≤ 40 * j + 40 → e ≤ n → Srt fk (40 * j) e) ∧ ∀ j e, 40 * 0 ≤ 20 * j → e ≤ 20 * j + 20 → e ≤ n → Srt fk (20 * j) e) :=
              ⟨hS.out.1, hS.out.2.1, hS.out.2.2.1, fun j e h => by omega, fun j e _ h1 h2 => hS.out.2.2.2 j e h1 h2⟩
            clear hS
            go_wp2_with fail
            go_loopw [7, 8] (fun a b wr => ∃ (q A B : Nat) (fk : Row), (A = 40 * q ∧ B = A + 40 ∧ A ≤ n) ∧ a = .int .i64 A ∧ b = .int .i64 B ∧ Hid (RowF wr g n fk ∧ Kept (· = g) w wr ∧ Stp f fk 0 n ∧ (∀ j e, 40 * j < 40 * q → e ≤ 40 * j + 40 → e ≤ n → Srt fk (40 * j) e) ∧ ∀ j e, 40 * q ≤ 20 * j → e ≤ 20 * j + 20 → e ≤ n → Srt fk (20 * j) e)) (fun a _ _ => 100 - (intOf a).toNat)
            case atStart => exact ⟨0, 0, 40, fk, ⟨rfl, rfl, by omega⟩, rfl, rfl, hS0⟩
            case round =>
              clear hS0
              obtain ⟨q, A, B, fk, ⟨hA, hB, hAn⟩, rfl, rfl, hS⟩ := hrel
              have HA := Lib.hid hA
              have HB := Lib.hid hB
              obtain ⟨m, hm⟩ : ∃ m, A + 20 = m := ⟨_, rfl⟩
              have em : (A : Int) + 20 = (m : Int) := by omega
              have wm : IntKind.i64.wrap (m : Int) = (m : Int) := Go.IntWalk.i64_in _ (by omega)
              have HM := Lib.hid hm
              by_cases hlt3 : B ≤ n
              · have l2 : (B : Int) ≤ (n : Int) := by omega
                have hC := Lib.hid (hM.out A m B fk wr hS.out.1 (by omega) (by omega) hlt3 (by rw [hA, show 40 * q = 20 * (2 * q) by omega]; exact hS.out.2.2.2.2 (2 * q) m (by omega) (by omega) (by omega)) (by rw [← hm, hA, show 40 * q + 20 = 20 * (2 * q + 1) by omega]; exact hS.out.2.2.2.2 (2 * q + 1) B (by omega) (by omega) hlt3))
                have wB : IntKind.i64.wrap ((B : Int) + 40) = (B : Int) + 40 := Go.IntWalk.i64_in _ (by omega)
                clear hA hB hm
                go_wp2_with fail
                refine hC.out.mono ?_
                rintro e w2 ⟨rfl, f2, h2, k2, s2, t2⟩
                have hR : Hid (RowF w2 g n f2 ∧ Kept (· = g) w w2 ∧ Stp f f2 0 n ∧ (∀ j e, 40 * j < 40 * (q + 1) → e ≤ 40 * j + 40 → e ≤ n → Srt f2 (40 * j) e) ∧ ∀ j e, 40 * (q + 1) ≤ 20 * j → e ≤ 20 * j + 20 → e ≤ n → Srt f2 (20 * j) e) := by
                  have e1 := HA.out
                  have e2 := HB.out
                  refine ⟨h2, hS.out.2.1.trans k2, hS.out.2.2.1.trans (s2.wide (by omega) hlt3), fun j e j1 j2 j3 => ?_, fun j e j1 j2 j3 => ?_⟩
                  · by_cases hj : j = q
                    · rw [hj]; exact t2.less (by omega) (by omega)
                    · exact (hS.out.2.2.2.1 j e (by omega) j2 j3).same fun k k1 k2 => s2.out k (.inl (by omega))
                  · exact (hS.out.2.2.2.2 j e (by omega) j2 j3).same fun k k1 k2 => s2.out k (.inr (by omega))
                have hbd : (B = 40 * (q + 1) ∧ B + 40 = B + 40 ∧ B ≤ n) ∧ 100 - B < 100 - A := by
                  have e1 := HA.out
                  have e2 := HB.out
                  omega
                have HBD := Lib.hid hbd
                clear hS h2 k2 s2 t2 hC hbd
                go_wp2_with fail
                go_roundw
                case rel =>
                  (repeat apply Exists.intro)
                  refine ⟨?_, rfl⟩
                  exact ⟨q + 1, B, B + 40, f2, ⟨HBD.out.1.1, rfl, HBD.out.1.2.2⟩, by go_num, by go_num, hR⟩
                case measure =>
                  have := HBD.out.2
                  simp [intOf]; omega
              · have l2 : (n : Int) < (B : Int) := by omega
                by_cases hlt4 : m < n
                · have l3 : (m : Int) < (n : Int) := by omega
                  have hC := Lib.hid (hM.out A m n fk wr hS.out.1 (by omega) hlt4 (Nat.le_refl _) (by rw [hA, show 40 * q = 20 * (2 * q) by omega]; exact hS.out.2.2.2.2 (2 * q) m (by omega) (by omega) (by omega)) (by rw [← hm, hA, show 40 * q + 20 = 20 * (2 * q + 1) by omega]; exact hS.out.2.2.2.2 (2 * q + 1) n (by omega) (by omega) (Nat.le_refl _)))
                  clear hA hB hm
                  go_wp2_with fail
                  refine hC.out.mono ?_
                  rintro e w2 ⟨rfl, f2, h2, k2, s2, t2⟩
                  have hR : Hid (RowF w2 g n f2 ∧ Kept (· = g) w w2 ∧ Stp f f2 0 n ∧ BlkS f2 n 40) := by
                    have e1 := HA.out
                    have e2 := HB.out
                    refine ⟨h2, hS.out.2.1.trans k2, hS.out.2.2.1.trans (s2.wide (by omega) (by omega)), fun j e j2 j3 => ?_⟩
                    by_cases hj : j = q
                    · rw [hj]; exact t2.less (by omega) (by omega)
                    · by_cases hj2 : j < q
                      · exact (hS.out.2.2.2.1 j e (by omega) j2 j3).same fun k k1 k2 => s2.out k (.inl (by omega))
                      · exact Srt.past (by omega)
                  clear hS h2 k2 s2 t2 hC HA HB HM
                  go_wp2_with fail
                  exact ⟨⟨40, f2, by omega, by go_num, hR⟩, by simp [intOf]⟩
                · have l3 : (n : Int) ≤ (m : Int) := by omega
                  have hR : Hid (RowF wr g n fk ∧ Kept (· = g) w wr ∧ Stp f fk 0 n ∧ BlkS fk n 40) := by
                    refine ⟨hS.out.1, hS.out.2.1, hS.out.2.2.1, fun j e j2 j3 => ?_⟩
                    by_cases hj : j = q
                    · rw [hj, show 40 * q = 20 * (2 * q) by omega]; exact hS.out.2.2.2.2 (2 * q) e (by omega) (by omega) j3
                    · by_cases hj2 : j < q
                      · exact hS.out.2.2.2.1 j e (by omega) j2 j3
                      · exact Srt.past (by omega)
                  clear hS hA hB hm HA HB HM
                  go_wp2_with fail
                  exact ⟨⟨40, fk, by omega, by go_num, hR⟩, by simp [intOf]⟩
          · have l1 : (40 : Int) < (n : Int) := by omega
            have hS0 : Hid (RowF wr g n fk ∧ Kept (· = g) w wr ∧ Stp f fk 0 n ∧ (∀ j e, 80 * j < 80 * 0 → e ≤ 80 * j + 80 → e ≤ n → Srt fk (80 * j) e) ∧ ∀ j e, 80 * 0 ≤ 40 * j → e ≤ 40 * j + 40 → e ≤ n → Srt fk (40 * j) e) :=
              ⟨hS.out.1, hS.out.2.1, hS.out.2.2.1, fun j e h => by omega, fun j e _ h1 h2 => hS.out.2.2.2 j e h1 h2⟩
            clear hS
            go_wp2_with fail
            go_loopw [7, 8] (fun a b wr => ∃ (q A B : Nat) (fk : Row), (A = 80 * q ∧ B = A + 80 ∧ A ≤ n) ∧ a = .int .i64 A ∧ b = .int .i64 B ∧ Hid (RowF wr g n fk ∧ Kept (· = g) w wr ∧ Stp f fk 0 n ∧ (∀ j e, 80 * j < 80 * q → e ≤ 80 * j + 80 → e ≤ n → Srt fk (80 * j) e) ∧ ∀ j e, 80 * q ≤ 40 * j → e ≤ 40 * j + 40 → e ≤ n → Srt fk (40 * j) e)) (fun a _ _ => 100 - (intOf a).toNat)
            case atStart => exact ⟨0, 0, 80, fk, ⟨rfl, rfl, by omega⟩, rfl, rfl, hS0⟩
            case round =>
              clear hS0
              obtain ⟨q, A, B, fk, ⟨hA, hB, hAn⟩, rfl, rfl, hS⟩ := hrel
              have HA := Lib.hid hA
              have HB := Lib.hid hB
              obtain ⟨m, hm⟩ : ∃ m, A + 40 = m := ⟨_, rfl⟩
              have em : (A : Int) + 40 = (m : Int) := by omega
              have wm : IntKind.i64.wrap (m : Int) = (m : Int) := Go.IntWalk.i64_in _ (by omega)
              have HM := Lib.hid hm
              by_cases hlt3 : B ≤ n
              · have l2 : (B : Int) ≤ (n : Int) := by omega
                have hC := Lib.hid (hM.out A m B fk wr hS.out.1 (by omega) (by omega) hlt3 (by rw [hA, show 80 * q = 40 * (2 * q) by omega]; exact hS.out.2.2.2.2 (2 * q) m (by omega) (by omega) (by omega)) (by rw [← hm, hA, show 80 * q + 40 = 40 * (2 * q + 1) by omega]; exact hS.out.2.2.2.2 (2 * q + 1) B (by omega) (by omega) hlt3))
                have wB : IntKind.i64.wrap ((B : Int) + 80) = (B : Int) + 80 := Go.IntWalk.i64_in _ (by omega)
                clear hA hB hm
                go_wp2_with fail
                refine hC.out.mono ?_
                rintro e w2 ⟨rfl, f2, h2, k2, s2, t2⟩
                have hR : Hid (RowF w2 g n f2 ∧ Kept (· = g) w w2 ∧ Stp f f2 0 n ∧ (∀ j e, 80 * j < 80 * (q + 1) → e ≤ 80 * j + 80 → e ≤ n → Srt f2 (80 * j) e) ∧ ∀ j e, 80 * (q + 1) ≤ 40 * j → e ≤ 40 * j + 40 → e ≤ n → Srt f2 (40 * j) e) := by
                  have e1 := HA.out
                  have e2 := HB.out
                  refine ⟨h2, hS.out.2.1.trans k2, hS.out.2.2.1.trans (s2.wide (by omega) hlt3), fun j e j1 j2 j3 => ?_, fun j e j1 j2 j3 => ?_⟩
                  · by_cases hj : j = q
                    · rw [hj]; exact t2.less (by omega) (by omega)
                    · exact (hS.out.2.2.2.1 j e (by omega) j2 j3).same fun k k1 k2 => s2.out k (.inl (by omega))
                  · exact (hS.out.2.2.2.2 j e (by omega) j2 j3).same fun k k1 k2 => s2.out k (.inr (by omega))
                have hbd : (B = 80 * (q + 1) ∧ B + 80 = B + 80 ∧ B ≤ n) ∧ 100 - B < 100 - A := by
                  have e1 := HA.out
                  have e2 := HB.out
                  omega
                have HBD := Lib.hid hbd
                clear hS h2 k2 s2 t2 hC hbd
                go_wp2_with fail
                go_roundw
                case rel =>
                  (repeat apply Exists.intro)
                  refine ⟨?_, rfl⟩
                  exact ⟨q + 1, B, B + 80, f2, ⟨HBD.out.1.1, rfl, HBD.out.1.2.2⟩, by go_num, by go_num, hR⟩
                case measure =>
                  have := HBD.out.2
                  simp [intOf]; omega
              · have l2 : (n : Int) < (B : Int) := by omega
                by_cases hlt4 : m < n
                · have l3 : (m : Int) < (n : Int) := by omega
                  have hC := Lib.hid (hM.out A m n fk wr hS.out.1 (by omega) hlt4 (Nat.le_refl _) (by rw [hA, show 80 * q = 40 * (2 * q) by omega]; exact hS.out.2.2.2.2 (2 * q) m (by omega) (by omega) (by omega)) (by rw [← hm, hA, show 80 * q + 40 = 40 * (2 * q + 1) by omega]; exact hS.out.2.2.2.2 (2 * q + 1) n (by omega) (by omega) (Nat.le_refl _)))
                  clear hA hB hm
                  go_wp2_with fail
                  refine hC.out.mono ?_
                  rintro e w2 ⟨rfl, f2, h2, k2, s2, t2⟩
                  have hR : Hid (RowF w2 g n f2 ∧ Kept (· = g) w w2 ∧ Stp f f2 0 n ∧ BlkS f2 n 80) := by
                    have e1 := HA.out
                    have e2 := HB.out
                    refine ⟨h2, hS.out.2.1.trans k2, hS.out.2.2.1.trans (s2.wide (by omega) (by omega)), fun j e j2 j3 => ?_⟩
                    by_cases hj : j = q
                    · rw [hj]; exact t2.less (by omega) (by omega)
                    · by_cases hj2 : j < q
                      · exact (hS.out.2.2.2.1 j e (by omega) j2 j3).same fun k k1 k2 => s2.out k (.inl (by omega))
                      · exact Srt.past (by omega)
                  clear hS h2 k2 s2 t2 hC HA HB HM
                  go_wp2_with fail
                  exact ⟨⟨80, f2, by omega, by go_num, hR⟩, by simp [intOf]⟩
                · have l3 : (n : Int) ≤ (m : Int) := by omega
                  have hR : Hid (RowF wr g n fk ∧ Kept (· = g) w wr ∧ Stp f fk 0 n ∧ BlkS fk n 80) := by
                    refine ⟨hS.out.1, hS.out.2.1, hS.out.2.2.1, fun j e j2 j3 => ?_⟩
                    by_cases hj : j = q
                    · rw [hj, show 80 * q = 40 * (2 * q) by omega]; exact hS.out.2.2.2.2 (2 * q) e (by omega) (by omega) j3
                    · by_cases hj2 : j < q
                      · exact hS.out.2.2.2.1 j e (by omega) j2 j3
                      · exact Srt.past (by omega)
                  clear hS hA hB hm HA HB HM
                  go_wp2_with fail
                  exact ⟨⟨80, fk, by omega, by go_num, hR⟩, by simp [intOf]⟩
          · omega
        · have l1 : (n : Int) ≤ (z : Int) := by omega
          have hR : Hid (RowF wr g n fk ∧ Kept (· = g) w wr ∧ Stp f fk 0 n ∧ Srt fk 0 n) := ⟨hS.out.1, hS.out.2.1, hS.out.2.2.1, by
            have := hS.out.2.2.2 0 n (by omega) (Nat.le_refl _)
            rw [Nat.mul_zero] at this
            exact this⟩
          clear hS
          go_wp2_with fail
          go_end0
          exact ⟨rfl, fk, hR.out⟩
set_option maxHeartbeats 2000000 in
theorem sort_any (g n cap : Nat) (f : Row) (w : World) (h : RowF w g n f) (hn : n ≤ 60) :
    Calls Try.prog 29 #[.slice (some ⟨g, 0, none⟩) n cap, (.func (.func 30) #[] #[])] w fun e w' => e = .returned (.tuple #[]) ∧ ∃ f', RowF w' g n f' ∧ Kept (· = g) w w' ∧ Stp f f' 0 n ∧ Srt f' 0 n := by
  have hC := Lib.hid (stable_any g n cap f w h hn)
  clear h
  go_enter Try.func29, Try.ntmps29
  go_wp2_with fail
  refine hC.out.mono ?_
  rintro e w2 ⟨rfl, f2, hR⟩
  have hR := Lib.hid hR
  go_wp2_with fail
  go_end0
  exact ⟨rfl, f2, hR.out⟩
end Go.Proofs.Ythbcgdogmkgebaa
