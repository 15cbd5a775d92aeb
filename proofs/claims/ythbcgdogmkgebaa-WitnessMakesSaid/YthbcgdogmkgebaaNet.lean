/- Nets in memory: rows of arcs, rows of rows, rows of truths; which are light; which may be, by the document. -/
import Derived.Test.YthbcgdogmkgebaaRows
import Derived.Test.YthbcgdogmkgebaaWorld
import Derived.Test.YthbcgdogmkgebaaWay
import Derived.Deep.AppendLies
import Derived.Deep.QuietTactic
import Derived.BigQuiet
import Derived.Outline
import Derived.Lib.SliceRun
namespace Go.Proofs.Ythbcgdogmkgebaa
open Go.RowKit

abbrev pt (D : Nat) : Value := .pointer (some ⟨D, 0, none⟩)
abbrev u64 (x : Int) : Value := .int .u64 x
abbrev i64 (x : Int) : Value := .int .i64 x
abbrev Ar := Int × Int
def arCells (e : Ar) : List Value := [i64 e.1, u64 e.2]
def cellsA (l : List Ar) : List Value := l.flatMap arCells
theorem cellsA_length (l : List Ar) : (cellsA l).length = l.length * 2 := by
  induction l with
  | nil => rfl
  | cons e es ih => simp only [cellsA, List.flatMap_cons, List.length_append, List.length_cons] at ih ⊢; rw [ih]; simp [arCells]; omega
theorem cellsA_append (a b : List Ar) : cellsA (a ++ b) = cellsA a ++ cellsA b := List.flatMap_append
theorem cellsA_get : ∀ (l : List Ar) (i j : Nat) (e : Ar), l[i]? = some e → j < 2 → (cellsA l)[i * 2 + j]? = (arCells e)[j]?
  | [], i, j, e, h, _ => by simp at h
  | x :: l, 0, j, e, h, hj => by
    simp only [List.getElem?_cons_zero, Option.some.injEq] at h
    subst h
    rw [cellsA, List.flatMap_cons, Nat.zero_mul, Nat.zero_add, List.getElem?_append_left (by simp [arCells]; omega)]
  | x :: l, i + 1, j, e, h, hj => by
    rw [List.getElem?_cons_succ] at h
    have ih := cellsA_get l i j e h hj
    have e2 : (arCells x).length = 2 := rfl
    rw [cellsA, List.flatMap_cons, List.getElem?_append_right (by omega), e2, show (i + 1) * 2 + j - 2 = i * 2 + j by omega]
    exact ih
/-- The arcs l lie from A on. -/
def RowA (w : World) (A : Option Addr) (l : List Ar) : Prop :=
  ∀ (i : Nat) (e : Ar), l[i]? = some e → ∃ b off, A = some ⟨b, off, none⟩ ∧ b < w.heap.size ∧ w.cell? ⟨b, off + i * 2, none⟩ = some (i64 e.1) ∧ w.cell? ⟨b, off + i * 2 + 1, none⟩ = some (u64 e.2)
theorem RowA.kept {F : Nat → Prop} {w w' : World} {A : Option Addr} {l : List Ar} (h : RowA w A l) (hK : Kept F w w') (hF : ∀ a, A = some a → ¬ F a.block) : RowA w' A l := by
  intro i e he
  obtain ⟨b, off, hA, hb, h0, h1⟩ := h i e he
  have hn := hF _ hA
  exact ⟨b, off, hA, Nat.lt_of_lt_of_le hb hK.size, hK.cell h0 hn, hK.cell h1 hn⟩
theorem RowA.grew {w w' : World} {A : Option Addr} {l : List Ar} (h : RowA w A l) (hK : Grew w w') : RowA w' A l := h.kept hK fun _ _ h => h
theorem RowA.nil (w : World) (A : Option Addr) : RowA w A [] := by intro i e he; simp at he
/-- The rows of arcs ls lie from A on. -/
def RowN (w : World) (A : Option Addr) (ls : List (List Ar)) : Prop :=
  ∀ (i : Nat) (l : List Ar), ls[i]? = some l → ∃ b off Ai c, A = some ⟨b, off, none⟩ ∧ b < w.heap.size ∧ w.cell? ⟨b, off + i, none⟩ = some (.slice Ai l.length c) ∧ RowA w Ai l
theorem RowN.grew {w w' : World} {A : Option Addr} {ls : List (List Ar)} (h : RowN w A ls) (hK : Grew w w') : RowN w' A ls := fun i l hl => by
  obtain ⟨b, off, Ai, c, h1, h2, h3, h4⟩ := h i l hl
  exact ⟨b, off, Ai, c, h1, Nat.lt_of_lt_of_le h2 hK.size, hK.cell h3, h4.grew hK⟩
/-- The truths gs lie from A on. -/
def RowB (w : World) (A : Option Addr) (gs : List Bool) : Prop :=
  ∀ (i : Nat) (g : Bool), gs[i]? = some g → ∃ b off, A = some ⟨b, off, none⟩ ∧ b < w.heap.size ∧ w.cell? ⟨b, off + i, none⟩ = some (.bool g)
theorem RowB.grew {w w' : World} {A : Option Addr} {gs : List Bool} (h : RowB w A gs) (hK : Grew w w') : RowB w' A gs := fun i l hl => by
  obtain ⟨b, off, h1, h2, h3⟩ := h i l hl
  exact ⟨b, off, h1, Nat.lt_of_lt_of_le h2 hK.size, hK.cell h3⟩

/-! ### Which nets are light -/
def lightN (ls : List (List Ar)) (G : Nat) : Prop := ls.length ≤ 30 ∧ G ≤ 60 ∧ ∀ l ∈ ls, l.length ≤ 30
instance (ls : List (List Ar)) (G : Nat) : Decidable (lightN ls G) := by unfold lightN; infer_instance
def lightB (ls : List (List Ar)) (G : Nat) : Bool := decide (lightN ls G)
theorem lightB_yes {ls : List (List Ar)} {G : Nat} (h : lightN ls G) : lightB ls G = true := decide_eq_true h
theorem lightB_no {ls : List (List Ar)} {G : Nat} (h : ¬ lightN ls G) : lightB ls G = false := decide_eq_false h
set_option maxHeartbeats 1000000 in
theorem light_any (A AG : Option Addr) (c cG G : Nat) (ls : List (List Ar)) (w : World) (h : RowN w A ls) (hl : ls.length ≤ 9223372036854775807) (hG : G ≤ 9223372036854775807) (hls : ∀ l ∈ ls, l.length ≤ 9223372036854775807) :
    Calls Try.prog 6 #[.agg #[.slice A ls.length c, .slice AG G cG]] w fun e w' => e = .returned (.bool (lightB ls G)) ∧ Grew w w' := by
  obtain ⟨N, hN⟩ : ∃ N, ls.length = N := ⟨_, rfl⟩
  have HN := Lib.hid hN
  have b0 := Blk.new w 25 #[.slice A ls.length c, .slice AG G cG]
  have hK0 : Grew w (w.alloc (.cells #[.slice A ls.length c, .slice AG G cG] 25)) := (Kept.refl _ _).alloc _
  have HE := Lib.hid h
  have HS := Lib.hid hls
  rw [hN] at b0 hK0 hl ⊢
  clear h hN hls
  have c0 := b0.cell 0
  have c1 := b0.cell 1
  simp at c0 c1
  by_cases h1 : 30 < N
  · have hr : Hid (lightB ls G = false) := lightB_no fun h => by have := h.1; rw [HN.out] at this; omega
    clear HE
    go_enter Try.func6, Try.ntmps6
    go_wp2_with fail
    go_ret
    rw [hr.out]
    exact ⟨rfl, hK0⟩
  by_cases h2 : 60 < G
  · have hr : Hid (lightB ls G = false) := lightB_no fun h => by have := h.2.1; omega
    have h3 : N ≤ 30 := by omega
    clear HE h1
    go_enter Try.func6, Try.ntmps6
    go_wp2_with fail
    go_ret
    rw [hr.out]
    exact ⟨rfl, hK0⟩
  have h3 : N ≤ 30 := by omega
  have h4 : G ≤ 60 := by omega
  clear h1 h2
  go_enter Try.func6, Try.ntmps6
  go_wp2_with fail
  go_loop [3] (fun i => ∃ k : Nat, k ≤ N ∧ i = .int .i64 k ∧ Hid (∀ l ∈ ls.take k, l.length ≤ 30)) (fun i => N - (intOf i).toNat)
  case atStart => exact ⟨0, by omega, rfl, fun l hl => by simp at hl⟩
  case round =>
    obtain ⟨k, hk, rfl, hS⟩ := hrel
    by_cases hlt : k < N
    · obtain ⟨l, hl⟩ : ∃ l, ls[k]? = some l := ⟨_, List.getElem?_eq_getElem (by rw [HN.out]; exact hlt)⟩
      obtain ⟨b, off, Ai, ci, hAe, hb, e0, _⟩ := HE.out k l hl
      have hll := HS.out l (List.mem_of_getElem? hl)
      have hmem := List.mem_of_getElem? hl
      have hT : Hid (∀ n, l.length = n → n ≤ 30 → ∀ l ∈ ls.take (k + 1), l.length ≤ 30) := fun n hn hn2 l' hl' => by
        rw [List.take_add_one, hl] at hl'
        rcases List.mem_append.1 hl' with h | h
        · exact hS.out l' h
        · simp at h; rw [h, hn]; exact hn2
      have hF : Hid (∀ n, l.length = n → 30 < n → ¬ lightN ls G) := fun n hn hn2 h => by have := h.2.2 l hmem; omega
      obtain ⟨n, hn⟩ : ∃ n, l.length = n := ⟨_, rfl⟩
      subst hAe
      replace e0 := Grew.cell ((Kept.refl _ w).alloc (.cells #[.slice (some ⟨b, off, none⟩) N c, .slice AG G cG] 25)) e0
      rw [hn] at e0 hll
      have HN' := Lib.hid hn
      have k0 : (0 : Int) ≤ (k : Int) := by omega
      have k1 : (k : Int) < (N : Int) := by omega
      clear hl hmem hn hS
      by_cases hbig : 30 < n
      · have hr := Lib.hid (lightB_no (hF.out n HN'.out hbig))
        clear hT hF
        go_wp2_with fail
        go_ret
        rw [hr.out]
        exact ⟨rfl, hK0⟩
      · have hsm : n ≤ 30 := by omega
        have hS1 := Lib.hid (hT.out n HN'.out hsm)
        clear hT hF hbig
        go_wp2_with fail
        go_round
        case rel => exact ⟨k + 1, by omega, by go_num, hS1⟩
        case measure => simp [intOf]; omega
    · obtain rfl : N = k := by omega
      have hr : Hid (lightB ls G = true) := lightB_yes ⟨by rw [HN.out]; exact h3, h4, fun l hl => hS.out l (by rw [List.take_of_length_le (by rw [HN.out]; exact Nat.le_refl _)]; exact hl)⟩
      clear hS
      go_wp2_with fail
      go_ret
      rw [hr.out]
      exact ⟨rfl, hK0⟩
end Go.Proofs.Ythbcgdogmkgebaa
