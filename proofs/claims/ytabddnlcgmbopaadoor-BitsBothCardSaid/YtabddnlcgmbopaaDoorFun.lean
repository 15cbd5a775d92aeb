/- Sets as laws of their numbers: Has, Count, Size, Clone, Or, And. -/
import Derived.Test.YtabddnlcgmbopaaDoorRefB
namespace Go.Proofs.YtabddnlcgmbopaaDoor
open Go.RowKit

theorem has_any (w : World) (S n : Nat) (v : Value) (f : Nat → Bool) (s : SetF w S n v f) (i : Int) : Calls Tryd.prog 10 #[pt S, i64 i] w fun e w' => e = .returned (.bool (isF n f i)) ∧ w = w' := by
  obtain ⟨ws, s, hf⟩ := s
  unfold isF
  by_cases hi : 0 ≤ i ∧ i < n
  · obtain ⟨k, rfl⟩ : ∃ k : Nat, i = (k : Int) := ⟨i.toNat, by omega⟩
    have hk : k < n := by omega
    rw [decide_eq_true hi.1, decide_eq_true hi.2, Int.toNat_natCast]
    have hh := has_in w S n v ws s k hk
    rw [hf] at hh
    exact hh
  · have ho : i < 0 ∨ (n : Int) ≤ i := by omega
    refine (has_out w S n v ws s i ho).mono ?_
    rintro e w' ⟨rfl, rfl⟩
    refine ⟨?_, rfl⟩
    rcases ho with h | h
    · rw [decide_eq_false (by omega : ¬ 0 ≤ i)]; rfl
    · rw [decide_eq_false (by omega : ¬ i < (n : Int))]; simp
theorem SetF.small {w : World} {S n : Nat} {v : Value} {f : Nat → Bool} (s : SetF w S n v f) : n ≤ 65536 := by obtain ⟨ws, s, _⟩ := s; exact s.small
theorem SetF.out {w : World} {S n : Nat} {v : Value} {f : Nat → Bool} (s : SetF w S n v f) (i : Nat) (h : n ≤ i) : f i = false := by obtain ⟨ws, s, hf⟩ := s; rw [← hf]; exact s.out i h
theorem size_F (w : World) (S n : Nat) (v : Value) (f : Nat → Bool) (s : SetF w S n v f) : Calls Tryd.prog 9 #[pt S] w fun e w' => e = .returned (i64 n) ∧ w = w' := by
  obtain ⟨ws, s, _⟩ := s
  exact size_any w S n v ws s
theorem count_F (w : World) (S n : Nat) (v : Value) (f : Nat → Bool) (s : SetF w S n v f) : Calls Tryd.prog 13 #[pt S] w fun e w' => e = .returned (i64 ((insI f n).length : Nat)) ∧ w = w' := by
  obtain ⟨ws, s, hf⟩ := s
  have h := count_any w S n v ws s
  have e : cntW ws = (insI f n).length := by
    rw [cntW_below ws n (by have := s.len; omega) s.out]
    unfold insI
    rw [List.length_map, ins_congr _ _ n (fun i _ => hf i)]
  rw [e] at h
  exact h
theorem clone_F (w : World) (S n : Nat) (v : Value) (f : Nat → Bool) (s : SetF w S n v f) : Calls Tryd.prog 15 #[pt S] w fun e w' => ∃ S' v', e = .returned (pt S') ∧ SetF w' S' n v' f ∧ Grew w w' ∧ ∀ j, SB S' v' j → w.heap.size ≤ j := by
  obtain ⟨ws, s, hf⟩ := s
  refine (clone_any w S n v ws s).mono ?_
  rintro e w' ⟨S', v', he, s', k, h⟩
  exact ⟨S', v', he, ⟨ws, s', hf⟩, k, h⟩
theorem inW_zip (f : Nat → Nat → Nat) (g : Bool → Bool → Bool) {ws ts : List Nat} (h : ws.length = ts.length) (hf : ∀ x y b : Nat, (f x y).testBit b = g (x.testBit b) (y.testBit b)) (hg : g false false = false) (i : Nat) :
    inW (List.zipWith f ws ts) i = g (inW ws i) (inW ts i) := by
  unfold inW
  rw [List.getD_eq_getElem?_getD, List.getD_eq_getElem?_getD, List.getD_eq_getElem?_getD, List.getElem?_zipWith]
  rcases Nat.lt_or_ge (i / 64) ws.length with hl | hl
  · rw [List.getElem?_eq_getElem hl, List.getElem?_eq_getElem (by omega : i / 64 < ts.length)]
    exact hf _ _ _
  · rw [List.getElem?_eq_none hl, List.getElem?_eq_none (by omega : ts.length ≤ i / 64)]
    simp [hg]
theorem or_F (w : World) (S T n : Nat) (v u : Value) (f h : Nat → Bool) (s : SetF w S n v f) (r : SetF w T n u h) (hap : ∀ j, SB T u j → ¬ SB S v j) : Calls Tryd.prog 19 #[pt S, pt T] w fun e w' => e = .returned (.bool true) ∧ SetF w' S n v (fun i => f i || h i) ∧ Kept (SB S v) w w' := by
  obtain ⟨ws, s, hf⟩ := s
  obtain ⟨ts, r, hh⟩ := r
  refine (or_yes w S T n v u ws ts s r hap).mono ?_
  rintro e w' ⟨he, s', k⟩
  refine ⟨he, ⟨_, s', fun i => ?_⟩, k⟩
  rw [inW_zip _ (fun a b => a || b) (by rw [s.len, r.len]) (fun x y b => Nat.testBit_or x y b) rfl, hf, hh]
theorem and_F (w : World) (S T n : Nat) (v u : Value) (f h : Nat → Bool) (s : SetF w S n v f) (r : SetF w T n u h) (hap : ∀ j, SB T u j → ¬ SB S v j) : Calls Tryd.prog 20 #[pt S, pt T] w fun e w' => e = .returned (.bool true) ∧ SetF w' S n v (fun i => f i && h i) ∧ Kept (SB S v) w w' := by
  obtain ⟨ws, s, hf⟩ := s
  obtain ⟨ts, r, hh⟩ := r
  refine (and_yes w S T n v u ws ts s r hap).mono ?_
  rintro e w' ⟨he, s', k⟩
  refine ⟨he, ⟨_, s', fun i => ?_⟩, k⟩
  rw [inW_zip _ (fun a b => a && b) (by rw [s.len, r.len]) (fun x y b => Nat.testBit_and x y b) rfl, hf, hh]
theorem or_F_no (w : World) (S T n m : Nat) (v u : Value) (f h : Nat → Bool) (s : SetF w S n v f) (r : SetF w T m u h) (hne : n ≠ m) : Calls Tryd.prog 19 #[pt S, pt T] w fun e w' => e = .returned (.bool false) ∧ Grew w w' := by
  obtain ⟨ws, s, hf⟩ := s
  obtain ⟨ts, r, hh⟩ := r
  exact or_other w S T n m v u ws ts s r hne
theorem and_F_no (w : World) (S T n m : Nat) (v u : Value) (f h : Nat → Bool) (s : SetF w S n v f) (r : SetF w T m u h) (hne : n ≠ m) : Calls Tryd.prog 20 #[pt S, pt T] w fun e w' => e = .returned (.bool false) ∧ Grew w w' := by
  obtain ⟨ws, s, hf⟩ := s
  obtain ⟨ts, r, hh⟩ := r
  exact and_other w S T n m v u ws ts s r hne
theorem or_F_nil (w : World) (S n : Nat) (v : Value) (f : Nat → Bool) (s : SetF w S n v f) : Calls Tryd.prog 19 #[pt S, .pointer none] w fun e w' => e = .returned (.bool false) ∧ Grew w w' := by
  obtain ⟨ws, s, hf⟩ := s
  exact or_nil w S n v ws s
theorem and_F_nil (w : World) (S n : Nat) (v : Value) (f : Nat → Bool) (s : SetF w S n v f) : Calls Tryd.prog 20 #[pt S, .pointer none] w fun e w' => e = .returned (.bool false) ∧ Grew w w' := by
  obtain ⟨ws, s, hf⟩ := s
  exact and_nil w S n v ws s
theorem SetF.lt {w : World} {S n : Nat} {v : Value} {f : Nat → Bool} (s : SetF w S n v f) (j : Nat) (h : SB S v j) : j < w.heap.size := by
  obtain ⟨ws, s, _⟩ := s
  rcases h with rfl | h
  · exact s.box.lt
  · rcases s.row with ⟨_, V, c, hv⟩ | ⟨g, c, cur, hv, h0, hb, _⟩
    · rw [hv] at h; cases V <;> cases h
    · obtain ⟨m, hm⟩ : ∃ m, ws.length = m + 1 := ⟨ws.length - 1, by omega⟩
      rw [hv, hm] at h
      obtain rfl : g = j := Option.some.inj h
      exact hb.lt
end Go.Proofs.YtabddnlcgmbopaaDoor
