/- bits.Of: the numbers of a list, put into a set. -/
import Derived.Test.YtabddnlcgmbopaaDoorInts
namespace Go.Proofs.YtabddnlcgmbopaaDoor
open Go.RowKit

theorem SetF.grew {w w' : World} {S n : Nat} {v : Value} {f : Nat → Bool} (s : SetF w S n v f) (k : Grew w w') : SetF w' S n v f := s.imp fun _ h => ⟨h.1.grew k, h.2⟩
theorem SetF.kept {F : Nat → Prop} {w w' : World} {S n : Nat} {v : Value} {f : Nat → Bool} (s : SetF w S n v f) (k : Kept F w w') (hF : ∀ j, SB S v j → ¬ F j) : SetF w' S n v f := s.imp fun _ h => ⟨h.1.kept k hF, h.2⟩
theorem new_set (n : Nat) (w : World) (hn : n ≤ 65536) : Calls Tryd.prog 8 #[i64 (n : Int)] w fun e w' => ∃ S v, e = .returned (pt S) ∧ SetF w' S n v (fun _ => false) ∧ Grew w w' ∧ ∀ j, SB S v j → w.heap.size ≤ j :=
  (new_yes n w hn).mono fun e w' ⟨S, v, he, s, g, h⟩ => ⟨S, v, he, ⟨_, s, fun i => by
    unfold inW
    rw [List.getD_eq_getElem?_getD, List.getElem?_replicate]
    split <;> simp⟩, g, h⟩

set_option maxHeartbeats 1000000 in
theorem of_yes (n : Nat) (A : Option Addr) (c : Nat) (l : List Int) (w : World) (hn : n ≤ 65536) (hl : l.length ≤ 1000) (hA : RowI w A l) :
    Calls Tryd.prog 7 #[i64 (n : Int), .slice A l.length c] w fun e w' => ∃ S v, e = .returned (pt S) ∧ SetF w' S n v (ofL n l (fun _ => false)) ∧ Grew w w' ∧ ∀ j, SB S v j → w.heap.size ≤ j := by
  obtain ⟨L, hL⟩ : ∃ L, l.length = L := ⟨_, rfl⟩
  have HL := Lib.hid hL
  rw [hL] at hl ⊢
  have HA := Lib.hid hA
  have HN := Lib.hid (new_set n w hn)
  clear hL hA
  go_enter Tryd.func7, Tryd.ntmps7
  go_wp2_with fail
  refine HN.out.mono ?_
  rintro r w1 ⟨S, v, rfl, s, g, hf⟩
  have HS : Hid (SetF w1 S n v (ofL n (l.take 0) (fun _ => false)) ∧ Grew w w1) := ⟨s, g⟩
  have HF := Lib.hid hf
  clear s g hf HN
  go_wp2_with fail
  go_loopw [8, 15] (fun _ i wr => ∃ k : Nat, k ≤ L ∧ i = .int .i64 k ∧ Hid (SetF wr S n v (ofL n (l.take k) (fun _ => false)) ∧ Grew w wr)) (fun _ i _ => L - (intOf i).toNat)
  case atStart => exact ⟨0, by omega, rfl, HS⟩
  case round =>
    clear HS
    obtain ⟨k, hk, rfl, HS⟩ := hrel
    by_cases hlt : k < L
    · obtain ⟨x, hx⟩ : ∃ x, l[k]? = some x := ⟨_, List.getElem?_eq_getElem (by rw [HL.out]; exact hlt)⟩
      obtain ⟨b, off, hAe, hb, h0⟩ := HA.out k x hx
      subst hAe
      replace h0 := HS.out.2.cell h0
      have i0 : (0 : Int) ≤ (k : Int) := by omega
      have i1 : (k : Int) < (L : Int) := by omega
      have HX : Hid (ofL n (l.take (k + 1)) (fun _ => false) = putF n (ofL n (l.take k) (fun _ => false)) x true) := ofL_take n l k x hx _
      have HP := Lib.hid (add_any _ S n v _ HS.out.1 x)
      clear hx
      go_wp2_with fail
      refine HP.out.mono ?_
      rintro r w3 ⟨rfl, s3, k3⟩
      have HS3 : Hid (SetF w3 S n v (ofL n (l.take (k + 1)) (fun _ => false)) ∧ Grew w w3) := by
        refine ⟨by rw [HX.out]; exact s3, HS.out.2.then k3 fun i hi h => ?_⟩
        exact absurd (HF.out i h) (by omega)
      clear HP s3 k3 HS
      go_wp2_with fail
      go_roundw
      case rel => exact ⟨k + 1, by omega, by go_num, HS3⟩
      case measure => simp [intOf]; omega
    · obtain rfl : L = k := by omega
      have HR : Hid (SetF wr S n v (ofL n l (fun _ => false)) ∧ Grew w wr) := by
        have h := HS.out
        rw [List.take_of_length_le (by rw [HL.out]; exact Nat.le_refl _)] at h
        exact h
      clear HS
      go_wp2_with fail
      go_ret
      exact ⟨S, v, rfl, HR.out.1, HR.out.2, HF.out⟩
theorem of_no (n : Int) (A : Option Addr) (c : Nat) (l : List Int) (w : World) (hn : n < 0 ∨ 65536 < n) (hl : l.length ≤ 1000) (hA : RowI w A l) :
    Calls Tryd.prog 7 #[i64 n, .slice A l.length c] w fun e w' => e = .returned (.pointer none) ∧ w = w' := by
  obtain ⟨L, hL⟩ : ∃ L, l.length = L := ⟨_, rfl⟩
  have HL := Lib.hid hL
  rw [hL] at hl ⊢
  have HA := Lib.hid hA
  have HN := Lib.hid (new_no n w hn)
  clear hL hA hn
  go_enter Tryd.func7, Tryd.ntmps7
  go_wp2_with fail
  refine HN.out.mono ?_
  rintro r w1 ⟨rfl, rfl⟩
  go_wp2_with fail
  go_loopw [8, 15] (fun _ i wr => ∃ k : Nat, k ≤ L ∧ i = .int .i64 k ∧ Hid (w = wr)) (fun _ i _ => L - (intOf i).toNat)
  case atStart => exact ⟨0, by omega, rfl, Lib.hid rfl⟩
  case round =>
    obtain ⟨k, hk, rfl, HS⟩ := hrel
    obtain rfl := HS.out
    by_cases hlt : k < L
    · obtain ⟨x, hx⟩ : ∃ x, l[k]? = some x := ⟨_, List.getElem?_eq_getElem (by rw [HL.out]; exact hlt)⟩
      obtain ⟨b, off, hAe, hb, h0⟩ := HA.out k x hx
      subst hAe
      have i0 : (0 : Int) ≤ (k : Int) := by omega
      have i1 : (k : Int) < (L : Int) := by omega
      have HP := Lib.hid (add_nil x w)
      clear hx
      go_wp2_with fail
      refine HP.out.mono ?_
      rintro r w3 ⟨rfl, rfl⟩
      go_wp2_with fail
      go_roundw
      case rel => exact ⟨k + 1, by omega, by go_num, Lib.hid trivial⟩
      case measure => simp [intOf]; omega
    · obtain rfl : L = k := by omega
      go_wp2_with fail
      go_ret
      exact ⟨rfl, rfl⟩
end Go.Proofs.YtabddnlcgmbopaaDoor
