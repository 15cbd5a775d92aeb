/- Whether ranks are right. -/
import Derived.Test.YtjbjomodponapaaRanks
namespace Go.Proofs.Ytjbjomodponapaa
open Go.RowKit

/-- The answer is whether p. -/
def SaysB (p : Prop) (e : Ending) : Prop := ∃ b, e = .returned (.bool b) ∧ (b = true ↔ p)
theorem SaysB.yes {p : Prop} (h : p) : SaysB p (.returned (.bool true)) := ⟨true, rfl, fun _ => h, fun _ => rfl⟩
theorem SaysB.no {p : Prop} (h : ¬ p) : SaysB p (.returned (.bool false)) := ⟨false, rfl, fun h => (by cases h), fun hp => absurd hp h⟩
structure RrS (n : Nat) (rk : List Int) (M : Nat) (w : World) (k : Nat) (wr : World) : Prop where
  met : Blk wr M 4 (metA n (rk.take k))
  rng : ∀ x ∈ rk.take k, 0 ≤ x ∧ x < (n : Int)
  nod : (rk.take k).Nodup
  kept : Grew w wr
theorem not_nodup {rk : List Int} {k : Nat} {x : Int} (hx : rk[k]? = some x) (hm : x ∈ rk.take k) : ¬ rk.Nodup := fun h => by
  rw [← List.take_append_drop k rk] at h
  have hd : x ∈ rk.drop k := by
    have : (rk.drop k)[0]? = some x := by rw [List.getElem?_drop]; exact hx
    exact List.mem_of_getElem? this
  exact (List.nodup_append.1 h).2.2 x hm x hd rfl
theorem RrS.next {n : Nat} {rk : List Int} {M : Nat} {w : World} {k : Nat} {wr : World} (h : RrS n rk M w k wr) {x : Nat} (hx : rk[k]? = some (x : Int)) (hxn : x < n) (hm : ¬ (x : Int) ∈ rk.take k) (hM : w.heap.size ≤ M) :
    RrS n rk M w (k + 1) (wr.setCell ⟨M, x, none⟩ (.bool true)) := by
  have e : rk.take (k + 1) = rk.take k ++ [(x : Int)] := by rw [List.take_add_one, hx]; rfl
  refine ⟨?_, ?_, ?_, h.kept.setCell (p := ⟨M, x, none⟩) (.inr hM) _⟩
  · have q := h.met.set x (.bool true)
    rw [metA_set n _ hxn] at q
    rw [e]
    exact q
  · intro y hy
    rw [e] at hy
    rcases List.mem_append.1 hy with hy | hy
    · exact h.rng y hy
    · simp at hy; subst hy; omega
  · rw [e]
    refine List.nodup_append.2 ⟨h.nod, by simp, fun a ha b hb e => ?_⟩
    simp at hb
    subst hb
    exact hm (e ▸ ha)
set_option maxHeartbeats 4000000 in
set_option maxRecDepth 100000 in
theorem rankRight_any (rk : List Int) (A : Option Addr) (c : Nat) (w : World) (h : RowI w A rk) (hl : rk.length ≤ 100000) :
    Calls Try.prog 27 #[.slice A rk.length c] w fun e w' => SaysB (rankOk rk) e ∧ Grew w w' := by
  obtain ⟨j0, ji, jz0, jz1, jz2⟩ := info_parts info_bool
  obtain ⟨n, hn⟩ : ∃ n, rk.length = n := ⟨_, rfl⟩
  have HN := Lib.hid hn
  have HR := Lib.hid h
  rw [hn] at hl ⊢
  have jmk := fun W => run_make (P := Try.prog) W 79 4 j0 _ Try.underlying79 ji jz0 .i64 .i64 (n : Int) (n : Int) (by omega) (Int.le_refl _) (by rw [jz2]; omega) (by omega)
  simp only [Int.toNat_natCast, jz1, Nat.mul_one] at jmk
  clear ji jz0 jz1 jz2
  obtain ⟨M, hM⟩ : ∃ M, w.heap.size = M := ⟨_, rfl⟩
  have HM := Lib.hid hM
  have hS0 : Hid (RrS n rk M w 0 (w.alloc (.cells (madeCells #[.bool false] n) 4))) :=
    ⟨by rw [metA_zero, ← hM]; exact Blk.new _ _ _, fun x hx => by simp at hx, by simp, (Kept.refl _ _).alloc _⟩
  clear h hn
  go_enter Try.func27, Try.ntmps27
  go_wp2_with fail
  go_loopw [11] (fun i wr => ∃ (k : Nat), k ≤ n ∧ i = .int .i64 k ∧ Hid (RrS n rk M w k wr)) (fun i _ => n - (intOf i).toNat)
  case atStart => exact ⟨0, by omega, rfl, hS0.out⟩
  case round =>
    clear hS0 jmk
    obtain ⟨k, hk, rfl, hS⟩ := hrel
    by_cases hlt : k < n
    · as_aux_lemma =>
      have l1 : (k : Int) < (n : Int) := by omega
      have k0 : (0 : Int) ≤ (k : Int) := by omega
      obtain ⟨x, hx⟩ : ∃ x, rk[k]? = some x := ⟨_, List.getElem?_eq_getElem (by rw [HN.out]; exact hlt)⟩
      obtain ⟨b, off, hAe, hb, e0⟩ := HR.out k x hx
      subst hAe
      replace e0 := Grew.cell hS.out.kept e0
      have HX := Lib.hid hx
      clear hx
      have hK := Lib.hid hS.out.kept
      by_cases h0 : x < 0
      · have hf : Hid (¬ rankOk rk) := fun ho => by have := (ho.1 x (List.mem_of_getElem? HX.out)).1; omega
        clear hS
        go_wp2_with fail
        go_ret
        exact ⟨.no hf.out, hK.out⟩
      by_cases h1 : (n : Int) ≤ x
      · have hf : Hid (¬ rankOk rk) := fun ho => by have := (ho.1 x (List.mem_of_getElem? HX.out)).2; rw [HN.out] at this; omega
        clear hS
        go_wp2_with fail
        go_ret
        exact ⟨.no hf.out, hK.out⟩
      obtain ⟨x, rfl⟩ := Int.eq_ofNat_of_zero_le (show 0 ≤ x by omega)
      have h2 : (x : Int) < (n : Int) := by omega
      have h3 : (0 : Int) ≤ (x : Int) := by omega
      have m0 := (hS.out.met.cell x).trans (metA_get n (rk.take k) (by omega))
      have mf := hS.out.met.frozen x
      by_cases hm : (x : Int) ∈ rk.take k
      · rw [decide_eq_true hm] at m0
        have hf : Hid (¬ rankOk rk) := fun ho => not_nodup HX.out hm ho.2
        clear hS hm
        go_wp2_with fail
        go_ret
        exact ⟨.no hf.out, hK.out⟩
      · rw [decide_eq_false hm] at m0
        have hS1 := Lib.hid (hS.out.next HX.out (by omega) hm (by have := HM.out; omega))
        clear hS hm
        go_wp2_with fail
        go_roundw
        case rel => exact ⟨k + 1, by omega, by go_num, hS1⟩
        case measure => simp [intOf]; omega
    · as_aux_lemma =>
      obtain rfl : k = n := by omega
      have hf : Hid (rankOk rk ∧ Grew w wr) := by
        have hS := hS.out
        have e : rk.take k = rk := List.take_of_length_le (by rw [HN.out]; exact Nat.le_refl _)
        have a := hS.rng
        have b := hS.nod
        rw [e] at a b
        exact ⟨⟨by rw [HN.out]; exact a, b⟩, hS.kept⟩
      clear hS
      go_wp2_with fail
      go_ret
      exact ⟨.yes hf.out.1, hf.out.2⟩
end Go.Proofs.Ytjbjomodponapaa
