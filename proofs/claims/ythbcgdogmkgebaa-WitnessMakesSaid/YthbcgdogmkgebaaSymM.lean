/- The merge: many and many. -/
import Derived.Test.YthbcgdogmkgebaaSymL
namespace Go.Proofs.Ythbcgdogmkgebaa
open Go.RowKit

/-- What the two recursive merges get. -/
theorem merge_parts {f : Row} {a m b mid s e p lo hi : Nat} (ham : a < m) (hmb : m < b) (hs1 : Srt f a m) (hs2 : Srt f m b) (hmid : mid = (a + b) / 2) (hp : p = mid + m - 1) (he : e = mid + m - s)
    (hlh : (mid < m ∧ lo = mid + m - b ∧ hi = mid) ∨ (m ≤ mid ∧ lo = a ∧ hi = m)) (k : Cut f p lo hi s s) : Srt (rot f s m e) a s ∧ Srt (rot f s m e) s mid ∧ Srt (rot f s m e) mid e ∧ Srt (rot f s m e) e b := by
  have k1 := k.l
  have k2 := k.h
  have hsm : a ≤ s ∧ s ≤ m ∧ s ≤ mid ∧ m ≤ e ∧ mid ≤ e ∧ e ≤ b ∧ a < mid ∧ mid < b := by omega
  have hem : s + (e - m) = mid := by omega
  refine ⟨fun x y x1 x2 x3 => ?_, fun x y x1 x2 x3 => ?_, fun x y x1 x2 x3 => ?_, fun x y x1 x2 x3 => ?_⟩
  · unfold rot; rw [if_neg (by omega), if_neg (by omega), if_neg (by omega), if_neg (by omega)]
    exact hs1 x y x1 x2 (by omega)
  · unfold rot; rw [if_pos (by omega), if_pos (by omega)]
    exact hs2 _ _ (by omega) (by omega) (by omega)
  · unfold rot; rw [if_neg (by omega), if_pos (by omega), if_neg (by omega), if_pos (by omega)]
    exact hs1 _ _ (by omega) (by omega) (by omega)
  · unfold rot; rw [if_neg (by omega), if_neg (by omega), if_neg (by omega), if_neg (by omega)]
    exact hs2 _ _ (by omega) x2 x3
theorem rot_nop (f : Row) {a m b : Nat} (h1 : a ≤ m) (h2 : m ≤ b) (h : ¬ (a < m ∧ m < b)) : rot f a m b = f := by
  funext k
  unfold rot
  by_cases h3 : a ≤ k ∧ k < a + (b - m)
  · rw [if_pos h3]; congr 1; omega
  · rw [if_neg h3]
    by_cases h4 : a + (b - m) ≤ k ∧ k < b
    · rw [if_pos h4]; congr 1; omega
    · rw [if_neg h4]

def Mrg (a s b : Nat) (f g : Row) : Prop := (a < s ∧ s < b ∧ Stp f g a b ∧ Srt g a b) ∨ (¬ (a < s ∧ s < b) ∧ g = f)
def Side (a m b mid lo hi : Nat) : Prop := (mid < m ∧ lo = mid + m - b ∧ hi = mid) ∨ (m ≤ mid ∧ lo = a ∧ hi = m)
def SymT (g N cap d : Nat) : Prop := ∀ (a m b : Nat) (f : Row) (w : World), RowF w g N f → a < m → m < b → b ≤ N → b - a < d → Srt f a m → Srt f m b →
    Calls Try.prog 61 #[.slice (some ⟨g, 0, none⟩) N cap, i64 a, i64 m, i64 b, (.func (.func 30) #[] #[])] w fun e w' => e = .returned (.tuple #[]) ∧ ∃ f', RowF w' g N f' ∧ Kept (· = g) w w' ∧ Stp f f' a b ∧ Srt f' a b
set_option maxHeartbeats 8000000 in
set_option maxRecDepth 100000 in
theorem sym_many (g N cap a m b : Nat) (f : Row) (w : World) (h : RowF w g N f) (ham : a < m) (hmb : m < b) (hb : b ≤ N) (hN : N ≤ 1000) (hs1 : Srt f a m) (hs2 : Srt f m b) (h1 : a + 1 < m) (h2 : m + 1 < b) (IH : Hid (SymT g N cap (b - a))) :
    Calls Try.prog 61 #[.slice (some ⟨g, 0, none⟩) N cap, i64 a, i64 m, i64 b, (.func (.func 30) #[] #[])] w fun e w' => e = .returned (.tuple #[]) ∧ ∃ f', RowF w' g N f' ∧ Kept (· = g) w w' ∧ Stp f f' a b ∧ Srt f' a b := by
  obtain ⟨D, hD⟩ : ∃ D, m - a = D := ⟨_, rfl⟩
  have em : (m : Int) - (a : Int) = (D : Int) := by omega
  have wD : IntKind.i64.wrap (D : Int) = (D : Int) := Go.IntWalk.i64_in _ (by omega)
  have nD : ((D : Int) == 1) = false := by simp; omega
  obtain ⟨E, hE⟩ : ∃ E, b - m = E := ⟨_, rfl⟩
  have eb : (b : Int) - (m : Int) = (E : Int) := by omega
  have wE : IntKind.i64.wrap (E : Int) = (E : Int) := Go.IntWalk.i64_in _ (by omega)
  have nE : ((E : Int) == 1) = false := by simp; omega
  obtain ⟨S, hSm⟩ : ∃ S, a + b = S := ⟨_, rfl⟩
  have eS : (a : Int) + (b : Int) = (S : Int) := by omega
  have wS : IntKind.i64.wrap (S : Int) = (S : Int) := Go.IntWalk.i64_in _ (by omega)
  obtain ⟨mid, hmid⟩ : ∃ q, S / 2 = q := ⟨_, rfl⟩
  have emid : (S : Int) / 2 = (mid : Int) := by omega
  have HMID : Hid (mid = (a + b) / 2) := show mid = (a + b) / 2 by omega
  have hmb1 : a < mid ∧ mid < b := by omega
  obtain ⟨n, hn⟩ : ∃ n, mid + m = n := ⟨_, rfl⟩
  have en : (mid : Int) + (m : Int) = (n : Int) := by omega
  have wn : IntKind.i64.wrap (n : Int) = (n : Int) := Go.IntWalk.i64_in _ (by omega)
  obtain ⟨p, hp⟩ : ∃ p, n - 1 = p := ⟨_, rfl⟩
  have ep : (n : Int) - 1 = (p : Int) := by omega
  have wp : IntKind.i64.wrap (p : Int) = (p : Int) := Go.IntWalk.i64_in _ (by omega)
  have HP : Hid (p = mid + m - 1) := show p = mid + m - 1 by omega
  have H1 := Lib.hid hs1
  have H2 := Lib.hid hs2
  have hpn : p + 1 = n ∧ n = mid + m := by omega
  obtain ⟨hpn1, hpn2⟩ := hpn
  obtain ⟨lo, hi, HLH⟩ : ∃ lo hi, Hid (Side a m b mid lo hi) := by
    rcases Nat.lt_or_ge mid m with hmm | hmm
    · exact ⟨mid + m - b, mid, show Side a m b mid _ _ from .inl ⟨hmm, rfl, rfl⟩⟩
    · exact ⟨a, m, show Side a m b mid _ _ from .inr ⟨hmm, rfl, rfl⟩⟩
  have hlh : a ≤ lo ∧ lo ≤ hi ∧ hi ≤ m ∧ hi ≤ mid ∧ p + 1 ≤ lo + b ∧ m + hi ≤ p + 1 := by
    rcases HLH.out with ⟨q1, q2, q3⟩ | ⟨q1, q2, q3⟩ <;> omega
  obtain ⟨ha1, ha2, ha3, ha4, ha5, hlh2⟩ := hlh
  have HLo : Hid (Srt f lo hi) := H1.out.less (by omega) (by omega)
  have HUp : Hid (∀ x y, lo ≤ x → x ≤ y → y < hi → leA (f (p - y)) (f (p - x))) := fun x y x1 x2 x3 => H2.out.le (by omega) (by omega) (by omega)
  have hS0 : Hid (RowF w g N f ∧ Grew w w ∧ Cut f p lo hi lo hi) := ⟨h, Kept.refl _ _, ⟨Nat.le_refl _, by omega, Nat.le_refl _, fun c c1 c2 => by omega, fun c c1 c2 => by omega⟩⟩
  have HN2 : Hid (n = mid + m) := hpn2
  have HN1 : Hid (p + 1 = n) := hpn1
  clear h hs1 hs2 h1 h2 hD hE hSm hmid hn hp hpn1 hpn2
  go_enter Try.func61, Try.ntmps61
  go_upto_if 140 with fail
  go_cut [20, 21] (fun i j wx => i = .int .i64 lo ∧ j = .int .i64 hi ∧ wx = w)
  case first => as_aux_lemma =>
    rcases HLH.out with ⟨q1, q2, q3⟩ | ⟨q1, q2, q3⟩
    · have l0 : (mid : Int) < (m : Int) := by omega
      have hn2 := HN2.out
      have elo : (n : Int) - (b : Int) = (lo : Int) := by omega
      have wlo : IntKind.i64.wrap (lo : Int) = (lo : Int) := Go.IntWalk.i64_in _ (by omega)
      subst q3
      clear q1 q2 hn2
      go_wp2_with fail
      go_meet
      exact ⟨rfl, rfl, rfl⟩
    · have l0 : (m : Int) ≤ (mid : Int) := by omega
      subst q2
      subst q3
      clear q1
      go_wp2_with fail
      go_meet
      exact ⟨rfl, rfl, rfl⟩
  case rest => as_aux_lemma =>
    obtain ⟨rfl, rfl, hwc⟩ := hcut
    have hwc := hwc.symm
    subst hwc
    go_wp2_with fail
    go_loopw [20, 21, 23] (fun i j _ wr => ∃ (x y : Nat), (lo ≤ x ∧ x ≤ y ∧ y ≤ hi) ∧ i = .int .i64 x ∧ j = .int .i64 y ∧ Hid (RowF wr g N f ∧ Grew w wr ∧ Cut f p lo hi x y)) (fun i j _ _ => (intOf j).toNat - (intOf i).toNat)
    case atStart => exact ⟨lo, hi, ⟨by omega, by omega, by omega⟩, rfl, rfl, hS0⟩
    case round =>
      clear hS0
      obtain ⟨x, y, ⟨hx, hxy, hy⟩, rfl, rfl, hS⟩ := hrel
      by_cases hlt : x < y
      · have l1 : (x : Int) < (y : Int) := by omega
        obtain ⟨sm, hsm⟩ : ∃ s, x + y = s := ⟨_, rfl⟩
        have esm : (x : Int) + (y : Int) = (sm : Int) := by omega
        have wsm : IntKind.i64.wrap (sm : Int) = (sm : Int) := Go.IntWalk.i64_in _ (by omega)
        obtain ⟨h, hh⟩ : ∃ h, sm / 2 = h := ⟨_, rfl⟩
        have ehh : (sm : Int) / 2 = (h : Int) := by omega
        have hxh : x ≤ h ∧ h < y := by omega
        have wh1 : IntKind.i64.wrap ((h : Int) + 1) = (h : Int) + 1 := Go.IntWalk.i64_in _ (by omega)
        clear hsm hh
        obtain ⟨pc, hpc⟩ : ∃ v, p - h = v := ⟨_, rfl⟩
        have epc : (p : Int) - (h : Int) = (pc : Int) := by omega
        have wpc : IntKind.i64.wrap (pc : Int) = (pc : Int) := Go.IntWalk.i64_in _ (by omega)
        have HPC := Lib.hid hpc
        have iL : pc < N := by omega
        have jL : h < N := by omega
        have i0 : (0 : Int) ≤ (pc : Int) := by omega
        have i1 : (pc : Int) < (N : Int) := by omega
        have j0 : (0 : Int) ≤ (h : Int) := by omega
        have j1 : (h : Int) < (N : Int) := by omega
        have x0 := hS.out.1.c0 iL
        have x1 := hS.out.1.c1 iL
        have x2 := hS.out.1.c0 jL
        have x3 := hS.out.1.c1 jL
        obtain ⟨⟨p1, p2⟩, hy⟩ : ∃ q, f pc = q := ⟨_, rfl⟩
        obtain ⟨⟨q1, q2⟩, hq⟩ : ∃ q, f h = q := ⟨_, rfl⟩
        rw [hy] at x0 x1
        rw [hq] at x2 x3
        simp only at x0 x1 x2 x3
        obtain ⟨c, hc⟩ : ∃ c, cmpA (p1, p2) (q1, q2) = c := ⟨_, rfl⟩
        have hC := Lib.hid (cmp_any p1 p2 q1 q2)
        rw [hc] at hC
        have hl := cmpA_lt (f pc) (f h)
        rw [hy, hq, hc] at hl
        have HL : Hid (decide (c < 0) = ltA (f pc) (f h)) := by rw [hy, hq]; exact hl
        clear hc hl hq hy
        rcases Int.lt_or_le c 0 with hc | hc
        · have dc : decide (c < 0) = true := decide_eq_true hc
          have HL' : Hid (ltA (f pc) (f h) = true) := by rw [← HL.out]; exact dc
          clear HL
          go_upto_region 35 with fail
          refine wp_region_grow [] (fun _ => False) (by kernel_rfl) ?_
          simp only [List.size_toArray, List.length_cons, List.length_nil, Nat.reduceAdd]
          refine wpAnyG_pure 0 158 (v := ?_) rfl (by kernel_rfl) rfl (by rfl) (fun w' => ?_) ?_
          rotate_left
          · go_simp <;> with_reducible rfl
          simp only [List.setIfInBounds_toArray, List.set_cons_zero, List.set_cons_succ]
          refine wpAnyG_pure 1 159 (v := ?_) rfl (by kernel_rfl) rfl (by rfl) (fun w' => ?_) ?_
          rotate_left
          · go_simp <;> with_reducible rfl
          simp only [List.setIfInBounds_toArray, List.set_cons_zero, List.set_cons_succ]
          refine wpAnyG_pure 2 160 (v := ?_) rfl (by kernel_rfl) rfl (by rfl) (fun w' => ?_) ?_
          rotate_left
          · go_simp <;> with_reducible rfl
          simp only [List.setIfInBounds_toArray, List.set_cons_zero, List.set_cons_succ]
          refine wpAnyG_pure 3 161 (v := ?_) rfl (by kernel_rfl) rfl (by rfl) (fun w' => ?_) ?_
          rotate_left
          · go_simp <;> with_reducible rfl
          simp only [List.setIfInBounds_toArray, List.set_cons_zero, List.set_cons_succ]
          refine wpAnyG_pure 4 162 (v := ?_) rfl (by kernel_rfl) rfl (by rfl) (fun w' => ?_) ?_
          rotate_left
          · go_simp <;> with_reducible rfl
          simp only [List.setIfInBounds_toArray, List.set_cons_zero, List.set_cons_succ]
          refine wpAnyG_pure 5 163 (v := ?_) rfl (by kernel_rfl) rfl (by rfl) (fun w' => ?_) ?_
          rotate_left
          · go_simp <;> with_reducible rfl
          simp only [List.setIfInBounds_toArray, List.set_cons_zero, List.set_cons_succ]
          refine wpAnyG_take 6 164 (v := ?_) rfl (by kernel_rfl) rfl (by rfl) (fun w' hG' => ?_) ?_
          rotate_left
          · have hx0 := Grew.cell hG' (show wr.drew.cell? _ = _ from x0)
            have hx1 := Grew.cell hG' (show wr.drew.cell? _ = _ from x1)
            have hx2 := Grew.cell hG' (show wr.drew.cell? _ = _ from x2)
            have hx3 := Grew.cell hG' (show wr.drew.cell? _ = _ from x3)
            go_simp <;> with_reducible rfl
          simp only [List.setIfInBounds_toArray, List.set_cons_zero, List.set_cons_succ]
          refine wpAnyG_pure 7 165 (v := ?_) rfl (by kernel_rfl) rfl (by rfl) (fun w' => ?_) ?_
          rotate_left
          · go_simp <;> with_reducible rfl
          simp only [List.setIfInBounds_toArray, List.set_cons_zero, List.set_cons_succ]
          refine wpAnyG_pure 8 166 (v := ?_) rfl (by kernel_rfl) rfl (by rfl) (fun w' => ?_) ?_
          rotate_left
          · go_simp <;> with_reducible rfl
          simp only [List.setIfInBounds_toArray, List.set_cons_zero, List.set_cons_succ]
          refine wpAnyG_pure 9 167 (v := ?_) rfl (by kernel_rfl) rfl (by rfl) (fun w' => ?_) ?_
          rotate_left
          · go_simp <;> with_reducible rfl
          simp only [List.setIfInBounds_toArray, List.set_cons_zero, List.set_cons_succ]
          refine wpAnyG_take 10 168 (v := ?_) rfl (by kernel_rfl) rfl (by rfl) (fun w' hG' => ?_) ?_
          rotate_left
          · have hx0 := Grew.cell hG' (show wr.drew.cell? _ = _ from x0)
            have hx1 := Grew.cell hG' (show wr.drew.cell? _ = _ from x1)
            have hx2 := Grew.cell hG' (show wr.drew.cell? _ = _ from x2)
            have hx3 := Grew.cell hG' (show wr.drew.cell? _ = _ from x3)
            go_simp <;> with_reducible rfl
          simp only [List.setIfInBounds_toArray, List.set_cons_zero, List.set_cons_succ]
          refine wpAnyG_step 11 169 rfl (by kernel_rfl) rfl (by rfl) (fun K hK' => ?_)
          go_simp
          refine (hC.out _).mono ?_
          rintro e w2 ⟨rfl, k2⟩
          refine hK' _ _ (fun _ => k2) ?_
          clear hK'
          simp only [List.setIfInBounds_toArray, List.set_cons_zero, List.set_cons_succ]
          refine wpAnyG_pure 12 170 (v := ?_) rfl (by kernel_rfl) rfl (by rfl) (fun w' => ?_) ?_
          rotate_left
          · go_simp <;> with_reducible rfl
          simp only [List.setIfInBounds_toArray, List.set_cons_zero, List.set_cons_succ]
          refine wpAnyG_pure 13 171 (v := ?_) rfl (by kernel_rfl) rfl (by rfl) (fun w' => ?_) ?_
          rotate_left
          · go_simp <;> with_reducible rfl
          simp only [List.setIfInBounds_toArray, List.set_cons_zero, List.set_cons_succ]
          refine wpAnyG_done (by kernel_rfl) ?_
          have hS2 := Lib.hid (show _ ∧ _ from ⟨(hS.out.1.grew (Kept.refl (fun _ => False) wr).drew).grew k2, hS.out.2.1.drew.trans k2⟩)
          have hL2 := Lib.hid hS.out.2.2
          clear hS k2 x0 x1 x2 x3 hC
          have hS3 : Hid (RowF w2 g N f ∧ Grew w w2 ∧ Cut f p lo hi x h) := ⟨hS2.out.1, hS2.out.2, hL2.out.dn hxh.1 hxh.2 HLo.out HUp.out (by rw [HPC.out]; exact HL'.out)⟩
          clear hS2 hL2 HL'
          go_wp2_with fail
          go_roundw
          case rel => exact ⟨x, h, ⟨hx, by omega, by omega⟩, by go_num, by go_num, hS3⟩
          case measure => simp [intOf]; omega
        · have dc : decide (c < 0) = false := decide_eq_false (by omega)
          have HL' : Hid (ltA (f pc) (f h) = false) := by rw [← HL.out]; exact dc
          clear HL
          go_upto_region 35 with fail
          refine wp_region_grow [] (fun _ => False) (by kernel_rfl) ?_
          simp only [List.size_toArray, List.length_cons, List.length_nil, Nat.reduceAdd]
          refine wpAnyG_pure 0 158 (v := ?_) rfl (by kernel_rfl) rfl (by rfl) (fun w' => ?_) ?_
          rotate_left
          · go_simp <;> with_reducible rfl
          simp only [List.setIfInBounds_toArray, List.set_cons_zero, List.set_cons_succ]
          refine wpAnyG_pure 1 159 (v := ?_) rfl (by kernel_rfl) rfl (by rfl) (fun w' => ?_) ?_
          rotate_left
          · go_simp <;> with_reducible rfl
          simp only [List.setIfInBounds_toArray, List.set_cons_zero, List.set_cons_succ]
          refine wpAnyG_pure 2 160 (v := ?_) rfl (by kernel_rfl) rfl (by rfl) (fun w' => ?_) ?_
          rotate_left
          · go_simp <;> with_reducible rfl
          simp only [List.setIfInBounds_toArray, List.set_cons_zero, List.set_cons_succ]
          refine wpAnyG_pure 3 161 (v := ?_) rfl (by kernel_rfl) rfl (by rfl) (fun w' => ?_) ?_
          rotate_left
          · go_simp <;> with_reducible rfl
          simp only [List.setIfInBounds_toArray, List.set_cons_zero, List.set_cons_succ]
          refine wpAnyG_pure 4 162 (v := ?_) rfl (by kernel_rfl) rfl (by rfl) (fun w' => ?_) ?_
          rotate_left
          · go_simp <;> with_reducible rfl
          simp only [List.setIfInBounds_toArray, List.set_cons_zero, List.set_cons_succ]
          refine wpAnyG_pure 5 163 (v := ?_) rfl (by kernel_rfl) rfl (by rfl) (fun w' => ?_) ?_
          rotate_left
          · go_simp <;> with_reducible rfl
          simp only [List.setIfInBounds_toArray, List.set_cons_zero, List.set_cons_succ]
          refine wpAnyG_take 6 164 (v := ?_) rfl (by kernel_rfl) rfl (by rfl) (fun w' hG' => ?_) ?_
          rotate_left
          · have hx0 := Grew.cell hG' (show wr.drew.cell? _ = _ from x0)
            have hx1 := Grew.cell hG' (show wr.drew.cell? _ = _ from x1)
            have hx2 := Grew.cell hG' (show wr.drew.cell? _ = _ from x2)
            have hx3 := Grew.cell hG' (show wr.drew.cell? _ = _ from x3)
            go_simp <;> with_reducible rfl
          simp only [List.setIfInBounds_toArray, List.set_cons_zero, List.set_cons_succ]
          refine wpAnyG_pure 7 165 (v := ?_) rfl (by kernel_rfl) rfl (by rfl) (fun w' => ?_) ?_
          rotate_left
          · go_simp <;> with_reducible rfl
          simp only [List.setIfInBounds_toArray, List.set_cons_zero, List.set_cons_succ]
          refine wpAnyG_pure 8 166 (v := ?_) rfl (by kernel_rfl) rfl (by rfl) (fun w' => ?_) ?_
          rotate_left
          · go_simp <;> with_reducible rfl
          simp only [List.setIfInBounds_toArray, List.set_cons_zero, List.set_cons_succ]
          refine wpAnyG_pure 9 167 (v := ?_) rfl (by kernel_rfl) rfl (by rfl) (fun w' => ?_) ?_
          rotate_left
          · go_simp <;> with_reducible rfl
          simp only [List.setIfInBounds_toArray, List.set_cons_zero, List.set_cons_succ]
          refine wpAnyG_take 10 168 (v := ?_) rfl (by kernel_rfl) rfl (by rfl) (fun w' hG' => ?_) ?_
          rotate_left
          · have hx0 := Grew.cell hG' (show wr.drew.cell? _ = _ from x0)
            have hx1 := Grew.cell hG' (show wr.drew.cell? _ = _ from x1)
            have hx2 := Grew.cell hG' (show wr.drew.cell? _ = _ from x2)
            have hx3 := Grew.cell hG' (show wr.drew.cell? _ = _ from x3)
            go_simp <;> with_reducible rfl
          simp only [List.setIfInBounds_toArray, List.set_cons_zero, List.set_cons_succ]
          refine wpAnyG_step 11 169 rfl (by kernel_rfl) rfl (by rfl) (fun K hK' => ?_)
          go_simp
          refine (hC.out _).mono ?_
          rintro e w2 ⟨rfl, k2⟩
          refine hK' _ _ (fun _ => k2) ?_
          clear hK'
          simp only [List.setIfInBounds_toArray, List.set_cons_zero, List.set_cons_succ]
          refine wpAnyG_pure 12 170 (v := ?_) rfl (by kernel_rfl) rfl (by rfl) (fun w' => ?_) ?_
          rotate_left
          · go_simp <;> with_reducible rfl
          simp only [List.setIfInBounds_toArray, List.set_cons_zero, List.set_cons_succ]
          refine wpAnyG_pure 13 171 (v := ?_) rfl (by kernel_rfl) rfl (by rfl) (fun w' => ?_) ?_
          rotate_left
          · go_simp <;> with_reducible rfl
          simp only [List.setIfInBounds_toArray, List.set_cons_zero, List.set_cons_succ]
          refine wpAnyG_done (by kernel_rfl) ?_
          have hS2 := Lib.hid (show _ ∧ _ from ⟨(hS.out.1.grew (Kept.refl (fun _ => False) wr).drew).grew k2, hS.out.2.1.drew.trans k2⟩)
          have hL2 := Lib.hid hS.out.2.2
          clear hS k2 x0 x1 x2 x3 hC
          have hS3 : Hid (RowF w2 g N f ∧ Grew w w2 ∧ Cut f p lo hi (h + 1) y) := ⟨hS2.out.1, hS2.out.2, hL2.out.up hxh.1 hxh.2 HLo.out HUp.out (by rw [HPC.out]; exact HL'.out)⟩
          clear hS2 hL2 HL'
          go_wp2_with fail
          go_roundw
          case rel => exact ⟨h + 1, y, ⟨by omega, by omega, hy⟩, by go_num, by go_num, hS3⟩
          case measure => simp [intOf]; omega
      · obtain rfl : x = y := by omega
        clear HLo HUp
        obtain ⟨e, he⟩ : ∃ e, n - x = e := ⟨_, rfl⟩
        have ee : (n : Int) - (x : Int) = (e : Int) := by omega
        have we : IntKind.i64.wrap (e : Int) = (e : Int) := Go.IntWalk.i64_in _ (by omega)
        have he' : e = mid + m - x := by omega
        have hbd : a ≤ x ∧ x ≤ m ∧ x ≤ mid ∧ m ≤ e ∧ mid ≤ e ∧ e ≤ b := by omega
        obtain ⟨g1, hg1⟩ : ∃ q, rot f x m e = q := ⟨_, rfl⟩
        have HG1 := Lib.hid hg1
        have MP := Lib.hid (merge_parts ham hmb H1.out H2.out HMID.out HP.out he' HLH.out hS.out.2.2)
        rw [hg1] at MP
        have hCut := Lib.hid hS.out.2.2
        have hRow := Lib.hid hS.out.1
        have hGr := Lib.hid hS.out.2.1
        have HE := Lib.hid he'
        have HBD := Lib.hid hbd
        have hrot : Hid (x < m ∧ m < e → Calls Try.prog 68 #[.slice (some ⟨g, 0, none⟩) N cap, i64 x, i64 m, i64 e, (.func (.func 30) #[] #[])] wr fun r w' => r = .returned (.tuple #[]) ∧ RowF w' g N g1 ∧ Kept (· = g) wr w') := fun h => by
          rw [← hg1]
          exact rotate_any g N cap x m e f wr hRow.out h.1 h.2 (by omega) hN
        have hnop : Hid (¬ (x < m ∧ m < e) → f = g1) := fun h => by rw [← hg1]; exact (rot_nop f hbd.2.1 hbd.2.2.2.1 h).symm
        clear hS he he' hg1 hbd
        obtain ⟨b1, hbn⟩ : ∃ bb, decide (x < m ∧ m < e) = bb := ⟨_, rfl⟩
        have HB : Hid (decide (x < m ∧ m < e) = b1) := hbn
        clear hbn
        go_upto_region 39 with fail
        go_cut [185] (fun v wx => v = .bool b1 ∧ wx = wr)
        case first => as_aux_lemma =>
          by_cases r1 : x < m
          · by_cases r2 : m < e
            · obtain rfl : true = b1 := by rw [← HB.out]; exact (decide_eq_true ⟨r1, r2⟩).symm
              have l1 : (x : Int) < (m : Int) := by omega
              have l2 : (m : Int) < (e : Int) := by omega
              go_wp2_with fail
              go_meet
              exact ⟨rfl, rfl⟩
            · obtain rfl : false = b1 := by rw [← HB.out]; exact (decide_eq_false (by omega)).symm
              have l1 : (x : Int) < (m : Int) := by omega
              have l2 : (e : Int) ≤ (m : Int) := by omega
              have l3 : decide (m < e) = false := decide_eq_false r2
              go_wp2_with fail
              go_meet
              exact ⟨rfl, rfl⟩
          · obtain rfl : false = b1 := by rw [← HB.out]; exact (decide_eq_false (by omega)).symm
            have l1 : (m : Int) ≤ (x : Int) := by omega
            have l3 : decide (x < m) = false := decide_eq_false r1
            go_wp2_with fail
            go_meet
            exact ⟨rfl, rfl⟩
        case rest => as_aux_lemma =>
          obtain ⟨rfl, rfl⟩ := hcut
          go_upto_if 185 with fail
          go_cut [] (fun wx => Hid (RowF wx g N g1 ∧ Kept (· = g) w wx))
          case first => as_aux_lemma =>
            cases b1 with
            | true =>
              have r := of_decide_eq_true HB.out
              have hC := Lib.hid (hrot.out r)
              clear hrot hnop r
              go_wp2_with fail
              refine hC.out.mono ?_
              rintro r w2 ⟨rfl, h2, k2⟩
              have hRR : Hid (RowF w2 g N g1 ∧ Kept (· = g) w w2) := ⟨h2, (hGr.out.kept (F := (· = g))).trans k2⟩
              clear h2 k2 hC
              go_wp2_with fail
              go_meet
              exact hRR
            | false =>
              have r := of_decide_eq_false HB.out
              have hRR : Hid (RowF wc g N g1 ∧ Kept (· = g) w wc) := ⟨by rw [← hnop.out r]; exact hRow.out, hGr.out.kept⟩
              clear hrot hnop r
              go_wp2_with fail
              go_meet
              exact hRR
          case rest => as_aux_lemma =>
            have hR1 := Lib.hid hcut.out
            clear hcut hrot hnop HB hRow hGr b1
            have IHA : Hid (a < x ∧ x < mid → Calls Try.prog 61 #[.slice (some ⟨g, 0, none⟩) N cap, i64 a, i64 x, i64 mid, (.func (.func 30) #[] #[])] wc fun r w' => r = .returned (.tuple #[]) ∧ ∃ f', RowF w' g N f' ∧ Kept (· = g) wc w' ∧ Stp g1 f' a mid ∧ Srt f' a mid) := fun h =>
              IH.out a x mid g1 wc hR1.out.1 h.1 h.2 (by omega) (by omega) MP.out.1 MP.out.2.1
            obtain ⟨b2, hbn⟩ : ∃ bb, decide (a < x ∧ x < mid) = bb := ⟨_, rfl⟩
            have HB : Hid (decide (a < x ∧ x < mid) = b2) := hbn
            clear hbn
            go_upto_region 41 with fail
            go_cut [199] (fun v wx => v = .bool b2 ∧ wx = wc)
            case first => as_aux_lemma =>
              by_cases r1 : a < x
              · by_cases r2 : x < mid
                · obtain rfl : true = b2 := by rw [← HB.out]; exact (decide_eq_true ⟨r1, r2⟩).symm
                  have l1 : (a : Int) < (x : Int) := by omega
                  have l2 : (x : Int) < (mid : Int) := by omega
                  go_wp2_with fail
                  go_meet
                  exact ⟨rfl, rfl⟩
                · obtain rfl : false = b2 := by rw [← HB.out]; exact (decide_eq_false (by omega)).symm
                  have l1 : (a : Int) < (x : Int) := by omega
                  have l2 : (mid : Int) ≤ (x : Int) := by omega
                  have l3 : decide (x < mid) = false := decide_eq_false r2
                  go_wp2_with fail
                  go_meet
                  exact ⟨rfl, rfl⟩
              · obtain rfl : false = b2 := by rw [← HB.out]; exact (decide_eq_false (by omega)).symm
                have l1 : (x : Int) ≤ (a : Int) := by omega
                have l3 : decide (a < x) = false := decide_eq_false r1
                go_wp2_with fail
                go_meet
                exact ⟨rfl, rfl⟩
            case rest => as_aux_lemma =>
              obtain ⟨rfl, rfl⟩ := hcut
              go_upto_if 199 with fail
              go_cut [] (fun wx => ∃ g2, Hid (RowF wx g N g2 ∧ Kept (· = g) w wx ∧ Mrg a x mid g1 g2))
              case first => as_aux_lemma =>
                cases b2 with
                | true =>
                  have r := of_decide_eq_true HB.out
                  have hC := Lib.hid (IHA.out r)
                  clear IHA
                  go_wp2_with fail
                  refine hC.out.mono ?_
                  rintro r' w2 ⟨rfl, g2, h2, k2, s2, t2⟩
                  have hRR : Hid (RowF w2 g N g2 ∧ Kept (· = g) w w2 ∧ Mrg a x mid g1 g2) := ⟨h2, hR1.out.2.trans k2, .inl ⟨r.1, r.2, s2, t2⟩⟩
                  clear h2 k2 s2 t2 hC r
                  go_wp2_with fail
                  go_meet
                  exact ⟨g2, hRR⟩
                | false =>
                  have r := of_decide_eq_false HB.out
                  have hRR : Hid (RowF wc g N g1 ∧ Kept (· = g) w wc ∧ Mrg a x mid g1 g1) := ⟨hR1.out.1, hR1.out.2, .inr ⟨r, rfl⟩⟩
                  clear IHA r
                  go_wp2_with fail
                  go_meet
                  exact ⟨g1, hRR⟩
              case rest => as_aux_lemma =>
                obtain ⟨g2, hR2⟩ := hcut
                have e2 := Lib.hid hR2.out.2.2
                have same2 : Hid (∀ k, mid ≤ k → g2 k = g1 k) := fun k hk => by
                  rcases e2.out with ⟨_, _, s, _⟩ | ⟨_, s⟩
                  · exact s.out k (.inr hk)
                  · rw [s]
                clear HB b2 hR1
                have IHB : Hid (mid < e ∧ e < b → Calls Try.prog 61 #[.slice (some ⟨g, 0, none⟩) N cap, i64 mid, i64 e, i64 b, (.func (.func 30) #[] #[])] wc fun r w' => r = .returned (.tuple #[]) ∧ ∃ f', RowF w' g N f' ∧ Kept (· = g) wc w' ∧ Stp g2 f' mid b ∧ Srt f' mid b) := fun h =>
                  IH.out mid e b g2 wc hR2.out.1 h.1 h.2 hb (by omega) (MP.out.2.2.1.same fun k k1 _ => same2.out k k1) (MP.out.2.2.2.same fun k k1 _ => same2.out k (by omega))
                obtain ⟨b3, hbn⟩ : ∃ bb, decide (mid < e ∧ e < b) = bb := ⟨_, rfl⟩
                have HB : Hid (decide (mid < e ∧ e < b) = b3) := hbn
                clear hbn
                go_upto_region 43 with fail
                go_cut [213] (fun v wx => v = .bool b3 ∧ wx = wc)
                case first => as_aux_lemma =>
                  by_cases r1 : mid < e
                  · by_cases r2 : e < b
                    · obtain rfl : true = b3 := by rw [← HB.out]; exact (decide_eq_true ⟨r1, r2⟩).symm
                      have l1 : (mid : Int) < (e : Int) := by omega
                      have l2 : (e : Int) < (b : Int) := by omega
                      go_wp2_with fail
                      go_meet
                      exact ⟨rfl, rfl⟩
                    · obtain rfl : false = b3 := by rw [← HB.out]; exact (decide_eq_false (by omega)).symm
                      have l1 : (mid : Int) < (e : Int) := by omega
                      have l2 : (b : Int) ≤ (e : Int) := by omega
                      have l3 : decide (e < b) = false := decide_eq_false r2
                      go_wp2_with fail
                      go_meet
                      exact ⟨rfl, rfl⟩
                  · obtain rfl : false = b3 := by rw [← HB.out]; exact (decide_eq_false (by omega)).symm
                    have l1 : (e : Int) ≤ (mid : Int) := by omega
                    have l3 : decide (mid < e) = false := decide_eq_false r1
                    go_wp2_with fail
                    go_meet
                    exact ⟨rfl, rfl⟩
                case rest => as_aux_lemma =>
                  obtain ⟨rfl, rfl⟩ := hcut
                  go_upto_if 213 with fail
                  have hFin : Hid (∀ g3 w2, RowF w2 g N g3 → Kept (· = g) w w2 → Mrg mid e b g2 g3 → ∃ f', RowF w2 g N f' ∧ Kept (· = g) w w2 ∧ Stp f f' a b ∧ Srt f' a b) := fun g3 w2 q1 q2 q3 =>
                    ⟨g3, q1, q2, merge_join ham hmb H1.out H2.out HMID.out HP.out HE.out HLH.out hCut.out HG1.out.symm e2.out q3⟩
                  clear MP same2 e2 hCut H1 H2 HMID HP HE HLH HG1
                  cases b3 with
                  | true => as_aux_lemma =>
                    have r := of_decide_eq_true HB.out
                    have hC := Lib.hid (IHB.out r)
                    clear IHB
                    go_wp2_with fail
                    refine hC.out.mono ?_
                    rintro r' w2 ⟨rfl, g3, h2, k2, s2, t2⟩
                    have hRR := Lib.hid (hFin.out g3 w2 h2 (hR2.out.2.1.trans k2) (.inl ⟨r.1, r.2, s2, t2⟩))
                    clear h2 k2 s2 t2 hC r hFin
                    go_wp2_with fail
                    go_end0
                    exact ⟨rfl, hRR.out⟩
                  | false => as_aux_lemma =>
                    have r := of_decide_eq_false HB.out
                    have hRR := Lib.hid (hFin.out g2 wc hR2.out.1 hR2.out.2.1 (.inr ⟨r, rfl⟩))
                    clear IHB r hFin
                    go_wp2_with fail
                    go_end0
                    exact ⟨rfl, hRR.out⟩
end Go.Proofs.Ythbcgdogmkgebaa
