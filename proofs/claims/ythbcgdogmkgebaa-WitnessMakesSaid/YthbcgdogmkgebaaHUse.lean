/- The heap: New, Clear, Pop; and what each call does to a heap that is in order. -/
import Derived.Test.YthbcgdogmkgebaaHDrop
import Derived.Test.YthbcgdogmkgebaaHPlain2
namespace Go.Proofs.Ythbcgdogmkgebaa.Hp
open Go.RowKit

theorem new_no (n : Int) (w : World) (h : n < 0 ∨ 65536 < n) : Calls Try.prog 39 #[i64 n] w fun e w' => e = .returned (.pointer none) ∧ w = w' := by
  rcases Int.lt_or_le n 0 with h0 | h0
  · clear h
    go_enter Try.func39, Try.ntmps39
    go_wp2_with fail
    go_ret
    exact ⟨rfl, rfl⟩
  · have h1 : 65536 < n := by omega
    clear h
    go_enter Try.func39, Try.ntmps39
    go_wp2_with fail
    go_ret
    exact ⟨rfl, rfl⟩
theorem info_int : (Try.prog.info? 3).map (fun i => (i.zero, i.size, i.bytes)) = some (some (i64 0), 1, 8) := by kernel_rfl
theorem made_zero (n : Nat) : madeCells #[i64 0] n = ((List.replicate n (0 : Int)).map i64).toArray := by
  apply Array.ext
  · simp [size_madeCells]
  · intro i h1 h2
    simp [madeCells, Value.cells, Nat.mod_one]
set_option maxRecDepth 100000 in
set_option maxHeartbeats 1000000 in
theorem new_any (n : Nat) (w : World) (hn : n ≤ 65536) : Calls Try.prog 39 #[i64 (n : Int)] w fun e w' => e = .returned (pt (w.heap.size + 1)) ∧ ∃ a, Heap w' (w.heap.size + 1) w.heap.size n (.slice none 0 0) [] a ∧ (∀ p, p < n → a[p]? = some (-1)) ∧ Grew w w' := by
  obtain ⟨i0, hi, hz0, hz1, hz2⟩ := info_parts info_int
  have hmk := run_make (P := Try.prog) w 77 3 i0 _ Try.underlying77 hi hz0 .i64 .i64 (n : Int) (n : Int) (by omega) (Int.le_refl _) (by rw [hz2]; omega) (by omega)
  rw [Int.toNat_natCast, hz1, Nat.mul_one] at hmk
  have n0 : (0 : Int) ≤ (n : Int) := by omega
  have n1 : (n : Int) ≤ 65536 := by omega
  have bA := Blk.new w 3 (madeCells #[i64 0] n)
  have hK : Grew w (w.alloc (.cells (madeCells #[i64 0] n) 3)) := (Kept.refl _ _).alloc _
  obtain ⟨w1, hw1⟩ : ∃ w1, w.alloc (.cells (madeCells #[i64 0] n) 3) = w1 := ⟨_, rfl⟩
  have hs1 : w1.heap.size = w.heap.size + 1 := by rw [← hw1]; simp
  rw [hw1] at bA hK
  rw [made_zero] at bA
  have bH := Blk.new w1 93 #[.slice none 0 0, .slice (some ⟨w.heap.size, 0, none⟩) n n]
  rw [hs1] at bH
  have bA2 := bA.alloc (.cells #[.slice none 0 0, .slice (some ⟨w.heap.size, 0, none⟩) n n] 93)
  have hK2 := hK.alloc (.cells #[.slice none 0 0, .slice (some ⟨w.heap.size, 0, none⟩) n n] 93)
  have S0 : Hid (Heap (w1.alloc (.cells #[.slice none 0 0, .slice (some ⟨w.heap.size, 0, none⟩) n n] 93)) (w.heap.size + 1) w.heap.size n (.slice none 0 0) [] (List.replicate n (0 : Int))) :=
    Lib.hid ⟨bH, bA2, World.ownsRow_nil _ _ _ _, by omega, by simp, by simp, hn⟩
  obtain ⟨w2, hw2⟩ : ∃ w2, w1.alloc (.cells #[.slice none 0 0, .slice (some ⟨w.heap.size, 0, none⟩) n n] 93) = w2 := ⟨_, rfl⟩
  rw [hw2] at S0 hK2 bH
  have hc := bH.cell 1
  simp at hc
  have hs := Lib.hid hs1
  clear bA bA2 hK
  go_enter Try.func39, Try.ntmps39
  go_wp2_with fail
  go_loopw [4, 20] (fun _ i wr => ∃ (k : Nat) (a : List Int), i = .int .i64 k ∧ k ≤ n ∧ Hid (Heap wr (w.heap.size + 1) w.heap.size n (.slice none 0 0) [] a) ∧ Hid (∀ p, p < k → a[p]? = some (-1)) ∧ Grew w wr) (fun _ i _ => n - (intOf i).toNat)
  case atStart => exact ⟨0, _, rfl, by omega, S0, Lib.hid (fun p hp => absurd hp (by omega)), hK2⟩
  case round =>
    clear S0 hK2 hc bH hw1 hw2
    obtain ⟨k, a, rfl, hk, S1, hA, hK⟩ := hrel
    by_cases hlt : k < n
    · have bH := S1.out.box.cell 1
      obtain ⟨x, hx⟩ : ∃ x, a[k]? = some x := ⟨_, List.getElem?_eq_getElem (by rw [S1.out.len]; exact hlt)⟩
      have hp := S1.out.place hx
      have hf := S1.out.arr.frozen k
      simp at bH
      clear hx
      go_wp2_with fail
      go_roundw
      case rel => exact ⟨k + 1, _, by go_num, by omega, Lib.hid (S1.out.mark k (-1)), Lib.hid (fun p hp => by
        rw [List.getElem?_set]
        split
        · rw [if_pos (by rw [S1.out.len]; omega)]
        · exact hA.out p (by omega)), hK.setCell (p := ⟨w.heap.size, k, none⟩) (.inr (Nat.le_refl _)) _⟩
      case measure => simp [intOf]; omega
    · obtain rfl : k = n := by omega
      go_wp2_with fail
      go_ret
      exact ⟨rfl, a, S1.out, hA.out, hK⟩

theorem Kept.set_drew {F : Nat → Prop} {w : World} {p : Addr} (h : F p.block) (u : Value) : Kept F w.drew (w.setCell p u).drew := by
  have k := (Kept.refl F w).setCell (p := p) (.inl h) u
  exact ⟨k.os, k.tape, k.output, k.size, k.block⟩
/-- Heap H has the items l, in order. -/
def Hp (w : World) (H A N : Nat) (v : Value) (l : List Itm) : Prop := ∃ a, Heap w H A N v l a ∧ Good N l a
theorem Hp.kept {F : Nat → Prop} {w w' : World} {H A N : Nat} {v : Value} {l : List Itm} (s : Hp w H A N v l) (k : Kept F w w') (hF : ∀ j, HB H A v j → ¬ F j) : Hp w' H A N v l := by
  obtain ⟨a, h, g⟩ := s
  exact ⟨a, h.kept k hF, g⟩
theorem Hp.grew {w w' : World} {H A N : Nat} {v : Value} {l : List Itm} (s : Hp w H A N v l) (k : Grew w w') : Hp w' H A N v l := s.kept k fun _ _ h => h
/-- What a call on a heap does: the heap goes on, and nothing else turns. -/
structure Turn (w w' : World) (H A N : Nat) (v v' : Value) (l' : List Itm) : Prop where
  hp : Hp w' H A N v' l'
  kept : Kept (HB H A v) w w'
  old : ∀ j, j < w.heap.size → v'.ownBlock = some j → v.ownBlock = some j
theorem Hp.rng {w : World} {H A N : Nat} {v : Value} {l : List Itm} (s : Hp w H A N v l) : Rng N l := by
  obtain ⟨a, _, g⟩ := s
  exact g.1.rng
theorem Hp.one {w : World} {H A N : Nat} {v : Value} {l : List Itm} (s : Hp w H A N v l) {i j : Nat} {e f : Itm} (hi : l[i]? = some e) (hj : l[j]? = some f) (hv : e.1 = f.1) : i = j := by
  obtain ⟨a, _, g⟩ := s
  exact g.1.at_inj hi hj hv
/-- A row of another type is no block of the heap. -/
theorem Hp.apart {w : World} {H A N : Nat} {v : Value} {l : List Itm} (s : Hp w H A N v l) {g : Nat} {t : TypeId} {cs : Array Value} {r : Nat × Nat} (h : w.heap[g]? = some (.cells cs t r)) (h1 : t ≠ 93) (h2 : t ≠ 3) (h3 : t ≠ 99) : ¬ HB H A v g := by
  obtain ⟨a, s, _⟩ := s
  rintro (rfl | rfl | h4)
  · have := s.box.symm.trans h
    simp at this
    exact h1 this.2.1.symm
  · have := s.arr.symm.trans h
    simp at this
    exact h2 this.2.1.symm
  · rcases s.row.2 with ⟨h, _⟩ | ⟨g1, cap, cur, hv, hb, hg, _⟩
    · rw [h] at h4; cases h4
    · rw [hv] at h4
      obtain rfl : g1 = g := Option.some.inj (show some g1 = some g from h4)
      have := hg.symm.trans h
      simp at this
      exact h3 this.2.1.symm

theorem drop_not (w : World) (H A N : Nat) (v : Value) (l : List Itm) (s : Hp w H A N v l) (x : Int) (hx : ∀ e ∈ l, e.1 ≠ x) : Calls Try.prog 57 #[pt H, i64 x] w fun r w' => r = .returned (.bool false) ∧ w = w' := by
  obtain ⟨a, s, g⟩ := s
  by_cases h : x < 0 ∨ (N : Int) ≤ x
  · exact drop_out w H A N v l a s x h
  · obtain ⟨p, rfl⟩ := Int.eq_ofNat_of_zero_le (show 0 ≤ x by omega)
    exact drop_no w H A N v l a s p (g.1.gone p (by omega) hx)
theorem drop_has (w : World) (H A N : Nat) (v : Value) (l : List Itm) (s : Hp w H A N v l) (i : Nat) (e : Itm) (he : l[i]? = some e) : Calls Try.prog 57 #[pt H, i64 e.1] w fun r w' => r = .returned (.bool true) ∧ ∃ v' l', l'.Perm (l.eraseIdx i) ∧ Turn w w' H A N v v' l' := by
  obtain ⟨a, s, g⟩ := s
  obtain ⟨p, hp, _, hat⟩ := g.1.num he
  rw [hp]
  have hil := get_lt he
  by_cases hi : i + 1 = l.length
  · refine (drop_last w H A N v l a s p i hat hi).mono ?_
    rintro r w' ⟨rfl, v', s', k, hv⟩
    obtain ⟨h1, h2⟩ := drop_last_law g he hp hi
    exact ⟨rfl, v', _, h2, ⟨_, s', h1⟩, k, fun j _ h => by rw [← hv]; exact h⟩
  · obtain ⟨x, hx⟩ : ∃ x, l[l.length - 1]? = some x := ⟨_, List.getElem?_eq_getElem (by omega)⟩
    refine (drop_in w H A N v l a s g.1.rng p i x hat (by omega) hx).mono ?_
    rintro r w' ⟨rfl, v', s', k, hv⟩
    obtain ⟨h1, h2⟩ := drop_in_law g he hp (by omega) hx
    exact ⟨rfl, v', _, h2, ⟨_, s', h1⟩, k, fun j _ h => by rw [← hv]; exact h⟩
theorem put_false (w : World) (H A N : Nat) (v : Value) (l : List Itm) (s : Hp w H A N v l) (x key : Int) (h : x < 0 ∨ (N : Int) ≤ x ∨ ∃ e ∈ l, e.1 = x ∧ e.2 ≤ key) : Calls Try.prog 41 #[pt H, i64 x, u64 key] w fun r w' => r = .returned (.bool false) ∧ Grew w w' := by
  obtain ⟨a, s, g⟩ := s
  by_cases h0 : x < 0
  · refine (put_out0 w H A N v l a s x key h0).mono ?_
    rintro r w' ⟨rfl, rfl⟩
    exact ⟨rfl, Kept.refl _ _⟩
  · by_cases h1 : (N : Int) ≤ x
    · refine (put_out1 w H A N v l a s x key h1).mono ?_
      rintro r w' ⟨rfl, rfl⟩
      exact ⟨rfl, Kept.refl _ _⟩
    · obtain ⟨e, he, rfl, hk⟩ : ∃ e ∈ l, e.1 = x ∧ e.2 ≤ key := by
        rcases h with h | h | h
        · exact absurd h h0
        · exact absurd h h1
        · exact h
      obtain ⟨i, hi⟩ := List.getElem?_of_mem he
      obtain ⟨p, hp, _, hat⟩ := g.1.num hi
      rw [hp]
      exact put_keep w H A N v l a s p i key e hat hi hk
theorem put_less2 (w : World) (H A N : Nat) (v : Value) (l : List Itm) (s : Hp w H A N v l) (i : Nat) (e : Itm) (key : Int) (he : l[i]? = some e) (hk : key < e.2) : Calls Try.prog 41 #[pt H, i64 e.1, u64 key] w fun r w' => r = .returned (.bool true) ∧ ∃ v' l', l'.Perm (l.set i (e.1, key)) ∧ Turn w w' H A N v v' l' := by
  obtain ⟨a, s, g⟩ := s
  obtain ⟨p, hp, _, hat⟩ := g.1.num he
  rw [hp]
  refine (put_less w H A N v l a s g.1.rng p i key e hat he hk).mono ?_
  rintro r w' ⟨rfl, s', k⟩
  have h := put_less_law g he hp hk
  exact ⟨rfl, v, _, h.perm, ⟨_, s', h.good⟩, k, fun j _ h => h⟩
theorem put_new2 (w : World) (H A N : Nat) (v : Value) (l : List Itm) (s : Hp w H A N v l) (x key : Int) (h0 : 0 ≤ x) (h1 : x < (N : Int)) (hx : ∀ e ∈ l, e.1 ≠ x) : Calls Try.prog 41 #[pt H, i64 x, u64 key] w fun r w' => r = .returned (.bool true) ∧ ∃ v' l', l'.Perm (l ++ [(x, key)]) ∧ Turn w w' H A N v v' l' := by
  obtain ⟨a, s, g⟩ := s
  obtain ⟨p, rfl⟩ := Int.eq_ofNat_of_zero_le h0
  have hpN : p < N := by omega
  have hfew := g.1.fewer hpN hx
  have hsm := s.small
  refine (put_new w H A N v l a s g.1.rng p key (g.1.gone p hpN hx) (by omega)).mono ?_
  rintro r w' ⟨rfl, v', s', k, hv⟩
  have h := put_new_law g p key hpN hx
  exact ⟨rfl, v', _, h.perm, ⟨_, s', h.good⟩, k, hv⟩
theorem new2 (n : Nat) (w : World) (hn : n ≤ 65536) : Calls Try.prog 39 #[i64 (n : Int)] w fun e w' => e = .returned (pt (w.heap.size + 1)) ∧ Hp w' (w.heap.size + 1) w.heap.size n (.slice none 0 0) [] ∧ Grew w w' := by
  refine (new_any n w hn).mono ?_
  rintro r w' ⟨rfl, a, s, h, k⟩
  exact ⟨rfl, ⟨a, s, Good.nil s.len h⟩, k⟩
theorem len2 (w : World) (H A N : Nat) (v : Value) (l : List Itm) (s : Hp w H A N v l) : Calls Try.prog 65 #[pt H] w fun e w' => e = .returned (i64 l.length) ∧ w = w' := by
  obtain ⟨a, s, g⟩ := s
  exact len_any w H A N v l a s
theorem top2 (w : World) (H A N : Nat) (v : Value) (l : List Itm) (s : Hp w H A N v l) (e : Itm) (he : e ∈ l) (hm : ∀ f ∈ l, ¬ lessI f e = true) : Calls Try.prog 56 #[pt H] w fun r w' => r = .returned (.tuple #[i64 e.1, u64 e.2, .bool true]) ∧ Grew w w' := by
  obtain ⟨a, s, g⟩ := s
  obtain ⟨i, hi⟩ := List.getElem?_of_mem he
  have hil := get_lt hi
  obtain ⟨f, hf⟩ : ∃ f, l[0]? = some f := ⟨_, List.getElem?_eq_getElem (by omega)⟩
  obtain rfl : e = f := less_total (top_law g.2 hf i e hi) (hm f (List.mem_of_getElem? hf))
  exact top_some w H A N v l a s e hf
theorem top2_none (w : World) (H A N : Nat) (v : Value) (s : Hp w H A N v []) : Calls Try.prog 56 #[pt H] w fun r w' => r = .returned (.tuple #[i64 0, u64 0, .bool false]) ∧ w = w' := by
  obtain ⟨a, s, g⟩ := s
  exact top_none w H A N v a s

theorem pop_nil (w : World) : Calls Try.prog 42 #[.pointer none] w fun e w' => e = .returned (.tuple #[i64 0, u64 0, .bool false]) ∧ w = w' := by
  have hT := Lib.hid (top_nil w)
  go_enter Try.func42, Try.ntmps42
  go_wp2_with fail
  refine hT.out.mono ?_
  rintro r w1 ⟨rfl, rfl⟩
  go_wp2_with fail
  go_ret3
  exact ⟨rfl, rfl⟩
theorem pop_none (w : World) (H A N : Nat) (v : Value) (s : Hp w H A N v []) : Calls Try.prog 42 #[pt H] w fun e w' => e = .returned (.tuple #[i64 0, u64 0, .bool false]) ∧ w = w' := by
  have hT := Lib.hid (top2_none w H A N v s)
  go_enter Try.func42, Try.ntmps42
  go_wp2_with fail
  refine hT.out.mono ?_
  rintro r w1 ⟨rfl, rfl⟩
  go_wp2_with fail
  go_ret3
  exact ⟨rfl, rfl⟩
theorem pop_some (w : World) (H A N : Nat) (v : Value) (l : List Itm) (s : Hp w H A N v l) (i : Nat) (e : Itm) (he : l[i]? = some e) (hm : ∀ f ∈ l, ¬ lessI f e = true) : Calls Try.prog 42 #[pt H] w fun r w' => r = .returned (.tuple #[i64 e.1, u64 e.2, .bool true]) ∧ ∃ v' l', l'.Perm (l.eraseIdx i) ∧ Turn w w' H A N v v' l' := by
  have hT := Lib.hid (top2 w H A N v l s e (List.mem_of_getElem? he) hm)
  have hS := Lib.hid s
  have HE := Lib.hid he
  clear s he hm
  go_enter Try.func42, Try.ntmps42
  go_wp2_with fail
  refine hT.out.mono ?_
  rintro r w1 ⟨rfl, k1⟩
  have hD := Lib.hid (drop_has w1 H A N v l (hS.out.grew k1) i e HE.out)
  go_wp2_with fail
  refine hD.out.mono ?_
  rintro r w2 ⟨rfl, v', l', hp, ht⟩
  go_wp2_with fail
  go_ret3
  exact ⟨rfl, v', l', hp, ht.hp, k1.kept.trans ht.kept, fun j hj h => ht.old j (Nat.lt_of_lt_of_le hj k1.size) h⟩
end Go.Proofs.Ythbcgdogmkgebaa.Hp
