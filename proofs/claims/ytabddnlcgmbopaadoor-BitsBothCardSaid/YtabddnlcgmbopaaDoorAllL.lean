/- The numbers that come of a set: the law's all. -/
import Derived.Test.YtabddnlcgmbopaaDoorAll
namespace Go.Proofs.YtabddnlcgmbopaaDoor
open Go.RowKit Go.Shelf
attribute [local go_sem] Oper.semAt_some

theorem OwnI.base {w : World} {B B' : Nat} {v : Value} {zs : List Int} (h : OwnI w B v zs) (hB : B' ≤ B) : OwnI w B' v zs := by
  refine ⟨h.1, ?_⟩
  rcases h.2 with h | ⟨g, cap, cur, hv, hb, hg⟩
  · exact .inl h
  · exact .inr ⟨g, cap, cur, hv, Nat.le_trans hB hb, hg⟩
theorem own_type {w : World} {base n size : Nat} {e : TypeId} {v : Value} {xs : List Value} (h : w.ownsRow base e size v n xs) {k : Nat} (hk : v.ownBlock = some k) : base ≤ k ∧ ∃ cur, w.heap[k]? = some (.cells cur e (0, 0)) := by
  rcases h.2 with ⟨rfl, _⟩ | ⟨g, cap, cur, rfl, hb, hg, _⟩
  · cases hk
  · obtain rfl : g = k := Option.some.inj hk
    exact ⟨hb, cur, hg⟩
theorem own_box {w : World} {base n size : Nat} {e : TypeId} {v : Value} {xs : List Value} (h : w.ownsRow base e size v n xs) {B : Nat} (hB : B < base) : some B ≠ v.ownBlock := fun hk => by
  have := (own_type h hk.symm).1
  omega

set_option maxRecDepth 100000 in
set_option maxHeartbeats 4000000 in
theorem all_of (p : Option Addr) (zs : List Int) (N : Nat) (Sp : List Int → Prop) (w : World) (hN : N ≤ 70000)
    (hstop : ∀ (m : Nat) (W : World) (Bs : Nat) (F : Nat → Prop), Grew w W → Bs < W.heap.size → W.cell? ⟨Bs, 0, none⟩ = some (.pointer p) → (∀ k, F k → w.heap.size ≤ k ∧ k < W.heap.size) →
      SeqStopsK Fence.wide m Tryd.prog 28 #[.pointer (some ⟨Bs, 0, none⟩)] oneI (KeptC W.heap.size F) (fun xs => xs = zs) Sp N W) :
    Calls Tryd.prog 14 #[.pointer p] w fun e w' => ∃ v, e = .returned v ∧ OwnI w' w.heap.size v zs ∧ Grew w w' := by
  obtain ⟨i0, hi, hz0, hz1, hz2⟩ := info_parts info_int
  have hM := Lib.hid (all_made p)
  have hq := func_nil
  refine (callsIn_wide (n := 9)).1 ?_
  refine callsIn_of_wp_marks Tryd.func14 rfl trivial ?_ rfl
  simp only [Tryd.ntmps14, List.size_toArray, List.length_cons, List.length_nil, Nat.reduceAdd, Nat.reduceSub, Array.replicate_succ, Array.replicate_zero, List.push_toArray, List.append_toArray, List.nil_append, List.cons_append]
  refine wpIn_wide.2 ?_
  go_wp2_with fail
  refine (hM.out _).mono ?_
  rintro e w2 ⟨rfl, rfl⟩
  go_wp2_with fail
  obtain ⟨W0, hW0⟩ : ∃ W0, (w.alloc (.cells #[.slice none 0 0] 22)).alloc (.cells #[.pointer p] 25) = W0 := ⟨_, rfl⟩
  have k0 : Grew w W0 := by rw [← hW0]; exact ((Kept.refl _ _).alloc _).alloc _
  have T0 : Blk W0 w.heap.size 22 #[.slice none 0 0] := by rw [← hW0]; exact (Blk.new w _ _).alloc _
  have T1 : Blk W0 (w.heap.size + 1) 25 #[.pointer p] := by
    rw [← hW0]
    have h := Blk.new (w.alloc (.cells #[.slice none 0 0] 22)) 25 #[.pointer p]
    rw [World.size_alloc] at h; exact h
  have hz : W0.heap.size = w.heap.size + 2 := by rw [← hW0]; simp
  rw [hW0]
  clear hW0
  refine (wpIn_wide (n := 9)).1 ?_
  refine wpIn_rangeFunc_ownF rfl (by omega) (gf := 28) (lb := #[.pointer (some ⟨w.heap.size + 1, 0, none⟩)]) rfl trivial (enters_of Tryd.func28 (by kernel_rfl) rfl)
    (hstop _ W0 (w.heap.size + 1) (fun j => j = w.heap.size) k0 (by omega) (T1.cell 0) (fun k hk => by omega)) KeptC.trans (fun W l o o' _ hl ho _ => KeptC.put W l o o' hl ho) (Below.refl _ _) (fun _ => rfl)
    (fun pre W => ∃ v, Blk W w.heap.size 22 #[v] ∧ W.ownsRow (w.heap.size + 2) 3 1 v pre.length (pre.map i64) ∧ Grew w W ∧ w.heap.size + 2 ≤ W.heap.size)
    (fun _ _ _ => False)
    ?inv
    (fun _ => own_pure _)
    ⟨_, T0, World.ownsRow_nil _ _ _ _, k0, by omega⟩ ?a1 ?assign ?body ?done ?stop
  case inv =>
    intro s A B row hs hg hr
    obtain ⟨v, h1, h2, h3, h4⟩ := hs
    refine ⟨v, own_blk _ _ _ (fun _ => #[v]) s A B row h1 hg hr, own_row _ _ _ _ (fun _ => v) (fun s : List Int => s.length) (fun s => s.map i64) s A B row h2 hg hr, own_grew (by omega) s A B row h3 hg hr, Nat.le_trans h4 hg.size⟩
  case assign =>
    intro l x W K hK
    gi_wp2
    exact hK
  case body =>
    rintro l pre x W ⟨v, b0, hown, hK, hsz⟩ hlen
    have c0 := b0.cell 0
    have f0 := b0.frozen 0
    simp at c0
    have hb1 := own_box hown (B := w.heap.size) (by omega)
    have hv := Lib.hid b0
    have HO := Lib.hid hown
    have HK := Lib.hid hK
    clear b0 hK
    gi_wp2_with (gi_at_builtin; refine wpListIn_append_own _ rfl _ _ 22 rfl (w.heap.size + 2) 3 i0 (.int .i64 0) 1 8 Tryd.underlying22 hi hz0 hz1 hz2 rfl (by decide) _ _ _ rfl (hown.alloc _) ⟨W.heap.size, 0, none⟩ 1 1 [i64 x] rfl rfl (cell_one_new _ _ _) (by simp [Value.oneCell']) (by unfold maxLen; omega) (by omega) (by simp; omega) ?_; intro v' w1 hown' hgrow _; obtain ⟨g', cap', rfl⟩ := ownsRow_succ hown'; have b1 := ((hv.out.alloc (.cells #[i64 x] 3)).grown hgrow hb1); have c1 := b1.cell 0; have f1 := b1.frozen 0; simp at c1)
    have KR : Kept (fun k => v.ownBlock = some k ∨ k = w.heap.size) W w1 := ((Kept.refl _ W).alloc _).grown hgrow (fun k hk => .inl (.inl hk))
    have KS := KR.setCell (p := ⟨w.heap.size, 0, none⟩) (.inl (.inr rfl)) (.slice (some ⟨g', 0, none⟩) (pre.length + 1) cap')
    have hvB := hv.out
    refine ⟨KS.others (fun k hk o ho => ?_), KS.keptC (fun k cs fr hk hf => ?_) (fun k cs t fr hk hf => ?_), _, b1.set 0 _, ?_, ?_, ?_⟩
    · rcases hk with h | rfl
      · obtain ⟨_, cur, hc⟩ := own_type HO.out h
        rw [hc] at ho
        cases ho; rfl
      · exact hvB.iscells o ho
    · rcases hf with h | rfl
      · exact .inl (by have := (own_type HO.out h).1; omega)
      · exact .inr rfl
    · rcases hf with h | rfl
      · obtain ⟨_, cur, hc⟩ := own_type HO.out h
        rw [hc] at hk
        cases hk
        exact .inl rfl
      · exact .inr rfl
    · have h1 : w1.ownsRow (w.heap.size + 2) 3 1 (.slice (some ⟨g', 0, none⟩) (pre.length + 1) cap') (pre ++ [x]).length ((pre ++ [x]).map i64) := by simpa using hown'
      have hbx := own_box h1 (B := w.heap.size) (by omega)
      exact Kept.own ((Kept.refl (fun k => k = w.heap.size) w1).setCell (p := ⟨w.heap.size, 0, none⟩) (.inl rfl) _) h1 (fun k hk h => hbx (by rw [hk, h]))
    · exact HK.out.then KS fun i hi h => by
        rcases h with h | h
        · have := (own_type HO.out h).1
          omega
        · omega
    · exact Nat.le_trans hsz KS.size
  case stop =>
    rintro D c pre W _ _ h _
    exact h.elim
  case done =>
    rintro D ys W hD rfl ⟨v, b0, hown, hK, hsz⟩ hDd
    have c0 := b0.cell 0
    simp at c0
    clear hq hM
    go_wp2_with fail
    refine ⟨by simp, .inl ⟨_, _, rfl, run_takeDeferred hDd, ?_⟩⟩
    exact ⟨_, results_tmp rfl _ _ _, v, rfl, OwnI.base (B := w.heap.size + 2) (ownsRow_putObj hown _ hDd rfl) (by omega), hK.putObj D _ (.inr (by omega))⟩

theorem all_any (w : World) (S n : Nat) (v : Value) (f : Nat → Bool) (s : SetF w S n v f) (hT : TabB w) : Calls Tryd.prog 14 #[pt S] w fun e w' => ∃ u, e = .returned u ∧ OwnI w' w.heap.size u (insI f n) ∧ Grew w w' := by
  obtain ⟨ws, s, hf⟩ := s
  have hl := s.len
  have hsm := s.small
  rw [← seqI_all s hf]
  refine all_of (some ⟨S, 0, none⟩) _ (64 * ws.length) _ w (by omega) (fun m W Bs F k hB hc hF => stops_any m Bs S n v ws F W (fun k hk => (hF k hk).2) (fun h => ?_) hB hc (s.grew k) (hT.grew k))
  have := (hF 0 h).1
  have := hT.lt
  omega
theorem all_nil (w : World) : Calls Tryd.prog 14 #[.pointer none] w fun e w' => ∃ u, e = .returned u ∧ OwnI w' w.heap.size u [] ∧ Grew w w' :=
  all_of none _ 0 _ w (by omega) (fun m W Bs F _ hB hc _ => stops_nil m Bs W F hB hc)
end Go.Proofs.YtabddnlcgmbopaaDoor
