/- The arguments of BytesofBack opened. -/
import Derived.Test.YtjbjomodponapaaBackLaw
import Derived.Test.YtjbjomodponapaaOpenGraph
import Derived.WalkKit
import Derived.ProofKit
import Derived.OpenShut
import Derived.ShutString
import Derived.ChangeOld
import Derived.Below
namespace Go.Proofs.Ytjbjomodponapaa
open Go.ChangeShapes Go.WideShapes Go.ChangeAt Go.RowKit Go.Deep Go.Joins

theorem cell_lt {P : Program} {w : World} {r : Reach} {base : Nat} {u : TypeId} {a : Addr} {len cap : Nat} (h : Cell.okWide P w r base u (.slice (some a) len cap)) : a.block < w.heap.size := by
  have key : ∀ e n, w.has P r base a e n → a.block < w.heap.size := fun e n h => by
    obtain ⟨_, _, row, cells, hs, _⟩ := h
    unfold World.shape? at hs
    split at hs
    · rename_i hh
      exact (Array.getElem?_eq_some_iff.1 hh).1
    · cases hs
  cases hu : P.underlying u with
  | none => simp [Cell.okWide, Cell.ok, hu] at h
  | some t =>
    cases t <;> simp [Cell.okWide, Cell.ok, hu] at h
    exact key _ _ h.2.2
theorem agg_lt {P : Program} {w : World} {r : Reach} {base : Nat} {t : TypeId} {cs : Array Value} {i : Nat} {a : Addr} {len cap : Nat} {fs : Array Field} (ht : P.underlying t = some (.struct fs)) (h : Value.okWide P w r base t (.agg cs)) (hi : cs[i]? = some (.slice (some a) len cap)) : a.block < w.heap.size := by
  simp only [Value.okWide, ht] at h
  obtain ⟨cs', he, _, ts, _, _, hr⟩ := h
  cases he
  obtain ⟨u, _, hu⟩ := hr i _ hi
  exact cell_lt hu
theorem arg_lt {P : Program} {w : World} {r : Reach} {base : Nat} {t e : TypeId} {a : Addr} {len cap : Nat} (ht : P.underlying t = some (.slice e)) (h : Value.okWide P w r base t (.slice (some a) len cap)) : a.block < w.heap.size := by
  simp only [Value.okWide, ht] at h
  exact cell_lt h
theorem open_bytes {H : Type} {enc : TypeId × Value → H} {w : World} {base : Nat} {v : Value} {d : DataW H} {p : List MemPlace} (o : Value.okWide Try.prog w .any base 29 v) (h : DataW.Trod enc Try.prog w 0 (fun _ => true) true 29 v d p) :
    ∃ A len cap z, v = .slice A len cap ∧ Src w A len cap z ∧ ∀ a, A = some a → a.block < w.heap.size := by
  obtain ⟨A, len, cap, rfl⟩ := okWide_slice Try.underlying29 o
  have hlt : ∀ a, A = some a → a.block < w.heap.size := fun a ha => by subst ha; exact arg_lt Try.underlying29 o
  obtain ⟨fuel, hf⟩ := h
  rcases open_ints Try.underlying29 Try.underlying5 (by kernel_rfl) hf with ⟨hcs, _⟩ | ⟨x, l, c, zs, hcs, _, hl, hm, hz, _, hcell, hwz⟩
  · simp [Value.cells] at hcs
    obtain ⟨rfl, rfl, rfl⟩ := hcs
    exact ⟨none, 0, 0, fun _ => 0, rfl, ⟨⟨by omega, fun i hi => by omega⟩, Nat.le_refl _⟩, hlt⟩
  · simp [Value.cells] at hcs
    obtain ⟨rfl, rfl, rfl⟩ := hcs
    unfold maxLen at hm
    have hz : zs.length = cap := by simpa using hz
    refine ⟨some x, len, cap, fun i => zs.getD i 0, rfl, ⟨⟨by omega, fun i hi => ?_⟩, hl⟩, hlt⟩
    obtain ⟨b, off, rfl⟩ := plain_of_cell (hcell 0 (by omega))
    have hw := bounds_u8 (hwz (zs.getD i 0) (by rw [List.getD_eq_getElem?_getD, List.getElem?_eq_getElem (by omega)]; simp))
    exact ⟨b, off, rfl, cell_add (hcell i (by omega)), hw.1, hw.2⟩
theorem open_ranks {H : Type} {enc : TypeId × Value → H} {w : World} {fuel : Nat} {v : Value} {x : DataW H × List MemPlace} (h : DataW.trod enc Try.prog w 0 (fun _ => true) true fuel 25 [v] = some x) :
    ∃ A c rk, v = .slice A (List.length rk) c ∧ RowI w A rk ∧ (List.length rk) ≤ 9223372036854775807 := by
  rcases open_ints Try.underlying25 Try.underlying3 (by kernel_rfl) h with ⟨hcs, _⟩ | ⟨x, l, c, zs, hcs, _, hl, hm, hz, _, hcell, hwz⟩
  · simp only [List.cons.injEq, and_true] at hcs
    exact ⟨none, 0, [], hcs, fun i x hx => by simp at hx, by simp⟩
  · simp only [List.cons.injEq, and_true] at hcs
    unfold maxLen at hm
    have hz : zs.length = c := by simpa using hz
    refine ⟨some x, c, zs.take l, by rw [hcs, List.length_take, Nat.min_eq_left (by omega)], fun i y hy => ?_, by rw [List.length_take]; omega⟩
    have hi := (List.getElem?_eq_some_iff.1 hy).1
    rw [List.length_take] at hi
    rw [List.getElem?_take, if_pos (by omega)] at hy
    obtain ⟨b, off, rfl⟩ := plain_of_cell (hcell 0 (by omega))
    have h1 := cell_add (hcell i (by omega))
    refine ⟨b, off, rfl, World.block_lt_of_cell? _ _ h1, ?_⟩
    rw [h1, List.getD_eq_getElem?_getD, hy]
    rfl
theorem open_scs {H : Type} {enc : TypeId × Value → H} {w : World} {fuel : Nat} {v : Value} {x : DataW H × List MemPlace} (h : DataW.trod enc Try.prog w 0 (fun _ => true) true fuel 26 [v] = some x) :
    ∃ A c ss, v = .slice A (List.length ss) c ∧ RowS w A ss ∧ (List.length ss) ≤ 9223372036854775807 ∧ (List.length ss) ≤ c := by
  have hform : ∃ A len c, v = .slice A len c := by
    rcases open_slice Try.underlying26 h with ⟨hcs, _⟩ | ⟨a, len, cap, m, n, D, Pl, hcs, _⟩
    · simp only [List.cons.injEq, and_true] at hcs
      exact ⟨_, _, _, hcs⟩
    · simp only [List.cons.injEq, and_true] at hcs
      exact ⟨_, _, _, hcs⟩
  obtain ⟨A, len, cap, rfl⟩ := hform
  obtain ⟨h1, h2, _, h3⟩ := open_structs Try.underlying26 Try.underlying66 (by kernel_rfl) (by kernel_rfl) (by decide) h
  unfold maxLen at h2
  refine ⟨A, cap, (List.range len).map fun i => ⟨rdI w A (i * 6 + 0), rdI w A (i * 6 + 1), rdI w A (i * 6 + 2), rdI w A (i * 6 + 3), rdI w A (i * 6 + 4), rdI w A (i * 6 + 5)⟩, by simp, fun i e he => ?_, by simp; omega, by simp; omega⟩
  have hi : i < len := by
    have := (List.getElem?_eq_some_iff.1 he).1
    simpa using this
  simp [List.getElem?_range hi] at he
  subst he
  obtain ⟨b, off, rfl, hb, hc⟩ := h3 i hi
  obtain ⟨v0, y0, n0, c0, t0⟩ := hc 0 _ rfl
  obtain ⟨v1, y1, n1, c1, t1⟩ := hc 1 _ rfl
  obtain ⟨v2, y2, n2, c2, t2⟩ := hc 2 _ rfl
  obtain ⟨v3, y3, n3, c3, t3⟩ := hc 3 _ rfl
  obtain ⟨v4, y4, n4, c4, t4⟩ := hc 4 _ rfl
  obtain ⟨v5, y5, n5, c5, t5⟩ := hc 5 _ rfl
  exact ⟨b, off, rfl, hb, (int_at Try.underlying3 c0 t0).1, (int_at Try.underlying3 c1 t1).1, (int_at Try.underlying44 c2 t2).1, (int_at Try.underlying3 c3 t3).1, (int_at Try.underlying3 c4 t4).1, (int_at Try.underlying3 c5 t5).1⟩
theorem open_hier {H : Type} {enc : TypeId × Value → H} {w : World} {base : Nat} {v : Value} {d : DataW H} {p : List MemPlace} (o : Value.okWide Try.prog w .any base 28 v) (h : DataW.Trod enc Try.prog w 0 (fun _ => true) true 28 v d p) :
    ∃ Ar cr rk As cs ss, v = .agg #[.slice Ar (List.length rk) cr, .slice As (List.length ss) cs] ∧ RowI w Ar rk ∧ RowS w As ss ∧ (List.length rk) ≤ 9223372036854775807 ∧ (List.length ss) ≤ 9223372036854775807 ∧ (List.length ss) ≤ cs := by
  obtain ⟨v0, v1, y0, y1, n, rfl, _, _, h0, h1⟩ := open_agg2 Try.underlying28 (by kernel_rfl) (by kernel_rfl) o h
  obtain ⟨Ar, cr, rk, rfl, hr, hl⟩ := open_ranks h0
  obtain ⟨As, cs, ss, rfl, hs, hls, hc⟩ := open_scs h1
  exact ⟨Ar, cr, rk, As, cs, ss, rfl, hr, hs, hl, hls, hc⟩
theorem bridge_bytesofBack {H : Type} {enc : TypeId × Value → H} (W : World) {base : Nat} {v0 v1 v2 : Value} {d0 d1 d2 : DataW H} {p0 p1 p2 : List MemPlace}
    (o0 : Value.okWide Try.prog W .any base 24 v0) (h0 : DataW.Trod enc Try.prog W 0 (fun _ => true) true 24 v0 d0 p0)
    (o1 : Value.okWide Try.prog W .any base 28 v1) (h1 : DataW.Trod enc Try.prog W 0 (fun _ => true) true 28 v1 d1 p1)
    (o2 : Value.okWide Try.prog W .any base 29 v2) (h2 : DataW.Trod enc Try.prog W 0 (fun _ => true) true 29 v2 d2 p2) :
    Calls Try.prog 3 #[v0, v1, v2] W fun e w' => e = .returned (.bool true) ∧ Below W.heap.size W w' := by
  obtain ⟨n0, A0, c0, es0, rfl, r0, l0⟩ := open_graph o0 h0
  obtain ⟨Ar, cr, rk, As, cs, ss, rfl, hr, hs, hlr, hls, hcs⟩ := open_hier o1 h1
  obtain ⟨A, len, cap, z, rfl, hsrc, hA⟩ := open_bytes o2 h2
  exact (back_law n0 es0 A0 c0 rk Ar cr ss As cs A len cap z W r0 hr hs hsrc l0 hlr hls hcs hA (fun a ha => by subst ha; exact agg_lt Try.underlying24 o0 (i := 1) rfl)).mono fun e w' ⟨he, hK⟩ => ⟨he, Grew.below hK⟩
end Go.Proofs.Ytjbjomodponapaa
