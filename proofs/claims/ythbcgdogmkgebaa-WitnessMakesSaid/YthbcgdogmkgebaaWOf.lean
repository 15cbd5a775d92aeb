/- The net of any graph: the program's. -/
import Derived.Test.YthbcgdogmkgebaaGLight
import Derived.Test.YthbcgdogmkgebaaOfN
import Derived.RegionTactic
import Derived.Deep.DeepCutAuto
namespace Go.Proofs.Ythbcgdogmkgebaa
open Go.RowKit
open Gr (Edg RowE rightF)

theorem right_zero {n : Int} {es : List Edg} (h : rightF n es = 0) : 1 ≤ n ∧ n ≤ 4096 ∧ es.length ≤ 16384 ∧ ∀ (k : Nat) (p q r : Int), es[k]? = some (p, q, r) → 0 ≤ p ∧ p < n ∧ 0 ≤ q ∧ q < n ∧ p ≠ q ∧ 1 ≤ r ∧ r ≤ 4294967296 := by
  unfold rightF at h
  by_cases h1 : n < 1 ∨ 4096 < n
  · rw [if_pos h1] at h; cases h
  rw [if_neg h1] at h
  by_cases h2 : 16384 < es.length
  · rw [if_pos h2] at h; cases h
  rw [if_neg h2] at h
  by_cases h3 : es.all (Gr.nodeOk n) = true
  · rw [if_pos h3] at h
    by_cases h4 : es.all Gr.wOk = true
    · refine ⟨by omega, by omega, by omega, fun k p q r hk => ?_⟩
      have hm := List.mem_of_getElem? hk
      have a := List.all_eq_true.1 h3 _ hm
      have b := List.all_eq_true.1 h4 _ hm
      simp [Gr.nodeOk, Gr.wOk] at a b
      omega
    · rw [if_neg h4] at h; cases h
  · rw [if_neg h3] at h; cases h

/-- The arcs of a node. -/
def rowG (es : List Edg) (v : Nat) : List Ar := es.filterMap fun e => if e.1 = (v : Int) then some (e.2.1, e.2.2) else none
theorem rowG_yes {es : List Edg} {k v : Nat} {q r : Int} (h : es[k]? = some ((v : Int), q, r)) : rowG (es.take (k + 1)) v = rowG (es.take k) v ++ [(q, r)] := by
  unfold rowG
  rw [List.take_add_one, h, List.filterMap_append]
  simp
theorem rowG_no {es : List Edg} {k v : Nat} {p q r : Int} (h : es[k]? = some (p, q, r)) (hp : p ≠ (v : Int)) : rowG (es.take (k + 1)) v = rowG (es.take k) v := by
  unfold rowG
  rw [List.take_add_one, h, List.filterMap_append]
  simp [hp]
theorem rowG_le (es : List Edg) (v : Nat) : (rowG es v).length ≤ es.length := List.length_filterMap_le _ _
/-- Rows of arcs of one's own, each apart. -/
structure Rws (w : World) (B n : Nat) (f : Nat → List Ar) (vals : List Value) : Prop where
  len : vals.length = n
  row : ∀ v, v < n → ∃ u, vals[v]? = some u ∧ OwnA w B u (f v)
  apart : ∀ (v v' : Nat) (u u' : Value), v ≠ v' → vals[v]? = some u → vals[v']? = some u' → ∀ j, u.ownBlock = some j → ¬ u'.ownBlock = some j
theorem Rws.kept {F : Nat → Prop} {w w' : World} {B n : Nat} {f : Nat → List Ar} {vals : List Value} (h : Rws w B n f vals) (k : Kept F w w') (hF : ∀ (v : Nat) (u : Value), vals[v]? = some u → ∀ j, u.ownBlock = some j → ¬ F j) : Rws w' B n f vals :=
  ⟨h.len, fun v hv => by
    obtain ⟨u, h1, h2⟩ := h.row v hv
    exact ⟨u, h1, Kept.own k h2 (hF v u h1)⟩, h.apart⟩
theorem Rws.grew {w w' : World} {B n : Nat} {f : Nat → List Ar} {vals : List Value} (h : Rws w B n f vals) (k : Grew w w') : Rws w' B n f vals := h.kept k fun _ _ _ _ _ h => h
theorem Rws.type {w : World} {B n : Nat} {f : Nat → List Ar} {vals : List Value} (h : Rws w B n f vals) {v : Nat} {u : Value} (hu : vals[v]? = some u) {j : Nat} (hj : u.ownBlock = some j) : B ≤ j ∧ j < w.heap.size ∧ ∃ cur, w.heap[j]? = some (.cells cur 56 (0, 0)) := by
  have hv : v < n := by rw [← h.len]; exact (List.getElem?_eq_some_iff.1 hu).1
  obtain ⟨u', h1, h2⟩ := h.row v hv
  obtain rfl := Option.some.inj (hu.symm.trans h1)
  obtain ⟨h3, cur, h4⟩ := own_type h2 hj
  exact ⟨h3, (Array.getElem?_eq_some_iff.1 h4).1, cur, h4⟩
theorem Rws.start (w : World) (B n : Nat) (f : Nat → List Ar) (hf : ∀ v, f v = []) : Rws w B n f (List.replicate n (.slice none 0 0)) :=
  ⟨by simp, fun v hv => ⟨.slice none 0 0, by simp [hv], by rw [hf v]; exact World.ownsRow_nil _ _ _ _⟩, fun v v' u u' _ h _ j hj => by
    have hm := List.mem_of_getElem? h
    obtain rfl := (List.mem_replicate.1 hm).2
    cases hj⟩
theorem Rws.step {w w' : World} {B n pn g cap m : Nat} {f f' : Nat → List Ar} {vals : List Value} {u : Value} (h : Rws w B n f vals) (hu : vals[pn]? = some u) (k : Kept (fun j => u.ownBlock = some j) w w') (ho : OwnA w' B (.slice (some ⟨g, 0, none⟩) m cap) (f' pn)) (hg : u.ownBlock = some g ∨ w.heap.size ≤ g) (hf : ∀ v, v ≠ pn → f' v = f v) : Rws w' B n f' (vals.set pn (.slice (some ⟨g, 0, none⟩) m cap)) := by
  have hpn := (List.getElem?_eq_some_iff.1 hu).1
  have hne : ∀ (v : Nat) (u' : Value), v ≠ pn → vals[v]? = some u' → ∀ j, u'.ownBlock = some j → j ≠ g := fun v u' hv h1 j hj hjg => by
    rcases hg with hg | hg
    · exact h.apart v pn u' u hv h1 hu j hj (by rw [hjg]; exact hg)
    · have := (h.type h1 hj).2.1
      omega
  refine ⟨by rw [List.length_set]; exact h.len, fun v hv => ?_, fun v v' u1 u2 hvv h1 h2 j h3 h4 => ?_⟩
  · by_cases e : v = pn
    · subst e
      exact ⟨_, List.getElem?_set_self hpn, ho⟩
    · obtain ⟨u', h1, h2⟩ := h.row v hv
      refine ⟨u', by rw [List.getElem?_set_ne (fun e' => e e'.symm)]; exact h1, ?_⟩
      rw [hf v e]
      exact Kept.own k h2 (fun j hj => h.apart v pn u' u e h1 hu j hj)
  · by_cases e1 : v = pn
    · subst e1
      rw [List.getElem?_set_self hpn] at h1
      rw [List.getElem?_set_ne hvv] at h2
      obtain rfl := Option.some.inj h1
      obtain rfl : g = j := Option.some.inj h3
      exact hne v' u2 (fun e => hvv e.symm) h2 g h4 rfl
    · rw [List.getElem?_set_ne (fun e => e1 e.symm)] at h1
      by_cases e2 : v' = pn
      · subst e2
        rw [List.getElem?_set_self hpn] at h2
        obtain rfl := Option.some.inj h2
        obtain rfl : g = j := Option.some.inj h4
        exact hne v u1 e1 h1 g h3 rfl
      · rw [List.getElem?_set_ne (fun e => e2 e.symm)] at h2
        exact h.apart v v' u1 u2 hvv h1 h2 j h3 h4
theorem info_bool : (Try.prog.info? 4).map (fun i => (i.zero, i.size, i.bytes)) = some (some (.bool false), 1, 1) := by kernel_rfl
theorem made_one (u : Value) (n : Nat) : madeCells #[u] n = (List.replicate n u).toArray := by
  apply Array.ext
  · simp [size_madeCells]
  · intro k h1 h2
    simp [madeCells, Nat.mod_one]

set_option maxHeartbeats 1000000 in
theorem wof_no (n : Int) (A : Option Addr) (c : Nat) (es : List Edg) (w : World) (h : RowE w A es) (hl : es.length ≤ 100000) (hr : ¬ rightF n es = 0) :
    Calls Try.prog 14 #[.agg #[i64 n, .slice A es.length c]] w fun e w' => e = .returned (.tuple #[.agg #[.slice none 0 0, .slice none 0 0], i64 1]) ∧ Grew w w' := by
  have b0 : Blk ((w.alloc (.cells #[i64 n, .slice A es.length c] 41)).alloc (.cells #[.slice none 0 0, .slice none 0 0] 33)) w.heap.size 41 #[i64 n, .slice A es.length c] := (Blk.new w _ _).alloc _
  have b1 := Blk.new (w.alloc (.cells #[i64 n, .slice A es.length c] 41)) 33 #[.slice none 0 0, .slice none 0 0]
  rw [World.size_alloc] at b1
  have hK0 : Grew w ((w.alloc (.cells #[i64 n, .slice A es.length c] 41)).alloc (.cells #[.slice none 0 0, .slice none 0 0] 33)) := ((Kept.refl _ _).alloc _).alloc _
  have hC := Lib.hid (Gr.right_any n A c es _ (h.grew hK0) hl)
  obtain ⟨f, hf⟩ : ∃ f, rightF n es = f := ⟨_, rfl⟩
  rw [hf] at hC hr
  have hb' : (f != 0) = true := by simpa using hr
  obtain ⟨L, hL⟩ : ∃ L, es.length = L := ⟨_, rfl⟩
  rw [hL] at b0 b1 hK0 hC ⊢
  clear h hf hr hL hl
  have c0 := b0.cell 0
  have c1 := b0.cell 1
  simp at c0 c1
  go_enter Try.func14, Try.ntmps14
  go_wp2_with fail
  refine hC.out.mono ?_
  rintro e w1 ⟨rfl, k1⟩
  have b1' := b1.grew k1
  have d0 := b1'.cell 0
  have d1 := b1'.cell 1
  have f0 := b1'.frozen 0
  have f1 := b1'.frozen 1
  simp at d0 d1
  have q := (b1'.set 0 (.slice none 0 0)).set 1 (.slice none 0 0)
  have q0 := q.cell 0
  have q1 := q.cell 1
  simp at q0 q1
  have hK1 : Hid (Grew w ((w1.setCell ⟨w.heap.size + 1, 0, none⟩ (.slice none 0 0)).setCell ⟨w.heap.size + 1, 1, none⟩ (.slice none 0 0))) := ((hK0.trans k1).setCell (p := ⟨w.heap.size + 1, 0, none⟩) (.inr (by show _ ≤ w.heap.size + 1; omega)) _).setCell (p := ⟨w.heap.size + 1, 1, none⟩) (.inr (by show _ ≤ w.heap.size + 1; omega)) _
  clear b0 b1 b1' hC c0 c1 k1 hK0 q
  go_wp2_with fail
  exact bodyPost_ret (v := .tuple #[.agg #[.slice none 0 0, .slice none 0 0], i64 1]) (by simp [results, Try.results14, go_sem, q0, q1]) rfl ⟨rfl, hK1.out⟩

def NetS (w w' : World) (r0 gO gB N L c : Nat) (A : Option Addr) (es : List Edg) (k : Nat) (vals : List Value) : Prop :=
  Blk w' r0 41 #[i64 N, .slice A L c] ∧ Blk w' (r0 + 1) 33 #[.slice (some ⟨gO, 0, none⟩) N N, .slice (some ⟨gB, 0, none⟩) N N] ∧ Blk w' gO 48 vals.toArray ∧ Blk w' gB 4 (List.replicate N (.bool false)).toArray ∧ Rws w' r0 N (rowG (es.take k)) vals ∧ Grew w w'
theorem net_start {w W : World} {r0 gO gB N L c : Nat} {A : Option Addr} {es : List Edg} (hr : w.heap.size = r0) (b0 : Blk W r0 41 #[i64 N, .slice A L c]) (b1 : Blk W (r0 + 1) 33 #[.slice none 0 0, .slice none 0 0]) (bO : Blk W gO 48 (madeCells #[.slice none 0 0] N)) (bB : Blk W gB 4 (madeCells #[.bool false] N)) (hO : r0 + 1 < gO) (hB : r0 + 1 < gB) (k : Grew w W) :
    NetS w ((W.setCell ⟨r0 + 1, 0, none⟩ (.slice (some ⟨gO, 0, none⟩) N N)).setCell ⟨r0 + 1, 1, none⟩ (.slice (some ⟨gB, 0, none⟩) N N)).drew r0 gO gB N L c A es 0 (List.replicate N (.slice none 0 0)) := by
  have e1 : r0 ≠ r0 + 1 := by omega
  have e2 : gO ≠ r0 + 1 := by omega
  have e3 : gB ≠ r0 + 1 := by omega
  have q := (b1.set 0 (.slice (some ⟨gO, 0, none⟩) N N)).set 1 (.slice (some ⟨gB, 0, none⟩) N N)
  simp at q
  rw [made_one] at bO bB
  refine ⟨((b0.far (p := ⟨r0 + 1, 0, none⟩) e1 _).far (p := ⟨r0 + 1, 1, none⟩) e1 _).drew, q.drew, ((bO.far (p := ⟨r0 + 1, 0, none⟩) e2 _).far (p := ⟨r0 + 1, 1, none⟩) e2 _).drew, ((bB.far (p := ⟨r0 + 1, 0, none⟩) e3 _).far (p := ⟨r0 + 1, 1, none⟩) e3 _).drew, Rws.start _ _ _ _ (fun v => rfl), ?_⟩
  exact ((k.setCell (p := ⟨r0 + 1, 0, none⟩) (.inr (by show _ ≤ r0 + 1; omega)) _).setCell (p := ⟨r0 + 1, 1, none⟩) (.inr (by show _ ≤ r0 + 1; omega)) _).drew
theorem rowN_net {w' : World} {r0 gO gB N L : Nat} {es : List Edg} {vals : List Value} (hL : es.length = L) (bO : Blk w' gO 48 vals.toArray) (bB : Blk w' gB 4 (List.replicate N (.bool false)).toArray) (rws : Rws w' r0 N (rowG (es.take L)) vals) : RowN w' (some ⟨gO, 0, none⟩) ((List.range N).map (rowG es)) ∧ RowB w' (some ⟨gB, 0, none⟩) (List.replicate N false) := by
  rw [List.take_of_length_le (by omega)] at rws
  refine ⟨fun i l hl => ?_, fun i g hg => ?_⟩
  · have hi : i < N := by
      have := (List.getElem?_eq_some_iff.1 hl).1
      simpa using this
    obtain ⟨u, h1, h2⟩ := rws.row i hi
    obtain ⟨Au, cu, rfl, h3⟩ := h2.row
    have e : rowG es i = l := by simpa [hi] using hl
    subst e
    exact ⟨gO, 0, Au, cu, rfl, bO.lt, by rw [Nat.zero_add, bO.cell, List.getElem?_toArray, h1], h3⟩
  · obtain ⟨rfl, hi⟩ : g = false ∧ i < N := by
      have h1 := (List.getElem?_eq_some_iff.1 hg).1
      have h2 := (List.mem_replicate.1 (List.mem_of_getElem? hg)).2
      exact ⟨h2, by simpa using h1⟩
    exact ⟨gB, 0, rfl, bB.lt, by rw [Nat.zero_add, bB.cell, List.getElem?_toArray]; simp [hi]⟩
set_option maxHeartbeats 4000000 in
set_option maxRecDepth 100000 in
theorem wof_yes (N : Nat) (A : Option Addr) (c : Nat) (es : List Edg) (w : World) (h : RowE w A es) (hl : es.length ≤ 300) (hN : N ≤ 100) (hr : rightF N es = 0) :
    Calls Try.prog 14 #[.agg #[i64 N, .slice A es.length c]] w fun e w' => ∃ gO gB, e = .returned (.tuple #[.agg #[.slice (some ⟨gO, 0, none⟩) N N, .slice (some ⟨gB, 0, none⟩) N N], i64 0]) ∧ RowN w' (some ⟨gO, 0, none⟩) ((List.range N).map (rowG es)) ∧ RowB w' (some ⟨gB, 0, none⟩) (List.replicate N false) ∧ Grew w w' := by
  have b0 : Blk ((w.alloc (.cells #[i64 N, .slice A es.length c] 41)).alloc (.cells #[.slice none 0 0, .slice none 0 0] 33)) w.heap.size 41 #[i64 N, .slice A es.length c] := (Blk.new w _ _).alloc _
  have b1 := Blk.new (w.alloc (.cells #[i64 N, .slice A es.length c] 41)) 33 #[.slice none 0 0, .slice none 0 0]
  rw [World.size_alloc] at b1
  have hK0 : Grew w ((w.alloc (.cells #[i64 N, .slice A es.length c] 41)).alloc (.cells #[.slice none 0 0, .slice none 0 0] 33)) := ((Kept.refl _ _).alloc _).alloc _
  have hE0 := Lib.hid h
  have hC := Lib.hid (Gr.right_any N A c es _ (h.grew hK0) (by omega))
  have hz := Lib.hid (right_zero hr).2.2.2
  rw [hr] at hC
  obtain ⟨L, hL⟩ : ∃ L, es.length = L := ⟨_, rfl⟩
  have HL := Lib.hid hL
  rw [hL] at b0 b1 hK0 hC hl ⊢
  clear hr hL h
  obtain ⟨i0, hi, hz0, hz1, hz2⟩ := info_parts info_arcs
  have hmk := fun W => run_make (P := Try.prog) W 31 48 i0 _ Try.underlying31 hi hz0 .i64 .i64 (N : Int) (N : Int) (by omega) (Int.le_refl _) (by rw [hz2]; omega) (by omega)
  obtain ⟨j0, ji, jz0, jz1, jz2⟩ := info_parts info_bool
  have jmk := fun W => run_make (P := Try.prog) W 23 4 j0 _ Try.underlying23 ji jz0 .i64 .i64 (N : Int) (N : Int) (by omega) (Int.le_refl _) (by rw [jz2]; omega) (by omega)
  simp only [Int.toNat_natCast, hz1, jz1, Nat.mul_one] at hmk jmk
  clear hi hz0 hz1 hz2 ji jz0 jz1 jz2
  have c0 := b0.cell 0
  have c1 := b0.cell 1
  simp at c0 c1
  obtain ⟨r0, hr0⟩ : ∃ r, w.heap.size = r := ⟨_, rfl⟩
  have HR0 := Lib.hid hr0
  go_enter Try.func14, Try.ntmps14
  go_wp2_with fail
  refine hC.out.mono ?_
  rintro e w1 ⟨rfl, k1⟩
  have s1 : r0 + 2 ≤ w1.heap.size := by have := k1.size; simp at this; omega
  rw [hr0] at b0 b1
  replace b0 := b0.grew k1
  replace b1 := b1.grew k1
  replace c0 := b0.cell 0
  replace c1 := b0.cell 1
  simp at c0 c1
  have HK1 := Lib.hid (hK0.trans k1)
  have Hb0 := Lib.hid b0
  have Hb1 := Lib.hid b1
  clear hK0 hC k1 hr0
  have cA : ∀ o, (w1.alloc o).cell? ⟨r0, 0, none⟩ = some (i64 N) := fun o => (b0.alloc o).cell 0
  have cB : ∀ o p, ((w1.alloc o).alloc p).cell? ⟨r0 + 1, 0, none⟩ = some (.slice none 0 0) := fun o p => ((b1.alloc o).alloc p).cell 0
  have cC : ∀ o p, ((w1.alloc o).alloc p).cell? ⟨r0 + 1, 1, none⟩ = some (.slice none 0 0) := fun o p => ((b1.alloc o).alloc p).cell 1
  have fB : ∀ o p i, ((w1.alloc o).alloc p).frozen? ⟨r0 + 1, i, none⟩ = false := fun o p i => ((b1.alloc o).alloc p).frozen i
  clear b0 b1
  go_upto_region 3 with fail
  go_cut [] (fun wx => ∃ gO gB : Nat, Hid (NetS w wx r0 gO gB N L c A es 0 (List.replicate N (.slice none 0 0)) ∧ r0 < gO ∧ r0 + 1 < gB))
  case first =>
    go_region
    all_goals go_wp2_with fail
    all_goals go_meet
    · refine ⟨w1.heap.size, w1.heap.size + 1, net_start HR0.out ((Hb0.out.alloc _).alloc _) ((Hb1.out.alloc _).alloc _) ((Blk.new w1 _ _).alloc _) ?_ (by omega) (by omega) ((HK1.out.alloc _).alloc _), by omega, by omega⟩
      have := Blk.new (w1.alloc (.cells (madeCells #[.slice none 0 0] N) 48)) 4 (madeCells #[.bool false] N)
      rw [World.size_alloc] at this
      exact this
    · refine ⟨w1.heap.size + 1, w1.heap.size, net_start HR0.out ((Hb0.out.alloc _).alloc _) ((Hb1.out.alloc _).alloc _) ?_ ((Blk.new w1 _ _).alloc _) (by omega) (by omega) ((HK1.out.alloc _).alloc _), by omega, by omega⟩
      have := Blk.new (w1.alloc (.cells (madeCells #[.bool false] N) 4)) 48 (madeCells #[.slice none 0 0] N)
      rw [World.size_alloc] at this
      exact this
  case rest =>
    obtain ⟨gO, gB, hS0⟩ := hcut
    have d0 := hS0.out.1.1.cell 1
    simp at d0
    obtain ⟨i0, hi, hz0, hz1, hz2⟩ := info_parts info_arc
    have hSt : Hid (NetS w wc r0 gO gB N L c A es 0 (List.replicate N (.slice none 0 0))) := hS0.out.1
    have hg1 : r0 < gO := hS0.out.2.1
    have hg2 : r0 + 1 < gB := hS0.out.2.2
    clear hS0 cA cB cC fB Hb0 Hb1 HK1 hmk jmk c0 c1
    go_wp2_with fail
    go_loopw [20] (fun i wr => ∃ (k : Nat) (vals : List Value), k ≤ L ∧ i = .int .i64 k ∧ Hid (NetS w wr r0 gO gB N L c A es k vals)) (fun i _ => L - (intOf i).toNat)
    case atStart => exact ⟨0, _, by omega, rfl, hSt⟩
    case round =>
      clear hSt d0
      obtain ⟨k, vals, hk, rfl, hS⟩ := hrel
      obtain ⟨B0, B1, BO, BB, RW, hK⟩ := hS.out
      by_cases hlt : k < L
      · obtain ⟨⟨p, q, r⟩, hx⟩ : ∃ x, es[k]? = some x := ⟨_, List.getElem?_eq_getElem (by rw [HL.out]; exact hlt)⟩
        obtain ⟨b, off, hAe, hb, e0, e1, e2⟩ := hE0.out k _ hx
        subst hAe
        replace e0 := hK.cell e0
        replace e1 := hK.cell e1
        replace e2 := hK.cell e2
        dsimp only at e0 e1 e2
        have hq := hz.out k p q r hx
        obtain ⟨pn, rfl⟩ := Int.eq_ofNat_of_zero_le hq.1
        have hp1 : pn < N := by have := hq.2.1; omega
        have hp2 : (pn : Int) < (N : Int) := by omega
        have hp0 : (0 : Int) ≤ (pn : Int) := by omega
        have k0 : (0 : Int) ≤ (k : Int) := by omega
        have k1 : (k : Int) < (L : Int) := by omega
        obtain ⟨u, hu, hou⟩ := RW.row pn hp1
        obtain ⟨Au, cu, rfl, _⟩ := hou.row
        have HX := Lib.hid hx
        obtain ⟨m, hm⟩ : ∃ m, (rowG (es.take k) pn).length = m := ⟨_, rfl⟩
        have hmk : m ≤ k := by
          have h1 := rowG_le (es.take k) pn
          rw [List.length_take] at h1
          omega
        have HM := Lib.hid hm
        unfold OwnA at hou
        rw [hm] at hou hu
        have hOu := Lib.hid hou
        have hU := Lib.hid hu
        have s1 := hK.size
        have h0z := HR0.out
        obtain ⟨wE, hwE⟩ : ∃ W, wr.alloc (.cells #[i64 pn, i64 q, .int .u64 r] 65) = W := ⟨_, rfl⟩
        have gE : Grew wr wE := by rw [← hwE]; exact (Kept.refl _ _).alloc _
        have bE : Blk wE wr.heap.size 65 #[i64 pn, i64 q, .int .u64 r] := by rw [← hwE]; exact Blk.new _ _ _
        have hsE : Hid (wE.heap.size = wr.heap.size + 1) := by show _ = _; rw [← hwE]; simp
        have y0 := bE.cell 0
        have y1 := bE.cell 1
        have y2 := bE.cell 2
        have y3 := (B1.grew gE).cell 0
        have y4 := ((BO.grew gE).cell pn).trans (by rw [List.getElem?_toArray, hu])
        simp at y0 y1 y2 y3
        have hty : ∀ j, (Value.slice Au m cu).ownBlock = some j → ∃ cur, wr.heap[j]? = some (.cells cur 56 (0, 0)) := fun j hj => (own_type hou hj).2
        have ne1 : ¬ (Value.slice Au m cu).ownBlock = some (r0 + 1) := fun h => by
          obtain ⟨cur, hc⟩ := hty _ h
          rw [show wr.heap[r0 + 1]? = _ from B1] at hc
          cases hc
        have neO : ¬ (Value.slice Au m cu).ownBlock = some gO := fun h => by
          obtain ⟨cur, hc⟩ := hty _ h
          rw [show wr.heap[gO]? = _ from BO] at hc
          cases hc
        have neB : ¬ (Value.slice Au m cu).ownBlock = some gB := fun h => by
          obtain ⟨cur, hc⟩ := hty _ h
          rw [show wr.heap[gB]? = _ from BB] at hc
          cases hc
        have ne0 : ¬ (Value.slice Au m cu).ownBlock = some r0 := fun h => by
          obtain ⟨cur, hc⟩ := hty _ h
          rw [show wr.heap[r0]? = _ from B0] at hc
          cases hc
        have neE : ¬ (Value.slice Au m cu).ownBlock = some wr.heap.size := fun h => by
          obtain ⟨cur, hc⟩ := hty _ h
          have := (Array.getElem?_eq_some_iff.1 hc).1
          omega
        have hB := Lib.hid (show _ ∧ _ ∧ _ ∧ _ ∧ _ from ⟨B0, B1, BO, BB, hK⟩)
        have hRW := Lib.hid RW
        have hsz := Lib.hid (show r0 ≤ wr.heap.size by omega)
        have cE := B0.cell 1
        simp at cE
        clear hx hm hou hu hS B0 B1 BO BB RW hK h0z bE hty s1
        go_wp2_with fail
        refine wp_region_grow [18] (fun j => (Value.slice Au m cu).ownBlock = some j) (by kernel_rfl) ?_
        simp only [List.size_toArray, List.length_cons, List.length_nil, Nat.reduceAdd]
        refine wpAnyG_pure 0 24 (v := ?_) rfl (by kernel_rfl) rfl (by rfl) (fun w' => ?_) ?_
        rotate_left
        · go_simp <;> with_reducible rfl
        simp only [List.setIfInBounds_toArray, List.set_cons_zero, List.set_cons_succ]
        refine wpAnyG_take 1 25 (v := ?_) rfl (by kernel_rfl) rfl (by rfl) (fun w' hG' => ?_) ?_
        rotate_left
        · have hx0 := hG'.cell (show wE.drew.cell? _ = _ from y0) neE
          have hx1 := hG'.cell (show wE.drew.cell? _ = _ from y1) neE
          have hx2 := hG'.cell (show wE.drew.cell? _ = _ from y2) neE
          have hx3 := hG'.cell (show wE.drew.cell? _ = _ from y3) ne1
          have hx4 := hG'.cell (show wE.drew.cell? _ = _ from y4) neO
          go_simp <;> with_reducible rfl
        simp only [List.setIfInBounds_toArray, List.set_cons_zero, List.set_cons_succ]
        refine wpAnyG_pure 2 26 (v := ?_) rfl (by kernel_rfl) rfl (by rfl) (fun w' => ?_) ?_
        rotate_left
        · go_simp <;> with_reducible rfl
        simp only [List.setIfInBounds_toArray, List.set_cons_zero, List.set_cons_succ]
        refine wpAnyG_take 3 27 (v := ?_) rfl (by kernel_rfl) rfl (by rfl) (fun w' hG' => ?_) ?_
        rotate_left
        · have hx0 := hG'.cell (show wE.drew.cell? _ = _ from y0) neE
          have hx1 := hG'.cell (show wE.drew.cell? _ = _ from y1) neE
          have hx2 := hG'.cell (show wE.drew.cell? _ = _ from y2) neE
          have hx3 := hG'.cell (show wE.drew.cell? _ = _ from y3) ne1
          have hx4 := hG'.cell (show wE.drew.cell? _ = _ from y4) neO
          go_simp <;> with_reducible rfl
        simp only [List.setIfInBounds_toArray, List.set_cons_zero, List.set_cons_succ]
        refine wpAnyG_pure 4 28 (v := ?_) rfl (by kernel_rfl) rfl (by rfl) (fun w' => ?_) ?_
        rotate_left
        · go_simp <;> with_reducible rfl
        simp only [List.setIfInBounds_toArray, List.set_cons_zero, List.set_cons_succ]
        refine wpAnyG_take 5 29 (v := ?_) rfl (by kernel_rfl) rfl (by rfl) (fun w' hG' => ?_) ?_
        rotate_left
        · have hx0 := hG'.cell (show wE.drew.cell? _ = _ from y0) neE
          have hx1 := hG'.cell (show wE.drew.cell? _ = _ from y1) neE
          have hx2 := hG'.cell (show wE.drew.cell? _ = _ from y2) neE
          have hx3 := hG'.cell (show wE.drew.cell? _ = _ from y3) ne1
          have hx4 := hG'.cell (show wE.drew.cell? _ = _ from y4) neO
          go_simp <;> with_reducible rfl
        simp only [List.setIfInBounds_toArray, List.set_cons_zero, List.set_cons_succ]
        refine wpAnyG_pure 6 30 (v := ?_) rfl (by kernel_rfl) rfl (by rfl) (fun w' => ?_) ?_
        rotate_left
        · go_simp <;> with_reducible rfl
        simp only [List.setIfInBounds_toArray, List.set_cons_zero, List.set_cons_succ]
        refine wpAnyG_take 7 31 (v := ?_) rfl (by kernel_rfl) rfl (by rfl) (fun w' hG' => ?_) ?_
        rotate_left
        · have hx0 := hG'.cell (show wE.drew.cell? _ = _ from y0) neE
          have hx1 := hG'.cell (show wE.drew.cell? _ = _ from y1) neE
          have hx2 := hG'.cell (show wE.drew.cell? _ = _ from y2) neE
          have hx3 := hG'.cell (show wE.drew.cell? _ = _ from y3) ne1
          have hx4 := hG'.cell (show wE.drew.cell? _ = _ from y4) neO
          go_simp <;> with_reducible rfl
        simp only [List.setIfInBounds_toArray, List.set_cons_zero, List.set_cons_succ]
        refine wpAnyG_pure 8 32 (v := ?_) rfl (by kernel_rfl) rfl (by rfl) (fun w' => ?_) ?_
        rotate_left
        · go_simp <;> with_reducible rfl
        simp only [List.setIfInBounds_toArray, List.set_cons_zero, List.set_cons_succ]
        refine wpAnyG_take 9 33 (v := ?_) rfl (by kernel_rfl) rfl (by rfl) (fun w' hG' => ?_) ?_
        rotate_left
        · have hx0 := hG'.cell (show wE.drew.cell? _ = _ from y0) neE
          have hx1 := hG'.cell (show wE.drew.cell? _ = _ from y1) neE
          have hx2 := hG'.cell (show wE.drew.cell? _ = _ from y2) neE
          have hx3 := hG'.cell (show wE.drew.cell? _ = _ from y3) ne1
          have hx4 := hG'.cell (show wE.drew.cell? _ = _ from y4) neO
          go_simp <;> with_reducible rfl
        simp only [List.setIfInBounds_toArray, List.set_cons_zero, List.set_cons_succ]
        refine wpAnyG_pure 10 34 (v := ?_) rfl (by kernel_rfl) rfl (by rfl) (fun w' => ?_) ?_
        rotate_left
        · go_simp <;> with_reducible rfl
        simp only [List.setIfInBounds_toArray, List.set_cons_zero, List.set_cons_succ]
        refine wpAnyG_take 11 35 (v := ?_) rfl (by kernel_rfl) rfl (by rfl) (fun w' hG' => ?_) ?_
        rotate_left
        · have hx0 := hG'.cell (show wE.drew.cell? _ = _ from y0) neE
          have hx1 := hG'.cell (show wE.drew.cell? _ = _ from y1) neE
          have hx2 := hG'.cell (show wE.drew.cell? _ = _ from y2) neE
          have hx3 := hG'.cell (show wE.drew.cell? _ = _ from y3) ne1
          have hx4 := hG'.cell (show wE.drew.cell? _ = _ from y4) neO
          go_simp <;> with_reducible rfl
        simp only [List.setIfInBounds_toArray, List.set_cons_zero, List.set_cons_succ]
        refine wpAnyG_pure 12 36 (v := ?_) rfl (by kernel_rfl) rfl (by rfl) (fun w' => ?_) ?_
        rotate_left
        · go_simp <;> with_reducible rfl
        simp only [List.setIfInBounds_toArray, List.set_cons_zero, List.set_cons_succ]
        refine wpAnyG_take 13 37 (v := ?_) rfl (by kernel_rfl) rfl (by rfl) (fun w' hG' => ?_) ?_
        rotate_left
        · have hx0 := hG'.cell (show wE.drew.cell? _ = _ from y0) neE
          have hx1 := hG'.cell (show wE.drew.cell? _ = _ from y1) neE
          have hx2 := hG'.cell (show wE.drew.cell? _ = _ from y2) neE
          have hx3 := hG'.cell (show wE.drew.cell? _ = _ from y3) ne1
          have hx4 := hG'.cell (show wE.drew.cell? _ = _ from y4) neO
          go_simp <;> with_reducible rfl
        simp only [List.setIfInBounds_toArray, List.set_cons_zero, List.set_cons_succ]
        refine wpAnyG_pure 14 38 (v := ?_) rfl (by kernel_rfl) rfl (by rfl) (fun w' => ?_) ?_
        rotate_left
        · go_simp <;> with_reducible rfl
        simp only [List.setIfInBounds_toArray, List.set_cons_zero, List.set_cons_succ]
        refine wpAnyG_step 15 39 rfl (by kernel_rfl) rfl (by rfl) (fun K hK' => ?_)
        go_simp
        refine hK' _ _ (fun _ => (Kept.refl _ _).alloc _) ?_
        clear hK'
        simp only [List.setIfInBounds_toArray, List.set_cons_zero, List.set_cons_succ]
        refine wpAnyG_step 16 40 rfl (by kernel_rfl) rfl (by rfl) (fun K hK' => ?_)
        refine wp_append_lies _ (.tmp 33) (.tmp 39) 48 (by rfl) r0 56 i0 (.agg #[i64 0, .int .u64 0]) 2 16 Try.underlying48 hi hz0 hz1 hz2 (by rfl) (by omega) (.slice Au m cu) m (cellsA (rowG (es.take k) pn)) (by rfl) (Grew.own ((gE.drew).alloc _) hOu.out) ⟨wE.heap.size, 0, none⟩ 1 1 (arCells (q, r)) (by rfl) (by rfl) (World.news_of_block (heap_alloc_new _ _)) ?_ (by omega) ?_ ?_ ?_ _ rfl ?_
        · intro u hu; simp [arCells] at hu; rcases hu with rfl | rfl <;> rfl
        · unfold maxLen; omega
        · omega
        · have := hsE.out; have := hsz.out; simp; omega
        intro g cap wa hown1 hgrow1 hat1 hlt1
        have gA : Kept (fun j => (Value.slice Au m cu).ownBlock = some j) wr wa := ((gE.kept.drew).alloc _).grown hgrow1 (fun k hk => .inl hk)
        have bOa := hB.out.2.2.1.kept gA neO
        have z0 := gA.cell (show wr.cell? ⟨gO, pn, none⟩ = some (.slice Au m cu) from (hB.out.2.2.1.cell pn).trans (by rw [List.getElem?_toArray, hU.out])) neO
        have zf := bOa.frozen pn
        refine hK' _ _ (fun _ => (Kept.refl _ _).grown hgrow1 (fun k hk => .inl hk)) ?_
        clear hK'
        simp only [List.setIfInBounds_toArray, List.set_cons_zero, List.set_cons_succ]
        refine wpAnyG_pure 17 41 (v := ?_) rfl (by kernel_rfl) rfl (by rfl) (fun w' => ?_) ?_
        rotate_left
        · go_simp <;> with_reducible rfl
        simp only [List.setIfInBounds_toArray, List.set_cons_zero, List.set_cons_succ]
        refine wpAnyG_store 18 rfl (by kernel_rfl) rfl (by rfl) (fun K hK' => ?_)
        go_simp
        refine hK' _ (fun h => absurd (by simp) h) ?_
        clear hK'
        refine wpAnyG_done (by kernel_rfl) ?_
        have hNet : Hid (NetS w (wa.setCell ⟨gO, pn, none⟩ (.slice (some ⟨g, 0, none⟩) (m + 1) cap)) r0 gO gB N L c (some ⟨b, off, none⟩) es (k + 1) (vals.set pn (.slice (some ⟨g, 0, none⟩) (m + 1) cap))) := by
          obtain ⟨B0, B1, BO, BB, hK⟩ := hB.out
          have hx := HX.out
          have hgs : (Value.slice Au m cu).ownBlock = some g ∨ wr.heap.size ≤ g := by
            rcases hat1 with h | h
            · exact .inl h
            · refine .inr ?_
              have := hsE.out
              simp at h
              omega
          have ho : OwnA wa r0 (.slice (some ⟨g, 0, none⟩) (m + 1) cap) (rowG (es.take (k + 1)) pn) := by
            unfold OwnA
            rw [rowG_yes hx, List.length_append, HM.out, cellsA_append, show cellsA [(q, r)] = arCells (q, r) from rfl]
            exact hown1
          have rw1 := hRW.out.step (f' := rowG (es.take (k + 1))) hU.out gA ho hgs (fun v hv => rowG_no hx (fun e => hv (by omega)))
          have bO' := bOa.set pn (.slice (some ⟨g, 0, none⟩) (m + 1) cap)
          rw [List.setIfInBounds_toArray] at bO'
          have hF : Kept (· = gO) wa (wa.setCell ⟨gO, pn, none⟩ (.slice (some ⟨g, 0, none⟩) (m + 1) cap)) := (Kept.refl (· = gO) wa).setCell (p := ⟨gO, pn, none⟩) (.inl rfl) _
          have hr0 := HR0.out
          refine ⟨(B0.kept gA ne0).kept hF (by show ¬ r0 = gO; omega), (B1.kept gA ne1).kept hF (fun h => ?_), bO', (BB.kept gA neB).kept hF (fun h => ?_), rw1.kept hF (fun v u' hv j hj h => ?_), ?_⟩
          · have h : r0 + 1 = gO := h
            rw [h] at B1
            have := (show wr.heap[gO]? = _ from BO).symm.trans B1
            cases this
          · have h : gB = gO := h
            rw [h] at BB
            have := (show wr.heap[gO]? = _ from BO).symm.trans BB
            cases this
          · have h : j = gO := h
            subst h
            obtain ⟨_, _, cur, hc⟩ := rw1.type hv hj
            have := (show wa.heap[j]? = _ from bOa).symm.trans hc
            cases this
          · refine (hK.then gA (fun i hi h => ?_)).then hF (fun i hi h => ?_)
            · have := (own_type hOu.out h).1
              omega
            · have h : i = gO := h
              omega
        clear hB hRW HX HM hown1 hat1 hgrow1 gA bOa z0 zf hOu hU y0 y1 y2 y3 y4 gE hwE hsE hsz hlt1 cE e0 e1 e2 ne0 ne1 neO neB neE
        go_wp2_with fail
        go_roundw
        case rel => exact ⟨k + 1, _, by omega, by go_num, hNet⟩
        case measure => simp [intOf]; omega
      · obtain rfl : k = L := by omega
        have f0 := B1.frozen 0
        have f1 := B1.frozen 1
        have v0 := B1.cell 0
        have v1 := B1.cell 1
        simp at v0 v1
        have hF : Kept (· = r0 + 1) wr ((wr.setCell ⟨r0 + 1, 0, none⟩ (.slice (some ⟨gO, 0, none⟩) N N)).setCell ⟨r0 + 1, 1, none⟩ (.slice (some ⟨gB, 0, none⟩) N N)) := ((Kept.refl (· = r0 + 1) wr).setCell (p := ⟨r0 + 1, 0, none⟩) (.inl rfl) _).setCell (p := ⟨r0 + 1, 1, none⟩) (.inl rfl) _
        have hKx : Hid (Grew w ((wr.setCell ⟨r0 + 1, 0, none⟩ (.slice (some ⟨gO, 0, none⟩) N N)).setCell ⟨r0 + 1, 1, none⟩ (.slice (some ⟨gB, 0, none⟩) N N))) := hK.then hF (fun i hi h => by have h2 : i = r0 + 1 := h; have := HR0.out; omega)
        have hR2 : Hid (RowN ((wr.setCell ⟨r0 + 1, 0, none⟩ (.slice (some ⟨gO, 0, none⟩) N N)).setCell ⟨r0 + 1, 1, none⟩ (.slice (some ⟨gB, 0, none⟩) N N)) (some ⟨gO, 0, none⟩) ((List.range N).map (rowG es)) ∧ RowB ((wr.setCell ⟨r0 + 1, 0, none⟩ (.slice (some ⟨gO, 0, none⟩) N N)).setCell ⟨r0 + 1, 1, none⟩ (.slice (some ⟨gB, 0, none⟩) N N)) (some ⟨gB, 0, none⟩) (List.replicate N false)) := by
          have n1 : gO ≠ r0 + 1 := fun h => by
            rw [← h] at B1
            have := (show wr.heap[gO]? = _ from BO).symm.trans B1
            cases this
          have n2 : gB ≠ r0 + 1 := by omega
          refine rowN_net (r0 := r0) (vals := vals) HL.out ((BO.far (p := ⟨r0 + 1, 0, none⟩) n1 _).far (p := ⟨r0 + 1, 1, none⟩) n1 _) ((BB.far (p := ⟨r0 + 1, 0, none⟩) n2 _).far (p := ⟨r0 + 1, 1, none⟩) n2 _) (RW.kept hF (fun v u' hv j hj h => ?_))
          · have h : j = r0 + 1 := h
            subst h
            obtain ⟨_, _, cur, hc⟩ := RW.type hv hj
            have := (show wr.heap[r0 + 1]? = _ from B1).symm.trans hc
            cases this
        have q := (B1.set 0 (.slice (some ⟨gO, 0, none⟩) N N)).set 1 (.slice (some ⟨gB, 0, none⟩) N N)
        have q0 := q.cell 0
        have q1 := q.cell 1
        simp at q0 q1
        have cE := B0.cell 1
        simp at cE
        clear hS hF B0 B1 BO BB RW hK q
        go_wp2_with fail
        exact bodyPost_ret (v := .tuple #[.agg #[.slice (some ⟨gO, 0, none⟩) N N, .slice (some ⟨gB, 0, none⟩) N N], i64 0]) (by simp [results, Try.results14, go_sem, q0, q1]) rfl ⟨gO, gB, rfl, hR2.out.1, hR2.out.2, hKx.out⟩
end Go.Proofs.Ythbcgdogmkgebaa
