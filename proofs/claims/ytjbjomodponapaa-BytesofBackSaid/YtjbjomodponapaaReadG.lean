/- Graphs read: what is between. -/
import Derived.Test.YtjbjomodponapaaRead
import Derived.Test.YtjbjomodponapaaGCode
namespace Go.Proofs.Ytjbjomodponapaa
open Go.RowKit

theorem Edges.kept {F : Nat → Prop} {w w' : World} {B : Nat} {v : Value} {es : List Edg} (h : Edges w B v es) (k : Kept F w w') (hF : ∀ j, v.ownBlock = some j → ¬ F j) : Edges w' B v es := Kept.own k h hF
theorem Edges.grew {w w' : World} {B : Nat} {v : Value} {es : List Edg} (h : Edges w B v es) (k : Grew w w') : Edges w' B v es := Grew.own k h
/-- A graph that is being read: its box, and its edges. -/
structure GBox (w : World) (G B : Nat) (n : Nat) (es : List Edg) (v : Value) : Prop where
  box : Blk w G 24 #[i64 n, v]
  own : Edges w B v es
def RgE (z : Nat → Int) (len R G B : Nat) (A : Option Addr) (cap : Nat) (w : World) (e : Ending) (w' : World) : Prop :=
  (∃ p n es v, e = .returned (.tuple #[]) ∧ p ≤ len ∧ Rd w' R A len cap p ∧ GBox w' G B n es v ∧ rightF n es = 0 ∧ (p = len → Rest z len 0 (encG n es)) ∧
    (∀ n0 es0, rightF n0 es0 = 0 → Rest z len 0 (encG n0 es0) → n0 = (n : Int) ∧ es0 = es ∧ p = len) ∧ Kept (fun j => j = R ∨ j = G) w w') ∨
  (NoG z len ∧ (∃ x y, Blk w' G 24 #[x, y]) ∧ ∃ q, e = .panicked (wrongs q) ∧ Kept (fun j => j = R ∨ j = G) w w')
/-- What each round finds. -/
structure RgS (z : Nat → Int) (len R G B : Nat) (A : Option Addr) (cap : Nat) (w : World) (n m : Nat) (es : List Edg) (p : Nat) (v : Value) (w' : World) : Prop where
  le : p ≤ len
  rd : Rd w' R A len cap p
  box : GBox w' G B n es v
  ok : ∀ e ∈ es, EOk n e
  had : Had z n m es p
  cand : Cand z len n m es p
  kept : Kept (fun j => j = R ∨ j = G) w w'
set_option maxHeartbeats 8000000 in
set_option maxRecDepth 100000 in
theorem readG_any (R G : Nat) (A : Option Addr) (len cap : Nat) (z : Nat → Int) (w : World) (h : Rd w R A len cap 0) (hG : Blk w G 24 #[i64 0, .slice none 0 0]) (hs : Src w A len cap z) (hl : len ≤ 100000) (hRG : R ≠ G) (hA : ∀ a, A = some a → a.block ≠ R ∧ a.block ≠ G) :
    Calls Try.prog 18 #[pt R, pt G] w fun e w' => RgE z len R G w.heap.size A cap w e w' := by
  obtain ⟨i0, hi, hz0, hz1, hz2⟩ := info_parts info_edge
  have hmf : ∀ (fn : Fn) (first cap : Array Value) (w : World), (Instr.makeFunc fn first cap).run Try.prog w = .ok (.func fn first cap) w := fun _ _ _ _ => rfl
  have hrng := Lib.hid hs.range
  have HA : Hid (∀ W, Kept (fun j => j = R ∨ j = G) w W → Src W A len cap z) := fun W k => hs.kept k (fun a ha hh => by
    obtain ⟨x, y⟩ := hA a ha
    rcases hh with hh | hh
    · exact x hh
    · exact y hh)
  have hN1 := Lib.hid (number_read R A len cap 0 1 4096 z w h hs (by omega) hl)
  have hR0 := h.lt
  have hG0 := hG.lt
  have HG := Lib.hid hG
  clear h hG hs hA
  go_enter Try.func18, Try.ntmps18
  go_wp2_with fail
  refine hN1.out.mono ?_
  rintro e w1 (⟨n, p1, hT1, n1, n2, rfl, hR1, k1⟩ | ⟨hno, q, rfl, k1⟩)
  rotate_left
  · have hf : Hid (RgE z len R G w.heap.size A cap w (.panicked (wrongs q)) w1) := .inr ⟨no1 hno, ⟨_, _, HG.out.kept k1 (fun e => hRG e.symm)⟩, q, rfl, k1.mono (fun _ _ h => .inl h)⟩
    clear hN1 hno k1
    go_wp2_with fail
    exact ⟨rfl, hf.out⟩
  have wn : IntKind.i64.wrap (n : Int) = (n : Int) := Go.IntWalk.i64_in _ (by omega)
  have hGR : ¬ G = R := fun e => hRG e.symm
  have bG := HG.out.kept k1 hGR
  have fG := bG.frozen 0
  have gG := bG.cell 0
  have bG2 := bG.set 0 (i64 n)
  simp at bG2 gG
  have kA : Kept (fun j => j = R ∨ j = G) w (w1.setCell ⟨G, 0, none⟩ (i64 n)) := (k1.mono (fun _ _ h => .inl h)).setCell (p := ⟨G, 0, none⟩) (.inl (.inr rfl)) _
  have hR2 : Rd (w1.setCell ⟨G, 0, none⟩ (i64 n)) R A len cap p1 := hR1.far (p := ⟨G, 0, none⟩) hRG _
  have hN2 := Lib.hid (number_read R A len cap p1 0 16384 z _ hR2 (HA.out _ kA) (by have := hT1.2; omega) hl)
  have HT1 := Lib.hid hT1
  have HB2 := Lib.hid bG2
  have HKA := Lib.hid kA
  clear hN1 hR1 k1 bG kA hR2 hT1 bG2
  go_wp2_with fail
  refine hN2.out.mono ?_
  rintro e w2 (⟨m, p2, hT2, _, m2, rfl, hR2, k2⟩ | ⟨hno, q, rfl, k2⟩)
  rotate_left
  · have hf : Hid (RgE z len R G w.heap.size A cap w (.panicked (wrongs q)) w2) := .inr ⟨no2 (cand1 HT1.out) hno, ⟨_, _, HB2.out.kept k2 hGR⟩, q, rfl, HKA.out.then k2 (fun _ _ h => .inl h)⟩
    clear hN2 hno k2
    go_wp2_with fail
    exact ⟨rfl, hf.out⟩
  have hS0 : Hid (RgS z len R G w.heap.size A cap w n m [] p2 (.slice none 0 0) w2) := ⟨hT2.2.2, hR2, ⟨HB2.out.kept k2 hGR, World.ownsRow_nil _ _ _ _⟩, fun e he => by simp at he, had_start hrng.out HT1.out hT2, cand2 (cand1 HT1.out) hT2, HKA.out.then k2 (fun _ _ h => .inl h)⟩
  clear hN2 hR2 k2 HT1 HB2 HKA hT2 HG fG gG
  go_wp2_with fail
  go_loopw [14] (fun i wr => ∃ (k p : Nat) (es : List Edg) (v : Value), k ≤ m ∧ i = .int .u64 k ∧ Hid (es.length = k ∧ RgS z len R G w.heap.size A cap w n m es p v wr)) (fun i _ => m - (intOf i).toNat)
  case atStart => exact ⟨0, p2, [], _, by omega, rfl, rfl, hS0.out⟩
  case round =>
    clear hS0
    obtain ⟨k, p, es, v, hk, rfl, hS⟩ := hrel
    obtain ⟨A2, c2, hv, _⟩ := hS.out.2.box.own.row
    rw [hS.out.1] at hv
    subst hv
    by_cases hlt : k < m
    · as_aux_lemma =>
      have l1 : (k : Int) < (m : Int) := by omega
      have g0 := hS.out.2.box.box.cell 0
      simp at g0
      have hB1 := Lib.hid (below_read R A len cap p n z wr hS.out.2.rd (HA.out _ hS.out.2.kept) hS.out.2.le hl (by omega))
      go_wp2_with fail
      refine hB1.out.mono ?_
      rintro e w3 (⟨a, pa, hTa, a1, rfl, hR3, k3⟩ | ⟨hno, q, rfl, k3⟩)
      rotate_left
      · have hf : Hid (RgE z len R G w.heap.size A cap w (.panicked (wrongs q)) w3) := .inr ⟨no3 hS.out.2.cand (by rw [hS.out.1]; exact hlt) hno, ⟨_, _, hS.out.2.box.box.kept k3 (fun e => hRG e.symm)⟩, q, rfl, hS.out.2.kept.then k3 (fun _ _ h => .inl h)⟩
        clear hB1 hno k3 hS
        go_wp2_with fail
        exact ⟨rfl, hf.out⟩
      have HT1 := Lib.hid hTa
      have HK3 := Lib.hid (hS.out.2.kept.then k3 (fun _ _ h => .inl h))
      have HR0 : Hid (R < w3.heap.size ∧ G < w3.heap.size ∧ w.heap.size ≤ w3.heap.size ∧ wr.heap.size ≤ w3.heap.size) := by
        have s1 := HK3.out.size
        exact ⟨by omega, by omega, by omega, k3.size⟩
      have gE : Grew w3 (w3.alloc (.cells #[i64 a, i64 0, .int .u64 0] 51)) := (Kept.refl _ _).alloc _
      have bE : Blk (w3.alloc (.cells #[i64 a, i64 0, .int .u64 0] 51)) w3.heap.size 51 #[i64 a, i64 0, .int .u64 0] := Blk.new _ _ _
      have bR := hR3.grew gE
      have bG := (hS.out.2.box.box.kept k3 (fun e => hRG e.symm)).grew gE
      have hOw := (hS.out.2.box.own.kept k3 (fun j hj h => by
        have h1 := (hS.out.2.box.own.lt j hj).1
        have h : j = R := h
        omega)).grew gE
      have gg := bG.cell 0
      have rr := bR.cell 1
      simp at gg rr
      have hB2 := Lib.hid (below_read R A len cap pa n z (w3.alloc (.cells #[i64 a, i64 0, .int .u64 0] 51)) bR (HA.out _ (HK3.out.grew gE)) (by have := hTa.2; omega) hl (by omega))
      have HBE := Lib.hid bE
      have HBG := Lib.hid bG
      have HOw := Lib.hid hOw
      have HKE := Lib.hid (HK3.out.grew gE)
      have hsE : Hid (w3.heap.size < (w3.alloc (.cells #[i64 a, i64 0, .int .u64 0] 51)).heap.size) := bE.lt
      clear hB1 hR3 k3 bE bR bG hOw hTa g0 gE
      go_wp2_with fail
      obtain ⟨wE, hwE⟩ : ∃ W, w3.alloc (.cells #[i64 a, i64 0, .int .u64 0] 51) = W := ⟨_, rfl⟩
      rw [hwE] at gg rr hB2 HBE HBG HOw HKE hsE ⊢
      clear hwE
      refine hB2.out.mono ?_
      rintro e w4 (⟨b, pb, hTb, b1, rfl, hR4, k4⟩ | ⟨hno, q, rfl, k4⟩)
      rotate_left
      · have hf : Hid (RgE z len R G w.heap.size A cap w (.panicked (wrongs q)) w4) := .inr ⟨no4 hS.out.2.cand (by rw [hS.out.1]; exact hlt) HT1.out hno, ⟨_, _, HBG.out.kept k4 (fun e => hRG e.symm)⟩, q, rfl, HKE.out.then k4 (fun _ _ h => .inl h)⟩
        clear hB2 hno k4 hS
        go_wp2_with fail
        exact ⟨rfl, hf.out⟩
      have HT2 := Lib.hid hTb
      obtain ⟨E, hE⟩ : ∃ E, w3.heap.size = E := ⟨_, rfl⟩
      have HE := Lib.hid hE
      rw [hE] at HBE HR0 hsE ⊢
      have nER : ¬ E = R := by have := HR0.out; omega
      have nEG : ¬ E = G := by have := HR0.out; omega
      have bE := HBE.out.kept k4 nER
      have x0 := bE.cell 0
      have x1 := bE.cell 1
      have xf := bE.frozen 1
      have bE2 := bE.set 1 (i64 b)
      simp at x0 x1 bE2
      have kS : Kept (fun j => j = R ∨ j = G) w (w4.setCell ⟨E, 1, none⟩ (i64 b)) := (HKE.out.then k4 (fun _ _ h => .inl h)).setCell (p := ⟨E, 1, none⟩) (.inr (by have := HR0.out; show _ ≤ E; omega)) _
      have y0 := bE2.cell 0
      have y1 := bE2.cell 1
      simp at y0 y1
      have hR5 : Rd (w4.setCell ⟨E, 1, none⟩ (i64 b)) R A len cap pb := hR4.far (p := ⟨E, 1, none⟩) (fun e => nER e.symm) _
      have bG5 := (HBG.out.kept k4 (fun e => hRG e.symm)).far (p := ⟨E, 1, none⟩) (fun e => nEG e.symm) (i64 b)
      have ow5 : Edges (w4.setCell ⟨E, 1, none⟩ (i64 b)) w.heap.size (.slice A2 k c2) es := (HOw.out.kept k4 (fun j hj h => by
        have h1 := (HOw.out.lt j hj).1
        have h : j = R := h
        omega)).kept ((Kept.refl (· = E) w4).setCell (p := ⟨E, 1, none⟩) (.inl rfl) _) (fun j hj h => by
        have h : j = E := h
        have h2 := (hS.out.2.box.own.lt j hj).2
        have h3 := HR0.out.2.2.2
        omega)
      by_cases hab : a = b
      · have hf : Hid (RgE z len R G w.heap.size A cap w (.panicked (wrongs pa)) (w4.setCell ⟨E, 1, none⟩ (i64 b))) := .inr ⟨no5 hS.out.2.cand (by rw [hS.out.1]; exact hlt) HT1.out (by rw [hab]; exact HT2.out), ⟨_, _, bG5⟩, pa, rfl, kS⟩
        subst hab
        clear hB2 k4 hS HBE HBG HOw bE bE2 kS hR5 bG5 ow5 hR4 hTb hE
        go_wp2_with fail
        exact ⟨rfl, hf.out⟩
      have hab' : ((b : Int) == (a : Int)) = false := by simp; omega
      have hC := Lib.hid (number_read R A len cap pb 1 4294967296 z _ hR5 (HA.out _ kS) (by have := hTb.2; omega) hl)
      have HKS := Lib.hid kS
      have HbE := Lib.hid bE2
      have HbG := Lib.hid bG5
      have Hw5 := Lib.hid ow5
      clear hB2 k4 HBE HBG HOw bE bE2 kS hR5 bG5 ow5 hR4 hTb hE HKE HK3
      go_wp2_with fail
      refine hC.out.mono ?_
      rintro e w5 (⟨c, pc, hTc, cl1, cl2, rfl, hR6, k6⟩ | ⟨hno, q, rfl, k6⟩)
      rotate_left
      · have hf : Hid (RgE z len R G w.heap.size A cap w (.panicked (wrongs q)) w5) := .inr ⟨no6 hS.out.2.cand (by rw [hS.out.1]; exact hlt) HT1.out HT2.out hno, ⟨_, _, HbG.out.kept k6 (fun e => hRG e.symm)⟩, q, rfl, HKS.out.then k6 (fun _ _ h => .inl h)⟩
        clear hC hno k6 hS
        go_wp2_with fail
        exact ⟨rfl, hf.out⟩
      have HT3 := Lib.hid hTc
      have bE6 := HbE.out.kept k6 nER
      have z0 := bE6.cell 0
      have z1 := bE6.cell 1
      have z2 := bE6.cell 2
      have zf := bE6.frozen 2
      simp at z0 z1 z2
      have bE7 := bE6.set 2 (.int .u64 c)
      simp at bE7
      have y0 := bE7.cell 0
      have y1 := bE7.cell 1
      have y2 := bE7.cell 2
      simp at y0 y1 y2
      have bG6 := HbG.out.kept k6 (fun e => hRG e.symm)
      have ow6 : Edges w5 w.heap.size (.slice A2 k c2) es := Hw5.out.kept k6 (fun j hj h => by
        have h1 := (Hw5.out.lt j hj).1
        have h : j = R := h
        omega)
      have g1 := bG6.cell 1
      have gf := bG6.frozen 1
      simp at g1
      have HKT := Lib.hid (HKS.out.then k6 (fun _ _ h => .inl h))
      have HR6 := Lib.hid hR6
      have HbE6 := Lib.hid bE6
      have HbG6 := Lib.hid bG6
      have Hw6 := Lib.hid ow6
      have hlen : Hid (es.length = k) := hS.out.1
      have own0 : Hid (w5.ownsRow w.heap.size 51 3 (.slice A2 k c2) k (cellsOf es)) := by
        have h := ow6
        unfold Edges at h
        rw [hlen.out] at h
        exact h
      have hsz : Hid (w.heap.size ≤ w5.heap.size) := HKT.out.size
      clear hC k6 hTc bE6 bE7 bG6 ow6 hR6 HbE HbG Hw5
      have gX : Kept (· = E) w5 (w5.setCell ⟨E, 2, none⟩ (.int .u64 c)) := (Kept.refl (· = E) w5).setCell (p := ⟨E, 2, none⟩) (.inl rfl) _
      have hj5 : ∀ j, (Value.slice A2 k c2).ownBlock = some j → w.heap.size ≤ j := fun j hj => (own0.out.lt j hj).1
      have neE : ¬ (Value.slice A2 k c2).ownBlock = some E := fun h => by
        have h2 := (hS.out.2.box.own.lt E h).2
        have h3 := HR0.out.2.2.2
        omega
      have neG : ¬ (Value.slice A2 k c2).ownBlock = some G := fun h => by have := hj5 _ h; omega
      have neR : ¬ (Value.slice A2 k c2).ownBlock = some R := fun h => by have := hj5 _ h; omega
      have own1 : Hid (((w5.setCell ⟨E, 2, none⟩ (.int .u64 c)).alloc (.cells #[i64 a, i64 b, .int .u64 c] 51)).ownsRow w.heap.size 51 3 (.slice A2 k c2) k (cellsOf es)) :=
        Grew.own ((Kept.refl (fun _ => False) _).alloc _) (Kept.own gX own0.out (fun j hj h => by have h : j = E := h; rw [h] at hj; exact neE hj))
      have hN : Hid (∀ j u, (edgeCells ((a : Int), (b : Int), (c : Int)))[j]? = some u → ((w5.setCell ⟨E, 2, none⟩ (.int .u64 c)).alloc (.cells #[i64 a, i64 b, .int .u64 c] 51)).cell? ((⟨w5.heap.size, 0, none⟩ : Addr).add j) = some u) := by
        have := World.news_of_block (heap_alloc_new (w5.setCell ⟨E, 2, none⟩ (.int .u64 c)) (.cells #[i64 a, i64 b, .int .u64 c] 51))
        rw [show (w5.setCell ⟨E, 2, none⟩ (.int .u64 c)).heap.size = w5.heap.size by simp] at this
        exact this
      go_wp2_with
        (at_builtin
         refine wpList_append_lies _ rfl (.tmp 42) (.tmp 44) 22 (by rfl) w.heap.size 51 i0 (.agg #[i64 0, i64 0, .int .u64 0]) 3 24 Try.underlying22 hi hz0 hz1 hz2 (by rfl) (by omega) (.slice A2 k c2) k (cellsOf es) (by rfl) own1.out ⟨w5.heap.size, 0, none⟩ 1 1 (edgeCells ((a : Int), (b : Int), (c : Int))) (by rfl) (by rfl) hN.out (by intro u hu; simp [edgeCells] at hu; rcases hu with rfl | rfl | rfl <;> rfl) (by omega) (by unfold maxLen; omega) (by omega) (by have := hsz.out; simp; omega) _ rfl ?_
         intro g cp wa hown1 hgrow1 _ _
         have kA : Kept (fun j => (Value.slice A2 k c2).ownBlock = some j) (w5.setCell ⟨E, 2, none⟩ (.int .u64 c)) wa := ((Kept.refl _ _).alloc _).grown hgrow1 (fun k hk => .inl hk)
         have bGa := (HbG6.out.far (p := ⟨E, 2, none⟩) (fun e => nEG e.symm) (.int .u64 c)).kept kA neG
         have ga := bGa.cell 1
         have gfa := bGa.frozen 1
         simp at ga
         have hgB : w.heap.size ≤ g := (hown1.lt g rfl).1
         have hF : Kept (· = G) wa (wa.setCell ⟨G, 1, none⟩ (.slice (some ⟨g, 0, none⟩) (k + 1) cp)) := (Kept.refl (· = G) wa).setCell (p := ⟨G, 1, none⟩) (.inl rfl) _
         have hS1 : Hid ((es ++ [((a : Int), (b : Int), (c : Int))]).length = k + 1 ∧ RgS z len R G w.heap.size A cap w n m (es ++ [((a : Int), (b : Int), (c : Int))]) pc (.slice (some ⟨g, 0, none⟩) (k + 1) cp) (wa.setCell ⟨G, 1, none⟩ (.slice (some ⟨g, 0, none⟩) (k + 1) cp))) := by
           have hlt' : es.length < m := by rw [hlen.out]; exact hlt
           have hn4 : n ≤ 4096 := by omega
           refine ⟨by rw [List.length_append, hlen.out]; rfl, HT3.out.2.2, ?_, ⟨?_, ?_⟩, ?_, had_step hrng.out hS.out.2.had HT1.out HT2.out HT3.out, cand_step hS.out.2.cand hlt' HT1.out HT2.out HT3.out, ?_⟩
           · exact ((HR6.out.far (p := ⟨E, 2, none⟩) (fun e => nER e.symm) (.int .u64 c)).kept kA neR).far (p := ⟨G, 1, none⟩) hRG _
           · have q := bGa.set 1 (.slice (some ⟨g, 0, none⟩) (k + 1) cp)
             simp at q
             exact q
           · unfold Edges
             rw [List.length_append, hlen.out, cellsOf_append, cellsOf_one]
             exact Kept.own hF hown1 (fun j hj h => by
               obtain rfl : g = j := Option.some.inj hj
               have h : g = G := h
               omega)
           · intro e he
             rcases List.mem_append.1 he with he | he
             · exact hS.out.2.ok e he
             · simp at he
               subst he
               exact ⟨by simp, by simp; omega, by simp, by simp; omega, by simp; omega, by simp; omega, by simp; omega⟩
           · have k7 : Kept (fun j => j = R ∨ j = G) w (w5.setCell ⟨E, 2, none⟩ (.int .u64 c)) := HKT.out.setCell (p := ⟨E, 2, none⟩) (.inr (by have := HR0.out; show _ ≤ E; omega)) _
             exact (k7.then kA (fun i hi h => by have := hj5 _ h; omega)).then hF (fun i hi h => .inr h)
         clear hown1 hgrow1 kA bGa hF own1 own0 hN gX hj5 hS HR6 HbE6 HbG6 Hw6 HKT HKS HT1 HT2 HT3)
      go_roundw
      case rel => exact ⟨k + 1, pc, _, _, by omega, by go_num, hS1⟩
      case measure => simp [intOf]; omega
    · as_aux_lemma =>
      obtain rfl : k = m := by omega
      have hf : Hid (RgE z len R G w.heap.size A cap w (.returned (.tuple #[])) wr) := .inl ⟨p, n, es, _, rfl, hS.out.2.le, hS.out.2.rd, hS.out.2.box, right_mk (by omega) (by omega) (by rw [hS.out.1]; omega) hS.out.2.ok, fun hp => had_all hS.out.2.had hS.out.1 hp, cand_all hS.out.2.cand hS.out.1, hS.out.2.kept⟩
      clear hS
      go_wp2_with fail
      go_end0
      exact hf.out
end Go.Proofs.Ytjbjomodponapaa
