/- Graphs in bytes: Graph. -/
import Derived.Test.YtjbjomodponapaaPut
import Derived.Test.YtjbjomodponapaaGCode
import Derived.Test.YtjbjomodponapaaGraph
namespace Go.Proofs.Ytjbjomodponapaa
open Go.RowKit

theorem rowK_two {k : IntKind} {w : World} {g : Nat} {t : TypeId} {x y : Nat} (h : Blk w g t #[.int k x, .int k y]) : RowK k w (some ⟨g, 0, none⟩) [x, y] := fun i z hz => by
  have hi : i < 2 := by simpa using (List.getElem?_eq_some_iff.1 hz).1
  rcases (show i = 0 ∨ i = 1 by omega) with rfl | rfl
  · simp at hz; subst hz; exact ⟨g, 0, rfl, h.lt, by rw [h.cell]; rfl⟩
  · simp at hz; subst hz; exact ⟨g, 0, rfl, h.lt, by rw [h.cell]; rfl⟩
theorem rowK_three {k : IntKind} {w : World} {g : Nat} {t : TypeId} {x y u : Nat} (h : Blk w g t #[.int k x, .int k y, .int k u]) : RowK k w (some ⟨g, 0, none⟩) [x, y, u] := fun i z hz => by
  have hi : i < 3 := by simpa using (List.getElem?_eq_some_iff.1 hz).1
  rcases (show i = 0 ∨ i = 1 ∨ i = 2 by omega) with rfl | rfl | rfl
  · simp at hz; subst hz; exact ⟨g, 0, rfl, h.lt, by rw [h.cell]; rfl⟩
  · simp at hz; subst hz; exact ⟨g, 0, rfl, h.lt, by rw [h.cell]; rfl⟩
  · simp at hz; subst hz; exact ⟨g, 0, rfl, h.lt, by rw [h.cell]; rfl⟩
theorem rowK_one {k : IntKind} {w : World} {g : Nat} {t : TypeId} {x : Nat} (h : Blk w g t #[.int k x]) : RowK k w (some ⟨g, 0, none⟩) [x] := fun i z hz => by
  have hi : i < 1 := by simpa using (List.getElem?_eq_some_iff.1 hz).1
  obtain rfl : i = 0 := by omega
  simp at hz; subst hz; exact ⟨g, 0, rfl, h.lt, by rw [h.cell]; rfl⟩
theorem encG_le (n : Nat) (es : List Edg) : (encN n ++ (encN es.length ++ encEs es)).length ≤ 20 + 30 * es.length := by
  have h1 : (encN n).length ≤ 10 := digs_length 10 n
  have h2 : (encN es.length).length ≤ 10 := digs_length 10 es.length
  have h3 : ∀ l : List Edg, (encEs l).length ≤ 30 * l.length := fun l => by
    induction l with
    | nil => simp [encEs]
    | cons e l ih =>
      have a : (encN e.1.toNat).length ≤ 10 := digs_length 10 _
      have b : (encN e.2.1.toNat).length ≤ 10 := digs_length 10 _
      have c : (encN e.2.2.toNat).length ≤ 10 := digs_length 10 _
      rw [encEs_cons]
      simp only [List.length_append, List.length_cons]
      omega
  have := h3 es
  simp only [List.length_append]
  omega
set_option maxHeartbeats 1000000 in
theorem graph_no (n : Int) (A : Option Addr) (c : Nat) (es : List Edg) (w : World) (h : RowE w A es) (hl : es.length ≤ 100000) (hr : ¬ rightF n es = 0) :
    Calls Try.prog 6 #[.agg #[i64 n, .slice A es.length c]] w fun e w' => e = .returned (.tuple #[.slice none 0 0, i64 1]) ∧ Grew w w' := by
  have b0 : Blk ((w.alloc (.cells #[i64 n, .slice A es.length c] 24)).alloc (.cells #[.slice none 0 0] 29)) w.heap.size 24 #[i64 n, .slice A es.length c] := (Blk.new w _ _).alloc _
  have b1 := Blk.new (w.alloc (.cells #[i64 n, .slice A es.length c] 24)) 29 #[.slice none 0 0]
  rw [World.size_alloc] at b1
  have hK0 : Grew w ((w.alloc (.cells #[i64 n, .slice A es.length c] 24)).alloc (.cells #[.slice none 0 0] 29)) := ((Kept.refl _ _).alloc _).alloc _
  have hC := Lib.hid (right_any n A c es _ (h.grew hK0) hl)
  obtain ⟨f, hf⟩ : ∃ f, rightF n es = f := ⟨_, rfl⟩
  rw [hf] at hC hr
  have hb' : (f != 0) = true := by simpa using hr
  obtain ⟨L, hL⟩ : ∃ L, es.length = L := ⟨_, rfl⟩
  rw [hL] at b0 b1 hK0 hC ⊢
  clear h hf hr hL hl
  have c0 := b0.cell 0
  have c1 := b0.cell 1
  simp at c0 c1
  go_enter Try.func6, Try.ntmps6
  go_wp2_with fail
  refine hC.out.mono ?_
  rintro e w1 ⟨rfl, k1⟩
  have b1' := b1.grew k1
  have d0 := b1'.cell 0
  have f0 := b1'.frozen 0
  simp at d0
  have q0 := (b1'.set 0 (.slice none 0 0)).cell 0
  simp at q0
  have hK1 : Hid (Grew w (w1.setCell ⟨w.heap.size + 1, 0, none⟩ (.slice none 0 0))) := (hK0.trans k1).setCell (p := ⟨w.heap.size + 1, 0, none⟩) (.inr (by show _ ≤ w.heap.size + 1; omega)) _
  clear b0 b1 b1' hC c0 c1 k1 hK0
  go_wp2_with fail
  exact bodyPost_ret (v := .tuple #[.slice none 0 0, i64 1]) (by simp [results, Try.results6, go_sem, q0]) rfl ⟨rfl, hK1.out⟩
/-- What Graph has put so far. -/
structure GrS (w : World) (r0 N L c : Nat) (A : Option Addr) (bs : List Int) (v : Value) (w' : World) : Prop where
  box : BBox w' (r0 + 1) (r0 + 2) bs v
  gr : Blk w' r0 24 #[i64 N, .slice A L c]
  kept : Grew w w'
  size : r0 + 2 ≤ w'.heap.size
theorem GrS.lit {w w' W : World} {r0 N L c : Nat} {A : Option Addr} {bs : List Int} {v : Value} (h : GrS w r0 N L c A bs v w') (k : Grew w' W) : GrS w r0 N L c A bs v W := ⟨h.box.grew k, h.gr.grew k, h.kept.trans k, Nat.le_trans h.size k.size⟩
theorem GrS.put {w w' W : World} {r0 N L c : Nat} {A : Option Addr} {bs : List Int} {v : Value} {l : List Nat} {e : Ending} (hr : w.heap.size = r0) (h : GrS w r0 N L c A bs v w') (p : PutE (r0 + 1) (r0 + 2) bs v l w' e W) : e = .returned (.tuple #[]) ∧ ∃ v', GrS w r0 N L c A (bs ++ encNs l) v' W := by
  obtain ⟨v', he, hb, k, ho⟩ := p
  have hv : ∀ j, v.ownBlock = some j → r0 + 2 ≤ j := fun j hj => (h.box.own.lt j hj).1
  refine ⟨he, v', hb, h.gr.kept k (fun hh => ?_), h.kept.then k (fun i hi hh => ?_), Nat.le_trans h.size k.size⟩
  · rcases hh with hh | hh
    · omega
    · have := hv _ hh; omega
  · rcases hh with hh | hh
    · omega
    · have := hv _ hh; omega
theorem GrS.args {w w' : World} {r0 N L c g : Nat} {A : Option Addr} {bs : List Int} {v : Value} (h : GrS w r0 N L c A bs v w') (hg : w'.heap.size ≤ g) : (∀ a, some (⟨g, 0, none⟩ : Addr) = some a → a.block ≠ r0 + 1 ∧ v.ownBlock ≠ some a.block) ∧ v.ownBlock ≠ some (r0 + 1) := by
  have hs := h.size
  refine ⟨fun a ha => ?_, fun hh => ?_⟩
  · cases ha
    refine ⟨fun e => ?_, fun hh => ?_⟩
    · have e : g = r0 + 1 := e
      omega
    · have hh : v.ownBlock = some g := hh
      have := (h.box.own.lt g hh).2
      omega
  · have := (h.box.own.lt _ hh).1
    omega
set_option maxHeartbeats 4000000 in
set_option maxRecDepth 100000 in
theorem graph_yes (N : Nat) (A : Option Addr) (c : Nat) (es : List Edg) (w : World) (h : RowE w A es) (hl : es.length ≤ 1000) (hr : rightF N es = 0) :
    Calls Try.prog 6 #[.agg #[i64 N, .slice A es.length c]] w fun e w' => ∃ v, e = .returned (.tuple #[v, i64 0]) ∧ w'.ownsRow w.heap.size 5 1 v (encG N es).length ((encG N es).map B8) ∧ Grew w w' := by
  have b0 : Blk ((w.alloc (.cells #[i64 N, .slice A es.length c] 24)).alloc (.cells #[.slice none 0 0] 29)) w.heap.size 24 #[i64 N, .slice A es.length c] := (Blk.new w _ _).alloc _
  have b1 := Blk.new (w.alloc (.cells #[i64 N, .slice A es.length c] 24)) 29 #[.slice none 0 0]
  rw [World.size_alloc] at b1
  have hK0 : Grew w ((w.alloc (.cells #[i64 N, .slice A es.length c] 24)).alloc (.cells #[.slice none 0 0] 29)) := ((Kept.refl _ _).alloc _).alloc _
  have hE := Lib.hid h
  have hC := Lib.hid (right_any N A c es _ (h.grew hK0) (by omega))
  have hOk := Lib.hid (fun e (he : e ∈ es) => right_ok hr he)
  obtain ⟨hN1, hN2, hLL, _⟩ := right_zero hr
  rw [hr] at hC
  obtain ⟨L, hL⟩ : ∃ L, es.length = L := ⟨_, rfl⟩
  have HL := Lib.hid hL
  rw [hL] at b0 b1 hK0 hC hl hLL ⊢
  obtain ⟨r0, hr0⟩ : ∃ r, w.heap.size = r := ⟨_, rfl⟩
  have HR0 := Lib.hid hr0
  have hS0 : Hid (GrS w r0 N L c A [] (.slice none 0 0) ((w.alloc (.cells #[i64 N, .slice A L c] 24)).alloc (.cells #[.slice none 0 0] 29))) := by
    rw [hr0] at b0 b1
    exact ⟨⟨b1, World.ownsRow_nil _ _ _ _⟩, b0, hK0, by simp; omega⟩
  clear hr h b0 b1 hK0 hL
  have wN : IntKind.u64.wrap (N : Int) = (N : Int) := Go.IntWalk.u64_in _ (by omega)
  have wL : IntKind.u64.wrap (L : Int) = (L : Int) := Go.IntWalk.u64_in _ (by omega)
  have wiL : IntKind.i64.wrap (L : Int) = (L : Int) := Go.IntWalk.i64_in _ (by omega)
  have hmf : ∀ (fn : Fn) (first cap : Array Value) (w : World), (Instr.makeFunc fn first cap).run Try.prog w = .ok (.func fn first cap) w := fun _ _ _ _ => rfl
  have c0 := hS0.out.gr.cell 0
  have c1 := hS0.out.gr.cell 1
  go_enter Try.func6, Try.ntmps6
  go_wp2_with fail
  refine hC.out.mono ?_
  rintro e w1 ⟨rfl, k1⟩
  have hS1 := Lib.hid (hS0.out.lit k1)
  replace c0 := hS1.out.gr.cell 0
  replace c1 := hS1.out.gr.cell 1
  simp at c0 c1
  clear hS0 hC k1
  -- the two first numbers
  have gA : Grew w1 (w1.alloc (.cells #[.int .u64 N, .int .u64 L] 44)) := (Kept.refl _ _).alloc _
  have hA2 := hS1.out.args (Nat.le_refl _)
  have hP := Lib.hid (put_any (r0 + 1) (r0 + 2) 2 (some ⟨w1.heap.size, 0, none⟩) [] (.slice none 0 0) [N, L] _ (hS1.out.lit gA).box (rowK_two (Blk.new w1 44 #[.int .u64 N, .int .u64 L])) (hS1.out.lit gA).size (by simp) (by simp) (fun x hx => by simp at hx; rcases hx with rfl | rfl <;> omega) hA2.1 hA2.2)
  have hSA := Lib.hid (hS1.out.lit gA)
  clear hS1 gA hA2
  go_wp2_with fail
  refine hP.out.mono ?_
  rintro e w2 hp
  obtain ⟨rfl, v2, hS2⟩ := hSA.out.put HR0.out hp
  have hS2 := Lib.hid hS2
  replace c0 := hS2.out.gr.cell 0
  replace c1 := hS2.out.gr.cell 1
  simp at c0 c1
  clear hp hP hSA
  go_wp2_with fail
  go_loopw [24] (fun i wr => ∃ (k : Nat) (v : Value), k ≤ L ∧ i = .int .i64 k ∧ Hid (GrS w r0 N L c A (encN N ++ (encN L ++ encEs (es.take k))) v wr)) (fun i _ => L - (intOf i).toNat)
  case atStart => exact ⟨0, v2, by omega, rfl, Lib.hid (by simpa [encNs, encEs] using hS2.out)⟩
  case round =>
    clear hS2 c0 c1
    obtain ⟨k, v, hk, rfl, hS⟩ := hrel
    by_cases hlt : k < L
    · as_aux_lemma =>
      obtain ⟨⟨p, q, r⟩, hx⟩ : ∃ x, es[k]? = some x := ⟨_, List.getElem?_eq_getElem (by rw [HL.out]; exact hlt)⟩
      obtain ⟨b, off, hAe, hb, e0, e1, e2⟩ := hE.out k _ hx
      have ok := hOk.out _ (List.mem_of_getElem? hx)
      unfold EOk at ok
      obtain ⟨p, rfl⟩ := Int.eq_ofNat_of_zero_le ok.1
      obtain ⟨q, rfl⟩ := Int.eq_ofNat_of_zero_le ok.2.2.1
      obtain ⟨r, rfl⟩ := Int.eq_ofNat_of_zero_le (show 0 ≤ r by have := ok.2.2.2.2.2.1; simp at this; omega)
      simp only at ok
      have bd : p < 4096 ∧ q < 4096 ∧ r ≤ 4294967296 := by omega
      subst hAe
      replace e0 := Grew.cell hS.out.kept e0
      replace e1 := Grew.cell hS.out.kept e1
      replace e2 := Grew.cell hS.out.kept e2
      dsimp only at e0 e1 e2
      have k0 : (0 : Int) ≤ (k : Int) := by omega
      have k1 : (k : Int) < (L : Int) := by omega
      have wp : IntKind.u64.wrap (p : Int) = (p : Int) := Go.IntWalk.u64_in _ (by omega)
      have wq : IntKind.u64.wrap (q : Int) = (q : Int) := Go.IntWalk.u64_in _ (by omega)
      have gE : Grew wr ((wr.alloc (.cells #[i64 p, i64 q, .int .u64 r] 51)).alloc (.cells #[.int .u64 p, .int .u64 q, .int .u64 r] 44)) := ((Kept.refl _ _).alloc _).alloc _
      have hSE := Lib.hid (hS.out.lit gE)
      have hA2 := (hS.out.lit ((Kept.refl (fun _ => False) wr).alloc (.cells #[i64 p, i64 q, .int .u64 r] 51))).args (g := wr.heap.size + 1) (by simp)
      have bL := Blk.new (wr.alloc (.cells #[i64 p, i64 q, .int .u64 r] 51)) 44 #[.int .u64 p, .int .u64 q, .int .u64 r]
      rw [World.size_alloc] at bL
      have hle : (encN N ++ (encN L ++ encEs (es.take k))).length ≤ 100000 := by
        have h1 := encG_le N (es.take k)
        have h2 : (encN L).length ≤ 10 := digs_length 10 L
        rw [List.length_take, HL.out] at h1
        simp only [List.length_append] at h1 ⊢
        omega
      have hP := Lib.hid (put_any (r0 + 1) (r0 + 2) 3 (some ⟨wr.heap.size + 1, 0, none⟩) _ v [p, q, r] _ hSE.out.box (rowK_three bL) hSE.out.size (by simp) hle (fun x hx => by simp at hx; rcases hx with rfl | rfl | rfl <;> omega) hA2.1 hA2.2)
      have HX := Lib.hid hx
      clear gE hA2 bL hS hx ok
      go_wp2_with fail
      refine hP.out.mono ?_
      rintro e w4 hp
      obtain ⟨rfl, v4, hS4⟩ := hSE.out.put HR0.out hp
      have hS5 : Hid (GrS w r0 N L c (some ⟨b, off, none⟩) (encN N ++ (encN L ++ encEs (es.take (k + 1)))) v4 w4) := by
        rw [List.take_add_one, HX.out]
        show GrS w r0 N L c _ (encN N ++ (encN L ++ encEs (es.take k ++ [((p : Int), (q : Int), (r : Int))]))) v4 w4
        rw [encEs_snoc]
        have e : encE ((p : Int), (q : Int), (r : Int)) = encNs [p, q, r] := by simp [encE, encNs]
        rw [e]
        simpa [List.append_assoc] using hS4
      clear hp hP hSE hS4 HX e0 e1 e2
      go_wp2_with fail
      go_roundw
      case rel => exact ⟨k + 1, v4, by omega, by go_num, hS5⟩
      case measure => simp [intOf]; omega
    · as_aux_lemma =>
      obtain rfl : k = L := by omega
      obtain ⟨Av, cv, hv⟩ := own_slice hS.out.box.own
      obtain ⟨m, hm⟩ : ∃ m, (encN N ++ (encN k ++ encEs (es.take k))).length = m := ⟨_, rfl⟩
      have HM := Lib.hid hm
      rw [hm] at hv
      subst hv
      clear hm
      have d0 := hS.out.box.box.cell 0
      have f0 := hS.out.box.box.frozen 0
      simp at d0
      have q0 := (hS.out.box.box.set 0 (.slice Av m cv)).cell 0
      simp at q0
      have hF : Kept (· = r0 + 1) wr (wr.setCell ⟨r0 + 1, 0, none⟩ (.slice Av m cv)) := (Kept.refl (· = r0 + 1) wr).setCell (p := ⟨r0 + 1, 0, none⟩) (.inl rfl) _
      have hf : Hid ((wr.setCell ⟨r0 + 1, 0, none⟩ (.slice Av m cv)).ownsRow w.heap.size 5 1 (.slice Av m cv) (encG N es).length ((encG N es).map B8) ∧ Grew w (wr.setCell ⟨r0 + 1, 0, none⟩ (.slice Av m cv))) := by
        have e : encG (N : Int) es = encN N ++ (encN k ++ encEs (es.take k)) := by
          unfold encG
          rw [HL.out, List.take_of_length_le (by rw [HL.out]; exact Nat.le_refl _)]
          rfl
        rw [e]
        refine ⟨own_base (b := r0 + 2) (Kept.own hF hS.out.box.own (fun j hj h => ?_)) (by have := HR0.out; omega), hS.out.kept.then hF (fun i hi h => ?_)⟩
        · have := (hS.out.box.own.lt j hj).1
          have h : j = r0 + 1 := h
          omega
        · have h : i = r0 + 1 := h
          have := HR0.out
          omega
      clear hS hF
      go_wp2_with fail
      exact bodyPost_ret (v := .tuple #[.slice Av m cv, i64 0]) (by simp [results, Try.results6, go_sem, q0]) rfl ⟨_, rfl, hf.out.1, hf.out.2⟩
end Go.Proofs.Ytjbjomodponapaa
