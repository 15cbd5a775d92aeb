/- Hierarchies in bytes: Hierarchy. -/
import Derived.Test.YtjbjomodponapaaMade
import Derived.Test.YtjbjomodponapaaGr
import Derived.Test.YtjbjomodponapaaReadH
namespace Go.Proofs.Ytjbjomodponapaa
open Go.RowKit

theorem rowK_of {w : World} {A : Option Addr} {rk : List Int} (h : RowI w A rk) (h0 : ∀ x ∈ rk, 0 ≤ x) : RowK .i64 w A (rk.map Int.toNat) := fun i x hx => by
  rw [List.getElem?_map] at hx
  obtain ⟨y, hy, e⟩ := Option.map_eq_some_iff.1 hx
  obtain ⟨b, off, hA, hb, hc⟩ := h i y hy
  have := h0 y (List.mem_of_getElem? hy)
  exact ⟨b, off, hA, hb, by rw [hc]; congr 2; omega⟩
theorem encR_toNat {rk : List Int} (h0 : ∀ x ∈ rk, 0 ≤ x) : encNs (rk.map Int.toNat) = encR rk := by
  induction rk with
  | nil => rfl
  | cons x l ih =>
    rw [List.map_cons, encR_cons, ← ih (fun y hy => h0 y (by simp [hy]))]
    rfl
theorem encR_le (rk : List Int) : (encR rk).length ≤ 10 * rk.length := by
  induction rk with
  | nil => simp [encR]
  | cons x l ih =>
    have a : (encN x.toNat).length ≤ 10 := digs_length 10 _
    rw [encR_cons, List.length_append, List.length_cons]
    omega
theorem encS_le (s : Sc) : (encS s).length ≤ 30 := by
  have a : ∀ n, (encN n).length ≤ 10 := fun n => digs_length 10 n
  unfold encS
  split
  · have := a 0; have := a s.edge.toNat; rw [List.length_append]; omega
  · have := a 1; have := a s.a.toNat; have := a s.b.toNat; rw [List.length_append, List.length_append]; omega
theorem encSs_le (ss : List Sc) : (encSs ss).length ≤ 30 * ss.length := by
  induction ss with
  | nil => simp [encSs]
  | cons x l ih =>
    have := encS_le x
    rw [encSs_cons, List.length_append, List.length_cons]
    omega
/-- What Hierarchy has put so far. -/
structure HrS (w : World) (r0 lr m cr cs : Nat) (Ar As : Option Addr) (bs : List Int) (v : Value) (w' : World) : Prop where
  box : BBox w' (r0 + 2) (r0 + 3) bs v
  hb : Blk w' (r0 + 1) 28 #[.slice Ar lr cr, .slice As m cs]
  kept : Grew w w'
  size : r0 + 3 ≤ w'.heap.size
theorem HrS.lit {w w' W : World} {r0 lr m cr cs : Nat} {Ar As : Option Addr} {bs : List Int} {v : Value} (h : HrS w r0 lr m cr cs Ar As bs v w') (k : Grew w' W) : HrS w r0 lr m cr cs Ar As bs v W := ⟨h.box.grew k, h.hb.grew k, h.kept.trans k, Nat.le_trans h.size k.size⟩
theorem HrS.put {w w' W : World} {r0 lr m cr cs : Nat} {Ar As : Option Addr} {bs : List Int} {v : Value} {l : List Nat} {e : Ending} (hr : w.heap.size = r0) (h : HrS w r0 lr m cr cs Ar As bs v w') (p : PutE (r0 + 2) (r0 + 3) bs v l w' e W) : e = .returned (.tuple #[]) ∧ ∃ v', HrS w r0 lr m cr cs Ar As (bs ++ encNs l) v' W := by
  obtain ⟨v', he, hb, k, ho⟩ := p
  have hv : ∀ j, v.ownBlock = some j → r0 + 3 ≤ j := fun j hj => (h.box.own.lt j hj).1
  refine ⟨he, v', hb, h.hb.kept k (fun hh => ?_), h.kept.then k (fun i hi hh => ?_), Nat.le_trans h.size k.size⟩
  · rcases hh with hh | hh
    · omega
    · have := hv _ hh; omega
  · rcases hh with hh | hh
    · omega
    · have := hv _ hh; omega
theorem HrS.args {w w' : World} {r0 lr m cr cs : Nat} {Ar As : Option Addr} {bs : List Int} {v : Value} (h : HrS w r0 lr m cr cs Ar As bs v w') (g : Nat) (hg : w'.heap.size ≤ g ∨ g < r0) : (∀ a, some (⟨g, 0, none⟩ : Addr) = some a → a.block ≠ r0 + 2 ∧ v.ownBlock ≠ some a.block) := by
  have hs := h.size
  intro a ha
  cases ha
  refine ⟨fun e => ?_, fun hh => ?_⟩
  · have e : g = r0 + 2 := e
    omega
  · have hh : v.ownBlock = some g := hh
    have := (h.box.own.lt g hh).1
    have := (h.box.own.lt g hh).2
    omega
theorem HrS.far {w w' : World} {r0 lr m cr cs : Nat} {Ar As : Option Addr} {bs : List Int} {v : Value} (h : HrS w r0 lr m cr cs Ar As bs v w') : v.ownBlock ≠ some (r0 + 2) := fun hh => by have := (h.box.own.lt _ hh).1; omega
set_option maxHeartbeats 2000000 in
theorem hier_no (n : Int) (es : List Edg) (Ae : Option Addr) (ce : Nat) (rk : List Int) (Ar : Option Addr) (cr : Nat) (ss : List Sc) (As : Option Addr) (cs : Nat) (w : World) (he : RowE w Ae es) (hr : RowI w Ar rk) (hs : RowS w As ss)
    (hle : es.length ≤ 100000) (hlr : rk.length ≤ 100000) (hls : ss.length ≤ 100000) (hcs : ss.length ≤ cs) (hno : ¬ (rightF n es = 0 ∧ made n es rk ss)) :
    Calls Try.prog 9 #[.agg #[i64 n, .slice Ae es.length ce], .agg #[.slice Ar rk.length cr, .slice As ss.length cs]] w fun e w' => e = .returned (.tuple #[.slice none 0 0, i64 1]) ∧ Grew w w' := by
  obtain ⟨r0, hr0⟩ : ∃ r, w.heap.size = r := ⟨_, rfl⟩
  have HR0 := Lib.hid hr0
  obtain ⟨L, hL⟩ : ∃ L, es.length = L := ⟨_, rfl⟩
  obtain ⟨lr, hlr'⟩ : ∃ L, rk.length = L := ⟨_, rfl⟩
  obtain ⟨m, hm⟩ : ∃ L, ss.length = L := ⟨_, rfl⟩
  have HL := Lib.hid hL
  have HN := Lib.hid hlr'
  have HM := Lib.hid hm
  have k0 : Grew w (((w.alloc (.cells #[i64 n, .slice Ae L ce] 24)).alloc (.cells #[.slice Ar lr cr, .slice As m cs] 28)).alloc (.cells #[.slice none 0 0] 29)) := (((Kept.refl _ _).alloc _).alloc _).alloc _
  have bG : Blk (((w.alloc (.cells #[i64 n, .slice Ae L ce] 24)).alloc (.cells #[.slice Ar lr cr, .slice As m cs] 28)).alloc (.cells #[.slice none 0 0] 29)) r0 24 #[i64 n, .slice Ae L ce] := by
    have h := ((Blk.new w 24 #[i64 n, .slice Ae L ce]).alloc (.cells #[.slice Ar lr cr, .slice As m cs] 28)).alloc (.cells #[.slice none 0 0] 29)
    rw [hr0] at h
    exact h
  have bH : Blk (((w.alloc (.cells #[i64 n, .slice Ae L ce] 24)).alloc (.cells #[.slice Ar lr cr, .slice As m cs] 28)).alloc (.cells #[.slice none 0 0] 29)) (r0 + 1) 28 #[.slice Ar lr cr, .slice As m cs] := by
    have h := (Blk.new (w.alloc (.cells #[i64 n, .slice Ae L ce] 24)) 28 #[.slice Ar lr cr, .slice As m cs]).alloc (.cells #[.slice none 0 0] 29)
    rw [World.size_alloc, hr0] at h
    exact h
  have bD : Blk (((w.alloc (.cells #[i64 n, .slice Ae L ce] 24)).alloc (.cells #[.slice Ar lr cr, .slice As m cs] 28)).alloc (.cells #[.slice none 0 0] 29)) (r0 + 2) 29 #[.slice none 0 0] := by
    have h := Blk.new ((w.alloc (.cells #[i64 n, .slice Ae L ce] 24)).alloc (.cells #[.slice Ar lr cr, .slice As m cs] 28)) 29 #[.slice none 0 0]
    rw [World.size_alloc, World.size_alloc, hr0] at h
    exact h
  have hC := Lib.hid (made_any n es Ae ce rk Ar cr ss As cs _ (he.grew k0) (hr.grew k0) (hs.grew k0) hle hlr hls hcs)
  rw [hL] at hle
  rw [hlr'] at hlr
  rw [hm] at hls hcs
  rw [hL, hlr', hm] at hC
  rw [hL, hlr', hm]
  obtain ⟨W3, hW3⟩ : ∃ W, (((w.alloc (.cells #[i64 n, .slice Ae L ce] 24)).alloc (.cells #[.slice Ar lr cr, .slice As m cs] 28)).alloc (.cells #[.slice none 0 0] 29)) = W := ⟨_, rfl⟩
  have hs3 : W3.heap.size = r0 + 3 := by rw [← hW3, World.size_alloc, World.size_alloc, World.size_alloc, hr0]
  rw [hW3] at hC k0 bG bH bD

  have g0 := bG.cell 0
  have g1 := bG.cell 1
  have h0 := bH.cell 0
  have h1 := bH.cell 1
  simp at g0 g1 h0 h1
  have HD := Lib.hid bD
  have HK := Lib.hid k0
  have HNO := Lib.hid hno
  clear he hr hs hL hlr' hm k0 bG bH bD hno hle hlr hls
  go_enter Try.func9, Try.ntmps9
  go_wp2_with fail
  refine hC.out.mono ?_
  rintro e w1 ⟨⟨k, b, rfl, hb⟩, k1⟩
  obtain rfl : b = false := by
    cases b with
    | false => rfl
    | true => exact absurd (hb.1 rfl) HNO.out
  have b1 := HD.out.grew k1
  have d0 := b1.cell 0
  have f0 := b1.frozen 0
  simp at d0
  have q0 := (b1.set 0 (.slice none 0 0)).cell 0
  simp at q0
  have hK1 : Hid (Grew w (w1.setCell ⟨r0 + 2, 0, none⟩ (.slice none 0 0))) := (HK.out.trans k1).setCell (p := ⟨r0 + 2, 0, none⟩) (.inr (by show _ ≤ r0 + 2; omega)) _
  clear hC hb k1 b1 HD HK HNO g0 g1 h0 h1 hW3
  go_wp2_with fail
  exact bodyPost_ret (v := .tuple #[.slice none 0 0, i64 1]) (by simp [results, Try.results9, go_sem, q0]) rfl ⟨rfl, hK1.out⟩
set_option maxHeartbeats 4000000 in
set_option maxRecDepth 100000 in
theorem hier_yes (n : Int) (es : List Edg) (Ae : Option Addr) (ce : Nat) (rk : List Int) (Ar : Option Addr) (cr : Nat) (ss : List Sc) (As : Option Addr) (cs : Nat) (w : World) (he : RowE w Ae es) (hr : RowI w Ar rk) (hs : RowS w As ss)
    (hle : es.length ≤ 100000) (hlr : rk.length ≤ 1000) (hls : ss.length ≤ 1000) (hcs : ss.length ≤ cs) (hyes : rightF n es = 0 ∧ made n es rk ss) :
    Calls Try.prog 9 #[.agg #[i64 n, .slice Ae es.length ce], .agg #[.slice Ar rk.length cr, .slice As ss.length cs]] w fun e w' => ∃ v, e = .returned (.tuple #[v, i64 0]) ∧ w'.ownsRow w.heap.size 5 1 v (encH rk ss).length ((encH rk ss).map B8) ∧ Grew w w' := by
  obtain ⟨r0, hr0⟩ : ∃ r, w.heap.size = r := ⟨_, rfl⟩
  have HR0 := Lib.hid hr0
  obtain ⟨L, hL⟩ : ∃ L, es.length = L := ⟨_, rfl⟩
  obtain ⟨lr, hlr'⟩ : ∃ L, rk.length = L := ⟨_, rfl⟩
  obtain ⟨m, hm⟩ : ∃ L, ss.length = L := ⟨_, rfl⟩
  have HL := Lib.hid hL
  have HN := Lib.hid hlr'
  have HM := Lib.hid hm
  have k0 : Grew w (((w.alloc (.cells #[i64 n, .slice Ae L ce] 24)).alloc (.cells #[.slice Ar lr cr, .slice As m cs] 28)).alloc (.cells #[.slice none 0 0] 29)) := (((Kept.refl _ _).alloc _).alloc _).alloc _
  have bG : Blk (((w.alloc (.cells #[i64 n, .slice Ae L ce] 24)).alloc (.cells #[.slice Ar lr cr, .slice As m cs] 28)).alloc (.cells #[.slice none 0 0] 29)) r0 24 #[i64 n, .slice Ae L ce] := by
    have h := ((Blk.new w 24 #[i64 n, .slice Ae L ce]).alloc (.cells #[.slice Ar lr cr, .slice As m cs] 28)).alloc (.cells #[.slice none 0 0] 29)
    rw [hr0] at h
    exact h
  have bH : Blk (((w.alloc (.cells #[i64 n, .slice Ae L ce] 24)).alloc (.cells #[.slice Ar lr cr, .slice As m cs] 28)).alloc (.cells #[.slice none 0 0] 29)) (r0 + 1) 28 #[.slice Ar lr cr, .slice As m cs] := by
    have h := (Blk.new (w.alloc (.cells #[i64 n, .slice Ae L ce] 24)) 28 #[.slice Ar lr cr, .slice As m cs]).alloc (.cells #[.slice none 0 0] 29)
    rw [World.size_alloc, hr0] at h
    exact h
  have bD : Blk (((w.alloc (.cells #[i64 n, .slice Ae L ce] 24)).alloc (.cells #[.slice Ar lr cr, .slice As m cs] 28)).alloc (.cells #[.slice none 0 0] 29)) (r0 + 2) 29 #[.slice none 0 0] := by
    have h := Blk.new ((w.alloc (.cells #[i64 n, .slice Ae L ce] 24)).alloc (.cells #[.slice Ar lr cr, .slice As m cs] 28)) 29 #[.slice none 0 0]
    rw [World.size_alloc, World.size_alloc, hr0] at h
    exact h
  have hC := Lib.hid (made_any n es Ae ce rk Ar cr ss As cs _ (he.grew k0) (hr.grew k0) (hs.grew k0) hle (by omega) (by omega) hcs)
  rw [hL] at hle
  rw [hlr'] at hlr
  rw [hm] at hls hcs
  rw [hL, hlr', hm] at hC
  rw [hL, hlr', hm]
  obtain ⟨W3, hW3⟩ : ∃ W, (((w.alloc (.cells #[i64 n, .slice Ae L ce] 24)).alloc (.cells #[.slice Ar lr cr, .slice As m cs] 28)).alloc (.cells #[.slice none 0 0] 29)) = W := ⟨_, rfl⟩
  have hs3 : W3.heap.size = r0 + 3 := by rw [← hW3, World.size_alloc, World.size_alloc, World.size_alloc, hr0]
  rw [hW3] at hC k0 bG bH bD

  have hmf : ∀ (fn : Fn) (first cap : Array Value) (w : World), (Instr.makeFunc fn first cap).run Try.prog w = .ok (.func fn first cap) w := fun _ _ _ _ => rfl
  have g0 := bG.cell 0
  have g1 := bG.cell 1
  have h0 := bH.cell 0
  have h1 := bH.cell 1
  simp at g0 g1 h0 h1
  have hpos : Hid (∀ x ∈ rk, 0 ≤ x ∧ x < 1000) := fun x hx => by have := hyes.2.2.1.1 x hx; omega
  have hS0 : Hid (HrS w r0 lr m cr cs Ar As [] (.slice none 0 0) W3) := ⟨⟨bD, World.ownsRow_nil _ _ _ _⟩, bH, k0, by omega⟩
  have HY := Lib.hid hyes
  have HRr := Lib.hid hr
  have HSr := Lib.hid hs
  have hA1 : Hid (∀ a, Ar = some a → a.block < r0 ∧ a = ⟨a.block, a.off, none⟩) := fun a ha => by
    have hn1 := (right_zero hyes.1).1
    have hnl := hyes.2.1
    obtain ⟨x, hx⟩ : ∃ x, rk[0]? = some x := ⟨_, List.getElem?_eq_getElem (by omega)⟩
    obtain ⟨b, off, hA, hb, _⟩ := hr 0 x hx
    rw [hA] at ha
    cases ha
    exact ⟨by show b < r0; omega, rfl⟩
  clear he hr hs hL hlr' hm k0 bG bH bD hyes
  go_enter Try.func9, Try.ntmps9
  go_wp2_with fail
  refine hC.out.mono ?_
  rintro e w1 ⟨⟨q, b, rfl, hb⟩, k1⟩
  obtain rfl : b = true := hb.2 HY.out
  have hS1 := Lib.hid (hS0.out.lit k1)
  have h0 := hS1.out.hb.cell 0
  have h1 := hS1.out.hb.cell 1
  simp at h0 h1
  clear hC hS0 k1 hb g0 g1
  -- the ranks
  have hP := Lib.hid (puti_any (r0 + 2) (r0 + 3) cr Ar [] (.slice none 0 0) (rk.map Int.toNat) w1 hS1.out.box (rowK_of (HRr.out.grew hS1.out.kept) (fun x hx => (hpos.out x hx).1)) hS1.out.size (by rw [List.length_map, HN.out]; exact hlr) (by simp)
    (fun x hx => by
      obtain ⟨y, hy, e⟩ := List.mem_map.1 hx
      have := hpos.out y hy
      omega)
    (fun a ha => ⟨fun e => by have := (hA1.out a ha).1; omega, fun h => by cases h⟩) (fun h => by cases h))
  rw [List.length_map, HN.out] at hP
  go_wp2_with fail
  refine hP.out.mono ?_
  rintro e w2 hp
  obtain ⟨rfl, v2, hS2⟩ := hS1.out.put HR0.out hp
  have hS2 : Hid (HrS w r0 lr m cr cs Ar As (encR rk) v2 w2) := by
    rw [encR_toNat (fun x hx => (hpos.out x hx).1)] at hS2
    exact hS2
  replace h0 := hS2.out.hb.cell 0
  replace h1 := hS2.out.hb.cell 1
  simp at h0 h1
  clear hp hP hS1
  -- how many
  have gA : Grew w2 (w2.alloc (.cells #[i64 m] 3)) := (Kept.refl _ _).alloc _
  have hRl : Hid ((encR rk).length ≤ 10000) := by have := encR_le rk; rw [HN.out] at this; show _ ≤ _; omega
  have hP := Lib.hid (puti_any (r0 + 2) (r0 + 3) 1 (some ⟨w2.heap.size, 0, none⟩) (encR rk) v2 [m] _ (hS2.out.lit gA).box (rowK_one (Blk.new w2 3 #[i64 m])) (hS2.out.lit gA).size (by simp) (by have := hRl.out; omega) (fun x hx => by simp at hx; omega) (hS2.out.args _ (.inl (Nat.le_refl _))) hS2.out.far)
  have hSA := Lib.hid (hS2.out.lit gA)
  clear hS2 gA
  go_wp2_with fail
  refine hP.out.mono ?_
  rintro e w3 hp
  obtain ⟨rfl, v3, hS3⟩ := hSA.out.put HR0.out hp
  have hS3 : Hid (HrS w r0 lr m cr cs Ar As (encR rk ++ (encN m ++ encSs (ss.take 0))) v3 w3) := by
    have e : encNs [m] = encN m ++ encSs (ss.take 0) := by simp [encNs, encSs]
    rw [e] at hS3
    exact hS3
  replace h0 := hS3.out.hb.cell 0
  replace h1 := hS3.out.hb.cell 1
  simp at h0 h1
  clear hp hP hSA
  go_wp2_with fail
  go_loopw [33] (fun i wr => ∃ (k : Nat) (v : Value), k ≤ m ∧ i = .int .i64 k ∧ Hid (HrS w r0 lr m cr cs Ar As (encR rk ++ (encN m ++ encSs (ss.take k))) v wr)) (fun i _ => m - (intOf i).toNat)
  case atStart => exact ⟨0, v3, by omega, rfl, hS3.out⟩
  case round =>
    clear hS3 h0 h1
    obtain ⟨k, v, hk, rfl, hS⟩ := hrel
    by_cases hlt : k < m
    · as_aux_lemma =>
      have l1 : (k : Int) < (m : Int) := by omega
      have l0 : (0 : Int) ≤ (k : Int) := by omega
      obtain ⟨x, hx⟩ : ∃ x, ss[k]? = some x := ⟨_, List.getElem?_eq_getElem (by rw [HM.out]; exact hlt)⟩
      obtain ⟨b, off, hAs, hbl, x0, x1, x2, x3, x4, x5⟩ := HSr.out k x hx
      have HX := Lib.hid hx
      have hok := HY.out.2.2.2 k x hx
      subst hAs
      replace x0 := Grew.cell hS.out.kept x0
      replace x1 := Grew.cell hS.out.kept x1
      replace x2 := Grew.cell hS.out.kept x2
      replace x3 := Grew.cell hS.out.kept x3
      replace x4 := Grew.cell hS.out.kept x4
      replace x5 := Grew.cell hS.out.kept x5
      have gE : Grew wr (wr.alloc (.cells #[i64 x.from', i64 x.to', .int .u64 x.w, i64 x.edge, i64 x.a, i64 x.b] 66)) := (Kept.refl _ _).alloc _
      have bE := Blk.new wr 66 #[i64 x.from', i64 x.to', .int .u64 x.w, i64 x.edge, i64 x.a, i64 x.b]
      have hS4 := Lib.hid (hS.out.lit gE)
      obtain ⟨E, hE⟩ : ∃ E, wr.heap.size = E := ⟨_, rfl⟩
      rw [hE] at bE
      obtain ⟨W4, hW4⟩ : ∃ W, wr.alloc (.cells #[i64 x.from', i64 x.to', .int .u64 x.w, i64 x.edge, i64 x.a, i64 x.b] 66) = W := ⟨_, rfl⟩
      rw [hW4] at bE hS4
      have e3 := bE.cell 3
      have e4 := bE.cell 4
      have e5 := bE.cell 5
      simp at e3 e4 e5
      have hle2 : Hid ((encR rk ++ (encN m ++ encSs (ss.take k))).length ≤ 100000) := by
        have a := encR_le rk
        have b := encSs_le (ss.take k)
        have c : (encN m).length ≤ 10 := digs_length 10 m
        rw [List.length_take, HM.out] at b
        rw [HN.out] at a
        show _ ≤ _
        simp only [List.length_append]
        omega
      clear gE bE hS hx
      rcases hok with hok | hok
      · as_aux_lemma =>
        obtain ⟨i, hi⟩ := Int.eq_ofNat_of_zero_le hok.1
        have hi1 := get_lt hok.2.2.2
        rw [HL.out, hi] at hi1
        simp only [Int.toNat_natCast] at hi1
        rw [hi] at x3 e3
        have hge : (0 : Int) ≤ (i : Int) := by omega
        have hW4' := Lib.hid hW4
        rw [hi] at hW4
        have gA : Grew W4 (W4.alloc (.cells #[i64 0, i64 i] 3)) := (Kept.refl _ _).alloc _
        have hP := Lib.hid (puti_any (r0 + 2) (r0 + 3) 2 (some ⟨W4.heap.size, 0, none⟩) _ v [0, i] _ (hS4.out.lit gA).box (rowK_two (Blk.new W4 3 #[i64 (0 : Nat), i64 i])) (hS4.out.lit gA).size (by simp) hle2.out (fun y hy => by simp at hy; omega) (hS4.out.args _ (.inl (Nat.le_refl _))) hS4.out.far)
        have hSA := Lib.hid (hS4.out.lit gA)
        have henc : Hid (encS x = encNs [0, i]) := by
          show _ = _
          unfold encS
          rw [if_pos hok.1, hi]
          simp [encNs]
        clear hS4 gA hok
        go_wp2_with fail
        refine hP.out.mono ?_
        rintro e w4 hp
        obtain ⟨rfl, v4, hS5⟩ := hSA.out.put HR0.out hp
        have hS6 : Hid (HrS w r0 lr m cr cs Ar (some ⟨b, off, none⟩) (encR rk ++ (encN m ++ encSs (ss.take (k + 1)))) v4 w4) := by
          rw [List.take_add_one, HX.out]
          show HrS w r0 lr m cr cs Ar _ (encR rk ++ (encN m ++ encSs (ss.take k ++ [x]))) v4 w4
          rw [encSs_snoc, henc.out]
          simpa [List.append_assoc] using hS5
        clear hp hP hSA hS5 HX x0 x1 x2 x3 x4 x5 e3 e4 e5 henc
        go_wp2_with fail
        go_roundw
        case rel => exact ⟨k + 1, v4, by omega, by go_num, hS6⟩
        case measure => simp [intOf]; omega
      · as_aux_lemma =>
        obtain ⟨h1, ha, hb, _, y, z, hy, hz, _⟩ := hok
        obtain ⟨i, hi⟩ := Int.eq_ofNat_of_zero_le ha
        obtain ⟨j, hj⟩ := Int.eq_ofNat_of_zero_le hb
        have hi1 := get_lt hy
        have hj1 := get_lt hz
        rw [List.length_take, HM.out, hi] at hi1
        rw [List.length_take, HM.out, hj] at hj1
        simp only [Int.toNat_natCast] at hi1 hj1
        have henc : Hid (encS x = encNs [1, i, j]) := by
          show _ = _
          unfold encS
          rw [if_neg (by rw [h1]; decide), hi, hj]
          simp [encNs]
        rw [h1] at x3 e3
        rw [hi] at x4 e4
        rw [hj] at x5 e5
        rw [h1, hi, hj] at hW4
        have gA : Grew W4 (W4.alloc (.cells #[i64 1, i64 i, i64 j] 3)) := (Kept.refl _ _).alloc _
        have hP := Lib.hid (puti_any (r0 + 2) (r0 + 3) 3 (some ⟨W4.heap.size, 0, none⟩) _ v [1, i, j] _ (hS4.out.lit gA).box (rowK_three (Blk.new W4 3 #[i64 (1 : Nat), i64 i, i64 j])) (hS4.out.lit gA).size (by simp) hle2.out (fun y hy => by simp at hy; omega) (hS4.out.args _ (.inl (Nat.le_refl _))) hS4.out.far)
        have hSA := Lib.hid (hS4.out.lit gA)
        clear hS4 gA hy hz h1 hi hj ha hb
        go_wp2_with fail
        refine hP.out.mono ?_
        rintro e w4 hp
        obtain ⟨rfl, v4, hS5⟩ := hSA.out.put HR0.out hp
        have hS6 : Hid (HrS w r0 lr m cr cs Ar (some ⟨b, off, none⟩) (encR rk ++ (encN m ++ encSs (ss.take (k + 1)))) v4 w4) := by
          rw [List.take_add_one, HX.out]
          show HrS w r0 lr m cr cs Ar _ (encR rk ++ (encN m ++ encSs (ss.take k ++ [x]))) v4 w4
          rw [encSs_snoc, henc.out]
          simpa [List.append_assoc] using hS5
        clear hp hP hSA hS5 HX x0 x1 x2 x3 x4 x5 e3 e4 e5 henc
        go_wp2_with fail
        go_roundw
        case rel => exact ⟨k + 1, v4, by omega, by go_num, hS6⟩
        case measure => simp [intOf]; omega
    · as_aux_lemma =>
      obtain rfl : k = m := by omega
      obtain ⟨Av, cv, hv⟩ := own_slice hS.out.box.own
      obtain ⟨q, hq⟩ : ∃ q, (encR rk ++ (encN k ++ encSs (ss.take k))).length = q := ⟨_, rfl⟩
      rw [hq] at hv
      subst hv
      have HQ := Lib.hid hq
      clear hq
      have d0 := hS.out.box.box.cell 0
      have f0 := hS.out.box.box.frozen 0
      simp at d0
      have q0 := (hS.out.box.box.set 0 (.slice Av q cv)).cell 0
      simp at q0
      have hF : Kept (· = r0 + 2) wr (wr.setCell ⟨r0 + 2, 0, none⟩ (.slice Av q cv)) := (Kept.refl (· = r0 + 2) wr).setCell (p := ⟨r0 + 2, 0, none⟩) (.inl rfl) _
      have hf : Hid ((wr.setCell ⟨r0 + 2, 0, none⟩ (.slice Av q cv)).ownsRow w.heap.size 5 1 (.slice Av q cv) (encH rk ss).length ((encH rk ss).map B8) ∧ Grew w (wr.setCell ⟨r0 + 2, 0, none⟩ (.slice Av q cv))) := by
        have e : encH rk ss = encR rk ++ (encN k ++ encSs (ss.take k)) := by
          unfold encH
          rw [HM.out, List.take_of_length_le (by rw [HM.out]; exact Nat.le_refl _)]
        rw [e]
        refine ⟨own_base (b := r0 + 3) (Kept.own hF hS.out.box.own (fun j hj h => ?_)) (by have := HR0.out; omega), hS.out.kept.then hF (fun i hi h => ?_)⟩
        · have := (hS.out.box.own.lt j hj).1
          have h : j = r0 + 2 := h
          omega
        · have h : i = r0 + 2 := h
          have := HR0.out
          omega
      clear hS hF
      go_wp2_with fail
      exact bodyPost_ret (v := .tuple #[.slice Av q cv, i64 0]) (by simp [results, Try.results9, go_sem, q0]) rfl ⟨_, rfl, hf.out.1, hf.out.2⟩
end Go.Proofs.Ytjbjomodponapaa
