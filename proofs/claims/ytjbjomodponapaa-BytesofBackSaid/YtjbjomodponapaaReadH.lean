/- Hierarchies read: what is between. -/
import Derived.Test.YtjbjomodponapaaShort
import Derived.Test.YtjbjomodponapaaRCall
import Derived.Great.BuildSlice
namespace Go.Proofs.Ytjbjomodponapaa
open Go.RowKit

def scCs (s : Sc) : List Value := [i64 s.from', i64 s.to', .int .u64 s.w, i64 s.edge, i64 s.a, i64 s.b]
def scsOf (ss : List Sc) : List Value := ss.flatMap scCs
theorem scsOf_length (ss : List Sc) : (scsOf ss).length = ss.length * 6 := by
  induction ss with
  | nil => rfl
  | cons e es ih => simp only [scsOf, List.flatMap_cons, List.length_append, List.length_cons] at ih ⊢; rw [ih]; simp [scCs]; omega
theorem scsOf_append (a b : List Sc) : scsOf (a ++ b) = scsOf a ++ scsOf b := List.flatMap_append
theorem scsOf_one (e : Sc) : scsOf [e] = scCs e := by simp [scsOf]
theorem scsOf_get : ∀ (es : List Sc) (i j : Nat) (e : Sc), es[i]? = some e → j < 6 → (scsOf es)[i * 6 + j]? = (scCs e)[j]?
  | [], i, j, e, h, _ => by simp at h
  | x :: es, 0, j, e, h, hj => by
    simp only [List.getElem?_cons_zero, Option.some.injEq] at h
    subst h
    rw [scsOf, List.flatMap_cons, Nat.zero_mul, Nat.zero_add, List.getElem?_append_left (by simp [scCs]; omega)]
  | x :: es, i + 1, j, e, h, hj => by
    rw [List.getElem?_cons_succ] at h
    have ih := scsOf_get es i j e h hj
    have e3 : (scCs x).length = 6 := rfl
    rw [scsOf, List.flatMap_cons, List.getElem?_append_right (by omega), e3, show (i + 1) * 6 + j - 6 = i * 6 + j by omega]
    exact ih
/-- v is a slice of the call's own that holds the shortcuts ss. -/
def OwnS (w : World) (B : Nat) (v : Value) (ss : List Sc) : Prop := w.ownsRow B 66 6 v ss.length (scsOf ss)
theorem info_sc : (Try.prog.info? 66).map (fun i => (i.zero, i.size, i.bytes)) = some (some (.agg #[i64 0, i64 0, u64 0, i64 0, i64 0, i64 0]), 6, 48) := by kernel_rfl
theorem OwnS.row {w : World} {B : Nat} {v : Value} {es : List Sc} (h : OwnS w B v es) : ∃ A c, v = .slice A es.length c ∧ RowS w A es := by
  rcases Nat.eq_zero_or_pos es.length with h0 | h0
  · obtain ⟨A, c, hv⟩ := own_slice h
    refine ⟨A, c, hv, ?_⟩
    rw [List.length_eq_zero_iff.1 h0]
    intro i e he
    simp at he
  · obtain ⟨g, c, rfl⟩ := own_form h h0
    refine ⟨_, c, rfl, fun i e he => ?_⟩
    have hi := get_lt he
    have hc : ∀ j, j < 6 → w.cell? ⟨g, i * 6 + j, none⟩ = (scCs e)[j]? := fun j hj => by
      rw [← scsOf_get es i j e he hj]
      exact World.ownsRow.cellAt h (i * 6 + j) (by omega)
    refine ⟨g, 0, rfl, (h.lt g rfl).2, ?_, ?_, ?_, ?_, ?_, ?_⟩
    · rw [Nat.zero_add]; exact hc 0 (by omega)
    · rw [Nat.zero_add]; exact hc 1 (by omega)
    · rw [Nat.zero_add]; exact hc 2 (by omega)
    · rw [Nat.zero_add]; exact hc 3 (by omega)
    · rw [Nat.zero_add]; exact hc 4 (by omega)
    · rw [Nat.zero_add]; exact hc 5 (by omega)
/-- A hierarchy that is being read: its box, its ranks and its shortcuts. -/
structure HBox (w : World) (H B : Nat) (rk : List Int) (ss : List Sc) (vr vs : Value) : Prop where
  box : Blk w H 28 #[vr, vs]
  ranks : OwnI w B vr rk
  scs : OwnS w B vs ss
theorem HBox.apart {w : World} {H B : Nat} {rk : List Int} {ss : List Sc} {vr vs : Value} (h : HBox w H B rk ss vr vs) {j : Nat} (h1 : vr.ownBlock = some j) (h2 : vs.ownBlock = some j) : False := by
  obtain ⟨_, c1, e1⟩ := own_type h.ranks h1
  obtain ⟨_, c2, e2⟩ := own_type h.scs h2
  rw [e1] at e2
  cases e2
theorem HBox.kept {F : Nat → Prop} {w w' : World} {H B : Nat} {rk : List Int} {ss : List Sc} {vr vs : Value} (h : HBox w H B rk ss vr vs) (k : Kept F w w') (h1 : ¬ F H) (h2 : ∀ j, B ≤ j → j < w.heap.size → ¬ F j) : HBox w' H B rk ss vr vs :=
  ⟨h.box.kept k h1, Kept.own k h.ranks (fun j hj => h2 j (h.ranks.lt j hj).1 (h.ranks.lt j hj).2), Kept.own k h.scs (fun j hj => h2 j (h.scs.lt j hj).1 (h.scs.lt j hj).2)⟩
theorem HBox.grew {w w' : World} {H B : Nat} {rk : List Int} {ss : List Sc} {vr vs : Value} (h : HBox w H B rk ss vr vs) (k : Grew w w') : HBox w' H B rk ss vr vs := h.kept k (fun h => h) (fun _ _ _ h => h)
theorem fill_sc (p q r s t u : Value) : Instr.fill (fun i => some (i * 6, 6)) ((Array.range (1 * 6)).map ((Value.agg #[i64 0, i64 0, u64 0, i64 0, i64 0, i64 0]).cells[· % (Value.agg #[i64 0, i64 0, u64 0, i64 0, i64 0, i64 0]).cells.size]!)) [(0, .agg #[p, q, r, s, t, u])] = some #[p, q, r, s, t, u] := by kernel_rfl
/-- A slice of one shortcut. -/
theorem wpList_sc {ops : Array Oper} {rest : List Oper} {o : Oper} {a : Act} {w : World} {Q : Exit → Act → World → Prop} (hg : o.guard = none) (parts : Array (Nat × Operand)) (ho : o.op = .buildSlice 26 1 parts)
    (p q r s t u : Value) (hp : (parts.map fun (i, x) => (i, a.eval x)).toList = [(0, .agg #[p, q, r, s, t, u])]) (d : Option Tmp) (hd : o.dst = d)
    (h : wpList Try.prog ops Q rest (a.put d (.slice (some ⟨w.heap.size, 0, none⟩) 1 1)) (w.alloc (.cells #[p, q, r, s, t, u] 66))) : wpList Try.prog ops Q (o :: rest) a w := by
  obtain ⟨i0, hi, hz0, hz1, hz2⟩ := info_parts info_sc
  subst hd
  refine wpList_buildSlice hg 26 66 1 parts ho #[p, q, r, s, t, u] i0 _ Try.underlying26 hi hz0 (by rw [hz1]; decide) (by rw [hz1]; decide) ?_ h
  rw [hp, hz1]
  exact fill_sc p q r s t u
/-- What Read.. answers, of a hierarchy. -/
def RhE (n : Nat) (es : List Edg) (z : Nat → Int) (len R H B : Nat) (A : Option Addr) (cap : Nat) (w : World) (e : Ending) (w' : World) : Prop :=
  (∃ p rk ss vr vs, e = .returned (.tuple #[]) ∧ p ≤ len ∧ Rd w' R A len cap p ∧ HBox w' H B rk ss vr vs ∧ okH n es rk ss ∧ (p = len → Rest z len 0 (encH rk ss)) ∧
    (∀ rk0 ss0, okH n es rk0 ss0 → Rest z len 0 (encH rk0 ss0) → rk0 = rk ∧ ss0 = ss ∧ p = len) ∧ Kept (fun j => j = R ∨ j = H) w w') ∨
  (NoH n es z len ∧ (∃ x y, Blk w' H 28 #[x, y]) ∧ ∃ q, e = .panicked (wrongs q) ∧ Kept (fun j => j = R ∨ j = H) w w')
/-- What each round finds. -/
structure RhS (n : Nat) (es : List Edg) (z : Nat → Int) (len R H : Nat) (A : Option Addr) (cap : Nat) (w : World) (m : Nat) (rk : List Int) (ss : List Sc) (p : Nat) (vr vs : Value) (w' : World) : Prop where
  le : p ≤ len
  rd : Rd w' R A len cap p
  box : HBox w' H w.heap.size rk ss vr vs
  ok : ∀ i s, ss[i]? = some s → edgeOk es s ∨ twoOk rk (ss.take i) s
  had : HadS z rk m ss p
  cand : CandS n es z len rk m ss p
  kept : Kept (fun j => j = R ∨ j = H) w w'
theorem noF {n : Int} {es : List Edg} {z : Nat → Int} {len : Nat} {rk : List Int} {m : Nat} {ss : List Sc} {p : Nat} (hl : es.length ≤ 16384) (hc : CandS n es z len rk m ss p) (hk : ss.length < m) (h : FailS z len p es ss) : NoH n es z len := by
  rcases h with h | ⟨p1, h0, h⟩ | ⟨p1, h0, h⟩ | ⟨p1, i, p2, h0, h1, h⟩
  · exact noS1 hc hk h
  · exact noE hl hc hk h0 h
  · exact noT1 hc hk h0 h
  · exact noT2 hc hk h0 h1 h
theorem ok_snoc {es : List Edg} {rk : List Int} {ss : List Sc} {s : Sc} (h : ∀ i s, ss[i]? = some s → edgeOk es s ∨ twoOk rk (ss.take i) s) (hs : edgeOk es s ∨ twoOk rk ss s) : ∀ i t, (ss ++ [s])[i]? = some t → edgeOk es t ∨ twoOk rk ((ss ++ [s]).take i) t := fun i t ht => by
  by_cases hi : i < ss.length
  · rw [List.getElem?_append_left hi] at ht
    rw [List.take_append_of_le_length (by omega)]
    exact h i t ht
  · have hj := get_lt ht
    rw [List.length_append] at hj
    obtain rfl : i = ss.length := by simp at hj; omega
    rw [List.getElem?_append_right (Nat.le_refl _), Nat.sub_self] at ht
    cases ht
    rw [List.take_left' rfl]
    exact hs
/-- The round's end: one more shortcut. -/
theorem RhS.step {n : Nat} {es : List Edg} {z : Nat → Int} {len R H : Nat} {A : Option Addr} {cap : Nat} {w : World} {m : Nat} {rk : List Int} {ss : List Sc} {q : Nat} {vr : Value} {A2 : Option Addr} {k c2 g cp : Nat} {s : Sc} {w5 wa : World} {o : Obj}
    (hlen : ss.length = k) (hR0 : R < w.heap.size) (hH0 : H < w.heap.size) (hRH : R ≠ H) (hq : q ≤ len) (rd : Rd w5 R A len cap q) (box : HBox w5 H w.heap.size rk ss vr (.slice A2 k c2))
    (ok : ∀ i s, ss[i]? = some s → edgeOk es s ∨ twoOk rk (ss.take i) s) (oks : edgeOk es s ∨ twoOk rk ss s) (had : HadS z rk m (ss ++ [s]) q) (cand : CandS n es z len rk m (ss ++ [s]) q) (kept : Kept (fun j => j = R ∨ j = H) w w5)
    (hown : wa.ownsRow w.heap.size 66 6 (.slice (some ⟨g, 0, none⟩) (k + 1) cp) (k + 1) (scsOf ss ++ scCs s)) (hgrow : (w5.alloc o).grownBy wa (Value.slice A2 k c2).ownBlock) :
    (ss ++ [s]).length = k + 1 ∧ RhS n es z len R H A cap w m rk (ss ++ [s]) q vr (.slice (some ⟨g, 0, none⟩) (k + 1) cp) (wa.setCell ⟨H, 1, none⟩ (.slice (some ⟨g, 0, none⟩) (k + 1) cp)) := by
  have kA : Kept (fun j => (Value.slice A2 k c2).ownBlock = some j) w5 wa := ((Kept.refl _ _).alloc _).grown hgrow (fun k hk => .inl hk)
  have hj5 : ∀ j, (Value.slice A2 k c2).ownBlock = some j → w.heap.size ≤ j := fun j hj => (box.scs.lt j hj).1
  have hgB : w.heap.size ≤ g := (hown.lt g rfl).1
  have bHa := box.box.kept kA (fun h => by have := hj5 _ h; omega)
  have hF : Kept (· = H) wa (wa.setCell ⟨H, 1, none⟩ (.slice (some ⟨g, 0, none⟩) (k + 1) cp)) := (Kept.refl (· = H) wa).setCell (p := ⟨H, 1, none⟩) (.inl rfl) _
  have hB := kept.size
  refine ⟨by rw [List.length_append, hlen]; rfl, hq, ?_, ⟨?_, ?_, ?_⟩, ok_snoc ok oks, had, cand, (kept.then kA (fun i hi h => by have := hj5 _ h; omega)).then hF (fun i hi h => .inr h)⟩
  · exact (rd.kept kA (fun h => by have := hj5 _ h; omega)).far (p := ⟨H, 1, none⟩) hRH _
  · have q := bHa.set 1 (.slice (some ⟨g, 0, none⟩) (k + 1) cp)
    simp at q
    exact q
  · exact Kept.own hF (Kept.own kA box.ranks (fun j hj h => box.apart hj h)) (fun j hj h => by
      have := (box.ranks.lt j hj).1
      have h : j = H := h
      omega)
  · unfold OwnS
    rw [List.length_append, hlen, scsOf_append, scsOf_one]
    exact Kept.own hF hown (fun j hj h => by
      obtain rfl : g = j := Option.some.inj hj
      have h : g = H := h
      omega)

set_option maxHeartbeats 2000000 in
set_option maxRecDepth 100000 in
theorem readH_any (n : Nat) (es : List Edg) (Ae : Option Addr) (ce R G H : Nat) (A : Option Addr) (len cap : Nat) (z : Nat → Int) (w : World) (h : Rd w R A len cap 0) (hG : Blk w G 24 #[i64 n, .slice Ae es.length ce]) (he : RowE w Ae es) (hH : Blk w H 28 #[.slice none 0 0, .slice none 0 0]) (hs : Src w A len cap z) (hl : len ≤ 100000) (hr : rightF n es = 0)
    (hRG : R ≠ G) (hRH : R ≠ H) (hGH : G ≠ H) (hA : ∀ a, A = some a → a.block < w.heap.size ∧ a.block ≠ R ∧ a.block ≠ H) (hAe : ∀ a, Ae = some a → a.block ≠ R ∧ a.block ≠ H) :
    Calls Try.prog 23 #[pt R, pt G, pt H] w fun e w' => RhE n es z len R H w.heap.size A cap w e w' := by
  obtain ⟨i0, hi, hz0, hz1, hz2⟩ := info_parts info_sc
  obtain ⟨hn1, hn2, hLL, _⟩ := right_zero hr
  have hrng := Lib.hid hs.range
  have HA : Hid (∀ W, Kept (fun j => j = R ∨ j = H) w W → Src W A len cap z) := fun W k => hs.kept k (fun a ha hh => by
    obtain ⟨_, x, y⟩ := hA a ha
    rcases hh with hh | hh
    · exact x hh
    · exact y hh)
  have HE : Hid (∀ W, Kept (fun j => j = R ∨ j = H) w W → RowE W Ae es) := fun W k => he.kept k (fun a ha hh => by
    obtain ⟨x, y⟩ := hAe a ha
    rcases hh with hh | hh
    · exact x hh
    · exact y hh)
  have HAR : Hid (∀ a, A = some a → a.block ≠ R) := fun a ha => (hA a ha).2.1
  have HAE : Hid (∀ a, Ae = some a → a.block ≠ R) := fun a ha => (hAe a ha).1
  have HRK := Lib.hid (ranks_read n es R A len cap z w h hs hl (by omega) (fun a ha => ⟨(hA a ha).1, (hA a ha).2.1⟩))
  have HRt := Lib.hid hr
  obtain ⟨L, hL⟩ : ∃ L, es.length = L := ⟨_, rfl⟩
  have HL := Lib.hid hL
  rw [hL] at hG hLL
  have hR0 := h.lt
  have hG0 := hG.lt
  have hH0 := hH.lt
  have HGk : Hid (∀ W, Kept (fun j => j = R ∨ j = H) w W → Blk W G 24 #[i64 n, .slice Ae L ce]) := fun W k => hG.kept k (fun hh => by
    rcases hh with hh | hh
    · exact hRG hh.symm
    · exact hGH hh)
  have HH := Lib.hid hH
  have g0 := hG.cell 0
  simp at g0
  clear h hG hs hA hAe he hH hr hL
  go_enter Try.func23, Try.ntmps23
  go_wp2_with fail
  refine HRK.out.mono ?_
  rintro e w1 (⟨p1, rk, vr, rfl, ho, hlr, hrk, hp1, hR1, had1, cand1, k1⟩ | ⟨hno, q, rfl, k1⟩)
  rotate_left
  · as_aux_lemma =>
    have hf : Hid (RhE n es z len R H w.heap.size A cap w (.panicked (wrongs q)) w1) := .inr ⟨hno, ⟨_, _, HH.out.kept k1 (fun e => hRH e.symm)⟩, q, rfl, k1.mono (fun _ _ h => .inl h)⟩
    clear HRK hno k1
    go_wp2_with fail
    exact ⟨rfl, hf.out⟩
  obtain ⟨Ar, cr, rfl, hrow1⟩ := ho.row
  rw [hlr] at ho ⊢
  have bH := HH.out.kept k1 (fun e => hRH e.symm)
  have fH := bH.frozen 0
  have c0 := bH.cell 0
  have bH2 := bH.set 0 (.slice Ar n cr)
  simp at bH2 c0
  have kX : Kept (· = H) w1 (w1.setCell ⟨H, 0, none⟩ (.slice Ar n cr)) := (Kept.refl (· = H) w1).setCell (p := ⟨H, 0, none⟩) (.inl rfl) _
  have kA : Kept (fun j => j = R ∨ j = H) w (w1.setCell ⟨H, 0, none⟩ (.slice Ar n cr)) := (k1.mono (fun _ _ h => .inl h)).then kX (fun _ _ h => .inr h)
  have hR2 : Rd (w1.setCell ⟨H, 0, none⟩ (.slice Ar n cr)) R A len cap p1 := hR1.far (p := ⟨H, 0, none⟩) hRH _
  have ho2 : OwnI (w1.setCell ⟨H, 0, none⟩ (.slice Ar n cr)) w.heap.size (.slice Ar n cr) rk := ho.kept kX (fun j hj h => by
    have := (ho.lt j hj).1
    have h : j = H := h
    omega)
  have hN2 := Lib.hid (number_read R A len cap p1 0 65536 z _ hR2 (HA.out _ kA) hp1 hl)
  have HB2 := Lib.hid bH2
  have HKA := Lib.hid kA
  have HO2 := Lib.hid ho2
  have HRk := Lib.hid (show rk.length = n ∧ rankOk rk ∧ HadR z rk p1 ∧ CandR n es z len rk p1 from ⟨hlr, hrk, had1, cand1⟩)
  clear HRK hR1 k1 bH kA kX hR2 bH2 ho ho2 hrow1 hrk had1 cand1 hlr HH
  go_wp2_with fail
  refine hN2.out.mono ?_
  rintro e w2 (⟨m, p2, hT2, _, m2, rfl, hR2, k2⟩ | ⟨hno, q, rfl, k2⟩)
  rotate_left
  · as_aux_lemma =>
    have hf : Hid (RhE n es z len R H w.heap.size A cap w (.panicked (wrongs q)) w2) := .inr ⟨noM HRk.out.2.2.2 (by have := HRk.out.1; omega) (fun x p' hT => fun hh => hno x p' hT ⟨Nat.zero_le _, by omega⟩), ⟨_, _, HB2.out.kept k2 (fun e => hRH e.symm)⟩, q, rfl, HKA.out.then k2 (fun _ _ h => .inl h)⟩
    clear hN2 hno k2
    go_wp2_with fail
    exact ⟨rfl, hf.out⟩
  have hS0 : Hid (RhS n es z len R H A cap w m rk [] p2 (.slice Ar n cr) (.slice none 0 0) w2) :=
    ⟨hT2.2.2, hR2, ⟨HB2.out.kept k2 (fun e => hRH e.symm), HO2.out.kept k2 (fun j hj h => by
      have := (HO2.out.lt j hj).1
      have h : j = R := h
      omega), World.ownsRow_nil _ _ _ _⟩, fun i s hs => by simp at hs, hadM hrng.out HRk.out.2.2.1 hT2, candM HRk.out.2.2.2 (by have := HRk.out.1; omega) hT2, HKA.out.then k2 (fun _ _ h => .inl h)⟩
  clear hN2 hR2 k2 HB2 HKA hT2 fH c0 g0 HO2
  go_wp2_with fail
  go_loopw [13] (fun i wr => ∃ (k p : Nat) (ss : List Sc) (vs : Value), k ≤ m ∧ i = .int .u64 k ∧ Hid (ss.length = k ∧ RhS n es z len R H A cap w m rk ss p (.slice Ar n cr) vs wr)) (fun i _ => m - (intOf i).toNat)
  case atStart => exact ⟨0, p2, [], _, by omega, rfl, rfl, hS0.out⟩
  case round =>
    clear hS0
    obtain ⟨k, p, ss, vs, hk, rfl, hS⟩ := hrel
    obtain ⟨A2, c2, hv, hrow⟩ := hS.out.2.box.scs.row
    rw [hS.out.1] at hv
    subst hv
    by_cases hlt : k < m
    · as_aux_lemma =>
      have l1 : (k : Int) < (m : Int) := by omega
      have hj5 : ∀ j, (Value.slice A2 k c2).ownBlock = some j → w.heap.size ≤ j := fun j hj => (hS.out.2.box.scs.lt j hj).1
      have neH : ¬ (Value.slice A2 k c2).ownBlock = some H := fun h => by have := hj5 _ h; omega
      have r1 := hS.out.2.rd.cell 1
      have bG := HGk.out _ hS.out.2.kept
      have g0 := bG.cell 0
      have g1 := bG.cell 1
      have h1 := hS.out.2.box.box.cell 1
      simp at r1 g0 g1 h1
      have hC := Lib.hid (shortcut_read n Ae A2 ce c2 es ss R A len cap p z wr hS.out.2.rd (HA.out _ hS.out.2.kept) hS.out.2.le hl (HE.out _ hS.out.2.kept) hrow (by rw [HL.out]; omega) (by rw [hS.out.1]; omega) HAR.out HAE.out (fun a ha e => by
        subst ha
        have := hj5 a.block rfl
        omega))
      rw [HL.out, hS.out.1] at hC
      have hlen : Hid (ss.length < m) := by show _ < _; rw [hS.out.1]; exact hlt
      clear bG hrow
      go_wp2_with fail
      refine hC.out.mono ?_
      rintro e w3 (⟨s, q, rfl, hT, hR3, k3⟩ | ⟨hF, q, rfl, k3⟩)
      rotate_left
      · have hf : Hid (RhE n es z len R H w.heap.size A cap w (.panicked (wrongs q)) w3) := .inr ⟨noF (by rw [HL.out]; exact hLL) hS.out.2.cand hlen.out hF, ⟨_, _, hS.out.2.box.box.kept k3 (fun e => hRH e.symm)⟩, q, rfl, hS.out.2.kept.then k3 (fun _ _ h => .inl h)⟩
        clear hC hF k3 hS
        go_wp2_with fail
        exact ⟨rfl, hf.out⟩
      have hBx : HBox w3 H w.heap.size rk ss (.slice Ar n cr) (.slice A2 k c2) := hS.out.2.box.kept k3 (fun e => hRH e.symm) (fun j hj _ h => by
        have h : j = R := h
        omega)
      have gE : Grew w3 (w3.alloc (.cells #[i64 s.from', i64 s.to', .int .u64 s.w, i64 s.edge, i64 s.a, i64 s.b] 66)) := (Kept.refl _ _).alloc _
      have bE : Blk (w3.alloc (.cells #[i64 s.from', i64 s.to', .int .u64 s.w, i64 s.edge, i64 s.a, i64 s.b] 66)) w3.heap.size 66 #[i64 s.from', i64 s.to', .int .u64 s.w, i64 s.edge, i64 s.a, i64 s.b] := Blk.new _ _ _
      have HB4 := Lib.hid (hBx.grew gE)
      have HR4 := Lib.hid (hR3.grew gE)
      have HK4 := Lib.hid ((hS.out.2.kept.then k3 (fun _ _ h => .inl h)).grew gE)
      obtain ⟨E, hE⟩ : ∃ E, w3.heap.size = E := ⟨_, rfl⟩
      rw [hE] at bE
      have hq : Hid (q ≤ len) := by
        rcases hT with ⟨_, _, _, _, t, _⟩ | ⟨_, _, _, _, _, _, _, _, t, _⟩
        · exact t.2.2
        · exact t.2.2
      have HT := Lib.hid hT
      clear hC hR3 k3 hBx hT
      obtain ⟨w4, hw4⟩ : ∃ W, w3.alloc (.cells #[i64 s.from', i64 s.to', .int .u64 s.w, i64 s.edge, i64 s.a, i64 s.b] 66) = W := ⟨_, rfl⟩
      rw [hw4] at bE HB4 HR4 HK4
      clear gE
      have x0 := bE.cell 0
      have x1 := bE.cell 1
      have x2 := bE.cell 2
      have x3 := bE.cell 3
      have x4 := bE.cell 4
      have x5 := bE.cell 5
      have y0 := HB4.out.box.cell 0
      have y1 := HB4.out.box.cell 1
      simp at x0 x1 x2 x3 x4 x5 y0 y1
      rcases HT.out with ⟨p1, i, e, t0, t1, he, hs⟩ | ⟨p1, i, p2, j, x, y, t0, t1, t2, hx, hy, hs⟩
      · as_aux_lemma =>
        have hb : (s.edge == -1) = false := by rw [hs]; simp [scE]
        have hok : Hid (edgeOk es s ∨ twoOk rk ss s) := .inl (by rw [hs]; exact edge_ok he)
        have hhad : Hid (HadS z rk m (ss ++ [s]) q) := by rw [hs]; exact hadE hrng.out hS.out.2.had t0 t1
        have hcand : Hid (CandS n es z len rk m (ss ++ [s]) q) := by rw [hs]; exact candE (by rw [HL.out]; exact hLL) hS.out.2.cand hlen.out t0 t1 he
        have HB5 := HB4
        have HR5 := HR4
        have HK5 := HK4
        have bE5 := bE
        clear t0 t1 he hs bE HT

        have own1 : Hid ((w4.alloc (.cells #[i64 s.from', i64 s.to', .int .u64 s.w, i64 s.edge, i64 s.a, i64 s.b] 66)).ownsRow w.heap.size 66 6 (.slice A2 k c2) k (scsOf ss)) := by
          have h := (Kept.own ((Kept.refl (fun _ => False) w4).alloc (.cells #[i64 s.from', i64 s.to', .int .u64 s.w, i64 s.edge, i64 s.a, i64 s.b] 66)) HB5.out.scs (fun _ _ h => h))
          rw [hS.out.1] at h
          exact h
        have hN : Hid (∀ j u, (scCs s)[j]? = some u → (w4.alloc (.cells #[i64 s.from', i64 s.to', .int .u64 s.w, i64 s.edge, i64 s.a, i64 s.b] 66)).cell? ((⟨w4.heap.size, 0, none⟩ : Addr).add j) = some u) := World.news_of_block (heap_alloc_new w4 (.cells #[i64 s.from', i64 s.to', .int .u64 s.w, i64 s.edge, i64 s.a, i64 s.b] 66))
        have hsz : Hid (w.heap.size ≤ w4.heap.size) := HK5.out.size
        have x0 := bE5.cell 0
        have x1 := bE5.cell 1
        have x2 := bE5.cell 2
        have x3 := bE5.cell 3
        have x4 := bE5.cell 4
        have x5 := bE5.cell 5
        have y0 := HB5.out.box.cell 1
        have yf := HB5.out.box.frozen 1
        simp at x0 x1 x2 x3 x4 x5 y0
        clear bE5


        go_wp2_with
          (first
           | (refine wpList_sc rfl #[(0, .tmp 38)] rfl (i64 s.from') (i64 s.to') (.int .u64 s.w) (i64 s.edge) (i64 s.a) (i64 s.b) (by as_aux_lemma => kernel_rfl) (some 39) rfl ?_)
           | (at_builtin
              refine wpList_append_lies _ rfl (.tmp 37) (.tmp 39) 26 (by rfl) w.heap.size 66 i0 (.agg #[i64 0, i64 0, .int .u64 0, i64 0, i64 0, i64 0]) 6 48 Try.underlying26 hi hz0 hz1 hz2 (by rfl) (by omega) (.slice A2 k c2) k (scsOf ss) (by rfl) own1.out ⟨w4.heap.size, 0, none⟩ 1 1 (scCs s) (by rfl) (by rfl) hN.out (by intro u hu; simp [scCs] at hu; rcases hu with rfl | rfl | rfl | rfl | rfl | rfl <;> rfl) (by omega) (by unfold maxLen; omega) (by omega) (by have := hsz.out; simp; omega) _ rfl ?_
              intro g cp wa hown1 hgrow1 _ _
              have kA : Kept (fun j => (Value.slice A2 k c2).ownBlock = some j) w4 wa := ((Kept.refl _ _).alloc _).grown hgrow1 (fun k hk => .inl hk)
              have bHa := HB5.out.box.kept kA neH
              have ga := bHa.cell 1
              have gfa := bHa.frozen 1
              simp at ga
              have hS1 := Lib.hid (RhS.step hS.out.1 hR0 hH0 hRH hq.out HR5.out HB5.out hS.out.2.ok hok.out hhad.out hcand.out HK5.out hown1 hgrow1)
              clear hown1 hgrow1 kA bHa own1 hN hS HR5 HB5 HK5))
        go_roundw
        case rel => exact ⟨k + 1, q, _, _, by omega, by go_num, hS1⟩
        case measure => simp [intOf]; omega

      · as_aux_lemma =>
        have hb : (s.edge == -1) = true := by rw [hs]; simp [scT]
        have hmd := made_all HRt.out ⟨by rw [HRk.out.1], HRk.out.2.1, hS.out.2.ok⟩
        have inx := hmd x (List.mem_of_getElem? hx)
        have iny := hmd y (List.mem_of_getElem? hy)
        unfold inN at inx iny
        have hrI : RowI w4 Ar rk := by
          obtain ⟨A', c', e1, h⟩ := HB4.out.ranks.row
          injection e1 with e1 _ _
          rw [e1]
          exact h
        have hrS : RowS w4 A2 ss := by
          obtain ⟨A', c', e1, h⟩ := HB4.out.scs.row
          injection e1 with e1 _ _
          rw [e1]
          exact h
        have hM := meets_any rk ss Ar A2 cr c2 i j x y w4 hrI hrS (by rw [HRk.out.1]; omega) (by rw [hS.out.1]; omega) hx hy ⟨inx.2.2.1, by rw [HRk.out.1]; exact inx.2.2.2⟩ ⟨inx.1, by rw [HRk.out.1]; exact inx.2.1⟩ ⟨iny.2.2.1, by rw [HRk.out.1]; exact iny.2.2.2⟩
        rw [HRk.out.1, hS.out.1, ← hs] at hM
        obtain ⟨b, hbq⟩ : ∃ b, meetsB rk x y = b := ⟨_, rfl⟩
        rw [hbq] at hM
        have HM := Lib.hid hM
        have Hhx := Lib.hid hx
        have Hhy := Lib.hid hy
        have Hbq := Lib.hid hbq
        have Hs := Lib.hid hs
        have HbE := Lib.hid bE
        clear hM hbq hmd inx iny hrI hrS HT hx hy hs bE
        go_wp2_with fail
        refine HM.out.mono ?_
        rintro e w5 ⟨rfl, k5⟩
        cases b with
        | false =>
          have hf : Hid (RhE n es z len R H w.heap.size A cap w (.panicked (wrongs p)) w5) := .inr ⟨noT3 hS.out.2.cand hlen.out t0 t1 t2 Hhx.out Hhy.out Hbq.out, ⟨_, _, HB4.out.box.grew k5⟩, p, rfl, HK4.out.grew k5⟩
          clear HM k5 HbE HB4 HR4 HK4 t0 t1 t2 hS
          go_wp2_with fail
          exact ⟨rfl, hf.out⟩
        | true =>
          have hok : Hid (edgeOk es s ∨ twoOk rk ss s) := .inr (by rw [Hs.out]; exact two_ok Hhx.out Hhy.out Hbq.out)
          have hhad : Hid (HadS z rk m (ss ++ [s]) q) := by rw [Hs.out]; exact hadT hrng.out hS.out.2.had t0 t1 t2
          have hcand : Hid (CandS n es z len rk m (ss ++ [s]) q) := by rw [Hs.out]; exact candT hS.out.2.cand hlen.out t0 t1 t2 Hhx.out Hhy.out
          have HB5 := Lib.hid (HB4.out.grew k5)
          have HR5 := Lib.hid (HR4.out.grew k5)
          have HK5 := Lib.hid (HK4.out.grew k5)
          have bE5 := HbE.out.grew k5
          clear HM k5 HbE HB4 HR4 HK4 t0 t1 t2

          have own1 : Hid ((w5.alloc (.cells #[i64 s.from', i64 s.to', .int .u64 s.w, i64 s.edge, i64 s.a, i64 s.b] 66)).ownsRow w.heap.size 66 6 (.slice A2 k c2) k (scsOf ss)) := by
            have h := (Kept.own ((Kept.refl (fun _ => False) w5).alloc (.cells #[i64 s.from', i64 s.to', .int .u64 s.w, i64 s.edge, i64 s.a, i64 s.b] 66)) HB5.out.scs (fun _ _ h => h))
            rw [hS.out.1] at h
            exact h
          have hN : Hid (∀ j u, (scCs s)[j]? = some u → (w5.alloc (.cells #[i64 s.from', i64 s.to', .int .u64 s.w, i64 s.edge, i64 s.a, i64 s.b] 66)).cell? ((⟨w5.heap.size, 0, none⟩ : Addr).add j) = some u) := World.news_of_block (heap_alloc_new w5 (.cells #[i64 s.from', i64 s.to', .int .u64 s.w, i64 s.edge, i64 s.a, i64 s.b] 66))
          have hsz : Hid (w.heap.size ≤ w5.heap.size) := HK5.out.size
          have x0 := bE5.cell 0
          have x1 := bE5.cell 1
          have x2 := bE5.cell 2
          have x3 := bE5.cell 3
          have x4 := bE5.cell 4
          have x5 := bE5.cell 5
          have y0 := HB5.out.box.cell 1
          have yf := HB5.out.box.frozen 1
          simp at x0 x1 x2 x3 x4 x5 y0
          clear bE5


          go_wp2_with
            (first
             | (refine wpList_sc rfl #[(0, .tmp 38)] rfl (i64 s.from') (i64 s.to') (.int .u64 s.w) (i64 s.edge) (i64 s.a) (i64 s.b) (by as_aux_lemma => kernel_rfl) (some 39) rfl ?_)
             | (at_builtin
                refine wpList_append_lies _ rfl (.tmp 37) (.tmp 39) 26 (by rfl) w.heap.size 66 i0 (.agg #[i64 0, i64 0, .int .u64 0, i64 0, i64 0, i64 0]) 6 48 Try.underlying26 hi hz0 hz1 hz2 (by rfl) (by omega) (.slice A2 k c2) k (scsOf ss) (by rfl) own1.out ⟨w5.heap.size, 0, none⟩ 1 1 (scCs s) (by rfl) (by rfl) hN.out (by intro u hu; simp [scCs] at hu; rcases hu with rfl | rfl | rfl | rfl | rfl | rfl <;> rfl) (by omega) (by unfold maxLen; omega) (by omega) (by have := hsz.out; simp; omega) _ rfl ?_
                intro g cp wa hown1 hgrow1 _ _
                have kA : Kept (fun j => (Value.slice A2 k c2).ownBlock = some j) w5 wa := ((Kept.refl _ _).alloc _).grown hgrow1 (fun k hk => .inl hk)
                have bHa := HB5.out.box.kept kA neH
                have ga := bHa.cell 1
                have gfa := bHa.frozen 1
                simp at ga
                have hS1 := Lib.hid (RhS.step hS.out.1 hR0 hH0 hRH hq.out HR5.out HB5.out hS.out.2.ok hok.out hhad.out hcand.out HK5.out hown1 hgrow1)
                clear hown1 hgrow1 kA bHa own1 hN hS HR5 HB5 HK5))
          go_roundw
          case rel => exact ⟨k + 1, q, _, _, by omega, by go_num, hS1⟩
          case measure => simp [intOf]; omega

    · as_aux_lemma =>
      obtain rfl : k = m := by omega
      have hf : Hid (RhE n es z len R H w.heap.size A cap w (.returned (.tuple #[])) wr) := .inl ⟨p, rk, ss, _, _, rfl, hS.out.2.le, hS.out.2.rd, hS.out.2.box, ⟨⟨by rw [HRk.out.1], HRk.out.2.1, hS.out.2.ok⟩, by rw [hS.out.1]; omega⟩, fun hp => hadS_all hS.out.2.had hS.out.1 hp, candS_all hS.out.2.cand hS.out.1, hS.out.2.kept⟩
      clear hS
      go_wp2_with fail
      go_end0
      exact hf.out
end Go.Proofs.Ytjbjomodponapaa
