/- Hierarchies read: ReadHierarchy. -/
import Derived.Test.YtjbjomodponapaaRCallH
import Derived.Test.YtjbjomodponapaaRankR
import Derived.Test.YtjbjomodponapaaGraph
namespace Go.Proofs.Ytjbjomodponapaa
open Go.RowKit

theorem own_cap {w : World} {base n size L c : Nat} {e : TypeId} {A : Option Addr} {xs : List Value} (h : w.ownsRow base e size (.slice A L c) n xs) : n ≤ c := by
  rcases h.2 with ⟨_, h0⟩ | ⟨g, cap, cur, hv, _, _, hc, _⟩
  · omega
  · cases hv
    exact hc
/-- What ReadHierarchy answers, of a graph that may be. -/
def ReadHE (n : Nat) (es : List Edg) (z : Nat → Int) (len : Nat) (w : World) (e : Ending) (w' : World) : Prop :=
  (∃ rk ss Ar cr As cs, e = .returned (.tuple #[.agg #[.slice Ar (List.length rk) cr, .slice As (List.length ss) cs], i64 0, i64 0]) ∧ RowI w' Ar rk ∧ RowS w' As ss ∧ List.length ss ≤ cs ∧ okH n es rk ss ∧ Rest z len 0 (encH rk ss) ∧
    (∀ rk0 ss0, okH n es rk0 ss0 → Rest z len 0 (encH rk0 ss0) → rk0 = rk ∧ ss0 = ss) ∧ Grew w w') ∨
  (∃ q, e = .returned (.tuple #[.agg #[.slice none 0 0, .slice none 0 0], i64 q, i64 4]) ∧ NoH n es z len ∧ Grew w w')
set_option maxHeartbeats 4000000 in
theorem readHier_no (n : Int) (es : List Edg) (Ae : Option Addr) (ce : Nat) (A : Option Addr) (len cap : Nat) (w : World) (he : RowE w Ae es) (hl : es.length ≤ 100000) (hr : ¬ rightF n es = 0) :
    Calls Try.prog 10 #[.agg #[i64 n, .slice Ae es.length ce], .slice A len cap] w fun e w' => e = .returned (.tuple #[.agg #[.slice none 0 0, .slice none 0 0], i64 0, i64 1]) ∧ Grew w w' := by
  have b0 : Blk ((w.alloc (.cells #[i64 n, .slice Ae es.length ce] 24)).alloc (.cells #[.slice none 0 0, .slice none 0 0] 28)) w.heap.size 24 #[i64 n, .slice Ae es.length ce] := (Blk.new w _ _).alloc _
  have b1 := Blk.new (w.alloc (.cells #[i64 n, .slice Ae es.length ce] 24)) 28 #[.slice none 0 0, .slice none 0 0]
  rw [World.size_alloc] at b1
  have hK0 : Grew w ((w.alloc (.cells #[i64 n, .slice Ae es.length ce] 24)).alloc (.cells #[.slice none 0 0, .slice none 0 0] 28)) := ((Kept.refl _ _).alloc _).alloc _
  have hC := Lib.hid (right_any n Ae ce es _ (he.grew hK0) hl)
  obtain ⟨f, hf⟩ : ∃ f, rightF n es = f := ⟨_, rfl⟩
  rw [hf] at hC hr
  have hb' : (f != 0) = true := by simpa using hr
  obtain ⟨L, hL⟩ : ∃ L, es.length = L := ⟨_, rfl⟩
  rw [hL] at b0 b1 hK0 hC ⊢
  clear he hf hr hL hl
  have c0 := b0.cell 0
  have c1 := b0.cell 1
  simp at c0 c1
  go_enter Try.func10, Try.ntmps10
  go_wp2_with fail
  refine hC.out.mono ?_
  rintro e w1 ⟨rfl, k1⟩
  have b1' := b1.grew k1
  have d0 := b1'.cell 0
  have d1 := b1'.cell 1
  have f0 := b1'.frozen 0
  have f1 := b1'.frozen 1
  simp at d0 d1
  have bb := (b1'.set 0 (.slice none 0 0)).set 1 (.slice none 0 0)
  have q0 := bb.cell 0
  have q1 := bb.cell 1
  simp at q0 q1
  have hK1 : Hid (Grew w ((w1.setCell ⟨w.heap.size + 1, 0, none⟩ (.slice none 0 0)).setCell ⟨w.heap.size + 1, 1, none⟩ (.slice none 0 0))) := ((hK0.trans k1).setCell (p := ⟨w.heap.size + 1, 0, none⟩) (.inr (by show _ ≤ w.heap.size + 1; omega)) _).setCell (p := ⟨w.heap.size + 1, 1, none⟩) (.inr (by show _ ≤ w.heap.size + 1; omega)) _
  clear b0 b1 b1' hC c0 c1 k1 hK0 bb
  go_wp2_with fail
  exact bodyPost_ret (v := .tuple #[.agg #[.slice none 0 0, .slice none 0 0], i64 0, i64 1]) (by simp [results, Try.results10, go_sem, q0, q1]) rfl ⟨rfl, hK1.out⟩
set_option maxHeartbeats 4000000 in
theorem readHier_yes (n : Nat) (es : List Edg) (Ae : Option Addr) (ce : Nat) (A : Option Addr) (len cap : Nat) (z : Nat → Int) (w : World) (he : RowE w Ae es) (hs : Src w A len cap z) (hl : len ≤ 100000) (hr : rightF n es = 0)
    (hA : ∀ a, A = some a → a.block < w.heap.size) (hAe : ∀ a, Ae = some a → a.block < w.heap.size) :
    Calls Try.prog 10 #[.agg #[i64 n, .slice Ae es.length ce], .slice A len cap] w fun e w' => ReadHE n es z len w e w' := by
  have hmf : ∀ (fn : Fn) (first cap : Array Value) (w : World), (Instr.makeFunc fn first cap).run Try.prog w = .ok (.func fn first cap) w := fun _ _ _ _ => rfl
  have b0 : Blk ((w.alloc (.cells #[i64 n, .slice Ae es.length ce] 24)).alloc (.cells #[.slice none 0 0, .slice none 0 0] 28)) w.heap.size 24 #[i64 n, .slice Ae es.length ce] := (Blk.new w _ _).alloc _
  have b1 := Blk.new (w.alloc (.cells #[i64 n, .slice Ae es.length ce] 24)) 28 #[.slice none 0 0, .slice none 0 0]
  rw [World.size_alloc] at b1
  have hK0 : Grew w ((w.alloc (.cells #[i64 n, .slice Ae es.length ce] 24)).alloc (.cells #[.slice none 0 0, .slice none 0 0] 28)) := ((Kept.refl _ _).alloc _).alloc _
  have hLL := (right_zero hr).2.2.1
  have hC := Lib.hid (right_any n Ae ce es _ (he.grew hK0) (by omega))
  rw [hr] at hC
  have HRt := Lib.hid hr
  have HE := Lib.hid he
  have HS := Lib.hid hs
  have HA := Lib.hid hA
  have HAe := Lib.hid hAe
  obtain ⟨L, hL⟩ : ∃ L, es.length = L := ⟨_, rfl⟩
  have HL := Lib.hid hL
  rw [hL] at b0 b1 hK0 hC ⊢
  obtain ⟨r0, hr0⟩ : ∃ r, w.heap.size = r := ⟨_, rfl⟩
  have HR0 := Lib.hid hr0
  rw [hr0] at b0 b1
  clear he hr hL hLL hs hA hAe
  have c0 := b0.cell 0
  have c1 := b0.cell 1
  simp at c0 c1
  go_enter Try.func10, Try.ntmps10
  go_wp2_with fail
  refine hC.out.mono ?_
  rintro e w1 ⟨rfl, k1⟩
  have hk : Grew w w1 := hK0.trans k1
  have hC2 := Lib.hid (readcallH_any n es Ae ce r0 (r0 + 1) A len cap z w1 (by rw [HL.out]; exact b0.grew k1) (HE.out.grew hk) (b1.grew k1) (HS.out.grew hk) hl HRt.out (by omega)
    (fun a ha => by
      have h1 := HA.out a ha
      have h2 := hk.size
      have h3 := HR0.out
      exact ⟨by omega, by omega⟩)
    (fun a ha => by
      have h1 := HAe.out a ha
      have h2 := hk.size
      have h3 := HR0.out
      exact ⟨by omega, by omega⟩))
  have HK1 := Lib.hid hk
  have hb1 : Hid (r0 + 1 < w1.heap.size) := (b1.grew k1).lt
  clear hC b0 b1 hK0 c0 c1 k1 hk
  go_wp2_with fail
  refine hC2.out.mono ?_
  rintro e w2 (⟨rk, ss, vr, vs, rfl, hB, hok, hR, hu, k2⟩ | ⟨q, rfl, hno, ⟨x, y, hgb⟩, k2⟩)
  · obtain ⟨Ar, cr, rfl, hrow⟩ := hB.ranks.row
    obtain ⟨As, cs, rfl, hsrow⟩ := hB.scs.row
    have b := hB.box
    have c0 := b.cell 0
    have c1 := b.cell 1
    simp at c0 c1
    have hrl : rk.length = n := by have := hok.1.1; omega
    have hn4 := (right_zero HRt.out).2.1
    have hQ := Lib.hid (rankRight_any rk Ar cr w2 hrow (by omega))
    have HB := Lib.hid hB
    have HU := Lib.hid (show _ ∧ _ ∧ _ from ⟨hok, hR, hu⟩)
    have HK2 := Lib.hid k2
    have Hrow := Lib.hid hrow
    have Hsrow := Lib.hid hsrow
    have Hok := Lib.hid hok
    obtain ⟨lr, hlr⟩ : ∃ x, rk.length = x := ⟨_, rfl⟩
    obtain ⟨ls, hls⟩ : ∃ x, ss.length = x := ⟨_, rfl⟩
    have HLr := Lib.hid hlr
    have HLs := Lib.hid hls
    rw [hlr] at c0 hQ
    rw [hls] at c1
    clear hC2 hok hR hu k2 hB b hrow hsrow hrl hn4 hlr hls
    go_wp2_with fail
    refine hQ.out.mono ?_
    rintro e w3 ⟨⟨b, rfl, hb⟩, k3⟩
    obtain rfl : b = true := hb.2 Hok.out.1.2.1
    have b3 := HB.out.box.grew k3
    rw [HLr.out, HLs.out] at b3
    have d0 := b3.cell 0
    have d1 := b3.cell 1
    have f0 := b3.frozen 0
    have f1 := b3.frozen 1
    simp at d0 d1
    have bb := (b3.set 0 (.slice Ar lr cr)).set 1 (.slice As ls cs)
    have q0 := bb.cell 0
    have q1 := bb.cell 1
    simp at q0 q1
    have s0 : Kept (· = r0 + 1) w3 ((w3.setCell ⟨r0 + 1, 0, none⟩ (.slice Ar lr cr)).setCell ⟨r0 + 1, 1, none⟩ (.slice As ls cs)) := ((Kept.refl (· = r0 + 1) w3).setCell (p := ⟨r0 + 1, 0, none⟩) (.inl rfl) _).setCell (p := ⟨r0 + 1, 1, none⟩) (.inl rfl) _
    have hf : Hid (ReadHE n es z len w (.returned (.tuple #[.agg #[.slice Ar lr cr, .slice As ls cs], i64 0, i64 0])) ((w3.setCell ⟨r0 + 1, 0, none⟩ (.slice Ar lr cr)).setCell ⟨r0 + 1, 1, none⟩ (.slice As ls cs))) := by
      refine .inl ⟨rk, ss, Ar, cr, As, cs, by rw [HLr.out, HLs.out], (Hrow.out.grew k3).kept s0 (fun a ha h => ?_), (Hsrow.out.grew k3).kept s0 (fun a ha h => ?_), own_cap HB.out.scs, HU.out.1, HU.out.2.1, HU.out.2.2, ?_⟩
      · subst ha
        have h : a.block = r0 + 1 := h
        have := (HB.out.ranks.lt a.block rfl).1
        have := hb1.out
        omega
      · subst ha
        have h : a.block = r0 + 1 := h
        have := (HB.out.scs.lt a.block rfl).1
        have := hb1.out
        omega
      · exact ((HK1.out.then HK2.out (fun i hi h => by have h : i = r0 + 1 := h; have := HR0.out; omega)).grew k3).then s0 (fun i hi h => by have h : i = r0 + 1 := h; have := HR0.out; omega)
    clear hQ k3 b3 bb s0 c0 c1 HB HU HK2 Hrow Hsrow Hok HK1 hb
    go_wp2_with fail
    exact bodyPost_ret (v := .tuple #[.agg #[.slice Ar lr cr, .slice As ls cs], i64 0, i64 0]) (by simp [results, Try.results10, go_sem, q0, q1]) rfl hf.out
  · have d0 := hgb.cell 0
    have d1 := hgb.cell 1
    have f0 := hgb.frozen 0
    have f1 := hgb.frozen 1
    simp at d0 d1
    have bb := (hgb.set 0 (.slice none 0 0)).set 1 (.slice none 0 0)
    have q0 := bb.cell 0
    have q1 := bb.cell 1
    simp at q0 q1
    have s0 : Kept (· = r0 + 1) w2 ((w2.setCell ⟨r0 + 1, 0, none⟩ (.slice none 0 0)).setCell ⟨r0 + 1, 1, none⟩ (.slice none 0 0)) := ((Kept.refl (· = r0 + 1) w2).setCell (p := ⟨r0 + 1, 0, none⟩) (.inl rfl) _).setCell (p := ⟨r0 + 1, 1, none⟩) (.inl rfl) _
    have hf : Hid (ReadHE n es z len w (.returned (.tuple #[.agg #[.slice none 0 0, .slice none 0 0], i64 q, i64 4])) ((w2.setCell ⟨r0 + 1, 0, none⟩ (.slice none 0 0)).setCell ⟨r0 + 1, 1, none⟩ (.slice none 0 0))) :=
      .inr ⟨q, rfl, hno, (HK1.out.then k2 (fun i hi h => by have h : i = r0 + 1 := h; have := HR0.out; omega)).then s0 (fun i hi h => by have h : i = r0 + 1 := h; have := HR0.out; omega)⟩
    clear hC2 k2 hgb bb s0 hno HK1
    go_wp2_with fail
    exact bodyPost_ret (v := .tuple #[.agg #[.slice none 0 0, .slice none 0 0], i64 q, i64 4]) (by simp [results, Try.results10, go_sem, q0, q1]) rfl hf.out
end Go.Proofs.Ytjbjomodponapaa
