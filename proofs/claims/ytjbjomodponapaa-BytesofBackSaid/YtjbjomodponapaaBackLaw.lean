/- The law BytesofBack returns true. -/
import Derived.Test.YtjbjomodponapaaAliveL
import Derived.Test.YtjbjomodponapaaHier
import Derived.Test.YtjbjomodponapaaReadHF
import Derived.Test.YtjbjomodponapaaReadF
import Derived.Test.YtjbjomodponapaaRefSame
import Derived.Test.YtjbjomodponapaaSameH
namespace Go.Proofs.Ytjbjomodponapaa
open Go.RowKit

theorem digs_rng : ∀ (f n : Nat), ∀ x ∈ digs f n, 0 ≤ x ∧ x ≤ 255
  | 0, n, x, h => by simp [digs] at h
  | f + 1, n, x, h => by
    rw [digs] at h
    split at h
    · simp at h; omega
    · rcases List.mem_cons.1 h with h | h
      · omega
      · exact digs_rng f _ x h
theorem encG_rng (n : Int) (es : List Edg) : ∀ x ∈ encG n es, 0 ≤ x ∧ x ≤ 255 := fun x hx => by
  unfold encG encEs encE at hx
  simp only [List.mem_append, List.mem_flatMap] at hx
  rcases hx with hx | hx | ⟨_, _, hx | hx | hx⟩ <;> exact digs_rng _ _ x hx
theorem encH_rng (rk : List Int) (ss : List Sc) : ∀ x ∈ encH rk ss, 0 ≤ x ∧ x ≤ 255 := fun x hx => by
  unfold encH encR encSs at hx
  simp only [List.mem_append, List.mem_flatMap] at hx
  rcases hx with ⟨_, _, hx⟩ | hx | ⟨s, _, hx⟩
  · exact digs_rng _ _ x hx
  · exact digs_rng _ _ x hx
  · unfold encS at hx
    split at hx
    · simp only [List.mem_append] at hx
      rcases hx with hx | hx <;> exact digs_rng _ _ x hx
    · simp only [List.mem_append] at hx
      rcases hx with hx | hx | hx <;> exact digs_rng _ _ x hx
theorem encG_pos (n : Int) (es : List Edg) : 0 < (encG n es).length := by
  have := encN_pos n.toNat
  unfold encG
  rw [List.length_append]
  omega
theorem encH_pos (rk : List Int) (ss : List Sc) : 0 < (encH rk ss).length := by
  have := encN_pos ss.length
  unfold encH
  rw [List.length_append, List.length_append]
  omega
theorem encEs_ge (es : List Edg) : es.length ≤ (encEs es).length := by
  induction es with
  | nil => simp
  | cons e es ih =>
    have := encN_pos e.1.toNat
    rw [encEs_cons, List.length_append, List.length_append, List.length_append, List.length_cons]
    omega
theorem encSs_ge (ss : List Sc) : ss.length ≤ (encSs ss).length := by
  induction ss with
  | nil => simp
  | cons s ss ih =>
    have : 0 < (encS s).length := by
      have a := encN_pos 0
      have b := encN_pos 1
      unfold encS
      split
      · rw [List.length_append]; omega
      · rw [List.length_append]; omega
    rw [encSs_cons, List.length_append, List.length_cons]
    omega
theorem encG_ge (n : Int) (es : List Edg) : es.length ≤ (encG n es).length := by
  have := encEs_ge es
  unfold encG
  rw [List.length_append, List.length_append]
  omega
theorem encH_ge (rk : List Int) (ss : List Sc) : ss.length ≤ (encH rk ss).length := by
  have := encSs_ge ss
  unfold encH
  rw [List.length_append, List.length_append]
  omega
theorem rest_self (l : List Int) : Rest (fun i => l.getD i 0) l.length 0 l := ⟨fun i x hx => by show l.getD (0 + i) 0 = x; rw [Nat.zero_add, List.getD_eq_getElem?_getD, hx]; rfl, by omega⟩
theorem src_own {w : World} {base n : Nat} {v : Value} {l : List Int} (h : w.ownsRow base 5 1 v n (l.map B8)) (hn : n = l.length) (h0 : 0 < l.length) (hl : l.length ≤ 100000) (hb : ∀ x ∈ l, 0 ≤ x ∧ x ≤ 255) :
    ∃ g c, v = .slice (some ⟨g, 0, none⟩) l.length c ∧ g < w.heap.size ∧ Src w (some ⟨g, 0, none⟩) l.length c (fun i => l.getD i 0) := by
  subst hn
  obtain ⟨g, c, rfl⟩ := own_form h h0
  exact ⟨g, c, rfl, (h.lt g rfl).2, rowZ_own h hl hb, own_cap h⟩

/-! ### What the calls answer, in one form -/
def GrE (n : Int) (es : List Edg) (w : World) (e : Ending) (w' : World) : Prop :=
  ∃ Av nv cv f, e = .returned (.tuple #[.slice Av nv cv, i64 f]) ∧ Grew w w' ∧ ((f = 1 ∧ ¬ rightF n es = 0) ∨ (f = 0 ∧ rightF n es = 0 ∧ w'.ownsRow w.heap.size 5 1 (.slice Av nv cv) (encG n es).length ((encG n es).map B8)))
theorem graph_E (n : Int) (A : Option Addr) (c : Nat) (es : List Edg) (w : World) (h : RowE w A es) (hl : es.length ≤ 1000) :
    Calls Try.prog 6 #[.agg #[i64 n, .slice A es.length c]] w fun e w' => GrE n es w e w' := by
  by_cases hr : rightF n es = 0
  · obtain ⟨N, rfl⟩ := Int.eq_ofNat_of_zero_le (show 0 ≤ n by have := (right_zero hr).1; omega)
    refine (graph_yes N A c es w h hl hr).mono ?_
    rintro e w' ⟨v, rfl, ho, k⟩
    obtain ⟨Av, cv, rfl⟩ := own_slice ho
    exact ⟨Av, _, cv, 0, rfl, k, .inr ⟨rfl, hr, ho⟩⟩
  · refine (graph_no n A c es w h (by omega) hr).mono ?_
    rintro e w' ⟨rfl, k⟩
    exact ⟨none, 0, 0, 1, rfl, k, .inl ⟨rfl, hr⟩⟩
def HiE (n : Int) (es : List Edg) (rk : List Int) (ss : List Sc) (w : World) (e : Ending) (w' : World) : Prop :=
  ∃ Av nv cv f, e = .returned (.tuple #[.slice Av nv cv, i64 f]) ∧ Grew w w' ∧ ((f = 1 ∧ ¬ (rightF n es = 0 ∧ made n es rk ss)) ∨ (f = 0 ∧ (rightF n es = 0 ∧ made n es rk ss) ∧ w'.ownsRow w.heap.size 5 1 (.slice Av nv cv) (encH rk ss).length ((encH rk ss).map B8)))
theorem hier_E (n : Int) (es : List Edg) (Ae : Option Addr) (ce : Nat) (rk : List Int) (Ar : Option Addr) (cr : Nat) (ss : List Sc) (As : Option Addr) (cs : Nat) (w : World) (he : RowE w Ae es) (hr : RowI w Ar rk) (hs : RowS w As ss)
    (hle : es.length ≤ 100000) (hlr : rk.length ≤ 1000) (hls : ss.length ≤ 1000) (hcs : ss.length ≤ cs) :
    Calls Try.prog 9 #[.agg #[i64 n, .slice Ae es.length ce], .agg #[.slice Ar rk.length cr, .slice As ss.length cs]] w fun e w' => HiE n es rk ss w e w' := by
  by_cases hm : rightF n es = 0 ∧ made n es rk ss
  · refine (hier_yes n es Ae ce rk Ar cr ss As cs w he hr hs hle hlr hls hcs hm).mono ?_
    rintro e w' ⟨v, rfl, ho, k⟩
    obtain ⟨Av, cv, rfl⟩ := own_slice ho
    exact ⟨Av, _, cv, 0, rfl, k, .inr ⟨rfl, hm, ho⟩⟩
  · refine (hier_no n es Ae ce rk Ar cr ss As cs w he hr hs hle (by omega) (by omega) hcs hm).mono ?_
    rintro e w' ⟨rfl, k⟩
    exact ⟨none, 0, 0, 1, rfl, k, .inl ⟨rfl, hm⟩⟩
def RdE (z : Nat → Int) (len : Nat) (w : World) (e : Ending) (w' : World) : Prop :=
  ∃ n Av Lv cv q f, e = .returned (.tuple #[.agg #[i64 n, .slice Av Lv cv], i64 q, i64 f]) ∧ Grew w w' ∧ ((f = 4 ∧ NoG z len) ∨ (f = 0 ∧ ∃ es, Lv = List.length es ∧ RowE w' Av es ∧ rightF n es = 0 ∧ Rest z len 0 (encG n es) ∧ ∀ n0 es0, rightF n0 es0 = 0 → Rest z len 0 (encG n0 es0) → n0 = n ∧ es0 = es))
theorem read_E (A : Option Addr) (len cap : Nat) (z : Nat → Int) (w : World) (hs : Src w A len cap z) (hl : len ≤ 100000) (hA : ∀ a, A = some a → a.block < w.heap.size) :
    Calls Try.prog 7 #[.slice A len cap] w fun e w' => RdE z len w e w' := by
  refine (read_any A len cap z w hs hl hA).mono ?_
  rintro e w' (⟨n, es, Av, c, rfl, hr, h0, hR, hu, k⟩ | ⟨q, rfl, hno, k⟩)
  · exact ⟨_, _, _, _, _, 0, rfl, k, .inr ⟨rfl, es, rfl, hr, h0, hR, hu⟩⟩
  · exact ⟨_, _, _, _, _, 4, rfl, k, .inl ⟨rfl, hno⟩⟩
def RHE (n : Int) (es : List Edg) (z : Nat → Int) (len : Nat) (w : World) (e : Ending) (w' : World) : Prop :=
  ∃ Ar lr cr As ls cs q f, e = .returned (.tuple #[.agg #[.slice Ar lr cr, .slice As ls cs], i64 q, i64 f]) ∧ Grew w w' ∧ (((f = 1 ∨ f = 4) ∧ lr = 0 ∧ ls = 0 ∧ (¬ rightF n es = 0 ∨ NoH n es z len)) ∨
    (f = 0 ∧ rightF n es = 0 ∧ ∃ rk ss, lr = List.length rk ∧ ls = List.length ss ∧ RowI w' Ar rk ∧ RowS w' As ss ∧ List.length ss ≤ cs ∧ okH n es rk ss ∧ Rest z len 0 (encH rk ss) ∧ ∀ rk0 ss0, okH n es rk0 ss0 → Rest z len 0 (encH rk0 ss0) → rk0 = rk ∧ ss0 = ss))
theorem readH_E (n : Int) (es : List Edg) (Ae : Option Addr) (ce : Nat) (A : Option Addr) (len cap : Nat) (z : Nat → Int) (w : World) (he : RowE w Ae es) (hle : es.length ≤ 100000) (hs : Src w A len cap z) (hl : len ≤ 100000)
    (hA : ∀ a, A = some a → a.block < w.heap.size) (hAe : ∀ a, Ae = some a → a.block < w.heap.size) :
    Calls Try.prog 10 #[.agg #[i64 n, .slice Ae es.length ce], .slice A len cap] w fun e w' => RHE n es z len w e w' := by
  by_cases hr : rightF n es = 0
  · obtain ⟨N, rfl⟩ := Int.eq_ofNat_of_zero_le (show 0 ≤ n by have := (right_zero hr).1; omega)
    refine (readHier_yes N es Ae ce A len cap z w he hs hl hr hA hAe).mono ?_
    rintro e w' (⟨rk, ss, Ar, cr, As, cs, rfl, h1, h2, h3, h4, h5, h6, k⟩ | ⟨q, rfl, hno, k⟩)
    · exact ⟨_, _, _, _, _, _, _, 0, rfl, k, .inr ⟨rfl, hr, rk, ss, rfl, rfl, h1, h2, h3, h4, h5, h6⟩⟩
    · exact ⟨_, _, _, _, _, _, _, 4, rfl, k, .inl ⟨.inr rfl, rfl, rfl, .inr hno⟩⟩
  · refine (readHier_no n es Ae ce A len cap w he hle hr).mono ?_
    rintro e w' ⟨rfl, k⟩
    exact ⟨_, _, _, _, _, _, _, 1, rfl, k, .inl ⟨.inl rfl, rfl, rfl, .inl hr⟩⟩
set_option maxHeartbeats 4000000 in
set_option maxRecDepth 100000 in
theorem back_law (n : Int) (es : List Edg) (Ae : Option Addr) (ce : Nat) (rk : List Int) (Ar : Option Addr) (cr : Nat) (ss : List Sc) (As : Option Addr) (cs : Nat) (A : Option Addr) (len cap : Nat) (z : Nat → Int) (w : World) (he : RowE w Ae es) (hr : RowI w Ar rk) (hs : RowS w As ss) (hsrc : Src w A len cap z)
    (hle : es.length ≤ 9223372036854775807) (hlr : rk.length ≤ 9223372036854775807) (hls : ss.length ≤ 9223372036854775807) (hcs : ss.length ≤ cs) (hA : ∀ a, A = some a → a.block < w.heap.size) (hAe : ∀ a, Ae = some a → a.block < w.heap.size) :
    Calls Try.prog 3 #[.agg #[i64 n, .slice Ae es.length ce], .agg #[.slice Ar rk.length cr, .slice As ss.length cs], .slice A len cap] w fun e w' => e = .returned (.bool true) ∧ Grew w w' := by
  have hlen := hsrc.row.1
  obtain ⟨r0, hr0⟩ : ∃ r, w.heap.size = r := ⟨_, rfl⟩
  have HR0 := Lib.hid hr0
  obtain ⟨L, hL⟩ : ∃ L, es.length = L := ⟨_, rfl⟩
  obtain ⟨lr, hlr'⟩ : ∃ L, rk.length = L := ⟨_, rfl⟩
  obtain ⟨m, hm⟩ : ∃ L, ss.length = L := ⟨_, rfl⟩
  have HL := Lib.hid hL
  have HN := Lib.hid hlr'
  have HM := Lib.hid hm
  have k0 : Grew w ((w.alloc (.cells #[i64 n, .slice Ae L ce] 24)).alloc (.cells #[.slice Ar lr cr, .slice As m cs] 28)) := ((Kept.refl _ _).alloc _).alloc _
  have bG : Blk ((w.alloc (.cells #[i64 n, .slice Ae L ce] 24)).alloc (.cells #[.slice Ar lr cr, .slice As m cs] 28)) r0 24 #[i64 n, .slice Ae L ce] := by
    have h := (Blk.new w 24 #[i64 n, .slice Ae L ce]).alloc (.cells #[.slice Ar lr cr, .slice As m cs] 28)
    rw [hr0] at h
    exact h
  have bH : Blk ((w.alloc (.cells #[i64 n, .slice Ae L ce] 24)).alloc (.cells #[.slice Ar lr cr, .slice As m cs] 28)) (r0 + 1) 28 #[.slice Ar lr cr, .slice As m cs] := by
    have h := Blk.new (w.alloc (.cells #[i64 n, .slice Ae L ce] 24)) 28 #[.slice Ar lr cr, .slice As m cs]
    rw [World.size_alloc, hr0] at h
    exact h
  rw [hL] at hle
  rw [hlr'] at hlr
  rw [hm] at hls hcs
  rw [hL, hlr', hm]
  obtain ⟨W1, hW1⟩ : ∃ W, ((w.alloc (.cells #[i64 n, .slice Ae L ce] 24)).alloc (.cells #[.slice Ar lr cr, .slice As m cs] 28)) = W := ⟨_, rfl⟩
  rw [hW1] at k0 bG bH
  have hC := Lib.hid (light20_any n Ae L ce W1 hle)
  have hA5 := Lib.hid (fun W => alive_any W)
  have HE := Lib.hid he
  have HRr := Lib.hid hr
  have HSr := Lib.hid hs
  have HSrc := Lib.hid hsrc
  have HA := Lib.hid hA
  have HAe := Lib.hid hAe
  have HBG := Lib.hid bG
  have HBH := Lib.hid bH
  have HK := Lib.hid k0
  have g0 := bG.cell 0
  have g1 := bG.cell 1
  simp at g0 g1
  clear he hr hs hsrc hA hAe hL hlr' hm k0 bG bH
  by_cases hlight : (n ≤ 12 ∨ 4096 < n) ∧ L ≤ 40
  rotate_left
  · as_aux_lemma =>
    have HLi := Lib.hid hlight
    clear hlight
    go_enter Try.func3, Try.ntmps3
    go_wp2_with fail
    refine hC.out.mono ?_
    rintro e w1 ⟨⟨b, rfl, hb⟩, k1⟩
    obtain rfl : b = false := by
      cases b with
      | false => rfl
      | true => exact absurd (hb.1 rfl) HLi.out
    clear hb
    go_wp2_with fail
    refine (hA5.out _).mono ?_
    rintro e w2 ⟨rfl, k2⟩
    go_wp2_with fail
    go_ret
    exact ⟨rfl, (HK.out.trans k1).trans k2⟩
  have HLi := Lib.hid hlight
  by_cases h1 : lr ≤ 60 ∧ m ≤ 60 ∧ len ≤ 300
  rotate_left
  · as_aux_lemma =>
    clear hlight
    by_cases q1 : lr ≤ 60
    · have p1 : decide ((60 : Int) < (lr : Int)) = false := decide_eq_false (by omega)
      by_cases q2 : m ≤ 60
      · have p2 : decide ((60 : Int) < (m : Int)) = false := decide_eq_false (by omega)
        have p3 : decide ((300 : Int) < (len : Int)) = true := decide_eq_true (by omega)
        go_enter Try.func3, Try.ntmps3
        go_wp2_with fail
        refine hC.out.mono ?_
        rintro e w1 ⟨⟨b, rfl, hb⟩, k1⟩
        obtain rfl : b = true := hb.2 HLi.out
        have b1 := HBH.out.grew k1
        have h0 := b1.cell 0
        have h1 := b1.cell 1
        simp at h0 h1
        clear hb b1
        go_wp2_with fail
        refine (hA5.out _).mono ?_
        rintro e w2 ⟨rfl, k2⟩
        go_wp2_with fail
        go_ret
        exact ⟨rfl, (HK.out.trans k1).trans k2⟩
      · have p2 : decide ((60 : Int) < (m : Int)) = true := decide_eq_true (by omega)
        go_enter Try.func3, Try.ntmps3
        go_wp2_with fail
        refine hC.out.mono ?_
        rintro e w1 ⟨⟨b, rfl, hb⟩, k1⟩
        obtain rfl : b = true := hb.2 HLi.out
        have b1 := HBH.out.grew k1
        have h0 := b1.cell 0
        have h1 := b1.cell 1
        simp at h0 h1
        clear hb b1
        go_wp2_with fail
        refine (hA5.out _).mono ?_
        rintro e w2 ⟨rfl, k2⟩
        go_wp2_with fail
        go_ret
        exact ⟨rfl, (HK.out.trans k1).trans k2⟩
    · have p1 : decide ((60 : Int) < (lr : Int)) = true := decide_eq_true (by omega)
      go_enter Try.func3, Try.ntmps3
      go_wp2_with fail
      refine hC.out.mono ?_
      rintro e w1 ⟨⟨b, rfl, hb⟩, k1⟩
      obtain rfl : b = true := hb.2 HLi.out
      have b1 := HBH.out.grew k1
      have h0 := b1.cell 0
      have h1 := b1.cell 1
      simp at h0 h1
      clear hb b1
      go_wp2_with fail
      refine (hA5.out _).mono ?_
      rintro e w2 ⟨rfl, k2⟩
      go_wp2_with fail
      go_ret
      exact ⟨rfl, (HK.out.trans k1).trans k2⟩
  as_aux_lemma =>
    have p1 : decide ((60 : Int) < (lr : Int)) = false := decide_eq_false (by omega)
    have p2 : decide ((60 : Int) < (m : Int)) = false := decide_eq_false (by omega)
    have p3 : decide ((300 : Int) < (len : Int)) = false := decide_eq_false (by omega)
    obtain ⟨hL40, hlr6, hm6, hlen3⟩ : L ≤ 40 ∧ lr ≤ 60 ∧ m ≤ 60 ∧ len ≤ 300 := ⟨hlight.2, h1⟩
    have hrN : Hid (rightF n es = 0 → n ≤ 12) := fun h => by have := (right_zero h).2.1; have := HLi.out.1; omega
    clear hlight h1 hle hlr hls hlen
    go_enter Try.func3, Try.ntmps3
    go_wp2_with fail
    refine hC.out.mono ?_
    rintro e w1 ⟨⟨b, rfl, hb⟩, k1⟩
    obtain rfl : b = true := hb.2 HLi.out
    have HBG1 := Lib.hid (HBG.out.grew k1)
    have HBH1 := Lib.hid (HBH.out.grew k1)
    have HK1 := Lib.hid (HK.out.trans k1)
    have hsz : Hid (w.heap.size + 2 ≤ w1.heap.size) := by
      have a := HBH1.out.lt
      have b := HR0.out
      show _ ≤ _
      omega
    have g0 := HBG1.out.cell 0
    have g1 := HBG1.out.cell 1
    have h0 := HBH1.out.cell 0
    have h1 := HBH1.out.cell 1
    simp at g0 g1 h0 h1
    have hC6 := Lib.hid (graph_E n Ae ce es w1 (HE.out.grew HK1.out) (by rw [HL.out]; omega))
    rw [HL.out] at hC6
    clear hC hb k1 HBG HBH HK
    go_wp2_with fail
    refine hC6.out.mono ?_
    rintro e w2 ⟨Av, nv, cv, f, rfl, k2, hf⟩
    have HF := Lib.hid hf
    have HK2 := Lib.hid k2
    clear hC6 hf k2 g0 g1 h0 h1
    go_upto_if 54 with fail
    go_cut [] (fun wx => Hid (Grew w1 wx))
    case first =>
      rcases HF.out with ⟨hf, _⟩ | ⟨hf, hri, ho⟩
      · as_aux_lemma =>
        subst hf
        clear HF
        go_wp2_with fail
        go_meet
        exact HK2
      · as_aux_lemma =>
        subst hf
        have hll : (encG n es).length ≤ 100000 := by
          obtain ⟨N, rfl⟩ := Int.eq_ofNat_of_zero_le (show 0 ≤ n by have := (right_zero hri).1; omega)
          have := encG_le N es
          rw [HL.out] at this
          unfold encG
          rw [HL.out, Int.toNat_natCast]
          rw [← HL.out] at this ⊢
          have := HL.out
          omega
        obtain ⟨g, c, hv, hg, hs⟩ := src_own ho rfl (encG_pos _ _) hll (encG_rng _ _)
        have hX := Lib.hid (read_E (some ⟨g, 0, none⟩) _ c _ w2 hs hll (fun a ha => by cases ha; exact hg))
        rw [← hv] at hX
        have HRi := Lib.hid hri
        clear HF ho hs hv hri hll
        go_wp2_with fail
        refine hX.out.mono ?_
        rintro e w3 ⟨n', Av', Lv, cv', q, f', rfl, k3, hf'⟩
        obtain ⟨hf', es', hLv, hrow, hr', hR', hu⟩ : f' = 0 ∧ ∃ es', Lv = List.length es' ∧ RowE w3 Av' es' ∧ rightF n' es' = 0 ∧ Rest (fun i => (encG n es).getD i 0) (encG n es).length 0 (encG n' es') ∧ ∀ n0 es0, rightF n0 es0 = 0 → Rest (fun i => (encG n es).getD i 0) (encG n es).length 0 (encG n0 es0) → n0 = n' ∧ es0 = es' := by
          rcases hf' with ⟨_, hno⟩ | h
          · exact absurd (rest_self _) (hno _ _ HRi.out)
          · exact h
        obtain ⟨hn', hes⟩ := hu _ _ HRi.out (rest_self _)
        subst hf'
        have gY : Grew w3 (w3.alloc (.cells #[i64 n', .slice Av' Lv cv'] 24)) := (Kept.refl _ _).alloc _
        have kY := (HK2.out.trans k3).trans gY
        have hle2 : es'.length ≤ 100000 := by rw [← hes, HL.out]; omega
        have hSm := Lib.hid (refSame_any n' n Av' Ae cv' ce es' es (w3.alloc (.cells #[i64 n', .slice Av' Lv cv'] 24)) (hrow.grew gY) (HE.out.grew (HK1.out.trans kY)) hle2 (by rw [HL.out]; omega))
        rw [decide_eq_true ⟨hn'.symm, hes.symm⟩, ← hLv, HL.out] at hSm
        have bY := Blk.new w3 24 #[i64 n', .slice Av' Lv cv']
        have bG := HBG1.out.grew kY
        obtain ⟨WY, hWY⟩ : ∃ W, w3.alloc (.cells #[i64 n', .slice Av' Lv cv'] 24) = W := ⟨_, rfl⟩
        obtain ⟨Y, hY⟩ : ∃ E, w3.heap.size = E := ⟨_, rfl⟩
        rw [hWY] at bY bG hSm kY
        rw [hY] at bY
        have y0 := bY.cell 0
        have y1 := bY.cell 1
        have g0 := bG.cell 0
        have g1 := bG.cell 1
        simp at y0 y1 g0 g1
        have HKY := Lib.hid kY
        clear hX HRi hLv hrow hr' hR' hu hn' hes gY hle2 bY bG kY k3
        go_wp2_with fail
        refine hSm.out.mono ?_
        rintro e w4 ⟨rfl, k4⟩
        have HK5 := Lib.hid (HKY.out.trans k4)
        clear hSm k4 HKY
        go_wp2_with fail
        go_meet
        exact HK5
    case rest =>
    have HKc := Lib.hid (HK1.out.trans hcut.out)
    have bG := HBG1.out.grew hcut.out
    have bH := HBH1.out.grew hcut.out
    have g0 := bG.cell 0
    have g1 := bG.cell 1
    have h0 := bH.cell 0
    have h1 := bH.cell 1
    simp at g0 g1 h0 h1
    have hC9 := Lib.hid (hier_E n es Ae ce rk Ar cr ss As cs wc (HE.out.grew HKc.out) (HRr.out.grew HKc.out) (HSr.out.grew HKc.out) (by rw [HL.out]; omega) (by rw [HN.out]; omega) (by rw [HM.out]; omega) (by rw [HM.out]; exact hcs))
    rw [HL.out, HN.out, HM.out] at hC9
    clear bG bH HF HK2
    go_wp2_with fail
    refine hC9.out.mono ?_
    rintro e w3 ⟨Av, nv, cv, f, rfl, k2, hf⟩
    have HF := Lib.hid hf
    have HK3 := Lib.hid (hcut.out.trans k2)
    clear hC9 hf k2 g0 g1 h0 h1 hcut HKc
    go_upto_if 76 with fail
    go_cut [] (fun wx => Hid (Grew w1 wx))
    case first =>
      rcases HF.out with ⟨hf, _⟩ | ⟨hf, hmd, ho⟩
      · as_aux_lemma =>
        subst hf
        clear HF
        go_wp2_with fail
        go_meet
        exact HK3
      · as_aux_lemma =>
        subst hf
        have hll : (encH rk ss).length ≤ 100000 := by
          have a := encR_le rk
          have b := encSs_le ss
          have c : (encN ss.length).length ≤ 10 := digs_length 10 _
          rw [HN.out] at a
          rw [HM.out] at b
          unfold encH
          simp only [List.length_append]
          omega
        obtain ⟨g, c, hv, hg, hs⟩ := src_own ho rfl (encH_pos _ _) hll (encH_rng _ _)
        have bG := HBG1.out.grew HK3.out
        have g0 := bG.cell 0
        have g1 := bG.cell 1
        simp at g0 g1
        have hX := Lib.hid (readH_E n es Ae ce (some ⟨g, 0, none⟩) _ c _ w3 (HE.out.grew (HK1.out.trans HK3.out)) (by rw [HL.out]; omega) hs hll (fun a ha => by cases ha; exact hg) (fun a ha => Nat.lt_of_lt_of_le (HAe.out a ha) (HK1.out.trans HK3.out).size))
        rw [← hv, HL.out] at hX
        have HOk : Hid (okH n es rk ss) := ⟨hmd.2, by rw [HM.out]; omega⟩
        have HRi := Lib.hid hmd.1
        clear HF ho hs hv hmd hll bG
        go_wp2_with fail
        refine hX.out.mono ?_
        rintro e w4 ⟨Ar', lr', cr', As', ls', cs', q, f', rfl, k3, hf'⟩
        obtain ⟨hf', _, rk', ss', hlr2, hls2, hrow, hsrow, _, _, _, hu⟩ : f' = 0 ∧ rightF n es = 0 ∧ ∃ rk' ss', lr' = List.length rk' ∧ ls' = List.length ss' ∧ RowI w4 Ar' rk' ∧ RowS w4 As' ss' ∧ List.length ss' ≤ cs' ∧ okH n es rk' ss' ∧ Rest (fun i => (encH rk ss).getD i 0) (encH rk ss).length 0 (encH rk' ss') ∧ ∀ rk0 ss0, okH n es rk0 ss0 → Rest (fun i => (encH rk ss).getD i 0) (encH rk ss).length 0 (encH rk0 ss0) → rk0 = rk' ∧ ss0 = ss' := by
          rcases hf' with ⟨_, _, _, hno⟩ | h
          · rcases hno with hno | hno
            · exact absurd HRi.out hno
            · exact absurd (rest_self _) (hno _ _ HOk.out)
          · exact h
        obtain ⟨hrk, hss⟩ := hu _ _ HOk.out (rest_self _)
        subst hf'
        have gY : Grew w4 (w4.alloc (.cells #[.slice Ar' lr' cr', .slice As' ls' cs'] 28)) := (Kept.refl _ _).alloc _
        have kY := (HK3.out.trans k3).trans gY
        have hSm := Lib.hid (refSameH_any rk' rk ss' ss Ar' Ar As' As cr' cr cs' cs (w4.alloc (.cells #[.slice Ar' lr' cr', .slice As' ls' cs'] 28)) (hrow.grew gY) (HRr.out.grew (HK1.out.trans kY)) (hsrow.grew gY) (HSr.out.grew (HK1.out.trans kY)) (by rw [← hrk, HN.out]; omega) (by rw [HN.out]; omega) (by rw [← hss, HM.out]; omega) (by rw [HM.out]; omega))
        rw [← hlr2, ← hls2, HN.out, HM.out] at hSm
        have bY := Blk.new w4 28 #[.slice Ar' lr' cr', .slice As' ls' cs']
        have bH := HBH1.out.grew kY
        obtain ⟨WY, hWY⟩ : ∃ W, w4.alloc (.cells #[.slice Ar' lr' cr', .slice As' ls' cs'] 28) = W := ⟨_, rfl⟩
        obtain ⟨Y, hY⟩ : ∃ E, w4.heap.size = E := ⟨_, rfl⟩
        rw [hWY] at bY bH hSm kY
        rw [hY] at bY
        have y0 := bY.cell 0
        have y1 := bY.cell 1
        have h0 := bH.cell 0
        have h1 := bH.cell 1
        simp at y0 y1 h0 h1
        have HKY := Lib.hid kY
        have Hrk := Lib.hid (show rk' = rk ∧ ss' = ss from ⟨hrk.symm, hss.symm⟩)
        clear hX HRi HOk hlr2 hls2 hrow hsrow hu hrk hss gY bY bH kY k3 g0 g1
        go_wp2_with fail
        refine hSm.out.mono ?_
        rintro e w5 ⟨⟨b, rfl, hb⟩, k4⟩
        obtain rfl : b = true := hb.2 Hrk.out
        have HK5 := Lib.hid (HKY.out.trans k4)
        clear hSm k4 HKY hb
        go_wp2_with fail
        go_meet
        exact HK5
    case rest =>
    have HKc := Lib.hid (HK1.out.trans hcut.out)
    have hC7 := Lib.hid (read_E A len cap z wc (HSrc.out.grew HKc.out) (by omega) (fun a ha => Nat.lt_of_lt_of_le (HA.out a ha) HKc.out.size))
    clear HF HK3
    go_wp2_with fail
    refine hC7.out.mono ?_
    rintro e w3 ⟨n', Av, Lv, cv, q, f, rfl, k2, hf⟩
    have HF := Lib.hid hf
    have gY : Grew w3 (w3.alloc (.cells #[i64 n', .slice Av Lv cv] 24)) := (Kept.refl _ _).alloc _
    have bY := Blk.new w3 24 #[i64 n', .slice Av Lv cv]
    obtain ⟨WY, hWY⟩ : ∃ W, w3.alloc (.cells #[i64 n', .slice Av Lv cv] 24) = W := ⟨_, rfl⟩
    obtain ⟨Y, hY⟩ : ∃ E, w3.heap.size = E := ⟨_, rfl⟩
    rw [hWY] at bY gY
    rw [hY] at bY
    have y0 := bY.cell 0
    have y1 := bY.cell 1
    simp at y0 y1
    have HGY := Lib.hid gY
    have HK3 := Lib.hid ((hcut.out.trans k2).trans gY)
    clear hC7 hf k2 hcut HKc bY gY
    go_upto_if 99 with fail
    go_cut [] (fun wx => Hid (Grew w1 wx))
    case first =>
      rcases HF.out with ⟨hf, _⟩ | ⟨hf, es', hLv, hrow, hr', hR', _⟩
      · as_aux_lemma =>
        subst hf
        clear HF
        go_wp2_with fail
        go_meet
        exact HK3
      · as_aux_lemma =>
        subst hf
        have hl3 : es'.length ≤ 1000 := by
          have := encG_ge n' es'
          have := hR'.2
          omega
        have hX := Lib.hid (graph_E n' Av cv es' WY (hrow.grew HGY.out) hl3)
        rw [← hLv] at hX
        have HRr' := Lib.hid hr'
        have HRest := Lib.hid hR'
        clear HF hLv hrow hr' hR' hl3
        go_wp2_with fail
        refine hX.out.mono ?_
        rintro e w4 ⟨Av2, nv2, cv2, f2, rfl, k4, hf2⟩
        obtain ⟨hf2, _, ho⟩ : f2 = 0 ∧ rightF n' es' = 0 ∧ w4.ownsRow WY.heap.size 5 1 (.slice Av2 nv2 cv2) (encG n' es').length ((encG n' es').map B8) := by
          rcases hf2 with ⟨_, hno⟩ | h
          · exact absurd HRr'.out hno
          · exact h
        subst hf2
        obtain ⟨g, c, hv⟩ := own_form ho (encG_pos _ _)
        rw [hv] at ho
        have c1 := string_own ho
        rw [← hv] at c1
        have c2 := string_src (HSrc.out.grew ((HK1.out.trans HK3.out).trans k4)) HRest.out (encG_pos _ _)
        obtain ⟨S, hS⟩ : ∃ S, strOfNums (encG n' es') = S := ⟨_, rfl⟩
        rw [hS] at c1 c2
        have HK5 := Lib.hid (HK3.out.trans k4)
        clear hX k4 ho hv hS HRest HRr' y0 y1 HGY
        go_wp2_with fail
        go_meet
        exact HK5
    case rest =>
    have HKc := Lib.hid (HK1.out.trans hcut.out)
    have bG := HBG1.out.grew hcut.out
    have g0 := bG.cell 0
    have g1 := bG.cell 1
    simp at g0 g1
    have hC10 := Lib.hid (readH_E n es Ae ce A len cap z wc (HE.out.grew HKc.out) (by rw [HL.out]; omega) (HSrc.out.grew HKc.out) (by omega) (fun a ha => Nat.lt_of_lt_of_le (HA.out a ha) HKc.out.size) (fun a ha => Nat.lt_of_lt_of_le (HAe.out a ha) HKc.out.size))
    rw [HL.out] at hC10
    clear HF HK3 HGY bG y0 y1
    go_wp2_with fail
    refine hC10.out.mono ?_
    rintro e w4 ⟨Ar', lr', cr', As', ls', cs', q, f, rfl, k3, hf⟩
    have gZ : Grew w4 (w4.alloc (.cells #[.slice Ar' lr' cr', .slice As' ls' cs'] 28)) := (Kept.refl _ _).alloc _
    have bZ := Blk.new w4 28 #[.slice Ar' lr' cr', .slice As' ls' cs']
    have bG := HBG1.out.grew ((hcut.out.trans k3).trans gZ)
    obtain ⟨WZ, hWZ⟩ : ∃ W, w4.alloc (.cells #[.slice Ar' lr' cr', .slice As' ls' cs'] 28) = W := ⟨_, rfl⟩
    obtain ⟨Z, hZ⟩ : ∃ E, w4.heap.size = E := ⟨_, rfl⟩
    rw [hWZ] at bZ gZ bG
    rw [hZ] at bZ
    have z0 := bZ.cell 0
    have z1 := bZ.cell 1
    have g0 := bG.cell 0
    have g1 := bG.cell 1
    simp at z0 z1 g0 g1
    have HK5 := Lib.hid ((hcut.out.trans k3).trans gZ)
    rcases hf with ⟨hf, hl0, hs0, _⟩ | ⟨hf, hri, rk', ss', hlr2, hls2, hrow, hsrow, hcs', hok, hR', _⟩
    · as_aux_lemma =>
      subst hl0
      subst hs0
      have hfb : (f != 0) = true := by rcases hf with rfl | rfl <;> rfl
      clear hC10 hf k3 hcut bZ bG gZ g0 g1
      go_wp2_with fail
      refine (hA5.out _).mono ?_
      rintro e w5 ⟨rfl, k5⟩
      go_wp2_with fail
      go_ret
      exact ⟨rfl, (HK1.out.trans HK5.out).trans k5⟩
    · as_aux_lemma =>
      subst hf
      have hl3 : ss'.length ≤ 1000 := by
        have := encH_ge rk' ss'
        have := hR'.2
        omega
      have hl4 : rk'.length ≤ 1000 := by
        have := hok.1.1
        have := hrN.out hri
        omega
      have hX := Lib.hid (hier_E n es Ae ce rk' Ar' cr' ss' As' cs' WZ (HE.out.grew (HK1.out.trans HK5.out)) (hrow.grew gZ) (hsrow.grew gZ) (by rw [HL.out]; omega) hl4 hl3 hcs')
      rw [HL.out, ← hlr2, ← hls2] at hX
      have HMd := Lib.hid (show rightF n es = 0 ∧ made n es rk' ss' from ⟨hri, hok.1⟩)
      have HRest := Lib.hid hR'
      clear hC10 k3 hcut bZ bG gZ hlr2 hls2 hrow hsrow hcs' hok hR' hl3 hl4 hri
      go_wp2_with fail
      refine hX.out.mono ?_
      rintro e w5 ⟨Av2, nv2, cv2, f2, rfl, k5, hf2⟩
      obtain ⟨hf2, _, ho⟩ : f2 = 0 ∧ (rightF n es = 0 ∧ made n es rk' ss') ∧ w5.ownsRow WZ.heap.size 5 1 (.slice Av2 nv2 cv2) (encH rk' ss').length ((encH rk' ss').map B8) := by
        rcases hf2 with ⟨_, hno⟩ | h
        · exact absurd HMd.out hno
        · exact h
      subst hf2
      obtain ⟨g, c, hv⟩ := own_form ho (encH_pos _ _)
      rw [hv] at ho
      have c1 := string_own ho
      rw [← hv] at c1
      have c2 := string_src (HSrc.out.grew ((HK1.out.trans HK5.out).trans k5)) HRest.out (encH_pos _ _)
      obtain ⟨S, hS⟩ : ∃ S, strOfNums (encH rk' ss') = S := ⟨_, rfl⟩
      rw [hS] at c1 c2
      have HK6 := Lib.hid ((HK1.out.trans HK5.out).trans k5)
      clear hX k5 ho hv hS HRest HMd z0 z1 g0 g1
      go_wp2_with fail
      refine (hA5.out _).mono ?_
      rintro e w6 ⟨rfl, k6⟩
      go_wp2_with fail
      go_ret
      exact ⟨rfl, HK6.out.trans k6⟩
end Go.Proofs.Ytjbjomodponapaa
