/- What a row's All hands out. -/
import Derived.Test.YtlokmciilminhaaDo
import Derived.Test.YtlokmciilminhaaNils
namespace Go.Proofs.Ytlokmciilminhaa
open Go.RowKit Go.Shelf
attribute [local go_sem] Oper.semAt_some

/-- Of the blocks of cells that were there, those that F does not name are as they were. -/
structure KeptC (F : Nat → Prop) (w w' : World) : Prop where
  size : w.heap.size ≤ w'.heap.size
  block : ∀ (k : Nat) (o : Obj), w.heap[k]? = some o → o.isCells = true → ¬ F k → w'.heap[k]? = some o
theorem KeptC.trans {F : Nat → Prop} {a b c : World} (h : KeptC F a b) (k : KeptC F b c) : KeptC F a c :=
  ⟨Nat.le_trans h.size k.size, fun i o hi ho hf => k.block i o (h.block i o hi ho hf) ho hf⟩
theorem Kept.keptC {F G : Nat → Prop} {a b : World} (h : Kept F a b) (hFG : ∀ k, F k → G k) : KeptC G a b :=
  ⟨h.size, fun i o hi _ hf => (h.block i (Array.getElem?_eq_some_iff.1 hi).1 (fun f => hf (hFG i f))).trans hi⟩
theorem KeptC.put {F : Nat → Prop} (W : World) (l : Nat) (o o' : Obj) (hl : W.heap[l]? = some o) (ho : o.isCells = false) : KeptC F W (W.putObj l o') :=
  ⟨(grownBy_putObj' W l o').size, fun i x hi hx _ => ((grownBy_putObj' W l o').block i (Array.getElem?_eq_some_iff.1 hi).1 (fun e => by cases e; rw [hl] at hi; cases hi; rw [ho] at hx; cases hx)).trans hi⟩
theorem KeptC.own {F : Nat → Prop} {w w' : World} (h : KeptC F w w') {base n size : Nat} {e : TypeId} {v : Value} {xs : List Value} (ho : w.ownsRow base e size v n xs) (hf : ∀ k, v.ownBlock = some k → ¬ F k) : w'.ownsRow base e size v n xs := by
  refine ⟨ho.1, ?_⟩
  rcases ho.2 with hn | ⟨g, cap, cur, hv, hb, hgg, rest⟩
  · exact .inl hn
  · exact .inr ⟨g, cap, cur, hv, hb, h.block g _ hgg rfl (hf g (by rw [hv]; rfl)), rest⟩
theorem KeptC.blk {F : Nat → Prop} {w w' : World} (h : KeptC F w w') {g : Nat} {t : TypeId} {cs : Array Value} (hb : Blk w g t cs) (hf : ¬ F g) : Blk w' g t cs := h.block g _ hb rfl hf

/-- The places below k that have something, in order. -/
def seqOf (h : Have) : Nat → List (Int × Int)
  | 0 => []
  | k + 1 => match h k with | some v => seqOf h k ++ [((k : Int), v)] | none => seqOf h k
theorem seqOf_some {h : Have} {k : Nat} {v : Int} (hk : h k = some v) : seqOf h (k + 1) = seqOf h k ++ [((k : Int), v)] := by simp [seqOf, hk]
theorem seqOf_none {h : Have} {k : Nat} (hk : h k = none) : seqOf h (k + 1) = seqOf h k := by simp [seqOf, hk]
theorem seqOf_len (h : Have) : ∀ k, (seqOf h k).length ≤ k
  | 0 => Nat.le_refl _
  | k + 1 => by
    have := seqOf_len h k
    cases hk : h k with
    | none => rw [seqOf_none hk]; omega
    | some v => rw [seqOf_some hk]; simp; omega
theorem seqOf_pre (h : Have) (n : Nat) : ∀ k, k ≤ n → seqOf h k <+: seqOf h n := by
  intro k hk
  induction n with
  | zero => obtain rfl : k = 0 := by omega
            exact List.prefix_refl _
  | succ n ih =>
    rcases Nat.lt_or_ge k (n + 1) with hlt | hge
    · refine (ih (by omega)).trans ?_
      cases hk : h n with
      | none => rw [seqOf_none hk]; exact List.prefix_refl _
      | some v => rw [seqOf_some hk]; exact List.prefix_append _ _
    · obtain rfl : k = n + 1 := by omega
      exact List.prefix_refl _

/-- A copy of the row's places. -/
def Copied (w : World) (B : Nat) (v : Value) (n : Nat) (now : Int) (h : Have) : Prop :=
  ∃ xs : List Value, w.ownsRow B 49 2 v n xs ∧ ∀ i, i < n → ∃ x t, Place xs.toArray now i (h i) x t

set_option maxRecDepth 100000 in
set_option maxHeartbeats 4000000 in
theorem all1_any (m l Bs R C n : Nat) (h : Have) (now many : Int) (F : Nat → Prop) (n₀ : Nat) (hF : ∀ k, F k → k < n₀) (hR : ¬ F R) (hC : ¬ F C) (J Jx : List (Int × Int) → World → Prop)
    (W : World) (hn₀ : n₀ ≤ W.heap.size) (hJ : AbidesFrom W.heap.size J)
    (hY : ∀ pre x W1, J pre W1 → pre.length < n → YieldAt Fence.wide (m - 1) Try.prog l (pairV x) W1 fun e W' =>
      (e = .returned (.bool true) ∧ J (pre ++ [x]) W' ∧ KeptC F W1 W') ∨ (e = .returned (.bool false) ∧ Jx (pre ++ [x]) W'))
    (hBs : W.cell? ⟨Bs, 0, none⟩ = some (pt R)) (s : Stamp W R C n h now many) (h0 : J [] W) :
    CallsIn Fence.wide m Try.prog 19 #[.func (.yield l) #[] #[], .pointer (some ⟨Bs, 0, none⟩)] W fun e W' => (∃ v, e = .returned v) ∧
      (J (seqOf h n) W' ∨ (∃ pre, pre <+: seqOf h n ∧ Jx pre W')) := by
  obtain ⟨i0, hi0, hz0, hz1, hz2⟩ := info_parts info_cell
  have r0 := s.row.cell 0
  have r1 := s.row.cell 1
  simp at r0 r1
  obtain ⟨cs, hB, hsz, hpl⟩ := s.cells
  have hsm := s.small
  have hnews : Hid (∀ j u, (cs.toList)[j]? = some u → (W.alloc (.cells #[] 49)).cell? ((⟨C, 0, none⟩ : Addr).add j) = some u) := by
    intro j u hu
    have := (hB.alloc (.cells #[] 49)).cell j
    have ha : (⟨C, 0, none⟩ : Addr).add j = ⟨C, j, none⟩ := by unfold Addr.add; split <;> simp_all
    rw [ha, this]
    simpa using hu
  have hone : Hid (∀ u ∈ cs.toList, u.oneCell' = true) := by
    intro u hu
    obtain ⟨j, hj, rfl⟩ := List.getElem_of_mem hu
    have hj' : j < n * 2 := by rw [← hsz]; simpa using hj
    have hd := Nat.div_add_mod j 2
    have hm := Nat.mod_lt j (show 0 < 2 by decide)
    obtain ⟨x, t, pl⟩ := hpl (j / 2) (by omega)
    rcases (show j % 2 = 0 ∨ j % 2 = 1 by omega) with g | g
    · have := pl.cv
      rw [show j / 2 * 2 = j by omega] at this
      rw [Array.getElem_toList, (Array.getElem?_eq_some_iff.1 this).2]; rfl
    · have := pl.ct
      rw [show j / 2 * 2 + 1 = j by omega] at this
      rw [Array.getElem_toList, (Array.getElem?_eq_some_iff.1 this).2]; rfl
  have hlen : Hid (cs.toList.length = n * 2) := by show _ = _; simpa using hsz
  have hemp : Hid (World.ownsRow (W.alloc (.cells #[] 49)) W.heap.size 49 2 (.slice (some ⟨W.heap.size, 0, none⟩) 0 0) 0 []) :=
    ⟨rfl, .inr ⟨W.heap.size, 0, #[], rfl, Nat.le_refl _, heap_alloc_new W _, Nat.le_refl _, by unfold maxLen; omega, rfl, rfl⟩⟩
  have cb := fun o => Grew.cell ((Kept.refl _ W).alloc o) hBs
  have cr0 := fun o => Grew.cell ((Kept.refl _ W).alloc o) r0
  have cr1 := fun o => Grew.cell ((Kept.refl _ W).alloc o) r1
  have hpl' := Lib.hid hpl
  clear hpl hsz hB s
  refine callsIn_of_wp Try.func19 rfl trivial ?_ rfl
  simp only [Try.ntmps19, List.size_toArray, List.length_cons, List.length_nil, Nat.reduceAdd, Nat.reduceSub, Array.replicate_succ, Array.replicate_zero, List.push_toArray, List.append_toArray, List.nil_append, List.cons_append]
  refine wpIn_scope_wide ?_
  refine wpIn_wide.2 ?_
  go_wp2_with fail
  refine wp_label ?_
  go_wp2_with (at_builtin; go_loud (refine wpList_append_own _ rfl (.tmp 12) (.tmp 16) 43 (by rfl) W.heap.size 49 i0 (.agg #[u64 0, u64 0]) 2 16 Try.underlying43 hi0 hz0 hz1 hz2 (by rfl) (by omega) _ 0 [] rfl hemp.out ⟨C, 0, none⟩ n n cs.toList rfl hlen.out hnews.out hone.out (by unfold maxLen; omega) (by omega) (by simp) ?_; intro v' w1 hown hgr _; rw [Nat.zero_add, List.nil_append] at hown; obtain ⟨A', c', rfl⟩ := own_slice2 hown))
  have hJ0 : J [] w1 := hJ [] W w1 none h0 ⟨hgr.os.trans rfl, hgr.tape.trans rfl, hgr.output.trans rfl, Nat.le_trans (by simp) hgr.size, fun k hk _ => (hgr.block k (by simp; omega) (fun e => by have e' : some k = some W.heap.size := e; cases e'; omega)).trans (Below.heap_alloc W _ k hk)⟩ (fun r e => by cases e)
  have hcop : Hid (Copied w1 W.heap.size (.slice A' n c') n now h) := ⟨cs.toList, hown, by simpa using hpl'.out⟩
  have hsz : W.heap.size ≤ w1.heap.size := Nat.le_trans (by simp) hgr.size
  clear hown hgr hpl' hemp hlen hone hnews cb cr0 cr1 r0 r1 hBs hi0 hz0 hz1 hz2 h0
  refine (wpIn_wide (n := m)).1 ?_
  gi_loopw [4, 5, 19] (fun u4 u5 i wr => ∃ k : Nat, k ≤ n ∧ i = .int .i64 k ∧ J (seqOf h k) wr ∧ Hid (Copied wr W.heap.size (.slice A' n c') n now h) ∧ W.heap.size ≤ wr.heap.size) (fun u4 u5 i wr => n - (intOf i).toNat)
  case atStart => exact ⟨0, Nat.zero_le _, rfl, hJ0, hcop, hsz⟩
  case round =>
    clear hJ0 hcop hsz
    obtain ⟨k, hk, rfl, hJs, hcop, hsz⟩ := hrel
    by_cases hlt : k < n
    · obtain ⟨xs, hown, hpl⟩ := hcop.out
      obtain ⟨g, c'', hv⟩ := own_form hown (by omega)
      have hgl := hown.lt
      cases hv
      obtain ⟨x, t, pl⟩ := hpl k hlt
      have e0 := World.ownsRow.cellAt hown (k * 2) (by omega)
      have e1 := World.ownsRow.cellAt hown (k * 2 + 1) (by omega)
      have hg := (hgl g rfl).1
      have hg2 := (hgl g rfl).2
      have pc := pl.cv
      have pt := pl.ct
      simp only [List.getElem?_toArray] at pc pt
      rw [pc] at e0
      rw [pt] at e1
      have hcopn : Hid (∀ W', KeptC F wr W' → Copied W' W.heap.size (.slice (some ⟨g, 0, none⟩) n c') n now h) := fun W' hk => ⟨xs, hk.own hown (fun j hj hf => by have h1 := hF j hf; have h2 : j = g := (Option.some.inj (show some g = some j from hj)).symm; omega), hpl⟩
      clear hpl hgl
      by_cases ht : t = now
      · have hh := Lib.hid (pl.yes ht)
        subst ht
        have hJ1 := hJ _ wr (wr.alloc (.cells #[u64 x, u64 t] 49)) none hJs (World.grownBy_alloc wr _ none) (fun r e => by cases e)
        obtain ⟨fn, tmps, assign, body, hy, hR⟩ := hY _ ((k : Int), x) _ hJ1 (by have := seqOf_len h k; omega)
        dsimp only [pairV] at hy
        clear hown pl pc pt
        gi_wp2
        refine ⟨(fun h => by cases h), ?_⟩
        refine hR.mono ?_
        rintro e W3 (⟨rfl, hJ3, hk3⟩ | ⟨rfl, hJx3⟩)
        · have hk4 : KeptC F wr W3 := (Kept.keptC ((Kept.refl (fun _ => False) wr).alloc _) (fun _ h => h.elim)).trans hk3
          gi_wp2
          go_roundw
          case rel => exact ⟨k + 1, by omega, by go_num, by rw [seqOf_some hh.out]; exact hJ3, Lib.hid (hcopn.out _ hk4), Nat.le_trans hsz hk4.size⟩
          case measure => simp [intOf]; omega
        · gi_wp2
          rw [Exit.noGoto_ret]
          refine bodyPost_ret (results_none rfl _ _ _) rfl ?_
          refine ⟨⟨_, rfl⟩, .inr ⟨_, ?_, hJx3⟩⟩
          rw [← seqOf_some hh.out]
          exact seqOf_pre h n (k + 1) (by omega)
      · have hh := Lib.hid (pl.no ht)
        have ht2 : (t == now) = false := by simpa using ht
        have hJ1 := hJ _ wr (wr.alloc (.cells #[u64 x, u64 t] 49)) none hJs (World.grownBy_alloc wr _ none) (fun r e => by cases e)
        clear hown pl pc pt ht
        gi_wp2
        go_roundw
        case rel => exact ⟨k + 1, by omega, by go_num, by rw [seqOf_none hh.out]; exact hJ1, Lib.hid (hcopn.out _ (Kept.keptC ((Kept.refl (fun _ => False) wr).alloc _) (fun _ h => h.elim))), by simp; omega⟩
        case measure => simp [intOf]; omega
    · obtain rfl : k = n := by omega
      gi_wp2
      rw [Exit.noGoto_normal]
      go_end0
      exact ⟨⟨_, rfl⟩, .inl hJs⟩

theorem stops_any (m Bs R C n : Nat) (h : Have) (now many : Int) (F : Nat → Prop) (w : World) (hF : ∀ k, F k → k < w.heap.size) (hR : ¬ F R) (hC : ¬ F C) (hBs : Bs < w.heap.size)
    (hc : w.cell? ⟨Bs, 0, none⟩ = some (pt R)) (s : Stamp w R C n h now many) :
    SeqStopsK Fence.wide m Try.prog 19 #[.pointer (some ⟨Bs, 0, none⟩)] pairV (KeptC F) (fun xs => xs = seqOf h n) (fun pre => pre <+: seqOf h n) n w := fun l J Jx W hW hJ _ hY h0 => by
  have hc' := (hW.cell (p := ⟨Bs, 0, none⟩) hBs).trans hc
  have hs : Stamp W R C n h now many := by
    have hr := s.row.lt
    obtain ⟨cs, hb, _⟩ := s.cells
    have hl := hb.lt
    exact s.kept (Grew.of_below hW) (fun h => h) (fun h => h)
  refine (all1_any m l Bs R C n h now many F w.heap.size hF hR hC J Jx W hW.size hJ hY hc' hs h0).mono ?_
  rintro e W' ⟨he, hj | ⟨pre, hp, hj⟩⟩
  · exact ⟨he, .inl ⟨_, rfl, hj⟩⟩
  · exact ⟨he, .inr ⟨pre, hp, hj⟩⟩
end Go.Proofs.Ytlokmciilminhaa
