/- What a set's All hands out. -/
import Derived.Test.YtabddnlcgmbopaaDoorTz
import Derived.Test.YtabddnlcgmbopaaDoorFun
import Derived.Test.YtabddnlcgmbopaaDoorIter
import Derived.RangeFuncNested
import Derived.RangeFuncBox
namespace Go.Proofs.YtabddnlcgmbopaaDoor
open Go.RowKit Go.Shelf
attribute [local go_sem] Oper.semAt_some

/-- Of the blocks of cells that were there, those that F does not name, and that lay below n₀ or hold no ints, are as they were. -/
structure KeptC (n₀ : Nat) (F : Nat → Prop) (w w' : World) : Prop where
  size : w.heap.size ≤ w'.heap.size
  block : ∀ (k : Nat) (cs : Array Value) (t : TypeId) (fr : Nat × Nat), w.heap[k]? = some (.cells cs t fr) → (k < n₀ ∨ t ≠ 3) → ¬ F k → w'.heap[k]? = some (.cells cs t fr)
theorem KeptC.refl (n₀ : Nat) (F : Nat → Prop) (w : World) : KeptC n₀ F w w := ⟨Nat.le_refl _, fun _ _ _ _ h _ _ => h⟩
theorem KeptC.trans {n₀ : Nat} {F : Nat → Prop} {a b c : World} (h : KeptC n₀ F a b) (k : KeptC n₀ F b c) : KeptC n₀ F a c :=
  ⟨Nat.le_trans h.size k.size, fun i cs t fr hi ho hf => k.block i cs t fr (h.block i cs t fr hi ho hf) ho hf⟩
theorem Kept.keptC {n₀ : Nat} {F G : Nat → Prop} {a b : World} (h : Kept F a b) (hFG : ∀ k cs fr, a.heap[k]? = some (.cells cs 3 fr) → F k → n₀ ≤ k ∨ G k) (hFG' : ∀ k cs t fr, a.heap[k]? = some (.cells cs t fr) → F k → t = 3 ∨ G k) : KeptC n₀ G a b :=
  ⟨h.size, fun i cs t fr hi ho hf => (h.block i (Array.getElem?_eq_some_iff.1 hi).1 (fun f => by
    rcases hFG' i cs t fr hi f with rfl | h1
    · rcases hFG i cs fr hi f with h2 | h2
      · rcases ho with h3 | h3
        · omega
        · exact h3 rfl
      · exact hf h2
    · exact hf h1)).trans hi⟩
theorem Grew.keptC {n₀ : Nat} {G : Nat → Prop} {a b : World} (h : Grew a b) : KeptC n₀ G a b := Kept.keptC h (fun _ _ _ _ h => h.elim) (fun _ _ _ _ _ h => h.elim)
theorem KeptC.put {n₀ : Nat} {F : Nat → Prop} (W : World) (l : Nat) (o o' : Obj) (hl : W.heap[l]? = some o) (ho : o.isCells = false) : KeptC n₀ F W (W.putObj l o') :=
  ⟨(grownBy_putObj' W l o').size, fun i cs t fr hi _ _ => ((grownBy_putObj' W l o').block i (Array.getElem?_eq_some_iff.1 hi).1 (fun e => by cases e; rw [hl] at hi; cases hi; cases ho)).trans hi⟩
theorem KeptC.blk {n₀ : Nat} {F : Nat → Prop} {w w' : World} (h : KeptC n₀ F w w') {g : Nat} {t : TypeId} {cs : Array Value} (hb : Blk w g t cs) (ht : t ≠ 3) (hf : ¬ F g) : Blk w' g t cs := h.block g _ _ _ hb (.inr ht) hf

/-- The words that a copy has. -/
theorem RowW.keptC {n₀ : Nat} {F : Nat → Prop} {w w' : World} {v : Value} {ws : List Nat} (h : RowW w v ws) (k : KeptC n₀ F w w') (hF : ∀ j, ownW v = some j → ¬ F j) : RowW w' v ws := by
  rcases h with h | ⟨g, c, cur, rfl, h0, hb, hc⟩
  · exact .inl h
  · refine .inr ⟨g, c, cur, rfl, h0, k.blk hb (by decide) (hF g ?_), hc⟩
    obtain ⟨m, hm⟩ : ∃ m, ws.length = m + 1 := ⟨ws.length - 1, by omega⟩
    rw [hm]
    rfl
/-- The table's block: some cells, of which the first are the table's. -/
def TabB (w : World) : Prop := Tab w ∧ ∃ (cs : Array Value) (t : TypeId) (fr : Nat × Nat), w.heap[0]? = some (.cells cs t fr)
theorem TabB.keptC {n₀ : Nat} {F : Nat → Prop} {w w' : World} (h : TabB w) (k : KeptC n₀ F w w') (hn : 0 < n₀) (hF : ¬ F 0) : TabB w' := by
  obtain ⟨h, cs, t, fr, hb⟩ := h
  have hb' := k.block 0 _ _ _ hb (.inl hn) hF
  exact ⟨fun j hj => (World.cell?_of_block (hb'.trans hb.symm)).trans (h j hj), cs, t, fr, hb'⟩
theorem TabB.grew {w w' : World} (h : TabB w) (k : Grew w w') : TabB w' := h.keptC (n₀ := 1) (F := fun _ => False) k.keptC (by decide) (fun h => h)
theorem TabB.kept {F : Nat → Prop} {w w' : World} (h : TabB w) (k : Kept F w w') (hF : ¬ F 0) : TabB w' := by
  obtain ⟨h, cs, t, fr, hb⟩ := h
  exact ⟨h.kept k hF, cs, t, fr, (k.block 0 (Array.getElem?_eq_some_iff.1 hb).1 hF).trans hb⟩
theorem TabB.lt {w : World} (h : TabB w) : 0 < w.heap.size := by
  obtain ⟨_, cs, t, fr, hb⟩ := h
  exact (Array.getElem?_eq_some_iff.1 hb).1

/-- What is handed out when all below m is. -/
def seqI (ws : List Nat) (m : Nat) : List Int := insI (inW ws) m
theorem seqI_le (ws : List Nat) (m : Nat) : (seqI ws m).length ≤ m := insI_len _ _
theorem seqI_pre (ws : List Nat) (m n : Nat) (h : m ≤ n) : seqI ws m <+: seqI ws n := by
  obtain ⟨d, rfl⟩ : ∃ d, n = m + d := ⟨n - m, by omega⟩
  clear h
  induction d with
  | zero => exact List.prefix_refl _
  | succ d ih =>
    refine ih.trans ?_
    unfold seqI
    rw [← Nat.add_assoc]
    cases hh : inW ws (m + d) with
    | true => rw [insI_yes hh]; exact List.prefix_append _ _
    | false => rw [insI_no hh]; exact List.prefix_refl _
theorem seqI_done {ws : List Nat} {q k : Nat} (h : Left ws q k 0) : seqI ws (64 * (q + 1)) = seqI ws (64 * q + k) := by unfold seqI insI; rw [h.done]
theorem seqI_next {ws : List Nat} {q k x : Nat} (h : Left ws q k x) (h0 : x ≠ 0) : ∃ c, Lib.ctz 64 x = c ∧ k ≤ c ∧ c < 64 ∧ inW ws (64 * q + c) = true ∧ seqI ws (64 * q + (c + 1)) = seqI ws (64 * q + k) ++ [((64 * q + c : Nat) : Int)] ∧ Left ws q (c + 1) (x &&& (x - 1)) := by
  obtain ⟨c, h1, h2, h3, h4, h5, h6⟩ := h.next h0
  refine ⟨c, h1, h2, h3, h4, ?_, h6⟩
  unfold seqI insI
  rw [h5, List.map_append]
  rfl
abbrev oneI (x : Int) : Array Value := #[i64 x]

theorem less_one (x : Nat) (h0 : 0 < x) (hx : x < 18446744073709551616) : IntKind.u64.wrap ((x : Int) - 1) = ((x - 1 : Nat) : Int) := by
  rw [IntKind.wrap_u64]; omega
theorem and_less (x : Nat) (h0 : 0 < x) (hx : x < 18446744073709551616) : bits .and .u64 (x : Int) ((x - 1 : Nat) : Int) = ((x &&& (x - 1) : Nat) : Int) := bits_and_u64_nat x _ hx (by omega)

set_option maxRecDepth 100000 in
set_option maxHeartbeats 4000000 in
theorem all1_any (m l Bs S n : Nat) (v : Value) (ws : List Nat) (F : Nat → Prop) (n₀ : Nat) (hF : ∀ k, F k → k < n₀) (hn0 : 0 < n₀) (hT0 : ¬ F 0) (J Jx : List Int → World → Prop)
    (W : World) (hn₀ : n₀ ≤ W.heap.size) (hJ : AbidesFrom W.heap.size J)
    (hY : ∀ pre x W1, J pre W1 → pre.length < 64 * ws.length → YieldAt Fence.wide (m - 1) Tryd.prog l (oneI x) W1 fun e W' =>
      (e = .returned (.bool true) ∧ J (pre ++ [x]) W' ∧ KeptC n₀ F W1 W') ∨ (e = .returned (.bool false) ∧ Jx (pre ++ [x]) W'))
    (hBs : W.cell? ⟨Bs, 0, none⟩ = some (pt S)) (s : SetB W S n v ws) (hT : TabB W) (h0 : J [] W) :
    CallsIn Fence.wide m Tryd.prog 28 #[.func (.yield l) #[] #[], .pointer (some ⟨Bs, 0, none⟩)] W fun e W' => (∃ v, e = .returned v) ∧
      (J (seqI ws (64 * ws.length)) W' ∨ (∃ pre, pre <+: seqI ws (64 * ws.length) ∧ Jx pre W')) := by
  have r1 := s.box.cell 1
  simp at r1
  have hsm := s.small
  have hlen := s.len
  have hC := Lib.hid (sclone_any W v ws s.row (by omega))
  have hlt := Lib.hid s.lt
  have hT := Lib.hid hT
  have HL : ws.length ≤ 1025 := by omega
  clear s hlen
  refine callsIn_of_wp Tryd.func28 rfl trivial ?_ rfl
  simp only [Tryd.ntmps28, List.size_toArray, List.length_cons, List.length_nil, Nat.reduceAdd, Nat.reduceSub, Array.replicate_succ, Array.replicate_zero, List.push_toArray, List.append_toArray, List.nil_append, List.cons_append]
  refine wpIn_wide.2 ?_
  go_wp2_with fail
  refine hC.out.mono ?_
  rintro r w1 ⟨v', rfl, hr, hg, hown⟩
  obtain ⟨A, c, rfl⟩ := hr.slice
  obtain ⟨L, hL⟩ : ∃ L, ws.length = L := ⟨_, rfl⟩
  have hL := Lib.hid hL
  rw [hL.out] at hr hown HL hY ⊢
  have hJ0 : J [] w1 := hJ [] W w1 none h0 ⟨hg.os, hg.tape, hg.output, hg.size, fun k hk _ => hg.block k hk (fun h => h)⟩ (fun r e => by cases e)
  have hrow := Lib.hid hr
  have htab := Lib.hid (hT.out.grew hg)
  have hsz : W.heap.size ≤ w1.heap.size := hg.size
  have hFo : Hid (∀ j, ownW (.slice A L c) = some j → ¬ F j) := fun j hj hf => by have h1 := hF j hf; have h2 := hown j hj; omega
  clear hr hg hown hT hC hBs r1 h0 hF
  go_wp2_with fail
  refine (wpIn_wide (n := m)).1 ?_
  gi_loopw [3, 4, 13] (fun u3 u4 i wr => ∃ q : Nat, q ≤ L ∧ i = .int .i64 q ∧ J (seqI ws (64 * q)) wr ∧ Hid (RowW wr (.slice A L c) ws) ∧ Hid (TabB wr) ∧ W.heap.size ≤ wr.heap.size) (fun u3 u4 i wr => L - (intOf i).toNat)
  case atStart => exact ⟨0, Nat.zero_le _, rfl, hJ0, hrow, htab, hsz⟩
  case round =>
    clear hJ0 hrow htab hsz
    obtain ⟨q, hq, rfl, hJs, hrow, htab, hsz⟩ := hrel
    by_cases hql : q < L
    · obtain ⟨x, hx⟩ : ∃ x, ws[q]? = some x := ⟨_, List.getElem?_eq_getElem (by rw [hL.out]; exact hql)⟩
      obtain ⟨g, hA, hcx⟩ : ∃ g, A = some ⟨g, 0, none⟩ ∧ wr.cell? ⟨g, q, none⟩ = some (u64 x) := by
        rcases hrow.out with ⟨rfl, _⟩ | ⟨g, c1, cur, hv, h0, hb, hc⟩
        · simp at hx
        · cases hv
          exact ⟨g, rfl, (hb.cell q).trans (hc q x hx)⟩
      subst hA
      have hxl : x < 2 ^ 64 := hlt.out x (List.mem_of_getElem? hx)
      have hgd : ws.getD q 0 = x := by rw [List.getD_eq_getElem?_getD, hx]; rfl
      have hst := Left.start (ws := ws) (q := q) (by rw [hgd]; exact hxl)
      rw [hgd] at hst
      have hst := Lib.hid hst
      have q0 : (0 : Int) ≤ (q : Int) := by omega
      have q1 : (q : Int) < (L : Int) := by omega
      clear hx hgd hxl
      gi_wp2
      gi_loopw [4] (fun u4 wi => ∃ k y : Nat, u4 = u64 y ∧ Hid (Left ws q k y) ∧ J (seqI ws (64 * q + k)) wi ∧ Hid (RowW wi (.slice (some ⟨g, 0, none⟩) L c) ws) ∧ Hid (TabB wi) ∧ W.heap.size ≤ wi.heap.size) (fun u4 wi => (intOf u4).toNat)
      case atStart => exact ⟨0, x, rfl, hst, hJs, hrow, htab, hsz⟩
      case round =>
        clear hst hJs hrow htab hsz
        obtain ⟨k, y, rfl, hle, hJi, hrow, htab, hsz⟩ := hrel
        by_cases hy0 : y = 0
        · subst hy0
          have hJd : J (seqI ws (64 * (q + 1))) wr := by rw [seqI_done hle.out]; exact hJi
          have he : ((0 : Int) == 0) = true := rfl
          gi_wp2
          go_roundw
          case rel => exact ⟨q + 1, by omega, by go_num, hJd, hrow, htab, hsz⟩
          case measure => simp [intOf]; omega
        · obtain ⟨d, hc, hkd, hd, _, hseq, hnext⟩ := seqI_next hle.out hy0
          have hyl : y < 2 ^ 64 := hle.out.lt
          have hne : ((y : Int) == 0) = false := by simp; omega
          have hne2 : ((y : Int) != 0) = true := by simp; omega
          have hTz := tz_any y (by omega) (by unfold W64; omega) wr htab.out.1
          rw [hc] at hTz
          have hTz := Lib.hid hTz
          have hnext := Lib.hid hnext
          have e1 := less_one y (by omega) (by omega)
          have e2 := and_less y (by omega) (by omega)
          have hlt2 : Hid (y &&& (y - 1) < y) := by
            have := Nat.and_le_right (n := y) (m := y - 1)
            show _ < _
            omega
          have hcast : ((64 * q + d : Nat) : Int) = (q : Int) * 64 + (d : Int) := by omega
          rw [hcast] at hseq
          have hseq := Lib.hid hseq
          have hpl := seqI_le ws (64 * q + k)
          obtain ⟨fn, tmps, assign, body, hy, hR⟩ := hY _ ((q : Int) * 64 + (d : Int)) _ hJi (by omega)
          dsimp only [oneI] at hy
          rw [← hseq.out] at hR
          obtain ⟨z, hz⟩ : ∃ z, y &&& (y - 1) = z := ⟨_, rfl⟩
          rw [hz] at e2 hnext hlt2
          obtain ⟨y1, hy1⟩ : ∃ y1, y - 1 = y1 := ⟨_, rfl⟩
          rw [hy1] at e1 e2
          clear hc hyl hy0 hle hcast hz hy1
          gi_wp2
          refine ⟨trivial, (fun h => by cases h), ?_⟩
          refine (callsIn_wide.2 hTz.out).mono ?_
          rintro r W2 ⟨rfl, rfl⟩
          clear hTz
          gi_wp2
          refine ⟨(fun h => by cases h), ?_⟩
          refine hR.mono ?_
          rintro e W3 (⟨rfl, hJ3, hk3⟩ | ⟨rfl, hJx3⟩)
          · have hrow3 := Lib.hid (hrow.out.keptC hk3 hFo.out)
            have htab3 := Lib.hid (htab.out.keptC hk3 hn0 hT0)
            have hsz3 := hk3.size
            gi_wp2
            go_roundw
            case rel => exact ⟨d + 1, z, rfl, hnext, hJ3, hrow3, htab3, by omega⟩
            case measure => have := hlt2.out; simp [intOf]; omega
          · gi_wp2
            refine bodyPost_ret (results_none rfl _ _ _) rfl ?_
            refine ⟨⟨_, rfl⟩, .inr ⟨_, ?_, hJx3⟩⟩
            exact seqI_pre ws _ _ (by rw [hL.out]; omega)
    · obtain rfl : L = q := by omega
      have hJe : J (seqI ws (64 * ws.length)) wr := by rw [hL.out]; exact hJs
      gi_wp2
      go_end0
      exact ⟨⟨_, rfl⟩, .inl hJe⟩

theorem stops_any (m Bs S n : Nat) (v : Value) (ws : List Nat) (F : Nat → Prop) (w : World) (hF : ∀ k, F k → k < w.heap.size) (hT0 : ¬ F 0) (hBs : Bs < w.heap.size) (hc : w.cell? ⟨Bs, 0, none⟩ = some (pt S)) (s : SetB w S n v ws) (hT : TabB w) :
    SeqStopsK Fence.wide m Tryd.prog 28 #[.pointer (some ⟨Bs, 0, none⟩)] oneI (KeptC w.heap.size F) (fun xs => xs = seqI ws (64 * ws.length)) (fun pre => pre <+: seqI ws (64 * ws.length)) (64 * ws.length) w := fun l J Jx W hW hJ _ hY h0 => by
  have hc' := (hW.cell (p := ⟨Bs, 0, none⟩) hBs).trans hc
  have hg := Grew.of_below hW
  refine (all1_any m l Bs S n v ws F w.heap.size hF hT.lt hT0 J Jx W hW.size hJ hY hc' (s.grew hg) (hT.grew hg) h0).mono ?_
  rintro e W' ⟨he, hj | ⟨pre, hp, hj⟩⟩
  · exact ⟨he, .inl ⟨_, rfl, hj⟩⟩
  · exact ⟨he, .inr ⟨pre, hp, hj⟩⟩

set_option maxHeartbeats 1000000 in
theorem all1_nil (n l Bs : Nat) (W : World) (J : List Int → World → Prop) (hBs : W.cell? ⟨Bs, 0, none⟩ = some (.pointer none)) (h0 : J [] W) :
    CallsIn Fence.wide n Tryd.prog 28 #[.func (.yield l) #[] #[], .pointer (some ⟨Bs, 0, none⟩)] W fun e W' => (∃ v, e = .returned v) ∧ J [] W' := by
  refine callsIn_of_wp Tryd.func28 rfl trivial ?_ rfl
  simp only [Tryd.ntmps28, List.size_toArray, List.length_cons, List.length_nil, Nat.reduceAdd, Nat.reduceSub, Array.replicate_succ, Array.replicate_zero, List.push_toArray, List.append_toArray, List.nil_append, List.cons_append]
  gi_wp2
  refine bodyPost_ret (results_none rfl _ _ _) rfl ?_
  exact ⟨⟨_, rfl⟩, h0⟩
theorem stops_nil (n Bs : Nat) (w : World) (F : Nat → Prop) (hBs : Bs < w.heap.size) (hc : w.cell? ⟨Bs, 0, none⟩ = some (.pointer none)) :
    SeqStopsK Fence.wide n Tryd.prog 28 #[.pointer (some ⟨Bs, 0, none⟩)] oneI (KeptC w.heap.size F) (fun xs => xs = []) (fun _ => False) 0 w := fun l J Jx W hW _ _ hY h0 => by
  have hc' := (hW.cell (p := ⟨Bs, 0, none⟩) hBs).trans hc
  exact (all1_nil n l Bs W J hc' h0).mono fun e W' ⟨he, hj⟩ => ⟨he, .inl ⟨_, rfl, hj⟩⟩
theorem all_made (p : Option Addr) (w : World) : Calls Tryd.prog 23 #[.pointer p] w fun e w' =>
    e = .returned (.func (.func 28) #[] #[.pointer (some ⟨w.heap.size, 0, none⟩)]) ∧ w' = w.alloc (.cells #[.pointer p] 25) := by
  go_enter Tryd.func23, Tryd.ntmps23
  go_wp2
  go_ret
  exact ⟨rfl, rfl⟩
theorem func_nil (w : World) (b : Nat) : (binOp .eql 49 (.func (.func 28) #[] #[.pointer (some ⟨b, 0, none⟩)]) Value.nilFunc).run Tryd.prog w = .ok (.bool false) w := by kernel_rfl
theorem hDd_kept {w w' : World} {D : Nat} {o : Obj} (h : w.heap[D]? = some o) (k : Grew w w') : w'.heap[D]? = some o :=
  (k.block D (Array.getElem?_eq_some_iff.1 h).1 (fun h => h)).trans h
/-- All numbers that are in: those below n. -/
theorem seqI_all {w : World} {S n : Nat} {v : Value} {ws : List Nat} {f : Nat → Bool} (s : SetB w S n v ws) (hf : ∀ i, inW ws i = f i) : seqI ws (64 * ws.length) = insI f n := by
  obtain ⟨d, hd⟩ : ∃ d, 64 * ws.length = n + d := ⟨64 * ws.length - n, by have := s.len; omega⟩
  unfold seqI insI
  rw [hd, ins_more _ _ _ (fun i a _ => s.out i a), ins_congr _ _ n (fun i _ => hf i)]
end Go.Proofs.YtabddnlcgmbopaaDoor
