/- Grids of dice: the walk of the program's Grid. -/
import Derived.Test.YtppnndhekikagaaMakesLaw
namespace Go.Proofs.Ytppnndhekikagaa
open Go.RowKit

abbrev Plc := Int × Int
def plcCells (p : Plc) : List Value := [i64 p.1, i64 p.2]
def plcsOf (ps : List Plc) : List Value := ps.flatMap plcCells
def Places (w : World) (B : Nat) (v : Value) (ps : List Plc) : Prop := w.ownsRow B 43 2 v ps.length (plcsOf ps)
theorem info_place : (Try.prog.info? 43).map (fun i => (i.zero, i.size, i.bytes)) = some (some (.agg #[i64 0, i64 0]), 2, 16) := by kernel_rfl
theorem plc_one (p : Plc) : ∀ u ∈ plcCells p, u.oneCell' = true := by
  intro u hu; simp [plcCells] at hu; rcases hu with rfl | rfl <;> rfl
theorem plcsOf_append (a b : List Plc) : plcsOf (a ++ b) = plcsOf a ++ plcsOf b := List.flatMap_append
theorem plcsOf_one (p : Plc) : plcsOf [p] = plcCells p := by simp [plcsOf]

def pairS (most : Int) (s : Int × List Edg) (a b : Int) : Int × List Edg := (belowX (belowX s.1 most) most, s.2 ++ [(a, b, 1 + belowR s.1 most), (b, a, 1 + belowR (belowX s.1 most) most)])
def spotS (wide high : Nat) (most : Int) (s : Int × List Edg) (k x y : Nat) : Int × List Edg :=
  let s1 := if x + 1 < wide then pairS most s (k : Int) ((k : Int) + 1) else s
  if y + 1 < high then pairS most s1 (k : Int) ((k : Int) + wide) else s1
/-- The dice then, and the edges: k of the nodes passed. -/
def gridS (wide high : Nat) (most seed : Int) : Nat → Int × List Edg
  | 0 => (seed, [])
  | k + 1 => spotS wide high most (gridS wide high most seed k) k (k % wide) (k / wide)
def plL (wide : Nat) : Nat → List Plc
  | 0 => []
  | k + 1 => plL wide k ++ [(((k % wide : Nat) : Int), ((k / wide : Nat) : Int))]
theorem plL_length (wide k : Nat) : (plL wide k).length = k := by
  induction k with
  | zero => rfl
  | succ k ih => simp [plL, ih]
theorem pairS_length (most : Int) (s : Int × List Edg) (a b : Int) : (pairS most s a b).2.length = s.2.length + 2 := by simp [pairS]
theorem spotS_length (wide high : Nat) (most : Int) (s : Int × List Edg) (k x y : Nat) : (spotS wide high most s k x y).2.length ≤ s.2.length + 4 := by
  unfold spotS
  dsimp only
  split <;> split
  · rw [pairS_length, pairS_length]; omega
  · rw [pairS_length]; omega
  · rw [pairS_length]; omega
  · omega
theorem gridS_length (wide high : Nat) (most seed : Int) (k : Nat) : (gridS wide high most seed k).2.length ≤ 4 * k := by
  induction k with
  | zero => simp [gridS]
  | succ k ih => rw [gridS]; have := spotS_length wide high most (gridS wide high most seed k) k (k % wide) (k / wide); omega
theorem at_mod {wide x y : Nat} (h : x < wide) : (wide * y + x) % wide = x := by rw [Nat.mul_add_mod, Nat.mod_eq_of_lt h]
theorem at_div {wide x y : Nat} (h : x < wide) : (wide * y + x) / wide = y := by
  rw [Nat.mul_add_div (by omega), Nat.div_eq_of_lt h, Nat.add_zero]
theorem gridS_at (wide high : Nat) (most seed : Int) {x y q : Nat} (hq : q = wide * y) (h : x < wide) : gridS wide high most seed (q + (x + 1)) = spotS wide high most (gridS wide high most seed (q + x)) (q + x) x y := by
  subst hq
  rw [← Nat.add_assoc, gridS, at_mod h, at_div h]
theorem plL_at (wide : Nat) {x y q : Nat} (hq : q = wide * y) (h : x < wide) : plL wide (q + (x + 1)) = plL wide (q + x) ++ [((x : Int), (y : Int))] := by
  subst hq
  rw [← Nat.add_assoc, plL, at_mod h, at_div h]
theorem wayS_pair (l : Nat → Int) (most x : Int) (es : List Edg) (h : l 2 = l 0) : ((wayS l most x 3).1, es ++ (wayS l most x 3).2) = pairS most (x, es) (l 0) (l 1) := by
  rw [wayS_succ _ _ _ 2 (by omega), wayS_succ _ _ _ 1 (by omega), wayS_one]
  simp only [pairS, List.nil_append, Nat.sub_self, Nat.reduceSub, h, List.cons_append]
theorem own_own {w : World} {b b' n n' size size' : Nat} {e e' : TypeId} {v v' : Value} {xs xs' : List Value} (h : w.ownsRow b e size v n xs) (h' : w.ownsRow b' e' size' v' n' xs') (hne : e ≠ e') {k : Nat} (hk : v.ownBlock = some k) : ¬ v'.ownBlock = some k := by
  rcases h.2 with ⟨rfl, _⟩ | ⟨g, cap, cur, rfl, _, hh, _⟩
  · simp [Value.ownBlock] at hk
  · obtain rfl : g = k := by simpa [Value.ownBlock] using hk
    exact own_ne h' (show Blk w g e cur from hh) (fun h => hne h.symm)

def gridF (wide high most : Int) : Int := if wide < 1 ∨ 4096 < wide ∨ high < 1 ∨ 4096 < high ∨ most < 1 ∨ 4294967296 < most then 1 else if 4096 < wide * high then 5 else 0


set_option maxHeartbeats 4000000 in
set_option maxRecDepth 100000 in
theorem grid_yes (wide high : Nat) (seed most : Int) (w : World) (h1 : 1 ≤ wide) (h2 : wide ≤ 4096) (h3 : 1 ≤ high) (h6 : high ≤ 4096) (h4 : 1 ≤ most) (h5 : most ≤ 4294967296) (hPm : wide * high ≤ 4096) :
    Calls Try.prog 14 #[i64 wide, i64 high, u64 seed, i64 most] w fun e w' => ∃ v pv, e = .returned (.tuple #[.agg #[i64 ((wide * high : Nat) : Int), v], pv, i64 0]) ∧ Edges w' w.heap.size v (gridS wide high most seed (wide * high)).2 ∧ Places w' w.heap.size pv (plL wide (wide * high)) ∧ Grew w w' := by
  obtain ⟨i0, hi, hz0, hz1, hz2⟩ := info_parts info_place
  have hW1 := Lib.hid (fun W => within_yes wide 1 4096 W (by omega) (by omega))
  have hW2 := Lib.hid (fun W => within_yes high 1 4096 W (by omega) (by omega))
  have hW3 := Lib.hid (fun W => within_yes most 1 4294967296 W h4 h5)
  have hPP := Lib.hid (rfl : wide * high = wide * high)
  obtain ⟨P, hPe⟩ : ∃ P, wide * high = P := ⟨_, rfl⟩
  have hwh : wide ≤ wide * high := Nat.le_mul_of_pos_right _ (by omega)
  have hwh2 : high ≤ wide * high := Nat.le_mul_of_pos_left _ (by omega)
  rw [hPe] at hPm hwh hwh2
  rw [hPe]
  have hPi : (wide : Int) * (high : Int) = (P : Int) := by rw [← hPe, Int.natCast_mul]
  have hw1 : IntKind.i64.wrap ((wide : Int) * (high : Int)) = (P : Int) := by rw [hPi]; exact IntWalk.i64_in _ (by omega)
  have hw2 : IntKind.i64.wrap (2 * (wide : Int) * (high : Int)) = 2 * (P : Int) := by rw [Int.mul_assoc, hPi]; exact IntWalk.i64_in _ (by omega)
  have HP := Lib.hid hPe
  clear hPP hPi hPe
  go_enter Try.func14, Try.ntmps14
  go_wp2_with fail
  refine (hW1.out _).mono ?_
  rintro e w1 ⟨rfl, rfl⟩
  go_wp2_with fail
  refine (hW2.out _).mono ?_
  rintro e w1 ⟨rfl, rfl⟩
  go_wp2_with fail
  refine (hW3.out _).mono ?_
  rintro e w1 ⟨rfl, rfl⟩
  go_wp2_with fail
  refine (new_any _ _).mono ?_
  rintro e w1 ⟨rfl, rfl⟩
  obtain ⟨W, hWe⟩ : ∃ W, ((w.alloc (.cells #[i64 0, .slice none 0 0] 37)).alloc (.cells #[u64 seed] 55)) = W := ⟨_, rfl⟩
  have hR0 : Blk W w.heap.size 37 #[i64 0, .slice none 0 0] := by rw [← hWe]; exact (Blk.new w _ _).alloc _
  have hD0 : Blk W (w.heap.size + 1) 55 #[u64 seed] := by
    have h := Blk.new (w.alloc (.cells #[i64 0, .slice none 0 0] 37)) 55 #[u64 seed]
    rw [World.size_alloc] at h; rw [← hWe]; exact h
  have hKW : Grew w W := by rw [← hWe]; exact ((Kept.refl _ _).alloc _).alloc _
  have hsW : W.heap.size = w.heap.size + 2 := by rw [← hWe]; simp
  have HsW := Lib.hid hsW
  simp only [World.size_alloc]
  rw [hWe]
  clear hWe hsW
  go_wp2_with fail
  go_loopw [9, 58] (fun pv i wr => ∃ (y : Nat) (v : Value) (xd : Int) (es : List Edg), y ≤ high ∧ i = .int .i64 y ∧ Hid (gridS wide high most seed (wide * y) = (xd, es)) ∧ Blk wr w.heap.size 37 #[i64 0, .slice none 0 0] ∧ Blk wr (w.heap.size + 1) 55 #[u64 xd] ∧
      Blk wr W.heap.size 60 #[pt (w.heap.size + 1), i64 P, v, i64 most] ∧ Edges wr (w.heap.size + 1) v es ∧ Places wr (w.heap.size + 1) pv (plL wide (wide * y)) ∧ Grew w wr) (fun _ i _ => high - (intOf i).toNat)
  case atStart => exact ⟨0, _, _, _, by omega, rfl, rfl, hR0.alloc _, hD0.alloc _, Blk.new _ _ _, World.ownsRow_nil _ _ _ _, World.ownsRow_nil _ _ _ _, hKW.alloc _⟩
  case round =>
    obtain ⟨y, v, xd, es, hy, rfl, hS, hR, hD, hM, hown, hpl, hK⟩ := hrel
    by_cases hlt : y < high
    · obtain ⟨q, hq⟩ : ∃ q, wide * y = q := ⟨_, rfl⟩
      have hqP : q + wide ≤ P := by
        have h := Nat.mul_le_mul_left wide (show y + 1 ≤ high by omega)
        rw [Nat.mul_succ, HP.out, hq] at h
        exact h
      have hwq : IntKind.i64.wrap ((wide : Int) * (y : Int)) = (q : Int) := by
        rw [← Int.natCast_mul, hq]; exact IntWalk.i64_in _ (by omega)
      have HQ : Hid (q = wide * y) := hq.symm
      rw [hq] at hS hpl
      clear hq
      go_wp2_with fail
      go_loopw [9, 62] (fun pv0 i wr => ∃ (x : Nat) (pv v : Value) (xd : Int) (es : List Edg), x ≤ wide ∧ i = .int .i64 x ∧ pv = pv0 ∧ Hid (gridS wide high most seed (q + x) = (xd, es)) ∧ Blk wr w.heap.size 37 #[i64 0, .slice none 0 0] ∧ Blk wr (w.heap.size + 1) 55 #[.int .u64 xd] ∧
          Blk wr W.heap.size 60 #[pt (w.heap.size + 1), i64 P, v, i64 most] ∧ Edges wr (w.heap.size + 1) v es ∧ Places wr (w.heap.size + 1) pv (plL wide (q + x)) ∧ Grew w wr) (fun _ i _ => wide - (intOf i).toNat)
      case atStart => exact ⟨0, _, _, _, _, by omega, rfl, rfl, hS, hR, hD, hM, hown, hpl, hK⟩
      case round =>
        clear hS hR hD hM hown hpl hK
        obtain ⟨x, pv, v, xd, es, hx0, rfl, rfl, hS, hR, hD, hM, hown, hpl, hK⟩ := hrel
        have hs := HsW.out
        have hWs : w.heap.size + 1 ≤ W.heap.size := by omega
        have hRM : ¬ w.heap.size = W.heap.size := by omega
        have hDM : ¬ w.heap.size + 1 = W.heap.size := by omega
        have hsz := hD.lt
        have hpM := own_ne hpl hM (by decide)
        have hpD := own_ne hpl hD (by decide)
        have hpR := own_ne hpl hR (by decide)
        clear hs
        by_cases hx : x < wide
        · have hLp := plL_length wide (q + x)
          have hLp0 : (plL wide (q + x)).length ≤ 10000 := by omega
          clear hLp
          have hLe := gridS_length wide high most seed (q + x)
          rw [hS.out] at hLe
          replace hLe : es.length ≤ 4 * (q + x) := hLe
          have hwv : IntKind.i64.wrap ((x : Int) + (q : Int)) = (x : Int) + (q : Int) := IntWalk.i64_in _ (by omega)
          have hwb : IntKind.i64.wrap ((x : Int) + (q : Int) + (wide : Int)) = (x : Int) + (q : Int) + (wide : Int) := IntWalk.i64_in _ (by omega)
          by_cases ha : x + 1 < wide
          · by_cases hb : y + 1 < high
            · skip
              go_wp2_with (at_builtin; refine wpList_append_lies _ rfl _ _ 38 rfl (w.heap.size + 1) 43 i0 (.agg #[i64 0, i64 0]) 2 16 Try.underlying38 hi hz0 hz1 hz2 rfl (by omega) pv _ _ rfl (hpl.alloc _) ⟨wr.heap.size, 0, none⟩ 1 1 (plcCells ((x : Int), (y : Int))) rfl rfl (World.news_of_block (heap_alloc_new _ _)) (plc_one _) (by omega) (by unfold maxLen; omega) (by omega) (by simp; omega) _ rfl ?_; intro g cap w1 hpl1 hgrow1 hat1 hlt1; have hM1 := (hM.alloc (.cells #[i64 x, i64 y] 43)).grown hgrow1 (fun h => hpM h.symm); have hD1 := (hD.alloc (.cells #[i64 x, i64 y] 43)).grown hgrow1 (fun h => hpD h.symm); have hR1 := (hR.alloc (.cells #[i64 x, i64 y] 43)).grown hgrow1 (fun h => hpR h.symm); have hK1 : Kept (fun j => pv.ownBlock = some j) wr w1 := ((Kept.refl _ _).alloc _).grown hgrow1 (fun k h => .inl h); have hown1 := Kept.own hK1 hown (fun k h h' => own_own hown hpl (by decide) h h'))
              have hKK1 : Grew w w1 := hK.then hK1 (fun i a b => by have := hpl.lt _ b; omega)
              have hplA : Places w1 (w.heap.size + 1) (.slice (some ⟨g, 0, none⟩) ((plL wide (q + x)).length + 1) cap) (plL wide (q + (x + 1))) := by
                unfold Places
                rw [plL_at wide HQ.out hx, plcsOf_append, plcsOf_one, List.length_append]
                exact hpl1
              replace hpl1 := hplA
              clear hplA
              have hbl2 := Blk.new w1 3 #[i64 ((x : Int) + (q : Int)), i64 ((x : Int) + (q : Int) + 1), i64 ((x : Int) + (q : Int))]
              have hWay2 := way_any W.heap.size (w.heap.size + 1) (w.heap.size + 1) w1.heap.size 0 3 3 (fun i => if i = 1 then (x : Int) + (q : Int) + 1 else (x : Int) + (q : Int)) P most xd v es _
                (hM1.alloc _) (hD1.alloc _) (show Edges (w1.alloc (.cells #[i64 ((x : Int) + (q : Int)), i64 ((x : Int) + (q : Int) + 1), i64 ((x : Int) + (q : Int))] 3)) _ v es from hown1.alloc _) hWs ⟨_, hbl2⟩ (by
                  intro i hi
                  rcases (show i = 0 ∨ i = 1 ∨ i = 2 by omega) with rfl | rfl | rfl
                  · refine ⟨by rw [hbl2.cell]; rfl, ?_⟩
                    simp only [if_neg (show ¬ (0 = 1) by omega)]; omega
                  · refine ⟨by rw [hbl2.cell]; rfl, ?_⟩
                    simp only [if_true]; omega
                  · refine ⟨by rw [hbl2.cell]; rfl, ?_⟩
                    simp only [if_neg (show ¬ (2 = 1) by omega)]; omega) (by omega) (by omega) h4 h5
              refine hWay2.mono ?_
              rintro e w2 ⟨rfl, v2, hM2, hD2, hown2, hK2⟩
              have hsp2 := wayS_pair (fun i => if i = 1 then (x : Int) + (q : Int) + 1 else (x : Int) + (q : Int)) most xd es rfl
              obtain ⟨xd2, hx2⟩ : ∃ z, (wayS (fun i => if i = 1 then (x : Int) + (q : Int) + 1 else (x : Int) + (q : Int)) most xd 3).1 = z := ⟨_, rfl⟩
              obtain ⟨es2, he2⟩ : ∃ z, es ++ (wayS (fun i => if i = 1 then (x : Int) + (q : Int) + 1 else (x : Int) + (q : Int)) most xd 3).2 = z := ⟨_, rfl⟩
              rw [hx2] at hD2 hsp2
              rw [he2] at hown2 hsp2
              replace hsp2 : Hid (pairS most (xd, es) ((x : Int) + (q : Int)) ((x : Int) + (q : Int) + 1) = (xd2, es2)) := hsp2.symm
              have hR2 := (hR1.alloc (.cells #[i64 ((x : Int) + (q : Int)), i64 ((x : Int) + (q : Int) + 1), i64 ((x : Int) + (q : Int))] 3)).kept hK2 (fun h => h.elim (fun h => hRM h) fun h => h.elim (fun h => by omega) fun h => own_ne hown1 hR1 (by decide) h)
              have hpl2 := Kept.own hK2 (hpl1.alloc (.cells #[i64 ((x : Int) + (q : Int)), i64 ((x : Int) + (q : Int) + 1), i64 ((x : Int) + (q : Int))] 3)) (fun k h h' => h'.elim (fun h' => own_ne hpl1 hM1 (by decide) (by rw [h, h'])) fun h' => h'.elim (fun h' => own_ne hpl1 hD1 (by decide) (by rw [h, h'])) fun h' => own_own hpl1 hown1 (by decide) h h')
              have hKK2 : Grew w w2 := (hKK1.alloc _).then hK2 (fun i a b => b.elim (fun b => by omega) fun b => b.elim (fun b => by omega) fun b => by have := hown1.lt _ b; omega)
              have hLe2 : es2.length = es.length + 2 := by
                have h := congrArg (fun z => z.2.length) hsp2.out
                rw [pairS_length] at h
                exact h.symm
              clear hx2 he2 hWay2 hbl2
              go_wp2_with fail
              have hbl3 := Blk.new w2 3 #[i64 ((x : Int) + (q : Int)), i64 ((x : Int) + (q : Int) + (wide : Int)), i64 ((x : Int) + (q : Int))]
              have hWay3 := way_any W.heap.size (w.heap.size + 1) (w.heap.size + 1) w2.heap.size 0 3 3 (fun i => if i = 1 then (x : Int) + (q : Int) + (wide : Int) else (x : Int) + (q : Int)) P most xd2 v2 es2 _
                (hM2.alloc _) (hD2.alloc _) (show Edges (w2.alloc (.cells #[i64 ((x : Int) + (q : Int)), i64 ((x : Int) + (q : Int) + (wide : Int)), i64 ((x : Int) + (q : Int))] 3)) _ v2 es2 from hown2.alloc _) hWs ⟨_, hbl3⟩ (by
                  intro i hi
                  rcases (show i = 0 ∨ i = 1 ∨ i = 2 by omega) with rfl | rfl | rfl
                  · refine ⟨by rw [hbl3.cell]; rfl, ?_⟩
                    simp only [if_neg (show ¬ (0 = 1) by omega)]; omega
                  · refine ⟨by rw [hbl3.cell]; rfl, ?_⟩
                    simp only [if_true]; omega
                  · refine ⟨by rw [hbl3.cell]; rfl, ?_⟩
                    simp only [if_neg (show ¬ (2 = 1) by omega)]; omega) (by omega) (by omega) h4 h5
              refine hWay3.mono ?_
              rintro e w3 ⟨rfl, v3, hM3, hD3, hown3, hK3⟩
              have hsp3 := wayS_pair (fun i => if i = 1 then (x : Int) + (q : Int) + (wide : Int) else (x : Int) + (q : Int)) most xd2 es2 rfl
              obtain ⟨xd3, hx3⟩ : ∃ z, (wayS (fun i => if i = 1 then (x : Int) + (q : Int) + (wide : Int) else (x : Int) + (q : Int)) most xd2 3).1 = z := ⟨_, rfl⟩
              obtain ⟨es3, he3⟩ : ∃ z, es2 ++ (wayS (fun i => if i = 1 then (x : Int) + (q : Int) + (wide : Int) else (x : Int) + (q : Int)) most xd2 3).2 = z := ⟨_, rfl⟩
              rw [hx3] at hD3 hsp3
              rw [he3] at hown3 hsp3
              replace hsp3 : Hid (pairS most (xd2, es2) ((x : Int) + (q : Int)) ((x : Int) + (q : Int) + (wide : Int)) = (xd3, es3)) := hsp3.symm
              have hR3 := (hR2.alloc (.cells #[i64 ((x : Int) + (q : Int)), i64 ((x : Int) + (q : Int) + (wide : Int)), i64 ((x : Int) + (q : Int))] 3)).kept hK3 (fun h => h.elim (fun h => hRM h) fun h => h.elim (fun h => by omega) fun h => own_ne hown2 hR2 (by decide) h)
              have hpl3 := Kept.own hK3 (hpl2.alloc (.cells #[i64 ((x : Int) + (q : Int)), i64 ((x : Int) + (q : Int) + (wide : Int)), i64 ((x : Int) + (q : Int))] 3)) (fun k h h' => h'.elim (fun h' => own_ne hpl2 hM2 (by decide) (by rw [h, h'])) fun h' => h'.elim (fun h' => own_ne hpl2 hD2 (by decide) (by rw [h, h'])) fun h' => own_own hpl2 hown2 (by decide) h h')
              have hKK3 : Grew w w3 := (hKK2.alloc _).then hK3 (fun i a b => b.elim (fun b => by omega) fun b => b.elim (fun b => by omega) fun b => by have := hown2.lt _ b; omega)
              have hLe3 : es3.length = es2.length + 2 := by
                have h := congrArg (fun z => z.2.length) hsp3.out
                rw [pairS_length] at h
                exact h.symm
              clear hx3 he3 hWay3 hbl3
              go_wp2_with fail
              have hS1 : Hid (gridS wide high most seed (q + (x + 1)) = (xd3, es3)) := by
                show gridS wide high most seed (q + (x + 1)) = (xd3, es3)
                rw [gridS_at wide high most seed HQ.out hx, hS.out, spotS]
                rw [if_pos ha, if_pos hb, show ((q + x : Nat) : Int) = (x : Int) + (q : Int) by omega, hsp2.out, hsp3.out]
              go_roundw
              case rel => exact ⟨x + 1, _, v3, _, _, by omega, by go_num, rfl, hS1, hR3, hD3, hM3, hown3, hpl3, hKK3⟩
              case measure => simp [intOf]; omega
            · skip
              go_wp2_with (at_builtin; refine wpList_append_lies _ rfl _ _ 38 rfl (w.heap.size + 1) 43 i0 (.agg #[i64 0, i64 0]) 2 16 Try.underlying38 hi hz0 hz1 hz2 rfl (by omega) pv _ _ rfl (hpl.alloc _) ⟨wr.heap.size, 0, none⟩ 1 1 (plcCells ((x : Int), (y : Int))) rfl rfl (World.news_of_block (heap_alloc_new _ _)) (plc_one _) (by omega) (by unfold maxLen; omega) (by omega) (by simp; omega) _ rfl ?_; intro g cap w1 hpl1 hgrow1 hat1 hlt1; have hM1 := (hM.alloc (.cells #[i64 x, i64 y] 43)).grown hgrow1 (fun h => hpM h.symm); have hD1 := (hD.alloc (.cells #[i64 x, i64 y] 43)).grown hgrow1 (fun h => hpD h.symm); have hR1 := (hR.alloc (.cells #[i64 x, i64 y] 43)).grown hgrow1 (fun h => hpR h.symm); have hK1 : Kept (fun j => pv.ownBlock = some j) wr w1 := ((Kept.refl _ _).alloc _).grown hgrow1 (fun k h => .inl h); have hown1 := Kept.own hK1 hown (fun k h h' => own_own hown hpl (by decide) h h'))
              have hKK1 : Grew w w1 := hK.then hK1 (fun i a b => by have := hpl.lt _ b; omega)
              have hplA : Places w1 (w.heap.size + 1) (.slice (some ⟨g, 0, none⟩) ((plL wide (q + x)).length + 1) cap) (plL wide (q + (x + 1))) := by
                unfold Places
                rw [plL_at wide HQ.out hx, plcsOf_append, plcsOf_one, List.length_append]
                exact hpl1
              replace hpl1 := hplA
              clear hplA
              have hbl2 := Blk.new w1 3 #[i64 ((x : Int) + (q : Int)), i64 ((x : Int) + (q : Int) + 1), i64 ((x : Int) + (q : Int))]
              have hWay2 := way_any W.heap.size (w.heap.size + 1) (w.heap.size + 1) w1.heap.size 0 3 3 (fun i => if i = 1 then (x : Int) + (q : Int) + 1 else (x : Int) + (q : Int)) P most xd v es _
                (hM1.alloc _) (hD1.alloc _) (show Edges (w1.alloc (.cells #[i64 ((x : Int) + (q : Int)), i64 ((x : Int) + (q : Int) + 1), i64 ((x : Int) + (q : Int))] 3)) _ v es from hown1.alloc _) hWs ⟨_, hbl2⟩ (by
                  intro i hi
                  rcases (show i = 0 ∨ i = 1 ∨ i = 2 by omega) with rfl | rfl | rfl
                  · refine ⟨by rw [hbl2.cell]; rfl, ?_⟩
                    simp only [if_neg (show ¬ (0 = 1) by omega)]; omega
                  · refine ⟨by rw [hbl2.cell]; rfl, ?_⟩
                    simp only [if_true]; omega
                  · refine ⟨by rw [hbl2.cell]; rfl, ?_⟩
                    simp only [if_neg (show ¬ (2 = 1) by omega)]; omega) (by omega) (by omega) h4 h5
              refine hWay2.mono ?_
              rintro e w2 ⟨rfl, v2, hM2, hD2, hown2, hK2⟩
              have hsp2 := wayS_pair (fun i => if i = 1 then (x : Int) + (q : Int) + 1 else (x : Int) + (q : Int)) most xd es rfl
              obtain ⟨xd2, hx2⟩ : ∃ z, (wayS (fun i => if i = 1 then (x : Int) + (q : Int) + 1 else (x : Int) + (q : Int)) most xd 3).1 = z := ⟨_, rfl⟩
              obtain ⟨es2, he2⟩ : ∃ z, es ++ (wayS (fun i => if i = 1 then (x : Int) + (q : Int) + 1 else (x : Int) + (q : Int)) most xd 3).2 = z := ⟨_, rfl⟩
              rw [hx2] at hD2 hsp2
              rw [he2] at hown2 hsp2
              replace hsp2 : Hid (pairS most (xd, es) ((x : Int) + (q : Int)) ((x : Int) + (q : Int) + 1) = (xd2, es2)) := hsp2.symm
              have hR2 := (hR1.alloc (.cells #[i64 ((x : Int) + (q : Int)), i64 ((x : Int) + (q : Int) + 1), i64 ((x : Int) + (q : Int))] 3)).kept hK2 (fun h => h.elim (fun h => hRM h) fun h => h.elim (fun h => by omega) fun h => own_ne hown1 hR1 (by decide) h)
              have hpl2 := Kept.own hK2 (hpl1.alloc (.cells #[i64 ((x : Int) + (q : Int)), i64 ((x : Int) + (q : Int) + 1), i64 ((x : Int) + (q : Int))] 3)) (fun k h h' => h'.elim (fun h' => own_ne hpl1 hM1 (by decide) (by rw [h, h'])) fun h' => h'.elim (fun h' => own_ne hpl1 hD1 (by decide) (by rw [h, h'])) fun h' => own_own hpl1 hown1 (by decide) h h')
              have hKK2 : Grew w w2 := (hKK1.alloc _).then hK2 (fun i a b => b.elim (fun b => by omega) fun b => b.elim (fun b => by omega) fun b => by have := hown1.lt _ b; omega)
              have hLe2 : es2.length = es.length + 2 := by
                have h := congrArg (fun z => z.2.length) hsp2.out
                rw [pairS_length] at h
                exact h.symm
              clear hx2 he2 hWay2 hbl2
              go_wp2_with fail
              have hS1 : Hid (gridS wide high most seed (q + (x + 1)) = (xd2, es2)) := by
                show gridS wide high most seed (q + (x + 1)) = (xd2, es2)
                rw [gridS_at wide high most seed HQ.out hx, hS.out, spotS]
                rw [if_pos ha, if_neg hb, show ((q + x : Nat) : Int) = (x : Int) + (q : Int) by omega, hsp2.out]
              go_roundw
              case rel => exact ⟨x + 1, _, v2, _, _, by omega, by go_num, rfl, hS1, hR2, hD2, hM2, hown2, hpl2, hKK2⟩
              case measure => simp [intOf]; omega
          · by_cases hb : y + 1 < high
            · skip
              go_wp2_with (at_builtin; refine wpList_append_lies _ rfl _ _ 38 rfl (w.heap.size + 1) 43 i0 (.agg #[i64 0, i64 0]) 2 16 Try.underlying38 hi hz0 hz1 hz2 rfl (by omega) pv _ _ rfl (hpl.alloc _) ⟨wr.heap.size, 0, none⟩ 1 1 (plcCells ((x : Int), (y : Int))) rfl rfl (World.news_of_block (heap_alloc_new _ _)) (plc_one _) (by omega) (by unfold maxLen; omega) (by omega) (by simp; omega) _ rfl ?_; intro g cap w1 hpl1 hgrow1 hat1 hlt1; have hM1 := (hM.alloc (.cells #[i64 x, i64 y] 43)).grown hgrow1 (fun h => hpM h.symm); have hD1 := (hD.alloc (.cells #[i64 x, i64 y] 43)).grown hgrow1 (fun h => hpD h.symm); have hR1 := (hR.alloc (.cells #[i64 x, i64 y] 43)).grown hgrow1 (fun h => hpR h.symm); have hK1 : Kept (fun j => pv.ownBlock = some j) wr w1 := ((Kept.refl _ _).alloc _).grown hgrow1 (fun k h => .inl h); have hown1 := Kept.own hK1 hown (fun k h h' => own_own hown hpl (by decide) h h'))
              have hKK1 : Grew w w1 := hK.then hK1 (fun i a b => by have := hpl.lt _ b; omega)
              have hplA : Places w1 (w.heap.size + 1) (.slice (some ⟨g, 0, none⟩) ((plL wide (q + x)).length + 1) cap) (plL wide (q + (x + 1))) := by
                unfold Places
                rw [plL_at wide HQ.out hx, plcsOf_append, plcsOf_one, List.length_append]
                exact hpl1
              replace hpl1 := hplA
              clear hplA
              have hbl2 := Blk.new w1 3 #[i64 ((x : Int) + (q : Int)), i64 ((x : Int) + (q : Int) + (wide : Int)), i64 ((x : Int) + (q : Int))]
              have hWay2 := way_any W.heap.size (w.heap.size + 1) (w.heap.size + 1) w1.heap.size 0 3 3 (fun i => if i = 1 then (x : Int) + (q : Int) + (wide : Int) else (x : Int) + (q : Int)) P most xd v es _
                (hM1.alloc _) (hD1.alloc _) (show Edges (w1.alloc (.cells #[i64 ((x : Int) + (q : Int)), i64 ((x : Int) + (q : Int) + (wide : Int)), i64 ((x : Int) + (q : Int))] 3)) _ v es from hown1.alloc _) hWs ⟨_, hbl2⟩ (by
                  intro i hi
                  rcases (show i = 0 ∨ i = 1 ∨ i = 2 by omega) with rfl | rfl | rfl
                  · refine ⟨by rw [hbl2.cell]; rfl, ?_⟩
                    simp only [if_neg (show ¬ (0 = 1) by omega)]; omega
                  · refine ⟨by rw [hbl2.cell]; rfl, ?_⟩
                    simp only [if_true]; omega
                  · refine ⟨by rw [hbl2.cell]; rfl, ?_⟩
                    simp only [if_neg (show ¬ (2 = 1) by omega)]; omega) (by omega) (by omega) h4 h5
              refine hWay2.mono ?_
              rintro e w2 ⟨rfl, v2, hM2, hD2, hown2, hK2⟩
              have hsp2 := wayS_pair (fun i => if i = 1 then (x : Int) + (q : Int) + (wide : Int) else (x : Int) + (q : Int)) most xd es rfl
              obtain ⟨xd2, hx2⟩ : ∃ z, (wayS (fun i => if i = 1 then (x : Int) + (q : Int) + (wide : Int) else (x : Int) + (q : Int)) most xd 3).1 = z := ⟨_, rfl⟩
              obtain ⟨es2, he2⟩ : ∃ z, es ++ (wayS (fun i => if i = 1 then (x : Int) + (q : Int) + (wide : Int) else (x : Int) + (q : Int)) most xd 3).2 = z := ⟨_, rfl⟩
              rw [hx2] at hD2 hsp2
              rw [he2] at hown2 hsp2
              replace hsp2 : Hid (pairS most (xd, es) ((x : Int) + (q : Int)) ((x : Int) + (q : Int) + (wide : Int)) = (xd2, es2)) := hsp2.symm
              have hR2 := (hR1.alloc (.cells #[i64 ((x : Int) + (q : Int)), i64 ((x : Int) + (q : Int) + (wide : Int)), i64 ((x : Int) + (q : Int))] 3)).kept hK2 (fun h => h.elim (fun h => hRM h) fun h => h.elim (fun h => by omega) fun h => own_ne hown1 hR1 (by decide) h)
              have hpl2 := Kept.own hK2 (hpl1.alloc (.cells #[i64 ((x : Int) + (q : Int)), i64 ((x : Int) + (q : Int) + (wide : Int)), i64 ((x : Int) + (q : Int))] 3)) (fun k h h' => h'.elim (fun h' => own_ne hpl1 hM1 (by decide) (by rw [h, h'])) fun h' => h'.elim (fun h' => own_ne hpl1 hD1 (by decide) (by rw [h, h'])) fun h' => own_own hpl1 hown1 (by decide) h h')
              have hKK2 : Grew w w2 := (hKK1.alloc _).then hK2 (fun i a b => b.elim (fun b => by omega) fun b => b.elim (fun b => by omega) fun b => by have := hown1.lt _ b; omega)
              have hLe2 : es2.length = es.length + 2 := by
                have h := congrArg (fun z => z.2.length) hsp2.out
                rw [pairS_length] at h
                exact h.symm
              clear hx2 he2 hWay2 hbl2
              go_wp2_with fail
              have hS1 : Hid (gridS wide high most seed (q + (x + 1)) = (xd2, es2)) := by
                show gridS wide high most seed (q + (x + 1)) = (xd2, es2)
                rw [gridS_at wide high most seed HQ.out hx, hS.out, spotS]
                rw [if_neg ha, if_pos hb, show ((q + x : Nat) : Int) = (x : Int) + (q : Int) by omega, hsp2.out]
              go_roundw
              case rel => exact ⟨x + 1, _, v2, _, _, by omega, by go_num, rfl, hS1, hR2, hD2, hM2, hown2, hpl2, hKK2⟩
              case measure => simp [intOf]; omega
            · skip
              go_wp2_with (at_builtin; refine wpList_append_lies _ rfl _ _ 38 rfl (w.heap.size + 1) 43 i0 (.agg #[i64 0, i64 0]) 2 16 Try.underlying38 hi hz0 hz1 hz2 rfl (by omega) pv _ _ rfl (hpl.alloc _) ⟨wr.heap.size, 0, none⟩ 1 1 (plcCells ((x : Int), (y : Int))) rfl rfl (World.news_of_block (heap_alloc_new _ _)) (plc_one _) (by omega) (by unfold maxLen; omega) (by omega) (by simp; omega) _ rfl ?_; intro g cap w1 hpl1 hgrow1 hat1 hlt1; have hM1 := (hM.alloc (.cells #[i64 x, i64 y] 43)).grown hgrow1 (fun h => hpM h.symm); have hD1 := (hD.alloc (.cells #[i64 x, i64 y] 43)).grown hgrow1 (fun h => hpD h.symm); have hR1 := (hR.alloc (.cells #[i64 x, i64 y] 43)).grown hgrow1 (fun h => hpR h.symm); have hK1 : Kept (fun j => pv.ownBlock = some j) wr w1 := ((Kept.refl _ _).alloc _).grown hgrow1 (fun k h => .inl h); have hown1 := Kept.own hK1 hown (fun k h h' => own_own hown hpl (by decide) h h'))
              have hKK1 : Grew w w1 := hK.then hK1 (fun i a b => by have := hpl.lt _ b; omega)
              have hplA : Places w1 (w.heap.size + 1) (.slice (some ⟨g, 0, none⟩) ((plL wide (q + x)).length + 1) cap) (plL wide (q + (x + 1))) := by
                unfold Places
                rw [plL_at wide HQ.out hx, plcsOf_append, plcsOf_one, List.length_append]
                exact hpl1
              replace hpl1 := hplA
              clear hplA
              have hS1 : Hid (gridS wide high most seed (q + (x + 1)) = (xd, es)) := by
                show gridS wide high most seed (q + (x + 1)) = (xd, es)
                rw [gridS_at wide high most seed HQ.out hx, hS.out, spotS]
                rw [if_neg ha, if_neg hb]
              go_roundw
              case rel => exact ⟨x + 1, _, v, _, _, by omega, by go_num, rfl, hS1, hR1, hD1, hM1, hown1, hpl1, hKK1⟩
              case measure => simp [intOf]; omega
        · obtain rfl : x = wide := by omega
          have hq1 : x * (y + 1) = q + x := by rw [Nat.mul_succ, HQ.out]
          have hS1 : Hid (gridS x high most seed (x * (y + 1)) = (xd, es)) := by
            show gridS x high most seed (x * (y + 1)) = (xd, es)
            rw [hq1]; exact hS.out
          have hpl1 : Hid (Places wr (w.heap.size + 1) pv (plL x (x * (y + 1)))) := by
            show Places wr (w.heap.size + 1) pv (plL x (x * (y + 1)))
            rw [hq1]; exact hpl
          clear hq1
          go_wp2_with fail
          go_roundw
          case rel => exact ⟨y + 1, _, _, _, by omega, by go_num, hS1, hR, hD, hM, hown, hpl1.out, hK⟩
          case measure => simp [intOf]; omega
    · obtain rfl : y = high := by omega
      have hE : Hid ((gridS wide y most seed P).2 = es) := by
        show (gridS wide y most seed P).2 = es
        rw [← HP.out, hS.out]
      have hpl2 : Places wr (w.heap.size + 1) u9 (plL wide P) := HP.out ▸ hpl
      have hpR := own_ne hpl hR (by decide)
      obtain ⟨A, c, rfl⟩ := own_slice hown
      obtain ⟨L, hL⟩ : ∃ L, es.length = L := ⟨_, rfl⟩
      rw [hL] at hM
      have hownL := hown
      rw [hL] at hownL
      have HL := Lib.hid hL
      clear hL
      have hc0 := hM.cell 1
      have hc1 := hM.cell 2
      have hr0' := hR.cell 0
      have hr1' := hR.cell 1
      have hf0' := hR.frozen 0
      have hf1' := hR.frozen 1
      simp at hc0 hc1 hr0' hr1'
      have hq0 := ((hR.set 0 (i64 P)).set 1 (.slice A L c)).cell 0
      have hq1 := ((hR.set 0 (i64 P)).set 1 (.slice A L c)).cell 1
      simp at hq0 hq1
      have hneR : ¬ (Value.slice A L c).ownBlock = some w.heap.size := fun h => by have := hownL.lt _ h; omega
      go_wp2_with fail
      refine bodyPost_ret (v := .tuple #[.agg #[i64 P, .slice A L c], u9, i64 0]) (by simp [results, Try.results14, go_sem, hq0, hq1]) rfl ⟨_, _, rfl, ?_, ?_, ?_⟩
      · rw [hE.out]
        refine own_base (Kept.own (((Kept.refl (· = w.heap.size) wr).setCell (p := ⟨w.heap.size, 0, none⟩) (.inl rfl) _).setCell (p := ⟨w.heap.size, 1, none⟩) (.inl rfl) _) ?_ (fun k hk h => hneR (by rw [hk, h]))) (Nat.le_succ _)
        exact hownL
      · refine own_base (Kept.own (((Kept.refl (· = w.heap.size) wr).setCell (p := ⟨w.heap.size, 0, none⟩) (.inl rfl) _).setCell (p := ⟨w.heap.size, 1, none⟩) (.inl rfl) _) ?_ (fun k hk h => hpR (by rw [hk, h]))) (Nat.le_succ _)
        exact hpl2
      · exact (hK.setCell (p := ⟨w.heap.size, 0, none⟩) (.inr (Nat.le_refl _)) _).setCell (p := ⟨w.heap.size, 1, none⟩) (.inr (Nat.le_refl _)) _
end Go.Proofs.Ytppnndhekikagaa
