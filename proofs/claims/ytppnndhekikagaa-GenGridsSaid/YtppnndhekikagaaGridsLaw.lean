/- The law GenGrids: the walk. -/
import Derived.Test.YtppnndhekikagaaGridBoth
namespace Go.Proofs.Ytppnndhekikagaa
open Go.RowKit


set_option maxHeartbeats 2000000 in
set_option maxRecDepth 100000 in
theorem grids_law (wide high seed most : Int) (w : World) : Calls Try.prog 4 #[i64 wide, i64 high, u64 seed, i64 most] w fun e w' => e = .returned (.bool true) ∧ Grew w w' := by
  have hA := Lib.hid alive_any
  obtain ⟨n0, es, ps, f0, hl, hlp, hG1, hG2⟩ := grid_both wide high seed most
  have HG1 := Lib.hid hG1
  have HG2 := Lib.hid hG2
  clear hG1 hG2
  by_cases hg : 30 < wide ∧ wide ≤ 4096
  · have hG := Lib.hid (fun W => great_yes wide 4096 W hg.1 hg.2)
    clear hg
    go_enter Try.func4, Try.ntmps4
    go_wp2_with fail
    refine (hG.out _).mono ?_
    rintro e w1 ⟨rfl, rfl⟩
    go_wp2_with fail
    refine (hA.out _).mono ?_
    rintro e w1 ⟨rfl, hK⟩
    go_wp2_with fail
    go_ret
    exact ⟨rfl, hK⟩
  · have hG := Lib.hid (fun W => great_no wide 4096 W (by omega))
    clear hg
    by_cases hg : 30 < high ∧ high ≤ 4096
    · have hG2 := Lib.hid (fun W => great_yes high 4096 W hg.1 hg.2)
      clear hg
      go_enter Try.func4, Try.ntmps4
      go_wp2_with fail
      refine (hG.out _).mono ?_
      rintro e w1 ⟨rfl, rfl⟩
      go_wp2_with fail
      refine (hG2.out _).mono ?_
      rintro e w1 ⟨rfl, rfl⟩
      go_wp2_with fail
      refine (hA.out _).mono ?_
      rintro e w1 ⟨rfl, hK⟩
      go_wp2_with fail
      go_ret
      exact ⟨rfl, hK⟩
    · have hG2 := Lib.hid (fun W => great_no high 4096 W (by omega))
      clear hg
      obtain ⟨L, hL⟩ : ∃ L, ps.length = L := ⟨_, rfl⟩
      have HL := Lib.hid hL
      rw [hL] at hlp
      go_enter Try.func4, Try.ntmps4
      go_wp2_with fail
      refine (hG.out _).mono ?_
      rintro e w1 ⟨rfl, rfl⟩
      go_wp2_with fail
      refine (hG2.out _).mono ?_
      rintro e w1 ⟨rfl, rfl⟩
      go_wp2_with fail
      refine (HG1.out _).mono ?_
      rintro e y1 ⟨A1, c1, B1, d1, rfl, e1, p1, hK⟩
      have b1 := Blk.new y1 37 #[i64 n0, .slice A1 es.length c1]
      have k1 : Grew y1 (y1.alloc (.cells #[i64 n0, .slice A1 es.length c1] 37)) := (Kept.refl _ _).alloc _
      replace e1 := Lib.hid (e1.grew k1)
      replace p1 := Lib.hid (p1.grew k1)
      replace hK := hK.trans k1
      clear k1
      rw [hL]
      go_wp2_with fail
      refine (HG2.out _).mono ?_
      rintro e y2 ⟨A2, c2, B2, d2, rfl, e2, p2, k2⟩
      have b2 := Blk.new y2 37 #[i64 n0, .slice A2 es.length c2]
      have k3 : Grew y2 (y2.alloc (.cells #[i64 n0, .slice A2 es.length c2] 37)) := (Kept.refl _ _).alloc _
      replace b1 := (b1.grew k2).grew k3
      replace e1 := Lib.hid ((e1.out.grew k2).grew k3)
      replace p1 := Lib.hid ((p1.out.grew k2).grew k3)
      replace e2 := Lib.hid (e2.grew k3)
      replace p2 := Lib.hid (p2.grew k3)
      replace hK := (hK.trans k2).trans k3
      clear k2 k3
      rw [hL]
      clear hL
      go_wp2_with fail
      go_loopw [15] (fun i wr => ∃ (k : Nat), k ≤ L ∧ i = .int .i64 k ∧ Blk wr y1.heap.size 37 #[i64 n0, .slice A1 es.length c1] ∧ Blk wr y2.heap.size 37 #[i64 n0, .slice A2 es.length c2] ∧ Hid (RowE wr A1 es) ∧ Hid (RowE wr A2 es) ∧ Hid (RowP wr B1 ps) ∧ Hid (RowP wr B2 ps) ∧ Grew w wr) (fun i _ => L - (intOf i).toNat)
      case atStart => exact ⟨0, by omega, rfl, b1, b2, e1, e2, p1, p2, hK⟩
      case round =>
        clear b1 b2 e1 e2 p1 p2 hK
        obtain ⟨k, hk, rfl, b1, b2, e1, e2, p1, p2, hK⟩ := hrel
        by_cases hlt : k < L
        · obtain ⟨x, hx⟩ : ∃ x, ps[k]? = some x := ⟨_, List.getElem?_eq_getElem (by rw [HL.out]; exact hlt)⟩
          obtain ⟨b, off, hAe, hb, h0, h1⟩ := p1.out k x hx
          obtain ⟨b', off', hAe', hb', h0', h1'⟩ := p2.out k x hx
          clear hx
          subst hAe
          subst hAe'
          obtain ⟨p, q⟩ := x
          have kd : Grew wr (wr.drewN 0) := (Kept.refl _ _).drewN _
          clear kd
          go_wp2_with fail
          go_quiet (fail)
          go_wp2
          go_roundw
          case rel => exact ⟨k + 1, by omega, by go_num, b1.grew ((Kept.refl _ _).drewN _), b2.grew ((Kept.refl _ _).drewN _), Lib.hid (e1.out.grew ((Kept.refl _ _).drewN _)), Lib.hid (e2.out.grew ((Kept.refl _ _).drewN _)), Lib.hid (p1.out.grew ((Kept.refl _ _).drewN _)), Lib.hid (p2.out.grew ((Kept.refl _ _).drewN _)), hK.drewN _⟩
          case measure => simp [intOf]; omega
        · obtain rfl : k = L := by omega
          have c10 := b1.cell 0
          have c11 := b1.cell 1
          have c20 := b2.cell 0
          have c21 := b2.cell 1
          simp at c10 c11 c20 c21
          have hS := Lib.hid (same_yes n0 A1 A2 c1 c2 es wr e1.out e2.out hl)
          go_wp2_with fail
          refine hS.out.mono ?_
          rintro e z ⟨rfl, k3⟩
          replace hK := hK.trans k3
          clear k3
          go_wp2_with fail
          refine (hA.out _).mono ?_
          rintro e z2 ⟨rfl, k4⟩
          go_wp2_with fail
          go_ret
          exact ⟨rfl, hK.trans k4⟩
end Go.Proofs.Ytppnndhekikagaa
