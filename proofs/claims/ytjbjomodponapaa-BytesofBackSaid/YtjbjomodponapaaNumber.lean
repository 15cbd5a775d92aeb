/- Number of the program and Number of the document make the same bytes: the walks. -/
import Derived.Test.YtjbjomodponapaaTake
import Derived.Outline
namespace Go.Proofs.Ytjbjomodponapaa
open Go.RowKit

theorem info_u8 : (Try.prog.info? 5).map (fun i => (i.zero, i.size, i.bytes)) = some (some (.int .u8 0), 1, 1) := by kernel_rfl

def B8 (n : Int) : Value := .int .u8 n

set_option maxHeartbeats 1000000 in
theorem own_end {w wr w1 : World} {n : Nat} {acc : List Int} {k : Int} {b v1 : Value} {o : Obj} (hd : digs 10 n = acc ++ [k]) (hown : wr.ownsRow w.heap.size 5 1 b acc.length (acc.map B8))
    (hown1 : w1.ownsRow w.heap.size 5 1 v1 (acc.length + 1) (acc.map B8 ++ [.int .u8 k])) (hg : (wr.alloc o).grownBy w1 b.ownBlock) (hb : Below w.heap.size w wr) :
    ∃ v, Ending.returned v1 = .returned v ∧ w1.ownsRow w.heap.size 5 1 v (digs 10 n).length ((digs 10 n).map B8) ∧ Below w.heap.size w w1 := by
  refine ⟨v1, rfl, ?_, (hb.alloc hb.size o).grown hg (by have := hb.size; simp; omega) (fun k hk => (hown.lt k hk).1)⟩
  rw [hd]
  simpa [B8] using hown1

set_option maxRecDepth 100000 in
theorem number_any (n : Nat) (w : World) (h : Hid (n < 18446744073709551616)) :
    Calls Try.prog 13 #[.int .u64 n] w fun e w' => ∃ v, e = .returned v ∧ w'.ownsRow w.heap.size 5 1 v (digs 10 n).length ((digs 10 n).map B8) ∧ Below w.heap.size w w' := by
  obtain ⟨i0, hi, hz0, hz1, hz2⟩ := info_parts info_u8
  go_enter Try.func13, Try.ntmps13
  go_wp2
  go_loopw [0, 2] (fun m b wr => ∃ (k : Nat) (f : Nat) (acc : List Int), m = .int .u64 (k : Int) ∧ Hid (k < 18446744073709551616) ∧ acc.length + f ≤ 10 ∧ 0 < f ∧ Hid (digs 10 n = acc ++ digs f k) ∧ Hid (k < 128 ^ f) ∧
      wr.ownsRow w.heap.size 5 1 b acc.length (acc.map B8) ∧ Below w.heap.size w wr) (fun m _ _ => (intOf m).toNat)
  case atStart => exact ⟨n, 10, [], rfl, h, by simp, by omega, rfl, (show n < 128 ^ 10 by have := h.out; omega), World.ownsRow_nil _ _ _ _, Below.refl _ _⟩
  case round =>
    obtain ⟨k, f, acc, rfl, hk, hf, hf0, hd, hkf, hown, hb⟩ := hrel
    have hsz := hb.size
    rcases Nat.lt_or_ge k 128 with hlt | hge
    · have hfin := Lib.hid (hd.out.trans (congrArg (acc ++ ·) (digs_last f k hf0 hlt)))
      go_wp2_with (at_builtin; refine wpList_append_own _ rfl _ _ 29 rfl w.heap.size 5 i0 (.int .u8 0) 1 1 Try.underlying29 hi hz0 hz1 hz2 rfl (by decide) _ _ _ rfl (hown.alloc _) ⟨wr.heap.size, 0, none⟩ 1 1 [.int .u8 (k : Int)] rfl rfl (cell_one_new _ _ _) (by simp [Value.oneCell']) (by unfold maxLen; omega) (by omega) (by simp; omega) ?_; intro v1 w1 hown1 hgrow1 _)
      go_ret
      exact own_end hfin.out hown hown1 hgrow1 hb
    · obtain ⟨g, rfl, hg, hdg, hkg⟩ := digs_more f k hge hkf.out
      have hstep := Lib.hid (hd.out.trans (congrArg (acc ++ ·) hdg))
      have hor := Lib.hid (or_128 k)
      have hkg' := Lib.hid hkg
      clear hdg hkg
      go_wp2_with (at_builtin; refine wpList_append_own _ rfl _ _ 29 rfl w.heap.size 5 i0 (.int .u8 0) 1 1 Try.underlying29 hi hz0 hz1 hz2 rfl (by decide) _ _ _ rfl (hown.alloc _) ⟨wr.heap.size, 0, none⟩ 1 1 [.int .u8 (bits .or .u8 (IntKind.u8.wrap (k : Int)) 128)] rfl rfl (cell_one_new _ _ _) (by simp [Value.oneCell']) (by unfold maxLen; omega) (by omega) (by simp; omega) ?_; intro v1 w1 hown1 hgrow1 _)
      go_roundw
      case rel =>
        refine ⟨k / 128, g, acc ++ [((k % 128 + 128 : Nat) : Int)], by go_num, (show k / 128 < 18446744073709551616 from by have := hk.out; omega), by simp; omega, hg, ?_, hkg', ?_, ?_⟩
        · show digs 10 n = _
          rw [hstep.out]; simp
        · rw [hor.out] at hown1
          simpa [B8] using hown1
        · exact (hb.alloc hb.size _).grown hgrow1 (by simp; omega) (fun k hk => (hown.lt k hk).1)
      case measure => simp [intOf]; omega

/-- What is owned stays owned where only what is new has turned. -/
theorem own_below {w w1 : World} {base n size : Nat} {e : TypeId} {v : Value} {xs : List Value} (h : w.ownsRow base e size v n xs) (hb : Below w.heap.size w w1) : w1.ownsRow base e size v n xs :=
  h.kept (row := none) ⟨hb.os, hb.tape, hb.output, hb.size, fun k hk _ => hb.block k hk⟩ (by cases v.ownBlock <;> simp)

theorem own_one (w : World) (c : Int) : (w.alloc (.cells #[.int .u8 c] 5)).ownsRow w.heap.size 5 1 (.slice (some ⟨w.heap.size, 0, none⟩) 1 1) 1 [B8 c] :=
  World.ownsRow_lit w #[.int .u8 c] 1 (Nat.le_refl _) (by unfold maxLen; omega) rfl

end Go.Proofs.Ytjbjomodponapaa
