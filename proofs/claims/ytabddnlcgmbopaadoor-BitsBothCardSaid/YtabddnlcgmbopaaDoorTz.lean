/- TrailingZeros64. -/
import Derived.Test.YtabddnlcgmbopaaDoorOf
import Derived.Shelf.Spec.TrailingZeros
namespace Go.Proofs.YtabddnlcgmbopaaDoor
open Go.RowKit

/-- The library's table lies in its variable. -/
abbrev Tab (w : World) : Prop := TabAt 0 Lib.deBruijn64tab w
theorem Tab.kept {F : Nat → Prop} {w w' : World} (h : Tab w) (k : Kept F w w') (hF : ¬ F 0) : Tab w' := fun j hj => k.cell (h j hj) hF
theorem Tab.grew {w w' : World} (h : Tab w) (k : Grew w w') : Tab w' := h.kept k fun h => h

set_option maxHeartbeats 1000000 in
theorem tz_core (x k idx : Nat) (w : World) (hx0 : ((x : Int) == 0) = false)
    (key : IntKind.u64.wrap (bits BinOp.and IntKind.u64 (x : Int) (IntKind.u64.wrap (-(x : Int))) * 285870213051353865) / 288230376151711744 = (idx : Int))
    (hi : idx < 64) (hk : k < 64) (hcell : w.cell? ⟨0, idx, none⟩ = some (.int .u8 k)) :
    Calls Tryd.prog 29 #[u64 x] w fun e w' => e = .returned (i64 k) ∧ w = w' := by
  go_enter Tryd.func29, Tryd.ntmps29
  go_wp2_with (simp only [key])
  go_ret
  exact ⟨rfl, rfl⟩
theorem tz_any (x : Nat) (h0 : 0 < x) (hx : x < W64) (w : World) (hT : Tab w) : Calls Tryd.prog 29 #[u64 x] w fun e w' => e = .returned (i64 (Lib.ctz 64 x : Nat)) ∧ w = w' := by
  unfold W64 at hx
  obtain ⟨hlow, hk⟩ := Lib.lowest_bit 64 x (by omega) hx
  obtain ⟨hi, htab⟩ := Lib.deBruijn64_at _ hk
  have hcell := hT _ hi
  rw [htab] at hcell
  exact tz_core x _ _ w (by simp; omega) (tz64_key x _ hx (by omega) hlow) hi hk hcell
end Go.Proofs.YtabddnlcgmbopaaDoor
