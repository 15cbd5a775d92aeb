/- Small laws on worlds, rows and addresses that several walks use. No conditions. -/
import Derived.WalkKit
import Derived.Lib.Hide
import Derived.WalkSpells
import Derived.WalkLawsBesides
namespace Go.Proofs.Ytgbddffmbmielaa
open Go.RowKit

theorem cell_add {w : World} {b off i : Nat} {v : Value} (h : w.cell? ((⟨b, off, none⟩ : Addr).add i) = some v) : w.cell? ⟨b, off + i, none⟩ = some v := by
  rw [← h]; congr 1; unfold Addr.add; split <;> simp_all

/-- An address whose first cell is known is a plain one. -/
theorem plain_of_cell {w : World} {x : Addr} {v : Value} (h : w.cell? (x.add 0) = some v) : ∃ b off, x = ⟨b, off, none⟩ := by
  have h2 := World.cell?_spot h
  obtain ⟨b, off, spot⟩ := x
  simp only [Addr.add, if_true] at h2
  exact ⟨b, off, by rw [h2]⟩

end Go.Proofs.Ytgbddffmbmielaa
