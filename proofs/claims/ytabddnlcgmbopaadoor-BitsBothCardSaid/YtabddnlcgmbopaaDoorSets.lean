/- The numbers that a list puts into a set. -/
import Derived.Test.YtabddnlcgmbopaaDoorAny
namespace Go.Proofs.YtabddnlcgmbopaaDoor
open Go.RowKit

/-- What a list of numbers, put in one behind the other, holds. -/
def ofL (n : Nat) : List Int → (Nat → Bool) → Nat → Bool
  | [], f => f
  | i :: l, f => ofL n l (putF n f i true)
theorem ofL_snoc (n : Nat) : ∀ (l : List Int) (i : Int) (f : Nat → Bool), ofL n (l ++ [i]) f = putF n (ofL n l f) i true
  | [], _, _ => rfl
  | j :: l, i, f => by
    show ofL n (l ++ [i]) (putF n f j true) = _
    rw [ofL_snoc n l i]; rfl
theorem ofL_take (n : Nat) (l : List Int) (k : Nat) (i : Int) (h : l[k]? = some i) (f : Nat → Bool) : ofL n (l.take (k + 1)) f = putF n (ofL n (l.take k) f) i true := by
  rw [List.take_add_one, h]
  exact ofL_snoc ..
theorem putF_hit {n i : Nat} (f : Nat → Bool) (b : Bool) (h : i < n) : putF n f (i : Int) b i = b := by
  unfold putF
  rw [if_pos (by omega)]
theorem putF_miss {n j : Nat} {i : Int} (f : Nat → Bool) (b : Bool) (h : (j : Int) ≠ i) : putF n f i b j = f j := by
  unfold putF
  rw [if_neg (by omega)]
theorem putF_behind {n j : Nat} {i : Int} (f : Nat → Bool) (b : Bool) (h : n ≤ j) : putF n f i b j = f j := by
  unfold putF
  rw [if_neg (by omega)]
theorem ofL_behind (n j : Nat) (h : n ≤ j) : ∀ (l : List Int) (f : Nat → Bool), ofL n l f j = f j
  | [], _ => rfl
  | i :: l, f => by
    show ofL n l (putF n f i true) j = _
    rw [ofL_behind n j h l, putF_behind f true h]
/-- Those in both and those in one of both are together as many as are in each. -/
theorem ins_sum (f g : Nat → Bool) : ∀ n, (ins (fun i => f i || g i) n).length + (ins (fun i => f i && g i) n).length = (ins f n).length + (ins g n).length
  | 0 => rfl
  | n + 1 => by
    have ih := ins_sum f g n
    rw [ins_succ, ins_succ, ins_succ, ins_succ]
    simp only [List.length_append]
    cases f n <;> cases g n <;> simp <;> omega
end Go.Proofs.YtabddnlcgmbopaaDoor
