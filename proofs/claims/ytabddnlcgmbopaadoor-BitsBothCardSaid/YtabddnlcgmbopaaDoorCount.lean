/- How many ones: OnesCount64 and Count. -/
import Derived.Test.YtabddnlcgmbopaaDoorAdd
namespace Go.Proofs.YtabddnlcgmbopaaDoor
open Go.RowKit

theorem wrap_nat (n : Nat) (h : n < 18446744073709551616) : IntKind.u64.wrap (n : Int) = (n : Int) := by
  simp only [IntKind.wrap, IntKind.bits, IntKind.signed]
  simp
  omega
theorem mk85 : mk 85 8 = 6148914691236517205 := rfl
theorem mk51 : mk 51 8 = 3689348814741910323 := rfl
theorem mk15 : mk 15 8 = 1085102592571150095 := rfl
/-- What the sums come to, one behind the other. -/
structure Ones (x y1 y2 y3 a b c : Nat) : Prop where
  v1 : IntKind.u64.wrap (bits .and .u64 ((x : Int) / 2) 6148914691236517205 + bits .and .u64 (x : Int) 6148914691236517205) = (y1 : Int)
  v2 : IntKind.u64.wrap (bits .and .u64 ((y1 : Int) / 4) 3689348814741910323 + bits .and .u64 (y1 : Int) 3689348814741910323) = (y2 : Int)
  v3 : bits .and .u64 (IntKind.u64.wrap ((y2 : Int) / 16 + (y2 : Int))) 1085102592571150095 = (y3 : Int)
  v4 : IntKind.u64.wrap ((y3 : Int) + (y3 : Int) / 256) = (a : Int)
  v5 : IntKind.u64.wrap ((a : Int) + (a : Int) / 65536) = (b : Int)
  v6 : IntKind.u64.wrap ((b : Int) + (b : Int) / 4294967296) = (c : Int)
  v7 : IntKind.i64.wrap (c : Int) = (c : Int)
  v8 : bits .and .i64 (c : Int) 127 = ((pop 64 x : Nat) : Int)
theorem num_lt : ∀ (l : List Nat) (k : Nat), (∀ b ∈ l, b < 256) → l.length = k → num l < 256 ^ k
  | [], k, _, h => by subst h; simp [num]
  | b :: l, k, h, hk => by
    have hb := h b (by simp)
    have ih := num_lt l l.length (fun c hc => h c (by simp [hc])) rfl
    subst hk
    rw [num, List.length_cons, Nat.pow_succ]
    omega
theorem num8_lt (l : List Nat) (h : ∀ b ∈ l, b < 256) (hk : l.length = 8) : num l < 18446744073709551616 := by
  have := num_lt l 8 h hk
  rw [show 256 ^ 8 = 18446744073709551616 from rfl] at this
  exact this
theorem num_le (m : Nat) : ∀ (l : List Nat) (k : Nat), (∀ b ∈ l, b ≤ m) → l.length = k → num l ≤ m * mk 1 k
  | [], k, _, h => by subst h; simp [num, mk]
  | b :: l, k, h, hk => by
    have hb := h b (by simp)
    have ih := num_le m l l.length (fun c hc => h c (by simp [hc])) rfl
    subst hk
    rw [num, List.length_cons, mk, Nat.mul_add, Nat.mul_one, Nat.mul_left_comm]
    omega
theorem mk1 : mk 1 8 = 72340172838076673 := rfl
theorem and_add_nat (x m k : Nat) (hx : x < 18446744073709551616) (hm : m < 18446744073709551616) (y : Nat) (hy : (x / k &&& m) + (x &&& m) = y) (hyl : y < 18446744073709551616) :
    IntKind.u64.wrap (bits .and .u64 ((x : Int) / (k : Int)) (m : Int) + bits .and .u64 (x : Int) (m : Int)) = (y : Int) := by
  have hl : x / k ≤ x := Nat.div_le_self _ _
  rw [show (x : Int) / (k : Int) = ((x / k : Nat) : Int) by rw [Int.natCast_ediv], u64_and_nat _ _ (by omega) hm, u64_and_nat _ _ hx hm, ← Int.natCast_add, hy]
  exact wrap_nat y hyl
theorem ones_steps (x : Nat) (hx : x < W64) : ∃ y1 y2 y3 a b c, Ones x y1 y2 y3 a b c := by
  unfold W64 at hx
  have hx0 := num_bytes8 x hx
  have hbl := bytes8_lt x
  have e8 : (bytes8 x).length = 8 := rfl
  obtain ⟨bs, hbs⟩ : ∃ bs, bytes8 x = bs := ⟨_, rfl⟩
  rw [hbs] at hx0 hbl e8
  -- the first sums
  have s1 := step1 bs hbl
  rw [e8, mk85, hx0] at s1
  have c1 : ∀ b ∈ bs.map f1, b < 256 := fun b hb => by
    obtain ⟨d, hd, rfl⟩ := List.mem_map.1 hb
    exact (fin3 d (hbl d hd)).1
  have l1 : (bs.map f1).length = 8 := by rw [List.length_map, e8]
  have n1 := num8_lt _ c1 l1
  have s2 := step2 (bs.map f1) c1
  rw [l1, mk51] at s2
  have c2 : ∀ b ∈ (bs.map f1).map f2, b < 256 ∧ b % 16 ≤ 4 ∧ b / 16 ≤ 4 := fun b hb => by
    obtain ⟨d, hd, rfl⟩ := List.mem_map.1 hb
    obtain ⟨e, he, rfl⟩ := List.mem_map.1 hd
    have := fin3 e (hbl e he)
    exact ⟨this.2.1, this.2.2.1, this.2.2.2.1⟩
  have l2 : ((bs.map f1).map f2).length = 8 := by rw [List.length_map, l1]
  have n2 := num8_lt _ (fun b hb => (c2 b hb).1) l2
  have s3 := step3 ((bs.map f1).map f2) c2
  rw [l2, mk15] at s3
  have n3 := num_le 68 _ 8 (fun b hb => by have := c2 b hb; omega) l2
  have n4 := num_le 8 (bs.map (pop 8)) 8 (fun b hb => by obtain ⟨d, _, rfl⟩ := List.mem_map.1 hb; exact pop_le 8 d) (by rw [List.length_map, e8])
  rw [mk1] at n3 n4
  obtain ⟨y1, hy1⟩ : ∃ y, num (bs.map f1) = y := ⟨_, rfl⟩
  obtain ⟨y2, hy2⟩ : ∃ y, num ((bs.map f1).map f2) = y := ⟨_, rfl⟩
  have e3 : ((bs.map f1).map f2).map f3 = bs.map (pop 8) := by
    rw [List.map_map, List.map_map]
    apply List.map_congr_left
    intro b hb
    exact (fin3 b (hbl b hb)).2.2.2.2
  rw [e3] at s3
  obtain ⟨y3, hy3⟩ : ∃ y, num (bs.map (pop 8)) = y := ⟨_, rfl⟩
  rw [hy1] at s1 s2 n1
  rw [hy2] at s2 s3 n2 n3
  rw [hy3] at s3 n4
  have hbs' : bs = [x % 256, x / 256 % 256, x / 65536 % 256, x / 16777216 % 256, x / 4294967296 % 256, x / 1099511627776 % 256, x / 281474976710656 % 256, x / 72057594037927936 % 256] := hbs.symm
  have hpop : ∀ b, pop 8 b ≤ 8 := fun b => pop_le 8 b
  have hz : y3 = num [pop 8 (x % 256), pop 8 (x / 256 % 256), pop 8 (x / 65536 % 256), pop 8 (x / 16777216 % 256), pop 8 (x / 4294967296 % 256), pop 8 (x / 1099511627776 % 256), pop 8 (x / 281474976710656 % 256), pop 8 (x / 72057594037927936 % 256)] := by rw [← hy3, hbs']; rfl
  have key := step4 _ _ _ _ _ _ _ _ (hpop _) (hpop _) (hpop _) (hpop _) (hpop _) (hpop _) (hpop _) (hpop _) y3 (y3 + y3 / 256) (y3 + y3 / 256 + (y3 + y3 / 256) / 65536) (y3 + y3 / 256 + (y3 + y3 / 256) / 65536 + (y3 + y3 / 256 + (y3 + y3 / 256) / 65536) / 4294967296) hz rfl rfl rfl
  have hp := pop_bytes (x % 256) (x / 256 % 256) (x / 65536 % 256) (x / 16777216 % 256) (x / 4294967296 % 256) (x / 1099511627776 % 256) (x / 281474976710656 % 256) (x / 72057594037927936 % 256) (by omega) (by omega) (by omega) (by omega) (by omega) (by omega) (by omega) (by omega)
  have hxn : num [x % 256, x / 256 % 256, x / 65536 % 256, x / 16777216 % 256, x / 4294967296 % 256, x / 1099511627776 % 256, x / 281474976710656 % 256, x / 72057594037927936 % 256] = x := by rw [← hbs']; exact hx0
  rw [hxn] at hp
  obtain ⟨a, ha⟩ : ∃ a, y3 + y3 / 256 = a := ⟨_, rfl⟩
  rw [ha] at key
  obtain ⟨b, hb⟩ : ∃ b, a + a / 65536 = b := ⟨_, rfl⟩
  rw [hb] at key
  obtain ⟨c, hc⟩ : ∃ c, b + b / 4294967296 = c := ⟨_, rfl⟩
  rw [hc, ← hp] at key
  obtain ⟨k1, k2, k3, k4, k5⟩ := key
  clear hp hxn hz hpop hbs' hbs hx0 hbl e8 c1 l1 c2 l2 e3 hy1 hy2 hy3
  refine ⟨y1, y2, y3, a, b, c, and_add_nat x _ 2 hx (by decide) y1 s1 n1, and_add_nat y1 _ 4 n1 (by decide) y2 s2 n2, ?_, ?_, ?_, ?_, ?_, ?_⟩
  · have hl : y2 / 16 ≤ y2 := Nat.div_le_self _ _
    rw [show (y2 : Int) / 16 = ((y2 / 16 : Nat) : Int) by rw [Int.natCast_ediv]; rfl, ← Int.natCast_add, wrap_nat _ (by omega), show (1085102592571150095 : Int) = ((1085102592571150095 : Nat) : Int) from rfl, u64_and_nat _ _ (by omega) (by decide), s3]
  · rw [show (y3 : Int) / 256 = ((y3 / 256 : Nat) : Int) by rw [Int.natCast_ediv]; rfl, ← Int.natCast_add, ha, wrap_nat _ k2]
  · rw [show (a : Int) / 65536 = ((a / 65536 : Nat) : Int) by rw [Int.natCast_ediv]; rfl, ← Int.natCast_add, hb, wrap_nat _ k3]
  · rw [show (b : Int) / 4294967296 = ((b / 4294967296 : Nat) : Int) by rw [Int.natCast_ediv]; rfl, ← Int.natCast_add, hc, wrap_nat _ k4]
  · clear s1 s2 s3 n1 n2 n3
    exact IntWalk.i64_in _ (by omega)
  · have h := bits_mask .i64 63 (by decide) (fun n h0 h1 => IntWalk.i64_in _ (by omega)) 7 (by decide) (c : Int) (by omega) (by clear s1 s2 s3 n1 n2 n3; omega)
    rw [show ((2 : Int) ^ 7 - 1) = 127 from rfl] at h
    rw [h, ← k1, Int.natCast_emod]
    rfl
set_option maxHeartbeats 1000000 in
theorem ones_any (x : Nat) (w : World) (hx : x < W64) : Calls Tryd.prog 22 #[u64 x] w fun e w' => e = .returned (i64 (pop 64 x : Nat)) ∧ w = w' := by
  obtain ⟨y1, y2, y3, a, b, c, v1, v2, v3, v4, v5, v6, v7, v8⟩ := ones_steps x hx
  clear hx
  go_enter Tryd.func22, Tryd.ntmps22
  go_wp2_with fail
  go_ret
  exact ⟨rfl, rfl⟩
end Go.Proofs.YtabddnlcgmbopaaDoor
