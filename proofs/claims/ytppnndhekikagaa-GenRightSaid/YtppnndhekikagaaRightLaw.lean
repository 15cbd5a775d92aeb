/- The law GenRight: the walk. -/
import Derived.Test.YtppnndhekikagaaRightC0
import Derived.Test.YtppnndhekikagaaRightC1
import Derived.Test.YtppnndhekikagaaRightC2
import Derived.Test.YtppnndhekikagaaRightC3
import Derived.Test.YtppnndhekikagaaRightC4
import Derived.Test.YtppnndhekikagaaRightC5
import Derived.Test.YtppnndhekikagaaRightC6
namespace Go.Proofs.Ytppnndhekikagaa
open Go.RowKit

def Good (f0 n0 : Int) (es : List Edg) (Y N : Prop) : Prop := (f0 = 0 ∧ rightF n0 es = 0 ∧ Y) ∨ (n0 = 0 ∧ es = [] ∧ ¬ f0 = 0 ∧ N)
theorem ring_good (n wt : Int) : ∃ n0 es f0, es.length ≤ 100000 ∧ Maker 17 #[i64 n, u64 wt] n0 es f0 ∧ Good f0 n0 es (2 ≤ n ∧ n ≤ 4096) True := by
  by_cases h : n < 2 ∨ 4096 < n ∨ wt < 1 ∨ 4294967296 < wt
  · refine ⟨_, _, _, by simp, Maker.no fun w => ring_no n wt w h, .inr ⟨rfl, rfl, ?_, trivial⟩⟩
    unfold ringF
    split
    · omega
    · rw [if_pos (by omega)]; omega
  · obtain ⟨k, rfl⟩ := Int.eq_ofNat_of_zero_le (show 0 ≤ n by omega)
    exact ⟨_, _, _, by rw [ringL_length]; omega, Maker.yes fun w => ring_yes k wt w (by omega) (by omega) (by omega) (by omega), .inl ⟨rfl, ring_right k wt (by omega) (by omega) (by omega) (by omega), by omega⟩⟩
theorem ladder_good (n : Int) : ∃ n0 es f0, es.length ≤ 100000 ∧ Maker 19 #[i64 n] n0 es f0 ∧ Good f0 n0 es (1 ≤ n ∧ n ≤ 4095) (n < 1 ∨ 4096 ≤ n) := by
  by_cases h : n < 1 ∨ 4096 ≤ n
  · refine ⟨_, _, _, by simp, Maker.no fun w => ladder_no n w h, .inr ⟨rfl, rfl, ?_, h⟩⟩
    unfold ladF
    split
    · omega
    · rw [if_pos (by omega)]; omega
  · obtain ⟨k, rfl⟩ := Int.eq_ofNat_of_zero_le (show 0 ≤ n by omega)
    exact ⟨_, _, _, by rw [ladL_length]; omega, Maker.yes fun w => ladder_yes k w (by omega) (by omega), .inl ⟨rfl, ladder_right k (by omega) (by omega), by omega⟩⟩
theorem random_good (n m seed most : Int) : ∃ n0 es f0, es.length ≤ 100000 ∧ Maker 21 #[i64 n, i64 m, u64 seed, i64 most] n0 es f0 ∧ Good f0 n0 es (2 ≤ n ∧ n ≤ 4096 ∧ 1 ≤ most ∧ most ≤ 4294967296) True := by
  by_cases h : n < 2 ∨ m < 0 ∨ most < 1 ∨ 4294967296 < most ∨ 4096 < n ∨ 16384 < m
  · refine ⟨_, _, _, by simp, Maker.no fun w => random_no n m seed most w h, .inr ⟨rfl, rfl, ?_, trivial⟩⟩
    unfold rndF
    split
    · omega
    · rw [if_pos (by omega)]; omega
  · obtain ⟨k, rfl⟩ := Int.eq_ofNat_of_zero_le (show 0 ≤ n by omega)
    obtain ⟨j, rfl⟩ := Int.eq_ofNat_of_zero_le (show 0 ≤ m by omega)
    exact ⟨_, _, _, by rw [rndS_length]; omega, Maker.yes fun w => random_yes k j seed most w (by omega) (by omega) (by omega) (by omega) (by omega), .inl ⟨rfl, random_right k j seed most (by omega) (by omega) (by omega) (by omega) (by omega), by omega⟩⟩
theorem grid_good (wide high seed most : Int) : ∃ n0 es L f0, es.length ≤ 100000 ∧ L ≤ 100000 ∧ (∃ ps : List Plc, ps.length = L ∧ MakerG 14 #[i64 wide, i64 high, u64 seed, i64 most] n0 es ps f0) ∧ ((f0 = 0 ∧ n0 = (L : Int) ∧ rightF n0 es = 0 ∧ 1 ≤ wide ∧ wide ≤ 4096) ∨ (n0 = 0 ∧ es = [] ∧ L = 0 ∧ ¬ f0 = 0 ∧ (wide < 1 ∨ 4096 < wide ∨ high < 1 ∨ 4096 < high ∨ most < 1 ∨ 4294967296 < most ∨ 4096 < wide * high))) := by
  by_cases h : wide < 1 ∨ 4096 < wide ∨ high < 1 ∨ 4096 < high ∨ most < 1 ∨ 4294967296 < most ∨ 4096 < wide * high
  · refine ⟨_, _, _, _, by simp, by simp, ⟨[], rfl, MakerG.no fun w => grid_no wide high seed most w h⟩, .inr ⟨rfl, rfl, rfl, ?_, h⟩⟩
    unfold gridF
    split
    · omega
    · rename_i h1
      rw [if_pos]
      · omega
      · rcases h with h | h | h | h | h | h | h
        · omega
        · omega
        · omega
        · omega
        · omega
        · omega
        · exact h
  · have hP : wide * high ≤ 4096 := Int.not_lt.1 fun hn => h (.inr (.inr (.inr (.inr (.inr (.inr hn))))))
    have h' : 1 ≤ wide ∧ wide ≤ 4096 ∧ 1 ≤ high ∧ high ≤ 4096 ∧ 1 ≤ most ∧ most ≤ 4294967296 := by omega
    clear h
    obtain ⟨a, rfl⟩ := Int.eq_ofNat_of_zero_le (show 0 ≤ wide by omega)
    obtain ⟨b, rfl⟩ := Int.eq_ofNat_of_zero_le (show 0 ≤ high by omega)
    rw [← Int.natCast_mul] at hP
    have hPn : a * b ≤ 4096 := by omega
    have hl := gridS_length a b most seed (a * b)
    exact ⟨_, _, _, _, by omega, by omega, ⟨_, plL_length a (a * b), MakerG.yes fun w => grid_yes a b seed most w (by omega) (by omega) (by omega) (by omega) (by omega) (by omega) hPn⟩, .inl ⟨rfl, rfl, grid_right a b seed most (by omega) (by omega) (by omega) (by omega) hPn, by omega, by omega⟩⟩

set_option maxHeartbeats 4000000 in
set_option maxRecDepth 100000 in
theorem right_law (n m seed most : Int) (w : World) : Calls Try.prog 6 #[i64 n, i64 m, u64 seed, i64 most] w fun e w' => e = .returned (.bool true) ∧ Grew w w' := by
  have hA := Lib.hid alive_any
  by_cases hg : 30 < n ∧ n ≤ 4096
  · have hG := Lib.hid (fun W => great_yes n 4096 W hg.1 hg.2)
    clear hg
    go_enter Try.func6, Try.ntmps6
    go_wp2_with fail
    refine (hG.out _).mono ?_
    rintro e w1 ⟨rfl, rfl⟩
    go_wp2_with fail
    refine (hA.out _).mono ?_
    rintro e w1 ⟨rfl, hK⟩
    go_wp2_with fail
    go_ret
    exact ⟨rfl, hK⟩
  · have hn30 : n ≤ 30 ∨ 4096 < n := by omega
    clear hg
    by_cases hg : 30 < m ∧ m ≤ 16384
    · have hG := Lib.hid (fun W => great_no n 4096 W (by omega))
      have hG2 := Lib.hid (fun W => great_yes m 16384 W hg.1 hg.2)
      clear hg
      go_enter Try.func6, Try.ntmps6
      go_wp2_with fail
      refine (hG.out _).mono ?_
      rintro e w1 ⟨rfl, rfl⟩
      go_wp2_with fail
      refine (hG2.out _).mono ?_
      rintro e w1 ⟨rfl, rfl⟩
      go_wp2_with fail
      refine (hA.out _).mono ?_
      rintro e w1 ⟨rfl, hK⟩
      go_wp2_with fail
      go_ret
      exact ⟨rfl, hK⟩
    · have hm30 : m ≤ 30 ∨ 16384 < m := by omega
      obtain ⟨n1, es1, f1, hl1, hM1, hg1⟩ := random_good n m seed most
      obtain ⟨n2, es2, f2, hl2, hM2, hg2⟩ := ring_good n seed
      obtain ⟨n3, es3, f3, hl3, hM3, hg3⟩ := ladder_good n
      obtain ⟨n4, es4, L, f4, hl4, hlL, ⟨ps, hps, hM4⟩, hg4⟩ := grid_good n 3 seed most
      rcases hg3 with ⟨u3, r3, y3⟩ | ⟨u3, v3, r3, y3⟩
      · skip
        rcases hg1 with ⟨u1, r1, y1⟩ | ⟨u1, v1, r1, y1⟩
        · skip
          rcases hg2 with ⟨u2, r2, y2⟩ | ⟨u2, v2, r2, y2⟩
          · skip
            rcases hg4 with ⟨u4, v4, r4, y4⟩ | ⟨u4, v4, x4, r4, y4⟩
            · skip
              exact right_1111 n m seed most w hn30 hm30 n1 f1 es1 hl1 hM1 ⟨u1, r1⟩ n2 f2 es2 hl2 hM2 ⟨u2, r2⟩ n3 f3 es3 hl3 hM3 ⟨u3, r3⟩ n4 f4 es4 L ps hl4 hlL hps hM4 ⟨u4, v4, r4⟩
            · exact absurd hn30 (by omega)
          · skip
            rcases hg4 with ⟨u4, v4, r4, y4⟩ | ⟨u4, v4, x4, r4, y4⟩
            · skip
              exact right_1011 n m seed most w hn30 hm30 n1 f1 es1 hl1 hM1 ⟨u1, r1⟩ n2 f2 es2 hl2 hM2 ⟨u2, v2, r2⟩ n3 f3 es3 hl3 hM3 ⟨u3, r3⟩ n4 f4 es4 L ps hl4 hlL hps hM4 ⟨u4, v4, r4⟩
            · exact absurd hn30 (by omega)
        · skip
          rcases hg2 with ⟨u2, r2, y2⟩ | ⟨u2, v2, r2, y2⟩
          · skip
            rcases hg4 with ⟨u4, v4, r4, y4⟩ | ⟨u4, v4, x4, r4, y4⟩
            · skip
              exact right_0111 n m seed most w hn30 hm30 n1 f1 es1 hl1 hM1 ⟨u1, v1, r1⟩ n2 f2 es2 hl2 hM2 ⟨u2, r2⟩ n3 f3 es3 hl3 hM3 ⟨u3, r3⟩ n4 f4 es4 L ps hl4 hlL hps hM4 ⟨u4, v4, r4⟩
            · skip
              exact right_0110 n m seed most w hn30 hm30 n1 f1 es1 hl1 hM1 ⟨u1, v1, r1⟩ n2 f2 es2 hl2 hM2 ⟨u2, r2⟩ n3 f3 es3 hl3 hM3 ⟨u3, r3⟩ n4 f4 es4 L ps hl4 hlL hps hM4 ⟨u4, v4, x4, r4⟩
          · skip
            rcases hg4 with ⟨u4, v4, r4, y4⟩ | ⟨u4, v4, x4, r4, y4⟩
            · skip
              exact right_0011 n m seed most w hn30 hm30 n1 f1 es1 hl1 hM1 ⟨u1, v1, r1⟩ n2 f2 es2 hl2 hM2 ⟨u2, v2, r2⟩ n3 f3 es3 hl3 hM3 ⟨u3, r3⟩ n4 f4 es4 L ps hl4 hlL hps hM4 ⟨u4, v4, r4⟩
            · skip
              exact right_0010 n m seed most w hn30 hm30 n1 f1 es1 hl1 hM1 ⟨u1, v1, r1⟩ n2 f2 es2 hl2 hM2 ⟨u2, v2, r2⟩ n3 f3 es3 hl3 hM3 ⟨u3, r3⟩ n4 f4 es4 L ps hl4 hlL hps hM4 ⟨u4, v4, x4, r4⟩
      · skip
        rcases hg1 with ⟨u1, r1, y1⟩ | ⟨u1, v1, r1, y1⟩
        · exact absurd hn30 (by omega)
        · skip
          rcases hg2 with ⟨u2, r2, y2⟩ | ⟨u2, v2, r2, y2⟩
          · exact absurd hn30 (by omega)
          · skip
            rcases hg4 with ⟨u4, v4, r4, y4⟩ | ⟨u4, v4, x4, r4, y4⟩
            · exact absurd hn30 (by omega)
            · skip
              exact right_0000 n m seed most w hn30 hm30 n1 f1 es1 hl1 hM1 ⟨u1, v1, r1⟩ n2 f2 es2 hl2 hM2 ⟨u2, v2, r2⟩ n3 f3 es3 hl3 hM3 ⟨u3, v3, r3⟩ n4 f4 es4 L ps hl4 hlL hps hM4 ⟨u4, v4, x4, r4⟩
end Go.Proofs.Ytppnndhekikagaa
