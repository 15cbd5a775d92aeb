/- The chapter's example; and what a nil heap says. -/
import Derived.Test.YthihjclilgdaiaaUse
namespace Go.Proofs.Ythihjclilgdaiaa
open Go.RowKit

/-- A heap that was made behind world w0, and what has been written since. -/
structure Sess (w0 w : World) (H A N : Nat) (v : Value) (l : List Itm) : Prop where
  hp : Hp w H A N v l
  fro : Grew w0 w
  new : ∀ j, HB H A v j → w0.heap.size ≤ j
theorem Sess.turn {w0 w w' : World} {H A N : Nat} {v v' : Value} {l l' : List Itm} (s : Sess w0 w H A N v l) (t : Turn w w' H A N v v' l') : Sess w0 w' H A N v' l' :=
  ⟨t.hp, s.fro.then t.kept (fun i hi h => absurd (s.new i h) (by omega)), fun j hj => by
    rcases hj with h | h | h
    · exact s.new j (.inl h)
    · exact s.new j (.inr (.inl h))
    · rcases Nat.lt_or_ge j w.heap.size with hl | hl
      · exact s.new j (.inr (.inr (t.old j hl h)))
      · exact Nat.le_trans s.fro.size hl⟩
theorem Sess.grew {w0 w w' : World} {H A N : Nat} {v : Value} {l : List Itm} (s : Sess w0 w H A N v l) (k : Grew w w') : Sess w0 w' H A N v l := ⟨s.hp.grew k, s.fro.trans k, s.new⟩
theorem new3 (n : Nat) (w0 w : World) (h0 : Grew w0 w) (hn : n ≤ 65536) : Calls Try.prog 7 #[i64 (n : Int)] w fun e w' => ∃ H A, e = .returned (pt H) ∧ Sess w0 w' H A n (.slice none 0 0) [] ∧ Grew w w' := by
  refine (new2 n w hn).mono ?_
  rintro r w' ⟨rfl, s, k⟩
  have := h0.size
  exact ⟨_, _, rfl, ⟨s, h0.trans k, fun j hj => by
    rcases hj with h | h | h
    · omega
    · omega
    · cases h⟩, k⟩

theorem alive_any (w : World) : Calls Try.prog 6 #[] w fun e w' => e = .returned (.bool true) ∧ Grew w w' := by
  have hN : ∀ W, Grew w W → Calls Try.prog 7 #[i64 4] W fun e w' => ∃ H A, e = .returned (pt H) ∧ Sess w w' H A 4 (.slice none 0 0) [] ∧ Grew W w' := fun W h => new3 4 w W h (by omega)
  replace hN := Lib.hid hN
  go_enter Try.func6, Try.ntmps6
  go_wp2_with fail
  refine (hN.out _ (Kept.refl _ _)).mono ?_
  rintro r w1 ⟨H, A, rfl, s1, _⟩
  have hP := Lib.hid (put_new2 w1 H A 4 _ _ s1.hp 1 5 (by omega) (by omega) (by simp))
  clear hN
  go_wp2_with fail
  refine hP.out.mono ?_
  rintro r w2 ⟨rfl, v2, l2, p2, t2⟩
  have s2 := s1.turn t2
  obtain rfl : l2 = [(1, 5)] := List.perm_singleton.1 p2
  have hQ := Lib.hid (put_new2 w2 H A 4 _ _ s2.hp 2 5 (by omega) (by omega) (by simp))
  clear hP p2 t2 s1
  go_wp2_with fail
  refine hQ.out.mono ?_
  rintro r w3 ⟨rfl, v3, l3, p3, t3⟩
  have s3 := s2.turn t3
  have hm : ((2 : Int), (5 : Int)) ∈ l3 := p3.mem_iff.2 (by simp)
  obtain ⟨i, hi⟩ := List.getElem?_of_mem hm
  have hR := Lib.hid (put_less2 w3 H A 4 _ _ s3.hp i _ 4 hi (by simp))
  have HP3 := Lib.hid p3
  have HI := Lib.hid hi
  have S3 := Lib.hid s3
  clear hQ p3 hi t3 s2 hm s3
  go_wp2_with fail
  refine hR.out.mono ?_
  rintro r w4 ⟨rfl, v4, l4, p4, t4⟩
  have s4 := S3.out.turn t4
  have hil := get_lt HI.out
  have h24 : ((2 : Int), (4 : Int)) ∈ l4 := p4.mem_iff.2 ((mem_set_iff hil _).2 (.inl rfl))
  have hall : ∀ f ∈ l4, ¬ lessI f ((2 : Int), (4 : Int)) = true := by
    intro f hf
    rcases (mem_set_iff hil _).1 (p4.mem_iff.1 hf) with rfl | ⟨k, hk, h⟩
    · exact less_irrefl _
    · have h1 := HP3.out.mem_iff.1 (List.mem_of_getElem? h)
      simp at h1
      rcases h1 with rfl | rfl
      · rw [lessI_iff]; simp
      · rw [lessI_iff]; simp
  have hlen : l4.length = 2 := by rw [p4.length_eq, List.length_set, HP3.out.length_eq]; rfl
  obtain ⟨j, hj⟩ := List.getElem?_of_mem h24
  have hO := Lib.hid (pop_some w4 H A 4 _ _ s4.hp j _ hj hall)
  have HJ := Lib.hid hj
  have S4 := Lib.hid s4
  have HN := Lib.hid hlen
  clear hR p4 t4 s4 hil h24 hall hj hlen
  go_wp2_with fail
  refine hO.out.mono ?_
  rintro r w5 ⟨rfl, v5, l5, p5, t5⟩
  have s5 := S4.out.turn t5
  have hlen : l5.length = 1 := by rw [p5.length_eq, List.length_eraseIdx, HN.out, if_pos (by have := get_lt HJ.out; rw [HN.out] at this; omega)]
  have hL := len2 w5 H A 4 _ _ s5.hp
  rw [hlen] at hL
  replace hL := Lib.hid hL
  have hK := Lib.hid s5.fro
  clear hO p5 t5 s5 hlen
  go_wp2_with fail
  refine hL.out.mono ?_
  rintro r w6 ⟨rfl, rfl⟩
  go_wp2_with fail
  go_ret
  exact ⟨rfl, hK.out⟩

theorem nils_law (x key : Int) (w : World) : Calls Try.prog 5 #[i64 x, u64 key] w fun e w' => e = .returned (.bool true) ∧ Grew w w' := by
  have hC := Lib.hid clear_nil
  have hK := Lib.hid (fun W => key_nil x W)
  have hO := Lib.hid pop_nil
  have hT := Lib.hid top_nil
  have hL := Lib.hid len_nil
  have hP := Lib.hid (fun W => put_nil x key W)
  have hD := Lib.hid (fun W => drop_nil x W)
  have hA := Lib.hid alive_any
  go_enter Try.func5, Try.ntmps5
  go_wp2_with fail
  refine (hC.out _).mono ?_
  rintro r w1 ⟨rfl, rfl⟩
  go_wp2_with fail
  refine (hK.out _).mono ?_
  rintro r w1 ⟨rfl, rfl⟩
  go_wp2_with fail
  refine (hO.out _).mono ?_
  rintro r w1 ⟨rfl, rfl⟩
  go_wp2_with fail
  refine (hT.out _).mono ?_
  rintro r w1 ⟨rfl, rfl⟩
  go_wp2_with fail
  refine (hL.out _).mono ?_
  rintro r w1 ⟨rfl, rfl⟩
  go_wp2_with fail
  refine (hP.out _).mono ?_
  rintro r w1 ⟨rfl, rfl⟩
  go_wp2_with fail
  refine (hD.out _).mono ?_
  rintro r w1 ⟨rfl, rfl⟩
  go_wp2_with fail
  refine (hA.out _).mono ?_
  rintro r w1 ⟨rfl, k1⟩
  go_wp2_with fail
  go_ret
  exact ⟨rfl, k1⟩
end Go.Proofs.Ythihjclilgdaiaa
