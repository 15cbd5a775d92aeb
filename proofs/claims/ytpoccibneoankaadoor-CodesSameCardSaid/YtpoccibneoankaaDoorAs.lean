/- errors.as and errors.As, at an error that is wrapped any number of times. -/
import Derived.Test.YtpoccibneoankaaDoorFacts
import Derived.Deep.LoopGhost
import Derived.Outline
namespace Go.Proofs.YtpoccibneoankaaDoor
open Go.RowKit Go.Extern.Stop Go.Stop Go.Extern

abbrev E0 : Nat := 30
/-- The interface value of a *codes.Error. -/
abbrev errV (e : Addr) : Value := .iface 30 (.pointer (some e))
abbrev outV (a : Nat) : Value := .iface 50 (.pointer (some ⟨a, 0, none⟩))
/-- The variable that errors.As is to set, handed over as an interface value. -/
abbrev tgtV (T : Nat) : Value := .iface 33 (.pointer (some ⟨T, 0, none⟩))
abbrev valP (V : Nat) : Value := .agg #[.pointer (some ⟨1, 33, none⟩), .pointer (some ⟨V, 0, none⟩), .int .u64 150]
abbrev typE : Value := .iface 74 (.agg #[.pointer (some ⟨1, 30, none⟩)])

/-- v wraps b, k times. -/
def Wraps (w : World) : Nat → Value → Value → Prop
  | 0, v, b => v = b
  | k + 1, v, b => ∃ a v', v = outV a ∧ Blk w a 52 #[v'] ∧ Wraps w k v' b
theorem Wraps.kept {F : Nat → Prop} {w w' : World} (hk : Kept F w w') : ∀ {k : Nat} {v b : Value}, (∀ a cs, Blk w a 52 cs → ¬ F a) → Wraps w k v b → Wraps w' k v b
  | 0, _, _, _, h => h
  | k + 1, _, _, hF, ⟨a, v', h1, h2, h3⟩ => ⟨a, v', h1, h2.kept hk (hF a _ h2), Wraps.kept hk hF h3⟩
theorem Wraps.grew {w w' : World} (hk : Grew w w') {k : Nat} {v b : Value} (h : Wraps w k v b) : Wraps w' k v b := h.kept hk (fun _ _ _ h => h)

theorem Wraps.iface {w : World} {k : Nat} {v : Value} {t : TypeId} {x : Value} (h : Wraps w k v (.iface t x)) : ∃ t' x', v = .iface t' x' := by
  cases k with
  | zero => exact ⟨_, _, h⟩
  | succ k => obtain ⟨a, v', h1, _⟩ := h; exact ⟨_, _, h1⟩
theorem unwrap_any (w : World) (a : Nat) (v : Value) (h : Blk w a 52 #[v]) : Calls Tryd.prog 53 #[.pointer (some ⟨a, 0, none⟩)] w fun e w' => e = .returned v ∧ w = w' := by
  have hc := h.cell 0
  simp at hc
  go_enter Tryd.func53, Tryd.ntmps53
  go_wp2_with fail
  go_ret
  exact ⟨rfl, rfl⟩

set_option maxHeartbeats 4000000 in
set_option maxRecDepth 100000 in
theorem as_hit (w : World) (k : Nat) (v : Value) (e : Addr) (T V : Nat) (old : Value) (hW : Wraps w k v (errV e)) (bT : Blk w T 30 #[old]) (bV : Blk w V 33 #[.pointer (some ⟨T, 0, none⟩)]) :
    Calls Tryd.prog 27 #[v, tgtV T, valP V, typE] w fun r w' => r = .returned (.bool true) ∧ Blk w' T 30 #[.pointer (some e)] ∧ Kept (· = T) w w' := by
  have h30 := @run_callFunc_extern Tryd.prog 30 _ ReflectliteType.typeOf Tryd.func30 (by kernel_rfl) (by kernel_rfl) (by kernel_rfl) (by kernel_rfl)
  have h59 := @run_callFunc_extern Tryd.prog 59 _ (ReflectliteType.relation "AssignableTo" ReflectliteType.assignableTo) Tryd.func59 (by kernel_rfl) (by kernel_rfl) (by kernel_rfl) (by kernel_rfl)
  have h32 := @run_callFunc_extern Tryd.prog 32 _ (ReflectliteValue.method (ReflectliteValue.valueError "reflectlite.Value.Elem" 0) ReflectliteValue.elem) Tryd.func32 (by kernel_rfl) (by kernel_rfl) (by kernel_rfl) (by kernel_rfl)
  have h33 := @run_callFunc_extern Tryd.prog 33 _ ReflectliteValue.set Tryd.func33 (by kernel_rfl) (by kernel_rfl) (by kernel_rfl) (by kernel_rfl)
  have h24 := @run_callFunc_extern Tryd.prog 24 _ (fun args => ReflectliteValue.unpack (args.getD 0 (.tuple #[]))) Tryd.func24 (by kernel_rfl) (by kernel_rfl) (by kernel_rfl) (by kernel_rfl)
  have tE := Tryd.typeOfE
  have tO := Tryd.typeOfO
  have aE := Tryd.assignE
  have aO := Tryd.assignO
  have vE := Tryd.valueOfE
  have nA := Tryd.noAsO
  have uO := Tryd.hasUnwrapO
  have mA := Tryd.mAssignable
  have mU := Tryd.mUnwrap
  go_enter Tryd.func27, Tryd.ntmps27
  go_wp2_with fail
  go_loopg [0] k (fun n s0 wr => Wraps wr n s0 (errV e) ∧ Blk wr T 30 #[old] ∧ Blk wr V 33 #[.pointer (some ⟨T, 0, none⟩)] ∧ Grew w wr ∧ Blk wr w.heap.size 56 #[.pointer (some ⟨1, 33, none⟩), .pointer (some ⟨V, 0, none⟩), .int .u64 150])
  case atStart => exact ⟨hW.grew ((Kept.refl _ _).alloc _), bT.alloc _, bV.alloc _, (Kept.refl _ _).alloc _, Blk.new _ _ _⟩
  case round =>
    clear hW bT bV
    obtain ⟨hW, bT, bV, hK, bX⟩ := hrel
    cases gk with
    | zero =>
      have hv : u0 = errV e := hW
      subst hv
      have c0 := bX.cell 0
      have c1 := bX.cell 1
      have c2 := bX.cell 2
      simp at c0 c1 c2
      have hVl : wr.cell? ⟨V, 0, none⟩ = some (.pointer (some ⟨T, 0, none⟩)) := bV.cell 0
      have el := Tryd.elemVP ⟨V, 0, none⟩ ⟨T, 0, none⟩ wr hVl
      have bN := Blk.new wr 30 #[.pointer (some e)]
      have bT2 := bT.alloc (.cells #[.pointer (some e)] 30)
      have k2 : Grew w (wr.alloc (.cells #[.pointer (some e)] 30)) := hK.alloc _
      have st := Tryd.setE ⟨T, 0, none⟩ ⟨wr.heap.size, 0, none⟩ e old (wr.alloc (.cells #[.pointer (some e)] 30)) (bN.cell 0) (bT2.cell 0) (bT2.frozen 0)
      clear bN hVl
      go_wp2_with fail
      go_ret
      exact ⟨rfl, bT2.set 0 _, (k2.kept (F := (· = T))).setCell (p := ⟨T, 0, none⟩) (.inl rfl) _⟩
    | succ n =>
      obtain ⟨a, v', rfl, hB, hW⟩ := hW
      obtain ⟨tt, xx, rfl⟩ := hW.iface
      have hU := Lib.hid (unwrap_any wr a _ hB)
      go_wp2_with fail
      refine hU.out.mono ?_
      rintro r w2 ⟨rfl, rfl⟩
      go_wp2_with fail
      go_roundg n
      case measure => omega
      case rel => exact ⟨hW, bT, bV, hK, bX⟩

set_option maxHeartbeats 4000000 in
set_option maxRecDepth 100000 in
/-- An error of errors.New's make, wrapped: there is none. -/
theorem as_miss (w : World) (k : Nat) (v : Value) (e : Addr) (T V : Nat) (hW : Wraps w k v (.iface 68 (.pointer (some e)))) :
    Calls Tryd.prog 27 #[v, tgtV T, valP V, typE] w fun r w' => r = .returned (.bool false) ∧ Grew w w' := by
  have h30 := @run_callFunc_extern Tryd.prog 30 _ ReflectliteType.typeOf Tryd.func30 (by kernel_rfl) (by kernel_rfl) (by kernel_rfl) (by kernel_rfl)
  have h59 := @run_callFunc_extern Tryd.prog 59 _ (ReflectliteType.relation "AssignableTo" ReflectliteType.assignableTo) Tryd.func59 (by kernel_rfl) (by kernel_rfl) (by kernel_rfl) (by kernel_rfl)
  have tS := Tryd.typeOfS
  have tO := Tryd.typeOfO
  have aS := Tryd.assignS
  have aO := Tryd.assignO
  have nA := Tryd.noAsO
  have nS := Tryd.noAsS
  have uO := Tryd.hasUnwrapO
  have uS := Tryd.noUnwrapS
  have usS := Tryd.noUnwrapsS
  have mA := Tryd.mAssignable
  have mU := Tryd.mUnwrap
  go_enter Tryd.func27, Tryd.ntmps27
  go_wp2_with fail
  go_loopg [0] k (fun n s0 wr => Wraps wr n s0 (.iface 68 (.pointer (some e))) ∧ Grew w wr)
  case atStart => exact ⟨hW.grew ((Kept.refl _ _).alloc _), (Kept.refl _ _).alloc _⟩
  case round =>
    clear hW
    obtain ⟨hW, hK⟩ := hrel
    cases gk with
    | zero =>
      have hv : u0 = .iface 68 (.pointer (some e)) := hW
      subst hv
      go_wp2_with fail
      go_ret
      exact ⟨rfl, hK⟩
    | succ n =>
      obtain ⟨a, v', rfl, hB, hW⟩ := hW
      obtain ⟨tt, xx, rfl⟩ := hW.iface
      have hU := Lib.hid (unwrap_any wr a _ hB)
      go_wp2_with fail
      refine hU.out.mono ?_
      rintro r w2 ⟨rfl, rfl⟩
      go_wp2_with fail
      go_roundg n
      case measure => omega
      case rel => exact ⟨hW, hK⟩

theorem As_nil (t : Value) (w : World) :
    Calls Tryd.prog 12 #[.nilIface, t] w fun e w' => e = .returned (.bool false) ∧ w = w' := by
  go_enter Tryd.func12, Tryd.ntmps12
  go_wp2_with fail
  go_ret
  exact ⟨rfl, rfl⟩

/-- What is known of the one package variable: the handle of the type error. -/
def Door (w : World) : Prop := w.cell? ⟨0, 0, none⟩ = some (.iface 74 (.agg #[.pointer (some ⟨1, 25, none⟩)])) ∧ 0 < w.heap.size
theorem Door.grew {w w' : World} (h : Door w) (k : Grew w w') : Door w' := ⟨k.cell h.1, Nat.lt_of_lt_of_le h.2 k.size⟩
theorem Door.kept {F : Nat → Prop} {w w' : World} (h : Door w) (k : Kept F w w') (hF : ¬ F 0) : Door w' := ⟨Kept.cell k h.1 hF, Nat.lt_of_lt_of_le h.2 k.size⟩

set_option maxHeartbeats 4000000 in
set_option maxRecDepth 100000 in
theorem As_hit (w : World) (k : Nat) (v : Value) (e : Addr) (T : Nat) (old : Value) (hd : Door w) (hW : Wraps w k v (errV e)) (bT : Blk w T 30 #[old]) :
    Calls Tryd.prog 12 #[v, tgtV T] w fun r w' => r = .returned (.bool true) ∧ Blk w' T 30 #[.pointer (some e)] ∧ Kept (· = T) w w' := by
  have h24 := @run_callFunc_extern Tryd.prog 24 _ (fun args => ReflectliteValue.unpack (args.getD 0 (.tuple #[]))) Tryd.func24 (by kernel_rfl) (by kernel_rfl) (by kernel_rfl) (by kernel_rfl)
  have h25 := @run_callFunc_extern Tryd.prog 25 _ (ReflectliteValue.methodAny (ReflectliteValue.valueError "reflectlite.Value.Type" 0) (fun t _ _ _ => ReflectliteType.toType t)) Tryd.func25 (by kernel_rfl) (by kernel_rfl) (by kernel_rfl) (by kernel_rfl)
  have h26 := @run_callFunc_extern Tryd.prog 26 _ (ReflectliteValue.method (ReflectliteValue.valueError "reflectlite.Value.IsNil" 0) ReflectliteValue.isNil) Tryd.func26 (by kernel_rfl) (by kernel_rfl) (by kernel_rfl) (by kernel_rfl)
  have h48 := @run_callFunc_extern Tryd.prog 48 _ (ReflectliteType.abiMethod fun t => do pure (.int .u8 (← Rtype.kind t))) Tryd.func48 (by kernel_rfl) (by kernel_rfl) (by kernel_rfl) (by kernel_rfl)
  have h61 := @run_callFunc_extern Tryd.prog 61 _ (ReflectliteType.method ReflectliteType.elem) Tryd.func61 (by kernel_rfl) (by kernel_rfl) (by kernel_rfl) (by kernel_rfl)
  have h62 := @run_callFunc_extern Tryd.prog 62 _ (ReflectliteType.relation "Implements" ReflectliteType.implements_) Tryd.func62 (by kernel_rfl) (by kernel_rfl) (by kernel_rfl) (by kernel_rfl)
  have f24 := Tryd.valueOfP
  have f25 := Tryd.typeP
  have mK := Tryd.mKind
  have mE := Tryd.mElem
  have mI := Tryd.mImplements
  have kP := Tryd.kindP
  have kE := Tryd.kindE
  have eT := Tryd.elemT
  have iE := Tryd.implementsE
  obtain ⟨tt, xx, rfl⟩ := hW.iface
  obtain ⟨w1, hw1⟩ : ∃ w1, (w.alloc (.cells #[.pointer (some ⟨T, 0, none⟩)] 33)).alloc (.cells #[.pointer (some ⟨1, 33, none⟩), .pointer (some ⟨w.heap.size, 0, none⟩), .int .u64 150] 56) = w1 := ⟨_, rfl⟩
  have k1 : Grew w w1 := by rw [← hw1]; exact ((Kept.refl _ _).alloc _).alloc _
  have bV : Blk w1 w.heap.size 33 #[.pointer (some ⟨T, 0, none⟩)] := by rw [← hw1]; exact (Blk.new w _ _).alloc _
  have bX : Blk w1 (w.heap.size + 1) 56 #[.pointer (some ⟨1, 33, none⟩), .pointer (some ⟨w.heap.size, 0, none⟩), .int .u64 150] := by
    rw [← hw1]
    have h := Blk.new (w.alloc (.cells #[.pointer (some ⟨T, 0, none⟩)] 33)) 56 #[.pointer (some ⟨1, 33, none⟩), .pointer (some ⟨w.heap.size, 0, none⟩), .int .u64 150]
    rw [World.size_alloc] at h
    exact h
  have n26 := Tryd.isNilP ⟨w.heap.size, 0, none⟩ ⟨T, 0, none⟩ w1 (bV.cell 0)
  have hg := (hd.grew k1).1
  have x0 := bX.cell 0
  have x1 := bX.cell 1
  have x2 := bX.cell 2
  simp at x0 x1 x2
  have hAs := Lib.hid (as_hit w1 k _ e T w.heap.size old (hW.grew k1) (bT.grew k1) bV)
  have K1 := Lib.hid k1
  clear hd hW bT k1 bV bX
  go_enter Tryd.func12, Tryd.ntmps12
  go_wp2_with fail
  refine hAs.out.mono ?_
  rintro r w2 ⟨rfl, bT2, k2⟩
  go_wp2_with fail
  go_ret
  exact ⟨rfl, bT2, (K1.out.kept).trans k2⟩
set_option maxHeartbeats 4000000 in
set_option maxRecDepth 100000 in
theorem As_miss (w : World) (k : Nat) (v : Value) (e : Addr) (T : Nat) (hd : Door w) (hW : Wraps w k v (.iface 68 (.pointer (some e)))) :
    Calls Tryd.prog 12 #[v, tgtV T] w fun r w' => r = .returned (.bool false) ∧ Grew w w' := by
  have h24 := @run_callFunc_extern Tryd.prog 24 _ (fun args => ReflectliteValue.unpack (args.getD 0 (.tuple #[]))) Tryd.func24 (by kernel_rfl) (by kernel_rfl) (by kernel_rfl) (by kernel_rfl)
  have h25 := @run_callFunc_extern Tryd.prog 25 _ (ReflectliteValue.methodAny (ReflectliteValue.valueError "reflectlite.Value.Type" 0) (fun t _ _ _ => ReflectliteType.toType t)) Tryd.func25 (by kernel_rfl) (by kernel_rfl) (by kernel_rfl) (by kernel_rfl)
  have h26 := @run_callFunc_extern Tryd.prog 26 _ (ReflectliteValue.method (ReflectliteValue.valueError "reflectlite.Value.IsNil" 0) ReflectliteValue.isNil) Tryd.func26 (by kernel_rfl) (by kernel_rfl) (by kernel_rfl) (by kernel_rfl)
  have h48 := @run_callFunc_extern Tryd.prog 48 _ (ReflectliteType.abiMethod fun t => do pure (.int .u8 (← Rtype.kind t))) Tryd.func48 (by kernel_rfl) (by kernel_rfl) (by kernel_rfl) (by kernel_rfl)
  have h61 := @run_callFunc_extern Tryd.prog 61 _ (ReflectliteType.method ReflectliteType.elem) Tryd.func61 (by kernel_rfl) (by kernel_rfl) (by kernel_rfl) (by kernel_rfl)
  have h62 := @run_callFunc_extern Tryd.prog 62 _ (ReflectliteType.relation "Implements" ReflectliteType.implements_) Tryd.func62 (by kernel_rfl) (by kernel_rfl) (by kernel_rfl) (by kernel_rfl)
  have f24 := Tryd.valueOfP
  have f25 := Tryd.typeP
  have mK := Tryd.mKind
  have mE := Tryd.mElem
  have mI := Tryd.mImplements
  have kP := Tryd.kindP
  have kE := Tryd.kindE
  have eT := Tryd.elemT
  have iE := Tryd.implementsE
  obtain ⟨tt, xx, rfl⟩ := hW.iface
  obtain ⟨w1, hw1⟩ : ∃ w1, (w.alloc (.cells #[.pointer (some ⟨T, 0, none⟩)] 33)).alloc (.cells #[.pointer (some ⟨1, 33, none⟩), .pointer (some ⟨w.heap.size, 0, none⟩), .int .u64 150] 56) = w1 := ⟨_, rfl⟩
  have k1 : Grew w w1 := by rw [← hw1]; exact ((Kept.refl _ _).alloc _).alloc _
  have bV : Blk w1 w.heap.size 33 #[.pointer (some ⟨T, 0, none⟩)] := by rw [← hw1]; exact (Blk.new w _ _).alloc _
  have bX : Blk w1 (w.heap.size + 1) 56 #[.pointer (some ⟨1, 33, none⟩), .pointer (some ⟨w.heap.size, 0, none⟩), .int .u64 150] := by
    rw [← hw1]
    have h := Blk.new (w.alloc (.cells #[.pointer (some ⟨T, 0, none⟩)] 33)) 56 #[.pointer (some ⟨1, 33, none⟩), .pointer (some ⟨w.heap.size, 0, none⟩), .int .u64 150]
    rw [World.size_alloc] at h
    exact h
  have n26 := Tryd.isNilP ⟨w.heap.size, 0, none⟩ ⟨T, 0, none⟩ w1 (bV.cell 0)
  have hg := (hd.grew k1).1
  have x0 := bX.cell 0
  have x1 := bX.cell 1
  have x2 := bX.cell 2
  simp at x0 x1 x2
  have hAs := Lib.hid (as_miss w1 k _ e T w.heap.size (hW.grew k1))
  have K1 := Lib.hid k1
  clear hd hW k1 bV bX
  go_enter Tryd.func12, Tryd.ntmps12
  go_wp2_with fail
  refine hAs.out.mono ?_
  rintro r w2 ⟨rfl, k2⟩
  go_wp2_with fail
  go_ret
  exact ⟨rfl, K1.out.trans k2⟩
end Go.Proofs.YtpoccibneoankaaDoor
