/- Walks of functions that the law reaches, and plain laws, part 7 of 20: lemmas for the proof in the last text; no condition. Shortened by program. -/
import Derived.RangeFuncFrom
import Derived.RangeFuncWrites
import Derived.RangeFuncLeaves
import Derived.Shelf.Abstract
import Derived.OwnWalkIn
import Derived.TacticsInMore
import Derived.LoopNIn
import Derived.LoopIn
import Derived.WalkMore
import Derived.OrdersIn
import Derived.RangeFuncCalls
import Derived.Shelf.Strings.OnBuilder
import Derived.Shelf.Strconv.Itoa3
import Derived.Shelf.Strings.Search3
import Derived.Shelf.Strings.Repeat
import Derived.Shelf.LaysM
import Derived.Test.YtepelooebggliaaGreatDoorProg
import Derived.Lib.SliceRun
import Derived.RegionTactic
import Derived.Deep.DeepCutAuto
import Derived.Lib.Hide
import Derived.RangeFuncNested
import Derived.RangeFuncBox
import Derived.Sort.LoopGhostIn
import Derived.Test.YtepelooebggliaaGreatDoorOv0
import Derived.Test.YtepelooebggliaaGreatDoorOv2
import Derived.Test.YtepelooebggliaaGreatDoorOv3
import Derived.Test.YtepelooebggliaaGreatDoorOv5
open Go renaming World->A_,Calls->B_,Value->C_,OwnFrom->D_
open Go.Proofs.Tryz renaming prog->E_,underlying9->F_,underlying26->G_,underlying3->H_,underlying4->I_,underlying5->J_,underlying97->K_,underlying29->L_,results208->M_
open Array renaming getElem?_eq_some_iff->N_,replicate_succ->O_,replicate_zero->Pa
open Go.World renaming size_alloc->Pb,putObj_heap_other->Pc,putObj_heap_same->Pd,alloc_heap_new->Pe
open Go.IntWalk renaming i64_in->Pf
open List renaming getElem?_eq_some_iff->Pg,length_map->Ph,length_range->Pj,getElem?_map->Pk,take_of_length_le->Pm,length_cons->Pn,length_nil->Po,nil_append->Pp,range->Pq,drop_eq_getElem_cons->Pr,append_toArray->Ps,length_append->Pt,getElem_range->Pu,length_attach->Pv,size_toArray->Pw,push_toArray->Px,take_add_one->Py,getElem_map->Pz,all_eq_true->PA,cons_append->PB,take_prefix->PC
open Go.IntKind renaming i64->PD
open Go.Fence renaming wide->PE
open Int renaming toNat_natCast->PF,le_refl->PG
open Go.RowKit.Below renaming heap_alloc->PH
open Option renaming map_eq_some_iff->PI
open Nat renaming lt_or_ge->PJ,zero_add->PK,mul_one->PL,add_sub_cancel->PM,lt_trichotomy->PN
open Go.Lib renaming indexByte->PO
set_option maxHeartbeats 16000000
set_option maxRecDepth 100000
set_option linter.unusedVariables false
set_option linter.unusedSimpArgs false
namespace Go.Proofs.YtepelooebggliaaGreatDoor
open Go.RowKit Go.Shelf
theorem Ei {β:Type} (B g:Nat) (t:TypeId) (f:β->Array C_):D_ B (λ (s:β) W=>Ao W g t (f s)):=λ s A W row hs hg hr =>
 hs.grown hg (λ e=>by
  obtain⟨_,o,ho,hc⟩:=hr g e.symm;rw[show A.heap[g]? = some (.cells (f s) t (0,0)) from hs]at ho;cases ho;cases hc)
theorem O9 {β:Type} {F:Nat->Prop} {w:A_} {B:Nat} (hB:∀ k,B<=k->k<w.heap.size->F k):D_ B (λ (_:β) W=>Kept F w W):=λ s A W row hs hg hr =>
 hs.grown hg (λ k e=>by
  rcases PJ k w.heap.size with h | h
  ·exact .inl (hB k (hr k e).1 h)
  ·exact .inr h)
theorem Kv {β:Type} {w:A_} {B:Nat} (hB:w.heap.size<=B):D_ B (λ (_:β) W=>Af w W):=O9 (λ k h1 h2=>absurd h2 (by omega))
theorem tW {β:Type} (B base e size:Nat) (v:β->C_) (n:β->Nat) (xs:β->List C_):D_ B (λ (s:β) W=>W.ownsRow base e size (v s) (n s) (xs s)):=λ s A W row hs hg hr=>by
 refine⟨hs.1,?_⟩;rcases hs.2 with hn | ⟨g,cap,cur,hv,hb,jc,rest⟩
 ·exact .inl hn
 ·refine .inr ⟨g,cap,cur,hv,hb,(hg.block g (N_.1 jc).1 (λ e=>?_)).trans jc,rest⟩;obtain⟨_,o,ho,hc⟩:=hr g e.symm;rw[jc]at ho;cases ho;cases hc
theorem pC {β:Type} {B:Nat} (p:β->Prop):D_ B (λ (s:β) (_:A_)=>p s):=λ _ _ _ _ hs _ _=>hs
theorem Kept.putObj {F:Nat->Prop} {w W:A_} (h:Kept F w W) (D:Nat) (o':Obj) (hD:F D\/w.heap.size<=D):Kept F w (W.putObj D o') :=
 h.grown (grownBy_putObj' W D o') (λ k e=>by cases e;exact hD)
theorem Kept.from {F:Nat->Prop} {W W':A_} (h:Kept F W W') (B:Nat) (hF:∀ k,F k->k<B\/∀ o:Obj,W.heap[k]? = some o->o.isCells=true):KeepsFrom B W W' :=
 ⟨h.size,λ k o hB hk ho=>(h.block k (N_.1 hk).1 (λ f=>by
  rcases hF k f with h1 | h1
  ·omega
  ·rw[h1 o hk]at ho;cases ho)).trans hk⟩
theorem Kept.others {F:Nat->Prop} {W W':A_} (h:Kept F W W') (hF:∀ k,F k->∀ o:Obj,W.heap[k]? = some o->o.isCells=true):KeepsOthers W W' :=
 ⟨h.size,λ k o hk ho=>(h.block k (N_.1 hk).1 (λ f=>by rw[hF k f o hk]at ho;cases ho)).trans hk⟩
theorem Ao.iscells {w:A_} {g:Nat} {t:TypeId} {cs:Array C_} (h:Ao w g t cs) (o:Obj) (ho:w.heap[g]? = some o):o.isCells=true:=by
 rw[show w.heap[g]? = some (.cells cs t (0,0)) from h]at ho;cases ho;rfl
structure Bx (F:Nat->Prop) (w w':A_):Prop where
 size:w.heap.size<=w'.heap.size
 block:∀ (k:Nat) (o:Obj),w.heap[k]? = some o->o.isCells=true->¬ F k->w'.heap[k]? = some o
theorem Bx.refl (F:Nat->Prop) (w:A_):Bx F w w:=⟨zl _,λ _ _ h _ _=>h⟩
theorem Bx.trans {F:Nat->Prop} {a b c:A_} (h:Bx F a b) (k:Bx F b c):Bx F a c :=
 ⟨Nat.le_trans h.size k.size,λ i o hi ho hf=>k.block i o (h.block i o hi ho hf) ho hf⟩
theorem Bx.mono {F G:Nat->Prop} {a b:A_} (h:Bx F a b) (hFG:∀ k,F k->G k):Bx G a b :=
 ⟨h.size,λ i o hi ho hf=>h.block i o hi ho λ hF=>hf (hFG i hF)⟩
theorem Kept.keptC {F G:Nat->Prop} {a b:A_} (h:Kept F a b) (hFG:∀ k,F k->G k):Bx G a b :=
 ⟨h.size,λ i o hi _ hf=>(h.block i (N_.1 hi).1 (λ f=>hf (hFG i f))).trans hi⟩
theorem Bx.put {F:Nat->Prop} (W:A_) (l:Nat) (o o':Obj) (hl:W.heap[l]? = some o) (ho:o.isCells=false):Bx F W (W.putObj l o') :=
 ⟨(grownBy_putObj' W l o').size,λ i x hi hx _=>((grownBy_putObj' W l o').block i (N_.1 hi).1 (λ e=>by cases e;rw[hl]at hi;cases hi;rw[ho]at hx;cases hx)).trans hi⟩
theorem Bx.own {F:Nat->Prop} {w w':A_} (h:Bx F w w') {base n size:Nat} {e:TypeId} {v:C_} {xs:List C_} (ho:w.ownsRow base e size v n xs) (hf:∀ k,v.ownBlock=some k->¬ F k):w'.ownsRow base e size v n xs:=by
 refine⟨ho.1,?_⟩;rcases ho.2 with hn | ⟨g,cap,cur,hv,hb,jc,rest⟩
 ·exact .inl hn
 ·exact .inr ⟨g,cap,cur,hv,hb,h.block g _ jc rfl (hf g (by rw[hv];rfl)),rest⟩
theorem Bx.blk {F:Nat->Prop} {w w':A_} (h:Bx F w w') {g:Nat} {t:TypeId} {cs:Array C_} (hb:Ao w g t cs) (hf:¬ F g):Ao w' g t cs:=h.block g _ hb rfl hf
end Go.Proofs.YtepelooebggliaaGreatDoor
namespace Go.Proofs.YtepelooebggliaaGreatDoor
open Go.RowKit
def JH (Q:Exit->Act->A_->Prop):Exit->Act->A_->Prop
 | .outgrown,_,_=>False
 | e,a,w=>Q e a w
def Na (ops:Array Oper):Bool:=ops.all λ o=>match o.op with | .defer _=>false | _=>true
section
variable {P:Program} {ops:Array Oper} {Q:Exit->Act->A_->Prop} {md:Region.Mode} {E:List Nat} {F:Nat->Prop} {n l:Nat}
theorem eF {o:Oper} {a:Act} {w:A_} {K:Act->A_->Prop} (hd:∀ c,o.op≠.defer c) (h:o.wp P a w K (Calm (JH Q))):o.wpIn (PE.inRound l) n P a w K Q:=by
 refine⟨λ _ _=>trivial,?_⟩;rw[Oper.semAt_eq _ _ _ hd];unfold Oper.wp at h;generalize (execOp a.eval o).run P w=r at *;cases r with
 | ok x w' =>
  cases x<;>simp only[Oper.upon,Oper.uponIn]at h ⊢
  case value=>exact h
  case skip=>exact h
  case defer=>exact h
  case enter f args =>
   refine⟨(λ h=>by cases h),CallsIn.inRound l (callsIn_wide.2 (h.mono λ e rN he=>?_))⟩;cases e with
   | returned u=>exact he
   | panicked c=>exact(he:False).elim
   | outgrown=>obtain⟨_,_,hx⟩:=he;exact(hx:False).elim
  case row row args =>
   refine⟨(λ h=>by cases h),λ c cs _=>?_⟩;obtain⟨v,w',r,s⟩:=h c cs;exact⟨v,w',r,stepsIn_wide.2 s⟩
 | halt x w' =>
  cases x<;>simp only[Oper.upon,Oper.uponIn]at h ⊢
  case panic u=>exact(h:False).elim
theorem K8 (hnd:Na ops=true) {i:Nat} {K:Act->A_->Prop} {a:Act} {w:A_} (h:wpOp P ops (Calm (JH Q)) i K a w):wpOpIn (PE.inRound l) n P ops Q i K a w:=by
 unfold wpOp at h;unfold wpOpIn;cases ho:ops[i]? with
 | none=>rw[ho]at h;exact h
 | some o =>
  rw[ho]at h;simp only at h ⊢;have hd:∀ c,o.op≠.defer c:=λ c e=>by
   have h1:=Array.all_eq_true'.1 hnd o (Array.mem_of_getElem? ho);rw[e]at h1;cases h1
  split at h
  ·rename_i hw;rw[if_pos hw];rcases h with h | ⟨_,_,_,h⟩
   ·exact eF hd h
   ·exact(h:False).elim
  ·rename_i hw;rw[if_neg hw];exact⟨λ _ _=>trivial,h⟩
theorem Fs (hnd:Na ops=true):∀ (fuel:Nat) (listed:Array Bool) (a:Act) (w:A_),AM P md ops E F (Calm (JH Q)) fuel listed a w->wpAnyIn (PE.inRound l) n P md ops Q fuel listed a w
 | 0,_,_,_,h=>h
 | fuel+1,_,_,_,h=>⟨h.1,λ i hi=>K8 hnd (wpOp_mono (λ a' w' h'=>Fs hnd fuel _ a' w' h'.2) (h.2 i hi))⟩
theorem DB (E:List Nat) (F:Nat->Prop) {id:Nat} {a:Act} {w:A_} (hm:P.follows .mixedOrders=true) (hnd:Na ops=true)
  (h:AM P .any ops E F (Calm (JH Q)) ops.size (Array.replicate ops.size false) a w.drew):(Code.region id ops true).wpIn (PE.inRound l) n P Q a w :=
 wpIn_region_any hm (Fs hnd _ _ _ _ h)
end
end Go.Proofs.YtepelooebggliaaGreatDoor
namespace Go.Proofs
open Go.Shelf Go.RowKit Go.Lib
def Tryz.lays156_ren:Go.Shelf.Ren:=⟨fun | 156=>71 | 165=>113 | 166=>114 | 169=>115 | 240=>167 | 241=>168 | 276=>236 | 277=>237 | n=>n,fun | 31=>40 | 9=>9 | 3=>3 | 4=>4 | 0=>0 | 20=>20 | 72=>183 | 76=>187 | 70=>181 | 37=>97 | 75=>186 | 127=>254 | 164=>333 | 5=>5 | 80=>189 | n=>n,fun | n=>n⟩
theorem Tryz.lays156:Go.Proofs.Lays.n156 E_ Tryz.lays156_ren:={
 mixed:=by kernel_rfl
 f156:=Tryz.func71.trans (congrArg some (by kernel_rfl))
 f165:=Tryz.func113.trans (congrArg some (by kernel_rfl))
 f166:=Tryz.func114.trans (congrArg some (by kernel_rfl))
 f169:=Tryz.func115.trans (congrArg some (by kernel_rfl))
 f240:=Tryz.func167.trans (congrArg some (by kernel_rfl))
 f241:=Tryz.func168.trans (congrArg some (by kernel_rfl))
 f276:=Tryz.func236.trans (congrArg some (by kernel_rfl))
 f277:=Tryz.func237.trans (congrArg some (by kernel_rfl))
 t0:=Tryz.underlying0
 a0:=Tryz.isAgg0
 z0:=Tryz.sizeOf0
 v0:=Tryz.zeroValue0
 t3:=H_
 a3:=Tryz.isAgg3
 z3:=Tryz.sizeOf3
 v3:=Tryz.zeroValue3
 t4:=I_
 a4:=Tryz.isAgg4
 z4:=Tryz.sizeOf4
 v4:=Tryz.zeroValue4
 t9:=F_
 a9:=Tryz.isAgg9
 z9:=Tryz.sizeOf9
 v9:=Tryz.zeroValue9
 t20:=Tryz.underlying20
 a20:=Tryz.isAgg20
 z20:=Tryz.sizeOf20
 v20:=Tryz.zeroValue20
 t31:=Tryz.underlying40
 a31:=Tryz.isAgg40
 z31:=Tryz.sizeOf40
 v31:=Tryz.zeroValue40
 t37:=K_
 a37:=Tryz.isAgg97
 z37:=Tryz.sizeOf97
 v37:=Tryz.zeroValue97
 t70:=Tryz.underlying181
 a70:=Tryz.isAgg181
 z70:=Tryz.sizeOf181
 v70:=Tryz.zeroValue181
 t72:=Tryz.underlying183
 a72:=Tryz.isAgg183
 z72:=Tryz.sizeOf183
 v72:=Tryz.zeroValue183
 t75:=Tryz.underlying186
 a75:=Tryz.isAgg186
 z75:=Tryz.sizeOf186
 v75:=Tryz.zeroValue186
 t76:=Tryz.underlying187
 a76:=Tryz.isAgg187
 z76:=Tryz.sizeOf187
 v76:=Tryz.zeroValue187
 t127:=Tryz.underlying254
 a127:=Tryz.isAgg254
 z127:=Tryz.sizeOf254
 v127:=Tryz.zeroValue254
 t164:=Tryz.underlying333
 a164:=Tryz.isAgg333
 z164:=Tryz.sizeOf333
 v164:=Tryz.zeroValue333 }
theorem Tryz.Builder_Extra_156:Builder.Extra E_ Tryz.lays156_ren:={
 sizeBuilder:=by kernel_rfl
 liesBuilder:=by kernel_rfl
 t5:=J_
 a5:=Tryz.isAgg5
 z5:=Tryz.sizeOf5
 v5:=Tryz.zeroValue5
 infoByte:=by kernel_rfl
 cellsByte:=by kernel_rfl
 sizeByte:=by kernel_rfl
 neB5:=by decide }
theorem Tryz.strings_Join_none (a:Option Addr) (c:Nat) (sep:ByteArray) (w:A_) :
  B_ E_ 71 #[.slice a 0 c,.string sep] w λ e w'=>e=.returned (.string ⟨#[]⟩)/\w'=w:=Any.strings_Join_none Tryz.lays156 Tryz.Builder_Extra_156 a c sep w
theorem Tryz.strings_Join (bk o c:Nat) (xs:List ByteArray) (sep:ByteArray) (w:A_) (GQ:∀ (j:Nat) x,xs[j]? = some x->w.cell? ⟨bk,o+j,none⟩=some (.string x)) (hbk:bk<w.heap.size) (hN:xs.length<=140737488355328) (Bi:xs.length<=c) (hlen:(Lib.join (xs.map (·.data.toList)) sep.data.toList).length<=140737488355328) :
  B_ E_ 71 #[.slice (some ⟨bk,o,none⟩) xs.length c,.string sep] w λ e w'=>e=.returned (.string ⟨(Lib.join (xs.map (·.data.toList)) sep.data.toList).toArray⟩)/\Below w.heap.size w w':=Any.strings_Join Tryz.lays156 Tryz.Builder_Extra_156 bk o c xs sep w GQ hbk hN Bi hlen
def Tryz.lays283_ren:Go.Shelf.Ren:=⟨fun | 283=>231 | n=>n,fun | 3=>3 | 9=>9 | 4=>4 | n=>n,fun | n=>n⟩
theorem Tryz.lays283:Go.Proofs.Lays.n283 E_ Tryz.lays283_ren:={
 mixed:=by kernel_rfl
 f283:=Tryz.func231.trans (congrArg some (by kernel_rfl))
 t3:=H_
 a3:=Tryz.isAgg3
 z3:=Tryz.sizeOf3
 v3:=Tryz.zeroValue3
 t4:=I_
 a4:=Tryz.isAgg4
 z4:=Tryz.sizeOf4
 v4:=Tryz.zeroValue4
 t9:=F_
 a9:=Tryz.isAgg9
 z9:=Tryz.sizeOf9
 v9:=Tryz.zeroValue9 }
theorem Tryz.internal_strconv_small (i:Nat) (h:i<100) (w:A_) :
  B_ E_ 231 #[.int .i64 i] w λ e w'=>e=.returned (.string ⟨(Lib.decDigits i).toArray⟩)/\w'=w:=Any.internal_strconv_small Tryz.lays283 i h w
def Tryz.lays171_ren:Go.Shelf.Ren:=⟨fun | 171=>112 | 243=>166 | 246=>235 | 283=>231 | 284=>232 | 285=>233 | 286=>234 | 129=>307 | 317=>306 | 318=>308 | 319=>309 | 320=>310 | 337=>375 | 338=>376 | n=>n,fun | 3=>3 | 9=>9 | 2=>2 | 4=>4 | 171=>327 | 0=>0 | 53=>29 | 37=>97 | 5=>5 | 173=>330 | 212=>406 | 51=>339 | 20=>20 | 213=>407 | 46=>264 | 232=>531 | 233=>532 | n=>n,fun | 17=>0 | 18=>4 | 19=>5 | n=>n⟩
theorem Tryz.lays171:Go.Proofs.Lays.n171 E_ Tryz.lays171_ren:={
 mixed:=by kernel_rfl
 f129:=Tryz.func307.trans (congrArg some (by kernel_rfl))
 f171:=Tryz.func112.trans (congrArg some (by kernel_rfl))
 f243:=Tryz.func166.trans (congrArg some (by kernel_rfl))
 f246:=Tryz.func235.trans (congrArg some (by kernel_rfl))
 f283:=Tryz.func231.trans (congrArg some (by kernel_rfl))
 f284:=Tryz.func232.trans (congrArg some (by kernel_rfl))
 f285:=Tryz.func233.trans (congrArg some (by kernel_rfl))
 f286:=Tryz.func234.trans (congrArg some (by kernel_rfl))
 f317:=Tryz.func306.trans (congrArg some (by kernel_rfl))
 f318:=Tryz.func308.trans (congrArg some (by kernel_rfl))
 f319:=Tryz.func309.trans (congrArg some (by kernel_rfl))
 f320:=Tryz.func310.trans (congrArg some (by kernel_rfl))
 f337:=Tryz.func375.trans (congrArg some (by kernel_rfl))
 f338:=Tryz.func376.trans (congrArg some (by kernel_rfl))
 t0:=Tryz.underlying0
 a0:=Tryz.isAgg0
 z0:=Tryz.sizeOf0
 v0:=Tryz.zeroValue0
 t2:=Tryz.underlying2
 a2:=Tryz.isAgg2
 z2:=Tryz.sizeOf2
 v2:=Tryz.zeroValue2
 t3:=H_
 a3:=Tryz.isAgg3
 z3:=Tryz.sizeOf3
 v3:=Tryz.zeroValue3
 t4:=I_
 a4:=Tryz.isAgg4
 z4:=Tryz.sizeOf4
 v4:=Tryz.zeroValue4
 t5:=J_
 a5:=Tryz.isAgg5
 z5:=Tryz.sizeOf5
 v5:=Tryz.zeroValue5
 t9:=F_
 a9:=Tryz.isAgg9
 z9:=Tryz.sizeOf9
 v9:=Tryz.zeroValue9
 t20:=Tryz.underlying20
 a20:=Tryz.isAgg20
 z20:=Tryz.sizeOf20
 v20:=Tryz.zeroValue20
 t37:=K_
 a37:=Tryz.isAgg97
 z37:=Tryz.sizeOf97
 v37:=Tryz.zeroValue97
 t46:=Tryz.underlying264
 a46:=Tryz.isAgg264
 z46:=Tryz.sizeOf264
 v46:=Tryz.zeroValue264
 t51:=Tryz.underlying339
 a51:=Tryz.isAgg339
 z51:=Tryz.sizeOf339
 v51:=Tryz.zeroValue339
 t53:=L_
 a53:=Tryz.isAgg29
 z53:=Tryz.sizeOf29
 v53:=Tryz.zeroValue29
 t171:=Tryz.underlying327
 a171:=Tryz.isAgg327
 z171:=Tryz.sizeOf327
 v171:=Tryz.zeroValue327
 t173:=Tryz.underlying330
 a173:=Tryz.isAgg330
 z173:=Tryz.sizeOf330
 v173:=Tryz.zeroValue330
 t212:=Tryz.underlying406
 a212:=Tryz.isAgg406
 z212:=Tryz.sizeOf406
 v212:=Tryz.zeroValue406
 t213:=Tryz.underlying407
 a213:=Tryz.isAgg407
 z213:=Tryz.sizeOf407
 t232:=Tryz.underlying531
 a232:=Tryz.isAgg531
 z232:=Tryz.sizeOf531
 v232:=Tryz.zeroValue531
 t233:=Tryz.underlying532
 a233:=Tryz.isAgg532
 z233:=Tryz.sizeOf532
 v233:=Tryz.zeroValue532
 g17:=by kernel_rfl
 g18:=by kernel_rfl
 g19:=by kernel_rfl }
theorem Tryz.strconv_Itoa_small (i:Nat) (hi:i<100) (w:A_) :
  B_ E_ 112 #[.int .i64 i] w λ e w'=>e=.returned (.string ⟨(Lib.decDigits i).toArray⟩)/\w'=w:=Any.strconv_Itoa_small Tryz.lays171 i hi w
def Tryz.lays143_ren:Go.Shelf.Ren:=⟨fun | 143=>241 | 219=>312 | 217=>377 | 225=>378 | 224=>379 | 267=>380 | 266=>438 | 314=>439 | n=>n,fun | 9=>9 | 3=>3 | 4=>4 | 5=>5 | 46=>264 | 146=>340 | 51=>339 | n=>n,fun | 1=>1 | n=>n⟩
theorem Tryz.lays143:Go.Proofs.Lays.n143 E_ Tryz.lays143_ren:={
 mixed:=by kernel_rfl
 f143:=Tryz.func241.trans (congrArg some (by kernel_rfl))
 f217:=Tryz.func377.trans (congrArg some (by kernel_rfl))
 f219:=Tryz.func312.trans (congrArg some (by kernel_rfl))
 f224:=Tryz.func379.trans (congrArg some (by kernel_rfl))
 f225:=Tryz.func378.trans (congrArg some (by kernel_rfl))
 f266:=Tryz.func438.trans (congrArg some (by kernel_rfl))
 f267:=Tryz.func380.trans (congrArg some (by kernel_rfl))
 f314:=Tryz.func439.trans (congrArg some (by kernel_rfl))
 t3:=H_
 a3:=Tryz.isAgg3
 z3:=Tryz.sizeOf3
 v3:=Tryz.zeroValue3
 t4:=I_
 a4:=Tryz.isAgg4
 z4:=Tryz.sizeOf4
 v4:=Tryz.zeroValue4
 t5:=J_
 a5:=Tryz.isAgg5
 z5:=Tryz.sizeOf5
 v5:=Tryz.zeroValue5
 t9:=F_
 a9:=Tryz.isAgg9
 z9:=Tryz.sizeOf9
 v9:=Tryz.zeroValue9
 t46:=Tryz.underlying264
 a46:=Tryz.isAgg264
 z46:=Tryz.sizeOf264
 v46:=Tryz.zeroValue264
 t51:=Tryz.underlying339
 a51:=Tryz.isAgg339
 z51:=Tryz.sizeOf339
 v51:=Tryz.zeroValue339
 t146:=Tryz.underlying340
 a146:=Tryz.isAgg340
 z146:=Tryz.sizeOf340
 v146:=Tryz.zeroValue340
 g1:=by kernel_rfl }
theorem Tryz.strings_Index_one (s:ByteArray) (c:UInt8) (w:A_) :
  B_ E_ 241 #[.string s,.string ⟨#[c]⟩] w λ e w'=>e=.returned (.int .i64 (PO s.data.toList c))/\w'=w:=Any.strings_Index_one Tryz.lays143 s c w
def Tryz.lays105_ren:Go.Shelf.Ren:=⟨fun | 105=>129 | 212=>178 | 99=>179 | 165=>113 | 166=>114 | 170=>180 | 169=>115 | 263=>242 | 264=>183 | 206=>243 | 240=>167 | 241=>168 | 276=>236 | 277=>237 | n=>n,fun | 9=>9 | 3=>3 | 4=>4 | 20=>20 | 0=>0 | 46=>264 | 109=>265 | 5=>5 | 72=>183 | 76=>187 | 51=>339 | 146=>340 | 53=>29 | 148=>270 | 70=>181 | 37=>97 | 75=>186 | 127=>254 | 164=>333 | 80=>189 | n=>n,fun | n=>n⟩
theorem Tryz.lays105:Go.Proofs.Lays.n105 E_ Tryz.lays105_ren:={
 mixed:=by kernel_rfl
 f99:=Tryz.func179.trans (congrArg some (by kernel_rfl))
 f105:=Tryz.func129.trans (congrArg some (by kernel_rfl))
 f165:=Tryz.func113.trans (congrArg some (by kernel_rfl))
 f166:=Tryz.func114.trans (congrArg some (by kernel_rfl))
 f169:=Tryz.func115.trans (congrArg some (by kernel_rfl))
 f170:=Tryz.func180.trans (congrArg some (by kernel_rfl))
 f206:=Tryz.func243.trans (congrArg some (by kernel_rfl))
 f212:=Tryz.func178.trans (congrArg some (by kernel_rfl))
 f240:=Tryz.func167.trans (congrArg some (by kernel_rfl))
 f241:=Tryz.func168.trans (congrArg some (by kernel_rfl))
 f263:=Tryz.func242.trans (congrArg some (by kernel_rfl))
 f264:=Tryz.func183.trans (congrArg some (by kernel_rfl))
 f276:=Tryz.func236.trans (congrArg some (by kernel_rfl))
 f277:=Tryz.func237.trans (congrArg some (by kernel_rfl))
 t0:=Tryz.underlying0
 a0:=Tryz.isAgg0
 z0:=Tryz.sizeOf0
 v0:=Tryz.zeroValue0
 t3:=H_
 a3:=Tryz.isAgg3
 z3:=Tryz.sizeOf3
 v3:=Tryz.zeroValue3
 t4:=I_
 a4:=Tryz.isAgg4
 z4:=Tryz.sizeOf4
 v4:=Tryz.zeroValue4
 t5:=J_
 a5:=Tryz.isAgg5
 z5:=Tryz.sizeOf5
 v5:=Tryz.zeroValue5
 t9:=F_
 a9:=Tryz.isAgg9
 z9:=Tryz.sizeOf9
 v9:=Tryz.zeroValue9
 t20:=Tryz.underlying20
 a20:=Tryz.isAgg20
 z20:=Tryz.sizeOf20
 v20:=Tryz.zeroValue20
 t37:=K_
 a37:=Tryz.isAgg97
 z37:=Tryz.sizeOf97
 v37:=Tryz.zeroValue97
 t46:=Tryz.underlying264
 a46:=Tryz.isAgg264
 z46:=Tryz.sizeOf264
 v46:=Tryz.zeroValue264
 t51:=Tryz.underlying339
 a51:=Tryz.isAgg339
 z51:=Tryz.sizeOf339
 v51:=Tryz.zeroValue339
 t53:=L_
 a53:=Tryz.isAgg29
 z53:=Tryz.sizeOf29
 v53:=Tryz.zeroValue29
 t70:=Tryz.underlying181
 a70:=Tryz.isAgg181
 z70:=Tryz.sizeOf181
 v70:=Tryz.zeroValue181
 t72:=Tryz.underlying183
 a72:=Tryz.isAgg183
 z72:=Tryz.sizeOf183
 v72:=Tryz.zeroValue183
 t75:=Tryz.underlying186
 a75:=Tryz.isAgg186
 z75:=Tryz.sizeOf186
 v75:=Tryz.zeroValue186
 t76:=Tryz.underlying187
 a76:=Tryz.isAgg187
 z76:=Tryz.sizeOf187
 v76:=Tryz.zeroValue187
 t109:=Tryz.underlying265
 a109:=Tryz.isAgg265
 z109:=Tryz.sizeOf265
 v109:=Tryz.zeroValue265
 t127:=Tryz.underlying254
 a127:=Tryz.isAgg254
 z127:=Tryz.sizeOf254
 v127:=Tryz.zeroValue254
 t146:=Tryz.underlying340
 a146:=Tryz.isAgg340
 z146:=Tryz.sizeOf340
 v146:=Tryz.zeroValue340
 t148:=Tryz.underlying270
 a148:=Tryz.isAgg270
 z148:=Tryz.sizeOf270
 v148:=Tryz.zeroValue270
 t164:=Tryz.underlying333
 a164:=Tryz.isAgg333
 z164:=Tryz.sizeOf333
 v164:=Tryz.zeroValue333 }
end Go.Proofs
namespace Go.Proofs.YtepelooebggliaaGreatDoor.Ad
open Go.RowKit
def cnt (key:Nat->Nat) (v:Nat):Nat->Nat
 | 0=>0
 | k+1=>cnt key v k+(if key k=v then 1 else 0)
def pre (key:Nat->Nat) (m:Nat):Nat->Nat
 | 0=>0
 | v+1=>pre key m v+cnt key v m
def rowN (key:Nat->Nat) (v:Nat):Nat->List Nat
 | 0=>[]
 | k+1=>rowN key v k++(if key k=v then [k] else [])
theorem Jq {key:Nat->Nat} {v k:Nat} (h:key k=v):cnt key v (k+1)=cnt key v k+1:=by simp[cnt,h]
theorem cF {key:Nat->Nat} {v k:Nat} (h:key k≠v):cnt key v (k+1)=cnt key v k:=by simp[cnt,h]
theorem aH {key:Nat->Nat} {v k:Nat} (h:key k=v):rowN key v (k+1)=rowN key v k++[k]:=by simp[rowN,h]
theorem gd {key:Nat->Nat} {v k:Nat} (h:key k≠v):rowN key v (k+1)=rowN key v k:=by simp[rowN,h]
theorem Ew (key:Nat->Nat) (v:Nat):∀ k,(rowN key v k).length=cnt key v k
 | 0=>rfl
 | k+1=>by
  by_cases h:key k=v
  ·rw[aH h,Jq h,Pt,Ew key v k];rfl
  ·rw[gd h,cF h,Ew key v k]
theorem MI (key:Nat->Nat) (v:Nat):∀ k,cnt key v k<=k
 | 0=>zl _
 | k+1=>by
  have:=MI key v k;simp only[cnt];split<;>omega
theorem Oh (key:Nat->Nat) (v:Nat) {j:Nat}:∀ {k:Nat},j<=k->cnt key v j<=cnt key v k
 | 0,h=>by
  obtain rfl:j=0:=(by omega);exact zl _
 | k+1,h=>by
  rcases PJ j (k+1) with hl | hl
  ·have:=Oh key v (j:=j) (k:=k) (by omega);simp only[cnt];omega
  ·obtain rfl:j=k+1:=(by omega);exact zl _
theorem JR {key:Nat->Nat} {v j k:Nat} (h:key j=v) (hj:j<k):cnt key v j<cnt key v k:=by
 have h1:=Jq h;have h2:=Oh key v (j:=j+1) (k:=k) (by omega);omega
theorem sx {key:Nat->Nat} {v i j:Nat} (hi:key i=v) (hj:key j=v) (h:cnt key v i=cnt key v j):i=j:=by
 rcases PN i j with h1 | h1 | h1
 ·have:=JR hi h1;omega
 ·exact h1
 ·have:=JR hj h1;omega
theorem Nt (key:Nat->Nat) (v:Nat):∀ (k r j:Nat),(rowN key v k)[r]? = some j->key j=v/\cnt key v j=r/\j<k
 | 0,r,j,h=>by simp[rowN]at h
 | k+1,r,j,h=>by
  by_cases hk:key k=v
  ·rw[aH hk]at h;rcases PJ r (rowN key v k).length with hl | hl
   ·rw[List.getElem?_append_left hl]at h;obtain⟨a,b,c⟩:=Nt key v k r j h;exact⟨a,b,by omega⟩
   ·rw[List.getElem?_append_right hl]at h;rw[Ew]at hl h;have hr:r-cnt key v k=0:=by
     rcases Nat.eq_zero_or_pos (r-cnt key v k) with h0 | h0
     ·exact h0
     ·rw[List.getElem?_eq_none (by simp;omega)]at h;cases h
    rw[hr]at h;obtain rfl:k=j:=(by simpa using h);exact⟨hk,by omega,by omega⟩
  ·rw[gd hk]at h;obtain⟨a,b,c⟩:=Nt key v k r j h;exact⟨a,b,by omega⟩
theorem ab (key:Nat->Nat) (m:Nat):∀ n,pre key (m+1) n=pre key m n+(if key m<n then 1 else 0)
 | 0=>by simp[pre]
 | n+1=>by
  simp only[pre,ab key m n,cnt];by_cases h1:key m<n
  ·rw[if_pos h1,if_neg (by omega),if_pos (by omega)];omega
  ·rw[if_neg h1];by_cases h2:key m=n
   ·rw[if_pos h2,if_pos (by omega)];omega
   ·rw[if_neg h2,if_neg (by omega)];omega
theorem ae (key:Nat->Nat):∀ n,pre key 0 n=0
 | 0=>rfl
 | n+1=>by simp[pre,cnt,ae key n]
theorem Nf (key:Nat->Nat) (n:Nat):∀ m,(∀ k,k<m->key k<n)->pre key m n=m
 | 0,_=>ae key n
 | m+1,h=>by rw[ab,Nf key n m (λ k hk=>h k (by omega)),if_pos (h m (by omega))]
theorem FW (key:Nat->Nat) (m:Nat) {u:Nat}:∀ {v:Nat},u<=v->pre key m u<=pre key m v
 | 0,h=>by
  obtain rfl:u=0:=(by omega);exact zl _
 | v+1,h=>by
  rcases PJ u (v+1) with hl | hl
  ·have:=FW key m (u:=u) (v:=v) (by omega);simp only[pre];omega
  ·obtain rfl:u=v+1:=(by omega);exact zl _
theorem Kw {key:Nat->Nat} {m n j:Nat} (hk:∀ k,k<m->key k<n) (hj:j<m):pre key m (key j)+cnt key (key j) j<m:=by
 have h1:=JR (key:=key) (v:=key j) rfl hj;have h2:pre key m (key j)+cnt key (key j) m=pre key m (key j+1):=rfl;have h3:=FW key m (u:=key j+1) (v:=n) (hk j hj);rw[Nf key n m hk]at h3;omega
theorem j9 {key:Nat->Nat} {m i j:Nat} (hi:i<m) (hj:j<m) (h:pre key m (key i)+cnt key (key i) i=pre key m (key j)+cnt key (key j) j):i=j:=by
 have a1:=JR (key:=key) (v:=key i) rfl hi;have a2:=JR (key:=key) (v:=key j) rfl hj;have b1:pre key m (key i)+cnt key (key i) m=pre key m (key i+1):=rfl;have b2:pre key m (key j)+cnt key (key j) m=pre key m (key j+1):=rfl;rcases PN (key i) (key j) with h1 | h1 | h1
 ·have:=FW key m (u:=key i+1) (v:=key j) h1;omega
 ·rw[h1]at h a1;exact sx (v:=key j) h1 rfl (by omega)
 ·have:=FW key m (u:=key j+1) (v:=key i) h1;omega
def IntsF (w:A_) (g n:Nat) (f:Nat->Int):Prop:=∃ cur,Ao w g 3 cur/\∀ i,i<n->cur[i]? = some (i64 (f i))
abbrev rowV (g n:Nat):C_:=.slice (some ⟨g,0,none⟩) n n
theorem IntsF.lt {w:A_} {g n:Nat} {f:Nat->Int} (h:IntsF w g n f):g<w.heap.size:=h.elim λ _ h=>h.1.lt
theorem IntsF.cell {w:A_} {g n i:Nat} {f:Nat->Int} (h:IntsF w g n f) (hi:i<n):w.cell? ⟨g,i,none⟩=some (i64 (f i)):=by
 obtain⟨cur,h,hc⟩:=h;rw[h.cell i,hc i hi]
theorem IntsF.frozen {w:A_} {g n:Nat} {f:Nat->Int} (h:IntsF w g n f) (i:Nat):w.frozen? ⟨g,i,none⟩=false:=h.elim λ _ h=>h.1.frozen i
theorem IntsF.kept {F:Nat->Prop} {w w':A_} {g n:Nat} {f:Nat->Int} (h:IntsF w g n f) (k:Kept F w w') (hF:¬ F g):IntsF w' g n f:=h.imp λ _ h=>⟨h.1.kept k hF,h.2⟩
theorem IntsF.grew {w w':A_} {g n:Nat} {f:Nat->Int} (h:IntsF w g n f) (k:Af w w'):IntsF w' g n f:=h.kept k λ h=>h
theorem IntsF.drew {w:A_} {g n:Nat} {f:Nat->Int} (h:IntsF w g n f):IntsF w.drew g n f:=h
theorem IntsF.alloc {w:A_} {g n:Nat} {f:Nat->Int} (h:IntsF w g n f) (o:Obj):IntsF (w.alloc o) g n f:=h.imp λ _ h=>⟨h.1.alloc o,h.2⟩
theorem IntsF.far {w:A_} {g n:Nat} {f:Nat->Int} (h:IntsF w g n f) {p:Addr} (hp:g≠p.block) (u:C_):IntsF (w.setCell p u) g n f:=h.imp λ _ h=>⟨h.1.far hp u,h.2⟩
theorem IntsF.congr {w:A_} {g n:Nat} {f f':Nat->Int} (h:IntsF w g n f) (hf:∀ i,i<n->f i=f' i):IntsF w g n f':=h.imp λ _ h=>⟨h.1,λ i hi=>by rw[<- hf i hi];exact h.2 i hi⟩
theorem IntsF.set {w:A_} {g n i:Nat} {f f':Nat->Int} (h:IntsF w g n f) (hi:i<n) (b:Int) (h1:f' i=b) (h2:∀ j,j<n->j≠i->f' j=f j):IntsF (w.setCell ⟨g,i,none⟩ (i64 b)) g n f':=by
 obtain⟨cur,h,hc⟩:=h;refine⟨_,h.set i (i64 b),λ j hj=>?_⟩;by_cases hji:j=i
 ·subst hji;have hs:=(N_.1 (hc j hj)).1;rw[Array.getElem?_setIfInBounds_self_of_lt hs,h1]
 ·rw[Array.getElem?_setIfInBounds_ne (λ e=>hji e.symm),hc j hj,h2 j hj hji]
theorem made_of {W:A_} {g m:Nat} (h:Ao W g 3 (madeCells #[i64 0] m)):IntsF W g m (λ _=>0):=⟨_,h,λ i hi=>by simp[madeCells,Value.cells,hi,Nat.mod_one]⟩
theorem IntsF.row {w:A_} {g n off:Nat} {f:Nat->Int} (h:IntsF w g n f) (zs:List Int) (hz:∀ i z,zs[i]? = some z->off+i<n/\f (off+i)=z):RowI w (some ⟨g,off,none⟩) zs:=λ i z hi=>by
 obtain⟨h1,h2⟩:=hz i z hi;exact⟨g,off,rfl,h.lt,by rw[h.cell h1,h2]⟩
theorem Ku {w:A_} {B n:Nat} {v:C_} {f:Nat->Int} (h:AS w B v ((Pq n).map f)) (hn:0<n):∃ g c,v=.slice (some ⟨g,0,none⟩) n c/\B<=g/\IntsF w g n f:=by
 rcases h.2 with ⟨hv,h0⟩ | ⟨g,cap,cur,hv,hb,hg,h1,h2,h3,h4⟩
 ·simp at h0;omega
 ·simp only[Ph,Pj]at hv h4;refine⟨g,cap,hv,hb,cur,hg,λ i hi=>?_⟩;have h5:(cur.toList.take (n*1))[i]? = (((Pq n).map f).map i64)[i]? := (by rw[h4]);rw[List.getElem?_take,if_pos (by omega)]at h5;rw[<- Array.getElem?_toList,h5];simp[hi]
theorem jx (w:A_) (B:Nat) (hB:B<=w.heap.size):(w.alloc (.cells #[] 3)).ownsRow B 3 1 (.slice (some ⟨w.heap.size,0,none⟩) 0 0) 0 [] :=
 ⟨rfl,.inr ⟨w.heap.size,0,#[],rfl,hB,heap_alloc_new w _,zl _,by unfold maxLen;omega,rfl,rfl⟩⟩
theorem Ke (w:A_) (A:Option Addr) (c:Nat) (zs:List Int) (h:RowI w A zs) (hA:A=none->zs=[]) (hl:zs.length<=70000):B_ E_ 81 #[.slice A zs.length c] w λ e w'=>∃ v',e=.returned v'/\AS w' w.heap.size v' zs/\Af w w':=by
 obtain⟨i0,hi,BZ,BG,B4⟩:=info_parts info_int;have hq:=λ w a n c=>Lib.run_eql_slice_nil (P:=E_) w 26 3 a n c 0 0 G_;cases A with
 | none =>
  obtain rfl:=hA rfl;clear h hA;simp only[Po];go_enter Tryz.func81,Tryz.ntmps81;go_wp2;go_ret;exact⟨_,rfl,World.ownsRow_nil _ _ _ _,zr _ _⟩
 | some a =>
  have hn:Hid (∀ j u,(zs.map i64)[j]? = some u->(w.alloc (.cells #[] 3)).cell? (a.add j)=some u):=by
   intro j u hj;rw[Pk]at hj;obtain⟨x,hx,rfl⟩:=PI.1 hj;obtain⟨b,off,ha,hb,hc⟩:=h j x hx;cases ha;have ha:(⟨b,off,none⟩:Addr).add j=⟨b,off+j,none⟩:=by unfold Addr.add;split<;>simp_all
   rw[ha];exact ze ((zr _ _).alloc _) hc
  have hE:=zh (jx w w.heap.size (zl _));have h1:Hid (∀ u∈zs.map i64,u.oneCell'=true):=by
   intro u hu;obtain⟨x,_,rfl⟩:=List.mem_map.1 hu;rfl
  have hL:=zh (show (zs.map i64).length=zs.length*1 by rw[Ph,PL]);clear h hA;go_enter Tryz.func81,Tryz.ntmps81;go_wp2_with (at_builtin;refine wpList_append_own _ rfl (.tmp 5) (.tmp 6) 26 (by rfl) w.heap.size 3 i0 (.int .i64 0) 1 8 G_ hi BZ BG B4 (by rfl) (by omega) _ 0 [] rfl hE.out a zs.length c (zs.map i64) rfl hL.out hn.out h1.out (by unfold maxLen;omega) (by omega) (by simp) ?_;intro v' w1 AV hg _);rw[PK,Pp]at AV;go_wp2_with fail;go_ret;exact⟨_,rfl,AV,((zr (λ _=>False) w).alloc _).grown hg (λ k hk=>by cases hk;exact .inr (zl _))⟩
theorem nl (p q r:Int) (w:A_):B_ E_ 209 #[.agg #[i64 p,i64 q,u64 r]] w λ e w'=>e=.returned (i64 p)/\Af w w':=by
 go_enter Tryz.func209,Tryz.ntmps209;go_wp2;go_ret;exact⟨rfl,(zr _ _).alloc _⟩
theorem to_any (p q r:Int) (w:A_):B_ E_ 210 #[.agg #[i64 p,i64 q,u64 r]] w λ e w'=>e=.returned (i64 q)/\Af w w':=by
 go_enter Tryz.func210,Tryz.ntmps210;go_wp2;go_ret;exact⟨rfl,(zr _ _).alloc _⟩
theorem _root_.Go.Proofs.YtepelooebggliaaGreatDoor.RowI.nil (w:A_) (A:Option Addr):RowI w A []:=by intro i e he;simp at he
end Go.Proofs.YtepelooebggliaaGreatDoor.Ad
namespace Go.Proofs.YtepelooebggliaaGreatDoor.Ad
open Go.RowKit
structure Laid (w:A_) (gE gB n m:Nat) (key:Nat->Nat) (f:Nat->Int):Prop where
 begin:IntsF w gB (n+1) (λ v=>(pre key m v:Int))
 edges:IntsF w gE m f
 place:∀ j,j<m->f (pre key m (key j)+cnt key (key j) j)=(j:Int)
 keys:∀ j,j<m->key j<n
theorem Laid.grew {w w':A_} {gE gB n m:Nat} {key:Nat->Nat} {f:Nat->Int} (h:Laid w gE gB n m key f) (k:Af w w'):Laid w' gE gB n m key f:=⟨h.begin.grew k,h.edges.grew k,h.place,h.keys⟩
theorem Laid.kept {F:Nat->Prop} {w w':A_} {gE gB n m:Nat} {key:Nat->Nat} {f:Nat->Int} (h:Laid w gE gB n m key f) (k:Kept F w w') (h1:¬ F gE) (h2:¬ F gB):Laid w' gE gB n m key f:=⟨h.begin.kept k h2,h.edges.kept k h1,h.place,h.keys⟩
def gh (gE gB n m:Nat):C_:=.agg #[rowV gE m,rowV gB (n+1)]
def MF (key:Nat->Nat) (k:Nat):Nat->Int:=λ j=>if j=0 then 0 else (cnt key (j-1) k:Int)
def Ld (key:Nat->Nat) (m v:Nat):Nat->Int:=λ j=>if j<=v then (pre key m j:Int) else (cnt key (j-1) m:Int)
theorem Oc (key:Nat->Nat) (k:Nat):(∀ j,j≠key k+1->MF key (k+1) j=MF key k j)/\MF key (k+1) (key k+1)=MF key k (key k+1)+1:=by
 refine⟨λ j hj=>?_,?_⟩
 ·unfold MF;split
  ·rfl
  ·rw[cF (by omega)]
 ·unfold MF;rw[if_neg (by omega),if_neg (by omega),PM,Jq rfl];omega
theorem LQ (key:Nat->Nat) (m:Nat):MF key m=Ld key m 0:=by
 funext j;unfold MF Ld;by_cases h:j=0
 ·subst h;rfl
 ·rw[if_neg h,if_neg (by omega)]
theorem Od (key:Nat->Nat) (m v:Nat):(∀ j,j≠v+1->Ld key m (v+1) j=Ld key m v j)/\Ld key m (v+1) (v+1)=Ld key m v (v+1)+Ld key m v v:=by
 refine⟨λ j hj=>?_,?_⟩
 ·unfold Ld;by_cases h:j<=v
  ·rw[if_pos h,if_pos (by omega)]
  ·rw[if_neg h,if_neg (by omega)]
 ·unfold Ld;rw[if_pos (zl _),if_neg (by omega),if_pos (zl _),PM];simp only[pre];omega
theorem mK (key:Nat->Nat) (k j:Nat):0<=MF key k j/\MF key k j<=k:=by
 unfold MF;split
 ·omega
 ·have:=MI key (j-1) k;omega
theorem pE (key:Nat->Nat) (m n v:Nat) (hk:∀ j,j<m->key j<n) (hv:v<=n):pre key m v<=m:=by
 have:=FW key m hv;rw[Nf key n m hk]at this;exact this
theorem MG (key:Nat->Nat) (m n v j:Nat) (hk:∀ j,j<m->key j<n) (hv:v<=n):0<=Ld key m v j/\Ld key m v j<=m:=by
 unfold Ld;split
 ·rename_i h;have:=pE key m n j hk (by omega);omega
 ·have:=MI key (j-1) m;omega
structure P1 (w wr:A_) (gR gE gB r6 n m:Nat) (fE fB:Nat->Int):Prop where
 bR:Ao wr gR 297 #[rowV gE m,rowV gB (n+1)]
 iE:IntsF wr gE m fE
 iB:IntsF wr gB (n+1) fB
 b6:Ao wr r6 297 #[.slice none 0 0,.slice none 0 0]
 kept:Af w wr
theorem three (w:A_) (o1 o2 o3:Obj):(((w.alloc o1).alloc o2).alloc o3).drew.heap[w.heap.size]? = some o1/\(((w.alloc o1).alloc o2).alloc o3).drew.heap[w.heap.size+1]? = some o2/\(((w.alloc o1).alloc o2).alloc o3).drew.heap[w.heap.size+1+1]? = some o3/\Af w (((w.alloc o1).alloc o2).alloc o3).drew:=by
 refine⟨?_,?_,?_,((((zr _ _).alloc _).alloc _).alloc _).drew⟩
 ·exact((PH _ o3 _ (by simp;omega)).trans (PH _ o2 _ (by simp))).trans (heap_alloc_new w o1)
 ·have h:=heap_alloc_new (w.alloc o1) o2;rw[Pb]at h;exact(PH _ o3 _ (by simp)).trans h
 ·have h:=heap_alloc_new ((w.alloc o1).alloc o2) o3;rw[Pb,Pb]at h;exact h
section
variable {w wr w':A_} {gR gE gB r6 n m:Nat} {fE fB:Nat->Int}
theorem P1.grew (h:P1 w wr gR gE gB r6 n m fE fB) (k:Af wr w'):P1 w w' gR gE gB r6 n m fE fB:=⟨h.bR.grew k,h.iE.grew k,h.iB.grew k,h.b6.grew k,h.kept.trans k⟩
theorem P1.setB (h:P1 w wr gR gE gB r6 n m fE fB) (h1:gB≠gR) (h2:gB≠gE) (h3:r6≠gB) (hw:w.heap.size<=gB) {i:Nat} (hi:i<n+1) {fB':Nat->Int} (b:Int) (e1:fB' i=b) (e2:∀ j,j≠i->fB' j=fB j) :
  P1 w (wr.setCell ⟨gB,i,none⟩ (i64 b)) gR gE gB r6 n m fE fB' :=
 ⟨h.bR.far (p:=⟨gB,i,none⟩) (λ e=>h1 e.symm) _,h.iE.far (p:=⟨gB,i,none⟩) (λ e=>h2 e.symm) _,h.iB.set hi b e1 (λ j _=>e2 j),h.b6.far (p:=⟨gB,i,none⟩) h3 _,h.kept.setCell (p:=⟨gB,i,none⟩) (.inr hw) _⟩
theorem P1.setE (h:P1 w wr gR gE gB r6 n m fE fB) (h1:gE≠gR) (h2:gE≠gB) (h3:r6≠gE) (hw:w.heap.size<=gE) {i:Nat} (hi:i<m) {fE':Nat->Int} (b:Int) (e1:fE' i=b) (e2:∀ j,j≠i->fE' j=fE j) :
  P1 w (wr.setCell ⟨gE,i,none⟩ (i64 b)) gR gE gB r6 n m fE' fB :=
 ⟨h.bR.far (p:=⟨gE,i,none⟩) (λ e=>h1 e.symm) _,h.iE.set hi b e1 (λ j _=>e2 j),h.iB.far (p:=⟨gE,i,none⟩) (λ e=>h2 e.symm) _,h.b6.far (p:=⟨gE,i,none⟩) h3 _,h.kept.setCell (p:=⟨gE,i,none⟩) (.inr hw) _⟩
theorem P1.setA (h:P1 w wr gR gE gB r6 n m fE fB) {gA:Nat} (h1:gA≠gR) (h2:gA≠gE) (h3:gA≠gB) (h4:gA≠r6) (hw:w.heap.size<=gA) (i:Nat) (u:C_):P1 w (wr.setCell ⟨gA,i,none⟩ u) gR gE gB r6 n m fE fB :=
 ⟨h.bR.far (p:=⟨gA,i,none⟩) (λ e=>h1 e.symm) _,h.iE.far (p:=⟨gA,i,none⟩) (λ e=>h2 e.symm) _,h.iB.far (p:=⟨gA,i,none⟩) (λ e=>h3 e.symm) _,h.b6.far (p:=⟨gA,i,none⟩) (λ e=>h4 e.symm) _,h.kept.setCell (p:=⟨gA,i,none⟩) (.inr hw) _⟩
theorem P1.lt (h:P1 w wr gR gE gB r6 n m fE fB):gR<wr.heap.size/\gE<wr.heap.size/\gB<wr.heap.size/\r6<wr.heap.size:=⟨h.bR.lt,h.iE.lt,h.iB.lt,h.b6.lt⟩
end
def atF (key:Nat->Nat) (m k:Nat):Nat->Int:=λ v=>((pre key m v+cnt key v k:Nat):Int)
theorem N9 (key:Nat->Nat) (m k:Nat):(∀ j,j≠key k->atF key m (k+1) j=atF key m k j)/\atF key m (k+1) (key k)=atF key m k (key k)+1:=by
 refine⟨λ j hj=>?_,?_⟩
 ·unfold atF;rw[cF (λ e=>hj e.symm)]
 ·unfold atF;rw[Jq rfl];omega
theorem Mh {key:Nat->Nat} {m k:Nat} {f:Nat->Int} (hk:k<m) (hf:∀ j,j<k->f (pre key m (key j)+cnt key (key j) j)=(j:Int)) :
  ∀ j,j<k+1->(λ i=>if i=pre key m (key k)+cnt key (key k) k then (k:Int) else f i) (pre key m (key j)+cnt key (key j) j)=(j:Int):=by
 intro j hj
 show (if _ then _ else _)=_
 split
 ·rename_i h;rw[j9 (by omega) hk h]
 ·rename_i h;refine hf j ?_;rcases PJ j k with h1 | h1
  ·exact h1
  ·obtain rfl:j=k:=(by omega);exact absurd rfl h
end Go.Proofs.YtepelooebggliaaGreatDoor.Ad
namespace Go.Proofs.YtepelooebggliaaGreatDoor.Ad
open Go.RowKit
theorem jE (kf:AJ->Int) (key:Nat->Nat) (n:Nat) (A:Option Addr) (c:Nat) (es:List AJ) (w:A_) (h:Bo w A es) (hl:es.length<=70000) (hn:n<=60000)
  (OA:∀ p q r W,B_ E_ 209 #[.agg #[i64 p,i64 q,u64 r]] W λ e W'=>e=.returned (i64 (kf (p,q,r)))/\Af W W')
  (Dy:∀ k e,es[k]? = some e->kf e=(key k:Int)/\key k<n) :
  B_ E_ 208 #[i64 n,.slice A es.length c,.func (.func 209) #[] #[]] w λ e w'=>∃ gE gB f,e=.returned (gh gE gB n es.length)/\Laid w' gE gB n es.length key f/\Af w w'/\w.heap.size<=gE/\w.heap.size<=gB:=by
 obtain⟨m,hm⟩:=zn (es.length)
 have HM:=zh hm
 rw[hm]at hl
 rw[hm]
 obtain⟨i0,hi,BZ,BG,B4⟩:=info_parts info_int
 have Li:=λ W=>run_make (P:=E_) W 26 3 i0 _ G_ hi BZ .i64 .i64 (m:Int) (m:Int) (by omega) (PG _) (by rw[B4];omega) (by omega)
 have oo:=λ W=>run_make (P:=E_) W 26 3 i0 _ G_ hi BZ .i64 .i64 ((n:Int)+1) ((n:Int)+1) (by omega) (PG _) (by rw[B4];omega) (by omega)
 have EG:((n:Int)+1).toNat=n+1:=by omega
 simp only[PF,BG,PL,EG]at Li oo
 clear hi BZ BG B4 EG
 have HE:=zh h
 have HC:=zh OA
 have HK:=zh Dy
 have Il:Hid (∀ j,j<m->key j<n):=λ j hj=>(Dy j _ (zq (by omega))).2
 clear h OA Dy hm
 go_enter Tryz.func208,Tryz.ntmps208
 go_upto_region 1 with fail
 obtain⟨w0,Ll,k0,b6⟩:=zb w #[.slice none 0 0,.slice none 0 0] 297 rfl
 rw[Ll]
 clear Ll
 have z0:=k0.size
 have z6:=b6.lt
 have K0:=zh k0
 have B6:=zh b6
 clear k0 b6
 obtain⟨r6,oI⟩:=zn (w.heap.size)
 have me:=zh oI
 rw[oI]at z0 z6 B6 ⊢
 clear oI
 go_cut [7] (λ s7 wx=>∃ gR gE gB:Nat,s7=.pointer (some ⟨gR,0,none⟩)/\gR≠gE/\gR≠gB/\gE≠gB/\w0.heap.size<=gR/\w0.heap.size<=gE/\w0.heap.size<=gB/\Hid (Ao wx gR 297 #[rowV gE m,rowV gB (n+1)]/\IntsF wx gE m (λ _=>0)/\IntsF wx gB (n+1) (λ _=>0)/\Af w0 wx))
 case first =>
  go_region;all_goals go_wp2_with fail
  all_goals go_meet
  all_goals first
   | exact⟨w0.heap.size ,w0.heap.size+1,w0.heap.size+1+1,rfl,by omega,by omega,by omega,by omega,by omega,by omega,(three _ _ _ _).1,made_of (three _ _ _ _).2.1,made_of (three _ _ _ _).2.2.1,(three _ _ _ _).2.2.2⟩
   | exact⟨w0.heap.size ,w0.heap.size+1+1,w0.heap.size+1,rfl,by omega,by omega,by omega,by omega,by omega,by omega,(three _ _ _ _).1,made_of (three _ _ _ _).2.2.1,made_of (three _ _ _ _).2.1,(three _ _ _ _).2.2.2⟩
   | exact⟨w0.heap.size+1,w0.heap.size ,w0.heap.size+1+1,rfl,by omega,by omega,by omega,by omega,by omega,by omega,(three _ _ _ _).2.1,made_of (three _ _ _ _).1,made_of (three _ _ _ _).2.2.1,(three _ _ _ _).2.2.2⟩
   | exact⟨w0.heap.size+1,w0.heap.size+1+1,w0.heap.size ,rfl,by omega,by omega,by omega,by omega,by omega,by omega,(three _ _ _ _).2.1,made_of (three _ _ _ _).2.2.1,made_of (three _ _ _ _).1,(three _ _ _ _).2.2.2⟩
   | exact⟨w0.heap.size+1+1,w0.heap.size ,w0.heap.size+1,rfl,by omega,by omega,by omega,by omega,by omega,by omega,(three _ _ _ _).2.2.1,made_of (three _ _ _ _).1,made_of (three _ _ _ _).2.1,(three _ _ _ _).2.2.2⟩
   | exact⟨w0.heap.size+1+1,w0.heap.size+1,w0.heap.size ,rfl,by omega,by omega,by omega,by omega,by omega,by omega,(three _ _ _ _).2.2.1,made_of (three _ _ _ _).2.1,made_of (three _ _ _ _).1,(three _ _ _ _).2.2.2⟩
 case rest =>
  obtain⟨gR,gE,gB,rfl,n1,n2,n3,g1,g2,g3,HS⟩:=hcut;clear Li oo;have vT:¬ gE=gR:=λ h=>n1 h.symm;have tP:¬ gB=gR:=λ h=>n2 h.symm;have vU:¬ gB=gE:=λ h=>n3 h.symm;have e1:¬ r6=gR:=(by omega);have e2:¬ r6=gE:=(by omega);have e3:¬ r6=gB:=(by omega);have hP:Hid (P1 w wc gR gE gB r6 n m (λ _=>0) (MF key 0)):=⟨HS.out.1,HS.out.2.1,HS.out.2.2.1.congr (λ i _=>by unfold MF;simp[cnt]),B6.out.grew HS.out.2.2.2,K0.out.trans HS.out.2.2.2⟩;have gw1:w.heap.size<=gR:=by rw[me.out];omega
  have gw2:w.heap.size<=gE:=by rw[me.out];omega
  have xI:w.heap.size<=gB:=by rw[me.out];omega
  clear HS K0 B6 z0 g1 g2 g3;go_wp2_with fail;go_loopw [9,24] (λ u9 i wr=>∃ k:Nat,k<=m/\i=.int .i64 k/\Hid (P1 w wr gR gE gB r6 n m (λ _=>0) (MF key k))) (λ _ i _=>m-(intOf i).toNat)
  case atStart=>exact⟨0,by omega,rfl,hP⟩
  case round =>
   clear hP;obtain⟨k,hk,rfl,hP⟩:=hrel;by_cases AI:k<m
   ·obtain⟨x,hx⟩:=zx (l:=es) (i:=k) (by rw[HM.out];exact AI);obtain⟨b,off,MP,hb,c0,c1,c2⟩:=HE.out k x hx;have Jw:=HK.out k x hx;have Gx:=Jw.2;obtain⟨p,q,r⟩:=x;subst MP;replace c0:=hP.out.kept.cell c0;replace c1:=hP.out.kept.cell c1;replace c2:=hP.out.kept.cell c2;dsimp only at c0 c1 c2;have I7:=zh (λ W=>HC.out p q r W);rw[Jw.1]at I7;have C5:=zh (Oc key k);have lE:=mK key k (key k+1);obtain⟨v,hv⟩:=zn (key k);rw[hv]at I7 C5 lE Gx;obtain⟨y,hy⟩:=zn (MF key k (v+1));rw[hy]at lE;have HY:=zh hy;obtain⟨y0,y1⟩:=lE;have v0:(0:Int)<=(v:Int)+1:=(by omega);have v1:(v:Int)+1<(n:Int)+1:=(by omega);have k0:(0:Int)<=(k:Int):=(by omega);have k1:(k:Int)<(m:Int):=(by omega);have wv:PD.wrap ((v:Int)+1)=(v:Int)+1:=Pf _ (by omega);have wy:PD.wrap (y+1)=y+1:=Pf _ (by omega);have tv:((v:Int)+1).toNat=v+1:=(by omega);clear hx Jw hv hy;go_wp2_with fail;obtain⟨w2,Cc,fM,bE⟩:=zb wr #[i64 p,i64 q,.int .u64 r] 65 rfl;rw[Cc];clear Cc;have bR:=hP.out.bR.grew fM;have iB:=hP.out.iB.grew fM;refine rG [10] (λ _=>False) ?_;refine pG 0 28 ?_;refine tG 1 29 (y:=λ w' Aj=>by have AN:=(bR.drew.grew Aj).cell 1;have AZ:=(bE.drew.grew Aj).cell 0;have CM:=(bE.drew.grew Aj).cell 1;have oU:=(bE.drew.grew Aj).cell 2;simp at AN AZ CM oU;go_simp<;>with_reducible rfl) (h:=?_);refine pG 2 30 ?_;refine tG 3 31 (y:=λ w' Aj=>by have AN:=(bR.drew.grew Aj).cell 1;have AZ:=(bE.drew.grew Aj).cell 0;have CM:=(bE.drew.grew Aj).cell 1;have oU:=(bE.drew.grew Aj).cell 2;simp at AN AZ CM oU;go_simp<;>with_reducible rfl) (h:=?_);refine sG 4 32 (λ K Al=>?_);go_simp;refine(I7.out _).mono ?_;rintro e w3 ⟨rfl,k3⟩;have tD:=iB.drew.grew k3;have sq:=bR.drew.grew k3;refine Al _ _ (λ _=>k3) ?_;clear Al;simp only[sA];refine pG 5 33 ?_;refine pG 6 34 ?_;refine tG 7 35 (y:=λ w' Aj=>by have AN:=(tD.grew Aj).cell (i:=v+1) (by omega);rw[HY.out]at AN;go_simp<;>with_reducible rfl) (h:=?_);refine pG 8 36 ?_;refine pG 9 37 ?_;refine Du 10 (λ K Al=>?_);have AN:=tD.cell (i:=v+1) (by omega);have AZ:=tD.frozen (v+1);rw[HY.out]at AN;go_simp;refine Al _ (λ h=>absurd (by simp) h) ?_;clear Al;refine dG ?_;have MR:=zh (((hP.out.grew fM).grew ((zr (λ _=>False) _).drew.trans k3)).setB tP vU e3 xI (show v+1<n+1 by omega) (y+1) (by rw[C5.out.2,HY.out]) C5.out.1);clear hP bE bR iB tD sq k3 fM c0 c1 c2;go_wp2_with fail;go_roundw
    case rel=>exact⟨k+1,by omega,by go_num,MR⟩
    case measure=>simp[intOf];omega
   ·obtain rfl:m=k:=(by omega);have vg:Hid (P1 w wr gR gE gB r6 n m (λ _=>0) (Ld key m 0)):=by
     rw[<- LQ];exact hP.out
    clear hP;go_wp2_with fail;go_loopw [10,40] (λ kV i wr=>∃ v:Nat,v<=n/\i=.int .i64 v/\Hid (P1 w wr gR gE gB r6 n m (λ _=>0) (Ld key m v))) (λ _ i _=>n-(intOf i).toNat)
    case atStart=>exact⟨0,by omega,rfl,vg⟩
    case round =>
     clear vg;obtain⟨v,hv,rfl,hP⟩:=hrel;by_cases AI:v<n
     ·have bR:=hP.out.bR;have iB:=hP.out.iB;have C5:=zh (Od key m v);have q1:=MG key m n v (v+1) Il.out (by omega);have q2:=MG key m n v v Il.out (by omega);obtain⟨y1,Br⟩:=zn (Ld key m v (v+1));obtain⟨y2,CN⟩:=zn (Ld key m v v);rw[Br]at q1;rw[CN]at q2;have mh:=zh Br;have mn:=zh CN;obtain⟨a0,a1⟩:=q1;obtain⟨a2,a3⟩:=q2;have v0:(0:Int)<=(v:Int)+1:=(by omega);have v1:(v:Int)+1<(n:Int)+1:=(by omega);have v2:(0:Int)<=(v:Int):=(by omega);have v3:(v:Int)<(n:Int)+1:=(by omega);have v4:(v:Int)<(n:Int):=(by omega);have wv:PD.wrap ((v:Int)+1)=(v:Int)+1:=Pf _ (by omega);have wy:PD.wrap (y1+y2)=y1+y2:=Pf _ (by omega);have tv:((v:Int)+1).toNat=v+1:=(by omega);clear Br CN;go_wp2_with fail;refine rG [13] (λ _=>False) ?_;refine pG 0 43 ?_;refine tG 1 44 (y:=λ w' Aj=>by have AN:=(bR.drew.grew Aj).cell 1;have AZ:=(iB.drew.grew Aj).cell (i:=v+1) (by omega);have CM:=(iB.drew.grew Aj).cell (i:=v) (by omega);rw[mh.out]at AZ;rw[mn.out]at CM;simp at AN;go_simp<;>with_reducible rfl) (h:=?_);refine pG 2 45 ?_;refine pG 3 46 ?_;refine pG 4 47 ?_;refine tG 5 48 (y:=λ w' Aj=>by have AN:=(bR.drew.grew Aj).cell 1;have AZ:=(iB.drew.grew Aj).cell (i:=v+1) (by omega);have CM:=(iB.drew.grew Aj).cell (i:=v) (by omega);rw[mh.out]at AZ;rw[mn.out]at CM;simp at AN;go_simp<;>with_reducible rfl) (h:=?_);refine pG 6 49 ?_;refine tG 7 50 (y:=λ w' Aj=>by have AN:=(bR.drew.grew Aj).cell 1;have AZ:=(iB.drew.grew Aj).cell (i:=v+1) (by omega);have CM:=(iB.drew.grew Aj).cell (i:=v) (by omega);rw[mh.out]at AZ;rw[mn.out]at CM;simp at AN;go_simp<;>with_reducible rfl) (h:=?_);refine pG 8 51 ?_;refine pG 9 52 ?_;refine tG 10 53 (y:=λ w' Aj=>by have AN:=(bR.drew.grew Aj).cell 1;have AZ:=(iB.drew.grew Aj).cell (i:=v+1) (by omega);have CM:=(iB.drew.grew Aj).cell (i:=v) (by omega);rw[mh.out]at AZ;rw[mn.out]at CM;simp at AN;go_simp<;>with_reducible rfl) (h:=?_);refine pG 11 54 ?_;refine pG 12 55 ?_;refine Du 13 (λ K Al=>?_);have AZ:=iB.drew.frozen (v+1);have CM:=iB.drew.cell (i:=v+1) (by omega);go_simp;refine Al _ (λ h=>absurd (by simp) h) ?_;clear Al;refine dG ?_;have MR:=zh ((hP.out.grew ((zr (λ _=>False) _).drew)).setB tP vU e3 xI (show v+1<n+1 by omega) (y1+y2) (by rw[C5.out.2,mh.out,mn.out]) C5.out.1);clear hP bR iB;go_wp2_with fail;go_roundw
      case rel=>exact⟨v+1,by omega,by go_num,MR⟩
      case measure=>simp[intOf];omega
     ·obtain rfl:n=v:=(by omega);have c1:=hP.out.bR.cell 1;simp at c1;have lC:Hid (P1 w wr gR gE gB r6 n m (λ _=>0) (λ v=>(pre key m v:Int))):=⟨hP.out.bR,hP.out.iE,hP.out.iB.congr (λ i hi=>by unfold Ld;rw[if_pos (by omega)]),hP.out.b6,hP.out.kept⟩;have bm:=Ke wr (some ⟨gB,0,none⟩) (n+1) ((Pq (n+1)).map (λ v=>(pre key m v:Int))) (lC.out.iB.row _ (λ i z hz=>by
       obtain⟨h1,rfl⟩:=Pg.1 hz
       rw[Ph,Pj]at h1
       rw[Pz,Pu,PK]
       exact⟨h1,rfl⟩)) (λ h=>by cases h) (by simp;omega)
      rw[Ph,Pj]at bm;have bm:=zh bm;clear hP;go_wp2_with fail;refine bm.out.mono ?_;rintro e w5 ⟨u,rfl,o5,k5⟩;obtain⟨gA,cA,rfl,lH,iA⟩:=Ku o5 (by omega);have yo:=lC.out.lt;have hwz:=lC.out.kept.size;have m1:gA≠gR:=(by omega);have m2:gA≠gE:=(by omega);have m3:gA≠gB:=(by omega);have m4:gA≠r6:=(by omega);have gw4:w.heap.size<=gA:=(by omega);have hQ:Hid (∃ f:Nat->Int,P1 w w5 gR gE gB r6 n m f (λ v=>(pre key m v:Int))/\IntsF w5 gA (n+1) (atF key m 0)/\∀ j,j<0->f (pre key m (key j)+cnt key (key j) j)=(j:Int)) :=
       ⟨_,lC.out.grew k5,iA.congr (λ i _=>by unfold atF;simp[cnt]),λ j hj=>by omega⟩
      clear lC bm o5 iA k5 lH yo hwz c1;go_wp2_with fail;go_loopw [12,13,14,62] (λ rM kW ld i wr=>∃ k:Nat,k<=m/\i=.int .i64 k/\Hid (∃ f:Nat->Int,P1 w wr gR gE gB r6 n m f (λ v=>(pre key m v:Int))/\IntsF wr gA (n+1) (atF key m k)/\∀ j,j<k->f (pre key m (key j)+cnt key (key j) j)=(j:Int))) (λ _ _ _ i _=>m-(intOf i).toNat)
      case atStart=>exact⟨0,by omega,rfl,hQ⟩
      case round =>
       clear hQ;obtain⟨k,hk,rfl,hQ⟩:=hrel;obtain⟨f,hP,iA,hf⟩:=hQ.out;have hP:=zh hP;have hf:=zh hf;have iA:=zh iA;clear hQ;by_cases AI:k<m
       ·obtain⟨x,hx⟩:=zx (l:=es) (i:=k) (by rw[HM.out];exact AI);obtain⟨b,off,MP,hb,c0,c1,c2⟩:=HE.out k x hx;have Jw:=HK.out k x hx;have Gx:=Jw.2;obtain⟨p,q,r⟩:=x;subst MP;replace c0:=hP.out.kept.cell c0;replace c1:=hP.out.kept.cell c1;replace c2:=hP.out.kept.cell c2;dsimp only at c0 c1 c2;have I7:=zh (λ W=>HC.out p q r W);rw[Jw.1]at I7;have C5:=zh (N9 key m k);have Hv:=Kw Il.out AI;have yB:=zh (Mh AI hf.out);obtain⟨v,hv⟩:=zn (key k);rw[hv]at I7 C5 Hv yB Gx;obtain⟨a,ha⟩:=zn (pre key m v+cnt key v k);rw[ha]at Hv yB;have lp:Hid (atF key m k v=(a:Int)):=by show _=_;unfold atF;rw[ha]
        have a0:(0:Int)<=(a:Int):=(by omega);have a1:(a:Int)<(m:Int):=(by omega);have v0:(0:Int)<=(v:Int):=(by omega);have v1:(v:Int)<(n:Int)+1:=(by omega);have k0:(0:Int)<=(k:Int):=(by omega);have k1:(k:Int)<(m:Int):=(by omega);have wa:PD.wrap ((a:Int)+1)=(a:Int)+1:=Pf _ (by omega);clear hx Jw hv ha;have bE:=zv wr 65 #[i64 p,i64 q,.int .u64 r];obtain⟨d0,d1,d2⟩:=ma bE;go_wp2_with fail;refine(I7.out _).mono ?_;rintro e w3 ⟨rfl,k3⟩;have k3:Af wr w3:=((zr _ _).alloc _).trans k3;have MR:=zh (hP.out.grew k3);have yQ:=zh (iA.out.grew k3);have bR:=MR.out.bR;clear hP iA k3 c0 c1 c2 d0 d1 d2 bE;go_wp2_with fail;refine rG [8] (λ _=>False) ?_;refine pG 0 70 ?_;refine tG 1 71 (y:=λ w' Aj=>by have AN:=(bR.drew.grew Aj).cell 0;simp at AN;go_simp<;>with_reducible rfl) (h:=?_);refine pG 2 72 ?_;refine pG 3 73 ?_;refine pG 4 74 ?_;refine tG 5 75 (y:=λ w' Aj=>by have AZ:=(yQ.out.drew.grew Aj).cell (i:=v) (by omega);rw[lp.out]at AZ;go_simp<;>with_reducible rfl) (h:=?_);refine pG 6 76 ?_;refine pG 7 77 ?_;refine Du 8 (λ K Al=>?_);have AZ:=MR.out.iE.drew.frozen a;have CM:=MR.out.iE.drew.cell (i:=a) Hv;go_simp;refine Al _ (λ h=>absurd (by simp) h) ?_;clear Al;refine dG ?_;have hP4:=zh ((MR.out.setE vT n3 e2 gw2 Hv (k:Int) (show (λ i=>if i=a then (k:Int) else f i) a=(k:Int) by simp) (λ j hj=>if_neg hj)).grew ((zr (λ _=>False) _).drew));have yR:=zh ((yQ.out.far (p:=⟨gE,a,none⟩) m2 (i64 (k:Int))).drew);have c4:=yR.out.cell (i:=v) (by omega);have f4:=yR.out.frozen v;rw[lp.out]at c4;clear MR yQ bR;go_wp2_with fail;go_roundw
        case rel =>
         refine⟨k+1,by omega,by go_num,_,hP4.out.setA m1 m2 m3 m4 gw4 v _,?_,yB.out⟩;exact yR.out.set (by omega) _ (by rw[C5.out.2,lp.out]) (λ j _=>C5.out.1 j)
        case measure=>simp[intOf];omega
       ·obtain rfl:m=k:=(by omega);have hL:Hid (Laid wr gE gB n m key f):=⟨hP.out.iB,hP.out.iE,hf.out,Il.out⟩;have hKw:=zh hP.out.kept;have MU:=hP.out.b6;have xW:=hP.out.bR;have c0:=xW.cell 0;have c1:=xW.cell 1;have f0:=MU.frozen 0;have f1:=MU.frozen 1;have d0:=MU.cell 0;have d1:=MU.cell 1;simp at c0 c1 d0 d1;have lM:w.heap.size<=r6:=by rw[me.out];exact zl _
        clear hP hf iA;go_wp2_with fail;obtain⟨q0,q1⟩:=BP (((MU.set 0 (rowV gE m)).set 1 (rowV gB (n+1))));have hF:Kept (·=r6) wr ((wr.setCell ⟨r6,0,none⟩ (rowV gE m)).setCell ⟨r6,1,none⟩ (rowV gB (n+1))):=((zr (·=r6) wr).setCell (p:=⟨r6,0,none⟩) (.inl rfl) _).setCell (p:=⟨r6,1,none⟩) (.inl rfl) _;refine zy (v:=.agg #[rowV gE m,rowV gB (n+1)]) (by simp[results,M_,go_sem,q0,q1]) rfl ⟨gE,gB,f,rfl,?_,?_,gw2,xI⟩
        ·exact hL.out.kept hF (λ h=>e2 h.symm) (λ h=>e3 h.symm)
        ·exact hKw.out.then hF (λ i hi h=>by have:i=r6:=h;omega)
end Go.Proofs.YtepelooebggliaaGreatDoor.Ad
namespace Go.Proofs.YtepelooebggliaaGreatDoor.Ad
open Go.RowKit
theorem tJ (kf:AJ->Int) (key:Nat->Nat) (n:Nat) (A:Option Addr) (c:Nat) (es:List AJ) (w:A_) (h:Bo w A es) (hl:es.length<=70000) (hn:n<=60000)
  (OA:∀ p q r W,B_ E_ 210 #[.agg #[i64 p,i64 q,u64 r]] W λ e W'=>e=.returned (i64 (kf (p,q,r)))/\Af W W')
  (Dy:∀ k e,es[k]? = some e->kf e=(key k:Int)/\key k<n) :
  B_ E_ 208 #[i64 n,.slice A es.length c,.func (.func 210) #[] #[]] w λ e w'=>∃ gE gB f,e=.returned (gh gE gB n es.length)/\Laid w' gE gB n es.length key f/\Af w w'/\w.heap.size<=gE/\w.heap.size<=gB:=by
 obtain⟨m,hm⟩:=zn (es.length)
 have HM:=zh hm
 rw[hm]at hl
 rw[hm]
 obtain⟨i0,hi,BZ,BG,B4⟩:=info_parts info_int
 have Li:=λ W=>run_make (P:=E_) W 26 3 i0 _ G_ hi BZ .i64 .i64 (m:Int) (m:Int) (by omega) (PG _) (by rw[B4];omega) (by omega)
 have oo:=λ W=>run_make (P:=E_) W 26 3 i0 _ G_ hi BZ .i64 .i64 ((n:Int)+1) ((n:Int)+1) (by omega) (PG _) (by rw[B4];omega) (by omega)
 have EG:((n:Int)+1).toNat=n+1:=by omega
 simp only[PF,BG,PL,EG]at Li oo
 clear hi BZ BG B4 EG
 have HE:=zh h
 have HC:=zh OA
 have HK:=zh Dy
 have Il:Hid (∀ j,j<m->key j<n):=λ j hj=>(Dy j _ (zq (by omega))).2
 clear h OA Dy hm
 go_enter Tryz.func208,Tryz.ntmps208
 go_upto_region 1 with fail
 obtain⟨w0,Ll,k0,b6⟩:=zb w #[.slice none 0 0,.slice none 0 0] 297 rfl
 rw[Ll]
 clear Ll
 have z0:=k0.size
 have z6:=b6.lt
 have K0:=zh k0
 have B6:=zh b6
 clear k0 b6
 obtain⟨r6,oI⟩:=zn (w.heap.size)
 have me:=zh oI
 rw[oI]at z0 z6 B6 ⊢
 clear oI
 go_cut [7] (λ s7 wx=>∃ gR gE gB:Nat,s7=.pointer (some ⟨gR,0,none⟩)/\gR≠gE/\gR≠gB/\gE≠gB/\w0.heap.size<=gR/\w0.heap.size<=gE/\w0.heap.size<=gB/\Hid (Ao wx gR 297 #[rowV gE m,rowV gB (n+1)]/\IntsF wx gE m (λ _=>0)/\IntsF wx gB (n+1) (λ _=>0)/\Af w0 wx))
 case first =>
  go_region;all_goals go_wp2_with fail
  all_goals go_meet
  all_goals first
   | exact⟨w0.heap.size ,w0.heap.size+1,w0.heap.size+1+1,rfl,by omega,by omega,by omega,by omega,by omega,by omega,(three _ _ _ _).1,made_of (three _ _ _ _).2.1,made_of (three _ _ _ _).2.2.1,(three _ _ _ _).2.2.2⟩
   | exact⟨w0.heap.size ,w0.heap.size+1+1,w0.heap.size+1,rfl,by omega,by omega,by omega,by omega,by omega,by omega,(three _ _ _ _).1,made_of (three _ _ _ _).2.2.1,made_of (three _ _ _ _).2.1,(three _ _ _ _).2.2.2⟩
   | exact⟨w0.heap.size+1,w0.heap.size ,w0.heap.size+1+1,rfl,by omega,by omega,by omega,by omega,by omega,by omega,(three _ _ _ _).2.1,made_of (three _ _ _ _).1,made_of (three _ _ _ _).2.2.1,(three _ _ _ _).2.2.2⟩
   | exact⟨w0.heap.size+1,w0.heap.size+1+1,w0.heap.size ,rfl,by omega,by omega,by omega,by omega,by omega,by omega,(three _ _ _ _).2.1,made_of (three _ _ _ _).2.2.1,made_of (three _ _ _ _).1,(three _ _ _ _).2.2.2⟩
   | exact⟨w0.heap.size+1+1,w0.heap.size ,w0.heap.size+1,rfl,by omega,by omega,by omega,by omega,by omega,by omega,(three _ _ _ _).2.2.1,made_of (three _ _ _ _).1,made_of (three _ _ _ _).2.1,(three _ _ _ _).2.2.2⟩
   | exact⟨w0.heap.size+1+1,w0.heap.size+1,w0.heap.size ,rfl,by omega,by omega,by omega,by omega,by omega,by omega,(three _ _ _ _).2.2.1,made_of (three _ _ _ _).2.1,made_of (three _ _ _ _).1,(three _ _ _ _).2.2.2⟩
 case rest =>
  obtain⟨gR,gE,gB,rfl,n1,n2,n3,g1,g2,g3,HS⟩:=hcut;clear Li oo;have vT:¬ gE=gR:=λ h=>n1 h.symm;have tP:¬ gB=gR:=λ h=>n2 h.symm;have vU:¬ gB=gE:=λ h=>n3 h.symm;have e1:¬ r6=gR:=(by omega);have e2:¬ r6=gE:=(by omega);have e3:¬ r6=gB:=(by omega);have hP:Hid (P1 w wc gR gE gB r6 n m (λ _=>0) (MF key 0)):=⟨HS.out.1,HS.out.2.1,HS.out.2.2.1.congr (λ i _=>by unfold MF;simp[cnt]),B6.out.grew HS.out.2.2.2,K0.out.trans HS.out.2.2.2⟩;have gw1:w.heap.size<=gR:=by rw[me.out];omega
  have gw2:w.heap.size<=gE:=by rw[me.out];omega
  have xI:w.heap.size<=gB:=by rw[me.out];omega
  clear HS K0 B6 z0 g1 g2 g3;go_wp2_with fail;go_loopw [9,24] (λ u9 i wr=>∃ k:Nat,k<=m/\i=.int .i64 k/\Hid (P1 w wr gR gE gB r6 n m (λ _=>0) (MF key k))) (λ _ i _=>m-(intOf i).toNat)
  case atStart=>exact⟨0,by omega,rfl,hP⟩
  case round =>
   clear hP;obtain⟨k,hk,rfl,hP⟩:=hrel;by_cases AI:k<m
   ·obtain⟨x,hx⟩:=zx (l:=es) (i:=k) (by rw[HM.out];exact AI);obtain⟨b,off,MP,hb,c0,c1,c2⟩:=HE.out k x hx;have Jw:=HK.out k x hx;have Gx:=Jw.2;obtain⟨p,q,r⟩:=x;subst MP;replace c0:=hP.out.kept.cell c0;replace c1:=hP.out.kept.cell c1;replace c2:=hP.out.kept.cell c2;dsimp only at c0 c1 c2;have I7:=zh (λ W=>HC.out p q r W);rw[Jw.1]at I7;have C5:=zh (Oc key k);have lE:=mK key k (key k+1);obtain⟨v,hv⟩:=zn (key k);rw[hv]at I7 C5 lE Gx;obtain⟨y,hy⟩:=zn (MF key k (v+1));rw[hy]at lE;have HY:=zh hy;obtain⟨y0,y1⟩:=lE;have v0:(0:Int)<=(v:Int)+1:=(by omega);have v1:(v:Int)+1<(n:Int)+1:=(by omega);have k0:(0:Int)<=(k:Int):=(by omega);have k1:(k:Int)<(m:Int):=(by omega);have wv:PD.wrap ((v:Int)+1)=(v:Int)+1:=Pf _ (by omega);have wy:PD.wrap (y+1)=y+1:=Pf _ (by omega);have tv:((v:Int)+1).toNat=v+1:=(by omega);clear hx Jw hv hy;go_wp2_with fail;obtain⟨w2,Cc,fM,bE⟩:=zb wr #[i64 p,i64 q,.int .u64 r] 65 rfl;rw[Cc];clear Cc;have bR:=hP.out.bR.grew fM;have iB:=hP.out.iB.grew fM;refine rG [10] (λ _=>False) ?_;refine pG 0 28 ?_;refine tG 1 29 (y:=λ w' Aj=>by have AN:=(bR.drew.grew Aj).cell 1;have AZ:=(bE.drew.grew Aj).cell 0;have CM:=(bE.drew.grew Aj).cell 1;have oU:=(bE.drew.grew Aj).cell 2;simp at AN AZ CM oU;go_simp<;>with_reducible rfl) (h:=?_);refine pG 2 30 ?_;refine tG 3 31 (y:=λ w' Aj=>by have AN:=(bR.drew.grew Aj).cell 1;have AZ:=(bE.drew.grew Aj).cell 0;have CM:=(bE.drew.grew Aj).cell 1;have oU:=(bE.drew.grew Aj).cell 2;simp at AN AZ CM oU;go_simp<;>with_reducible rfl) (h:=?_);refine sG 4 32 (λ K Al=>?_);go_simp;refine(I7.out _).mono ?_;rintro e w3 ⟨rfl,k3⟩;have tD:=iB.drew.grew k3;have sq:=bR.drew.grew k3;refine Al _ _ (λ _=>k3) ?_;clear Al;simp only[sA];refine pG 5 33 ?_;refine pG 6 34 ?_;refine tG 7 35 (y:=λ w' Aj=>by have AN:=(tD.grew Aj).cell (i:=v+1) (by omega);rw[HY.out]at AN;go_simp<;>with_reducible rfl) (h:=?_);refine pG 8 36 ?_;refine pG 9 37 ?_;refine Du 10 (λ K Al=>?_);have AN:=tD.cell (i:=v+1) (by omega);have AZ:=tD.frozen (v+1);rw[HY.out]at AN;go_simp;refine Al _ (λ h=>absurd (by simp) h) ?_;clear Al;refine dG ?_;have MR:=zh (((hP.out.grew fM).grew ((zr (λ _=>False) _).drew.trans k3)).setB tP vU e3 xI (show v+1<n+1 by omega) (y+1) (by rw[C5.out.2,HY.out]) C5.out.1);clear hP bE bR iB tD sq k3 fM c0 c1 c2;go_wp2_with fail;go_roundw
    case rel=>exact⟨k+1,by omega,by go_num,MR⟩
    case measure=>simp[intOf];omega
   ·obtain rfl:m=k:=(by omega);have vg:Hid (P1 w wr gR gE gB r6 n m (λ _=>0) (Ld key m 0)):=by
     rw[<- LQ];exact hP.out
    clear hP;go_wp2_with fail;go_loopw [10,40] (λ kV i wr=>∃ v:Nat,v<=n/\i=.int .i64 v/\Hid (P1 w wr gR gE gB r6 n m (λ _=>0) (Ld key m v))) (λ _ i _=>n-(intOf i).toNat)
    case atStart=>exact⟨0,by omega,rfl,vg⟩
    case round =>
     clear vg;obtain⟨v,hv,rfl,hP⟩:=hrel;by_cases AI:v<n
     ·have bR:=hP.out.bR;have iB:=hP.out.iB;have C5:=zh (Od key m v);have q1:=MG key m n v (v+1) Il.out (by omega);have q2:=MG key m n v v Il.out (by omega);obtain⟨y1,Br⟩:=zn (Ld key m v (v+1));obtain⟨y2,CN⟩:=zn (Ld key m v v);rw[Br]at q1;rw[CN]at q2;have mh:=zh Br;have mn:=zh CN;obtain⟨a0,a1⟩:=q1;obtain⟨a2,a3⟩:=q2;have v0:(0:Int)<=(v:Int)+1:=(by omega);have v1:(v:Int)+1<(n:Int)+1:=(by omega);have v2:(0:Int)<=(v:Int):=(by omega);have v3:(v:Int)<(n:Int)+1:=(by omega);have v4:(v:Int)<(n:Int):=(by omega);have wv:PD.wrap ((v:Int)+1)=(v:Int)+1:=Pf _ (by omega);have wy:PD.wrap (y1+y2)=y1+y2:=Pf _ (by omega);have tv:((v:Int)+1).toNat=v+1:=(by omega);clear Br CN;go_wp2_with fail;refine rG [13] (λ _=>False) ?_;refine pG 0 43 ?_;refine tG 1 44 (y:=λ w' Aj=>by have AN:=(bR.drew.grew Aj).cell 1;have AZ:=(iB.drew.grew Aj).cell (i:=v+1) (by omega);have CM:=(iB.drew.grew Aj).cell (i:=v) (by omega);rw[mh.out]at AZ;rw[mn.out]at CM;simp at AN;go_simp<;>with_reducible rfl) (h:=?_);refine pG 2 45 ?_;refine pG 3 46 ?_;refine pG 4 47 ?_;refine tG 5 48 (y:=λ w' Aj=>by have AN:=(bR.drew.grew Aj).cell 1;have AZ:=(iB.drew.grew Aj).cell (i:=v+1) (by omega);have CM:=(iB.drew.grew Aj).cell (i:=v) (by omega);rw[mh.out]at AZ;rw[mn.out]at CM;simp at AN;go_simp<;>with_reducible rfl) (h:=?_);refine pG 6 49 ?_;refine tG 7 50 (y:=λ w' Aj=>by have AN:=(bR.drew.grew Aj).cell 1;have AZ:=(iB.drew.grew Aj).cell (i:=v+1) (by omega);have CM:=(iB.drew.grew Aj).cell (i:=v) (by omega);rw[mh.out]at AZ;rw[mn.out]at CM;simp at AN;go_simp<;>with_reducible rfl) (h:=?_);refine pG 8 51 ?_;refine pG 9 52 ?_;refine tG 10 53 (y:=λ w' Aj=>by have AN:=(bR.drew.grew Aj).cell 1;have AZ:=(iB.drew.grew Aj).cell (i:=v+1) (by omega);have CM:=(iB.drew.grew Aj).cell (i:=v) (by omega);rw[mh.out]at AZ;rw[mn.out]at CM;simp at AN;go_simp<;>with_reducible rfl) (h:=?_);refine pG 11 54 ?_;refine pG 12 55 ?_;refine Du 13 (λ K Al=>?_);have AZ:=iB.drew.frozen (v+1);have CM:=iB.drew.cell (i:=v+1) (by omega);go_simp;refine Al _ (λ h=>absurd (by simp) h) ?_;clear Al;refine dG ?_;have MR:=zh ((hP.out.grew ((zr (λ _=>False) _).drew)).setB tP vU e3 xI (show v+1<n+1 by omega) (y1+y2) (by rw[C5.out.2,mh.out,mn.out]) C5.out.1);clear hP bR iB;go_wp2_with fail;go_roundw
      case rel=>exact⟨v+1,by omega,by go_num,MR⟩
      case measure=>simp[intOf];omega
     ·obtain rfl:n=v:=(by omega);have c1:=hP.out.bR.cell 1;simp at c1;have lC:Hid (P1 w wr gR gE gB r6 n m (λ _=>0) (λ v=>(pre key m v:Int))):=⟨hP.out.bR,hP.out.iE,hP.out.iB.congr (λ i hi=>by unfold Ld;rw[if_pos (by omega)]),hP.out.b6,hP.out.kept⟩;have bm:=Ke wr (some ⟨gB,0,none⟩) (n+1) ((Pq (n+1)).map (λ v=>(pre key m v:Int))) (lC.out.iB.row _ (λ i z hz=>by
       obtain⟨h1,rfl⟩:=Pg.1 hz
       rw[Ph,Pj]at h1
       rw[Pz,Pu,PK]
       exact⟨h1,rfl⟩)) (λ h=>by cases h) (by simp;omega)
      rw[Ph,Pj]at bm;have bm:=zh bm;clear hP;go_wp2_with fail;refine bm.out.mono ?_;rintro e w5 ⟨u,rfl,o5,k5⟩;obtain⟨gA,cA,rfl,lH,iA⟩:=Ku o5 (by omega);have yo:=lC.out.lt;have hwz:=lC.out.kept.size;have m1:gA≠gR:=(by omega);have m2:gA≠gE:=(by omega);have m3:gA≠gB:=(by omega);have m4:gA≠r6:=(by omega);have gw4:w.heap.size<=gA:=(by omega);have hQ:Hid (∃ f:Nat->Int,P1 w w5 gR gE gB r6 n m f (λ v=>(pre key m v:Int))/\IntsF w5 gA (n+1) (atF key m 0)/\∀ j,j<0->f (pre key m (key j)+cnt key (key j) j)=(j:Int)) :=
       ⟨_,lC.out.grew k5,iA.congr (λ i _=>by unfold atF;simp[cnt]),λ j hj=>by omega⟩
      clear lC bm o5 iA k5 lH yo hwz c1;go_wp2_with fail;go_loopw [12,13,14,62] (λ rM kW ld i wr=>∃ k:Nat,k<=m/\i=.int .i64 k/\Hid (∃ f:Nat->Int,P1 w wr gR gE gB r6 n m f (λ v=>(pre key m v:Int))/\IntsF wr gA (n+1) (atF key m k)/\∀ j,j<k->f (pre key m (key j)+cnt key (key j) j)=(j:Int))) (λ _ _ _ i _=>m-(intOf i).toNat)
      case atStart=>exact⟨0,by omega,rfl,hQ⟩
      case round =>
       clear hQ;obtain⟨k,hk,rfl,hQ⟩:=hrel;obtain⟨f,hP,iA,hf⟩:=hQ.out;have hP:=zh hP;have hf:=zh hf;have iA:=zh iA;clear hQ;by_cases AI:k<m
       ·obtain⟨x,hx⟩:=zx (l:=es) (i:=k) (by rw[HM.out];exact AI);obtain⟨b,off,MP,hb,c0,c1,c2⟩:=HE.out k x hx;have Jw:=HK.out k x hx;have Gx:=Jw.2;obtain⟨p,q,r⟩:=x;subst MP;replace c0:=hP.out.kept.cell c0;replace c1:=hP.out.kept.cell c1;replace c2:=hP.out.kept.cell c2;dsimp only at c0 c1 c2;have I7:=zh (λ W=>HC.out p q r W);rw[Jw.1]at I7;have C5:=zh (N9 key m k);have Hv:=Kw Il.out AI;have yB:=zh (Mh AI hf.out);obtain⟨v,hv⟩:=zn (key k);rw[hv]at I7 C5 Hv yB Gx;obtain⟨a,ha⟩:=zn (pre key m v+cnt key v k);rw[ha]at Hv yB;have lp:Hid (atF key m k v=(a:Int)):=by show _=_;unfold atF;rw[ha]
        have a0:(0:Int)<=(a:Int):=(by omega);have a1:(a:Int)<(m:Int):=(by omega);have v0:(0:Int)<=(v:Int):=(by omega);have v1:(v:Int)<(n:Int)+1:=(by omega);have k0:(0:Int)<=(k:Int):=(by omega);have k1:(k:Int)<(m:Int):=(by omega);have wa:PD.wrap ((a:Int)+1)=(a:Int)+1:=Pf _ (by omega);clear hx Jw hv ha;have bE:=zv wr 65 #[i64 p,i64 q,.int .u64 r];obtain⟨d0,d1,d2⟩:=ma bE;go_wp2_with fail;refine(I7.out _).mono ?_;rintro e w3 ⟨rfl,k3⟩;have k3:Af wr w3:=((zr _ _).alloc _).trans k3;have MR:=zh (hP.out.grew k3);have yQ:=zh (iA.out.grew k3);have bR:=MR.out.bR;clear hP iA k3 c0 c1 c2 d0 d1 d2 bE;go_wp2_with fail;refine rG [8] (λ _=>False) ?_;refine pG 0 70 ?_;refine tG 1 71 (y:=λ w' Aj=>by have AN:=(bR.drew.grew Aj).cell 0;simp at AN;go_simp<;>with_reducible rfl) (h:=?_);refine pG 2 72 ?_;refine pG 3 73 ?_;refine pG 4 74 ?_;refine tG 5 75 (y:=λ w' Aj=>by have AZ:=(yQ.out.drew.grew Aj).cell (i:=v) (by omega);rw[lp.out]at AZ;go_simp<;>with_reducible rfl) (h:=?_);refine pG 6 76 ?_;refine pG 7 77 ?_;refine Du 8 (λ K Al=>?_);have AZ:=MR.out.iE.drew.frozen a;have CM:=MR.out.iE.drew.cell (i:=a) Hv;go_simp;refine Al _ (λ h=>absurd (by simp) h) ?_;clear Al;refine dG ?_;have hP4:=zh ((MR.out.setE vT n3 e2 gw2 Hv (k:Int) (show (λ i=>if i=a then (k:Int) else f i) a=(k:Int) by simp) (λ j hj=>if_neg hj)).grew ((zr (λ _=>False) _).drew));have yR:=zh ((yQ.out.far (p:=⟨gE,a,none⟩) m2 (i64 (k:Int))).drew);have c4:=yR.out.cell (i:=v) (by omega);have f4:=yR.out.frozen v;rw[lp.out]at c4;clear MR yQ bR;go_wp2_with fail;go_roundw
        case rel =>
         refine⟨k+1,by omega,by go_num,_,hP4.out.setA m1 m2 m3 m4 gw4 v _,?_,yB.out⟩;exact yR.out.set (by omega) _ (by rw[C5.out.2,lp.out]) (λ j _=>C5.out.1 j)
        case measure=>simp[intOf];omega
       ·obtain rfl:m=k:=(by omega);have hL:Hid (Laid wr gE gB n m key f):=⟨hP.out.iB,hP.out.iE,hf.out,Il.out⟩;have hKw:=zh hP.out.kept;have MU:=hP.out.b6;have xW:=hP.out.bR;have c0:=xW.cell 0;have c1:=xW.cell 1;have f0:=MU.frozen 0;have f1:=MU.frozen 1;have d0:=MU.cell 0;have d1:=MU.cell 1;simp at c0 c1 d0 d1;have lM:w.heap.size<=r6:=by rw[me.out];exact zl _
        clear hP hf iA;go_wp2_with fail;obtain⟨q0,q1⟩:=BP (((MU.set 0 (rowV gE m)).set 1 (rowV gB (n+1))));have hF:Kept (·=r6) wr ((wr.setCell ⟨r6,0,none⟩ (rowV gE m)).setCell ⟨r6,1,none⟩ (rowV gB (n+1))):=((zr (·=r6) wr).setCell (p:=⟨r6,0,none⟩) (.inl rfl) _).setCell (p:=⟨r6,1,none⟩) (.inl rfl) _;refine zy (v:=.agg #[rowV gE m,rowV gB (n+1)]) (by simp[results,M_,go_sem,q0,q1]) rfl ⟨gE,gB,f,rfl,?_,?_,gw2,xI⟩
        ·exact hL.out.kept hF (λ h=>e2 h.symm) (λ h=>e3 h.symm)
        ·exact hKw.out.then hF (λ i hi h=>by have:i=r6:=h;omega)
end Go.Proofs.YtepelooebggliaaGreatDoor.Ad
namespace Go.Proofs.YtepelooebggliaaGreatDoor.Ad
open Go.RowKit
theorem right_zero {n:Int} {es:List AJ} (h:Au n es=0):1<=n/\n<=4096/\es.length<=16384/\∀ (k:Nat) (p q r:Int),es[k]? = some (p,q,r)->0<=p/\p<n/\0<=q/\q<n/\p≠q/\1<=r/\r<=4294967296:=by
 unfold Au at h;by_cases h1:n<1\/4096<n
 ·rw[if_pos h1]at h;cases h
 rw[if_neg h1]at h;by_cases h2:16384<es.length
 ·rw[if_pos h2]at h;cases h
 rw[if_neg h2]at h;by_cases h3:es.all (AY n)=true
 ·rw[if_pos h3]at h;by_cases h4:es.all Ha=true
  ·refine⟨by omega,by omega,by omega,λ k p q r hk=>?_⟩;have hm:=zm hk;have a:=PA.1 h3 _ hm;have b:=PA.1 h4 _ hm;simp[AY]at a;simp[Ha]at b;omega
  ·rw[if_neg h4]at h;cases h
 ·rw[if_neg h3]at h;cases h
def keyF (es:List AJ) (k:Nat):Nat:=((es[k]?).map (λ e=>e.1.toNat)).getD 0
def LB (es:List AJ) (k:Nat):Nat:=((es[k]?).map (λ e=>e.2.1.toNat)).getD 0
theorem o7 {n:Nat} {es:List AJ} (h:Au n es=0):∀ k e,es[k]? = some e->(λ e:AJ=>e.1) e=(keyF es k:Int)/\keyF es k<n:=λ k e he=>by
 obtain⟨p,q,r⟩:=e;have h1:=(right_zero h).2.2.2 k p q r he;unfold keyF;rw[he];simp;omega
theorem yW {n:Nat} {es:List AJ} (h:Au n es=0):∀ k e,es[k]? = some e->(λ e:AJ=>e.2.1) e=(LB es k:Int)/\LB es k<n:=λ k e he=>by
 obtain⟨p,q,r⟩:=e;have h1:=(right_zero h).2.2.2 k p q r he;unfold LB;rw[he];simp;omega
structure AdjB (w:A_) (B a n:Nat) (es:List AJ):Prop where
 parts:∃ (AE:Option Addr) (c g1 b1 g2 b2:Nat) (f1 f2:Nat->Int),Ao w a 301 #[i64 n,.slice AE es.length c,rowV g1 es.length,rowV b1 (n+1),rowV g2 es.length,rowV b2 (n+1)]/\Bo w AE es /\
  Laid w g1 b1 n es.length (keyF es) f1/\Laid w g2 b2 n es.length (LB es) f2/\a<B/\g1<B/\b1<B/\g2<B/\b2<B/\∀ x,AE=some x->x.block<B\/es=[]
theorem AdjB.kept {F:Nat->Prop} {w w':A_} {B a n:Nat} {es:List AJ} (h:AdjB w B a n es) (k:Kept F w w') (hF:∀ j,F j->B<=j):AdjB w' B a n es:=by
 obtain⟨AE,c,g1,b1,g2,b2,f1,f2,h1,h2,h3,h4,z1,z2,z3,z4,z5,z6⟩:=h.parts;have no:∀ j,j<B->¬ F j:=λ j hj hf=>by have:=hF j hf;omega
 refine⟨AE,c,g1,b1,g2,b2,f1,f2,h1.kept k (no _ z1),?_,h3.kept k (no _ z2) (no _ z3),h4.kept k (no _ z4) (no _ z5),z1,z2,z3,z4,z5,z6⟩;rcases es with _ | ⟨e,es⟩
 ·exact Bo.nil _ _
 ·refine h2.kept k λ x hx=>?_;rcases z6 x hx with h | h
  ·exact no _ h
  ·cases h
theorem AdjB.grew {w w':A_} {B a n:Nat} {es:List AJ} (h:AdjB w B a n es) (k:Af w w'):AdjB w' B a n es:=h.kept k λ _ h=>h.elim
theorem new_yes (n:Nat) (AE:Option Addr) (c:Nat) (es:List AJ) (w:A_) (h:Bo w AE es) (hr:Au n es=0) :
  B_ E_ 148 #[.agg #[i64 n,.slice AE es.length c]] w λ e w'=>∃ a,e=.returned (.tuple #[pt a,i64 0])/\AdjB w' w'.heap.size a n es/\Af w w':=by
 have hl:=(right_zero hr).2.2.1
 have Hs:=(right_zero hr).2.1
 have b0:=zv w 24 #[i64 n,.slice AE es.length c]
 have BX:Af w (w.alloc (.cells #[i64 n,.slice AE es.length c] 24)):=(zr _ _).alloc _
 have hC:=zh (CG n AE c es _ (h.grew BX) (by omega))
 have bm:=zh (λ W (k:Af w W)=>C0 n AE c es W (h.grew k) (by omega))
 have hkF:=zh (o7 hr)
 have hkT:=zh (yW hr)
 have hLF:=zh (λ A c W (r:Bo W A es)=>jE (λ e=>e.1) (keyF es) n A c es W r (by omega) (by omega) (λ p q r W=>nl p q r W) hkF.out)
 have hLT:=zh (λ A c W (r:Bo W A es)=>tJ (λ e=>e.2.1) (LB es) n A c es W r (by omega) (by omega) (λ p q r W=>to_any p q r W) hkT.out)
 rw[hr]at hC
 obtain⟨L,hL⟩:=zn (es.length)
 have HL:=zh hL
 rw[hL]at b0 BX hC bm hLF hLT ⊢
 clear h hL hl hr hkF hkT
 obtain⟨c0,c1⟩:=BP b0
 go_enter Tryz.func148,Tryz.ntmps148
 go_wp2_with fail
 refine hC.out.mono ?_
 rintro e w1 ⟨rfl,k1⟩
 replace b0:=b0.grew k1
 replace BX:=BX.trans k1
 replace c0:=b0.cell 0
 replace c1:=b0.cell 1
 simp at c0 c1
 clear k1
 go_wp2_with fail
 refine(bm.out _ BX).mono ?_
 rintro e w2 ⟨v,rfl,hE,k2⟩
 obtain⟨A2,c2,hv,AX⟩:=hE.row
 rw[HL.out]at hv
 subst hv
 have AV:=zh hE
 have hz01:=b0.lt
 replace b0:=b0.grew k2
 have BG:=BX.size
 have B4:=k2.size
 replace BX:=BX.trans k2
 have f0:=b0.frozen 0
 have f1:=b0.frozen 1
 have BZ:=b0.lt
 obtain⟨q0,q1⟩:=BP b0
 go_upto_region 4 with fail
 have hF:Kept (·=w.heap.size) w2 ((w2.setCell ⟨w.heap.size,0,none⟩ (i64 n)).setCell ⟨w.heap.size,1,none⟩ (.slice A2 L c2)):=((zr (·=w.heap.size) w2).setCell (p:=⟨w.heap.size,0,none⟩) (.inl rfl) _).setCell (p:=⟨w.heap.size,1,none⟩) (.inl rfl) _
 have b3:=(b0.set 0 (i64 n)).set 1 (.slice A2 L c2)
 simp at b3
 obtain⟨w3,Db⟩:=zn ((w2.setCell ⟨w.heap.size,0,none⟩ (i64 n)).setCell ⟨w.heap.size,1,none⟩ (.slice A2 L c2))
 rw[Db]at hF b3 ⊢
 have bl:Hid (∀ x,A2=some x->(w.heap.size+1<=x.block/\x.block<w2.heap.size)\/es=[]):=λ x hx=>by
  rcases es with _ | ⟨e,es⟩
  ·exact .inr rfl
  ·left;have h1:=(AV.out.lt x.block (by rw[hx];rfl));refine⟨?_,h1.2⟩;have h2:=h1.1;omega
 have oK:Hid (Bo w3 A2 es):=by
  show Bo _ _ _;by_cases te:es=[]
  ·rw[te];exact Bo.nil _ _
  ·refine AX.kept hF λ x hx hq=>?_;rcases bl.out x hx with h | h
   ·have:x.block=w.heap.size:=hq;omega
   ·exact te h
 have kw3:Af w w3:=BX.then hF (λ i hi h=>by have:i=w.heap.size:=h;omega)
 have hz3:=hF.size
 clear Db hC bm hE AX AV b0 c0 c1 q0 q1 f0 f1 BX k2
 refine rG [] (λ _=>False) ?_
 refine tG 0 9 (y:=λ w' Aj=>by have AN:=(b3.drew.grew Aj).cell 0;have AZ:=(b3.drew.grew Aj).cell 1;simp at AN AZ;go_simp<;>with_reducible rfl) (h:=?_)
 refine pG 1 10 ?_
 refine tG 2 11 (y:=λ w' Aj=>by have AN:=(b3.drew.grew Aj).cell 0;have AZ:=(b3.drew.grew Aj).cell 1;simp at AN AZ;go_simp<;>with_reducible rfl) (h:=?_)
 refine pG 3 12 ?_
 refine tG 4 13 (y:=λ w' Aj=>by have AN:=(b3.drew.grew Aj).cell 0;have AZ:=(b3.drew.grew Aj).cell 1;simp at AN AZ;go_simp<;>with_reducible rfl) (h:=?_)
 refine pG 6 15 ?_
 refine tG 7 16 (y:=λ w' Aj=>by have AN:=(b3.drew.grew Aj).cell 0;have AZ:=(b3.drew.grew Aj).cell 1;simp at AN AZ;go_simp<;>with_reducible rfl) (h:=?_)
 refine pG 8 17 ?_
 refine tG 9 18 (y:=λ w' Aj=>by have AN:=(b3.drew.grew Aj).cell 0;have AZ:=(b3.drew.grew Aj).cell 1;simp at AN AZ;go_simp<;>with_reducible rfl) (h:=?_)
 refine sG 5 14 (λ K Al=>?_)
 go_simp
 refine(hLF.out A2 c2 _ (oK.out.grew (zr _ _).drew)).mono ?_
 rintro e w4 ⟨g1,gb1,f1,he,l1,k4,m1,m2⟩
 unfold gh at he
 subst he
 refine Al _ _ (λ _=>k4) ?_
 clear Al
 simp only[sA]
 refine sG 10 19 (λ K Al=>?_)
 go_simp
 refine(hLT.out A2 c2 _ ((oK.out.grew (zr _ _).drew).grew k4)).mono ?_
 rintro e w5 ⟨g2,gb2,f2,he,l2,k5,m3,m4⟩
 unfold gh at he
 subst he
 refine Al _ _ (λ _=>k5) ?_
 clear Al
 simp only[sA]
 refine pG 11 20 ?_
 refine sG 12 21 (λ K Al=>?_)
 go_simp
 refine Al _ _ (λ _=>(zr _ _).alloc _) ?_
 clear Al
 simp only[sA]
 refine pG 13 2 ?_
 refine pG 14 3 ?_
 refine dG ?_
 go_wp2_with fail
 go_ret2
 have Dn:Af w3 w4:=(zr _ _).drew.trans k4
 have hz4:=Dn.size
 have hz5:=k5.size
 have OJ:Bo w5 A2 es:=(oK.out.grew Dn).grew k5
 have GR:=l1.edges.lt
 have hgb1:=l1.begin.lt
 have fm:=l2.edges.lt
 have hgb2:=l2.begin.lt
 refine⟨w5.heap.size,rfl,⟨A2,c2,g1,gb1,g2,gb2,f1,f2,?_⟩,((kw3.trans Dn).trans k5).alloc _⟩
 rw[HL.out]
 refine⟨zv w5 _ _,OJ.grew ((zr _ _).alloc _),(l1.grew k5).grew ((zr _ _).alloc _),l2.grew ((zr _ _).alloc _),by simp,by simp;omega,by simp;omega,by simp;omega,by simp;omega,λ x hx=>?_⟩
 rcases bl.out x hx with h | h
 ·left;simp;omega
 ·exact .inr h
end Go.Proofs.YtepelooebggliaaGreatDoor.Ad
namespace Go.Proofs.YtepelooebggliaaGreatDoor.Ad
open Go.RowKit
def rowI (key:Nat->Nat) (v m:Nat):List Int:=(rowN key v m).map (λ k:Nat=>(k:Int))
theorem rowI_length (key:Nat->Nat) (v m:Nat):(rowI key v m).length=cnt key v m:=by simp[rowI,Ew]
theorem rowI_at {key:Nat->Nat} {v m r:Nat} {z:Int} (h:(rowI key v m)[r]? = some z):∃ j:Nat,z=(j:Int)/\key j=v/\cnt key v j=r/\j<m:=by
 unfold rowI at h;rw[Pk]at h;obtain⟨j,hj,rfl⟩:=PI.1 h;obtain⟨a,b,c⟩:=Nt key v m r j hj;exact⟨j,rfl,a,b,c⟩
theorem Laid.row {w:A_} {gE gB n m v:Nat} {key:Nat->Nat} {f:Nat->Int} (h:Laid w gE gB n m key f) (hv:v<n):RowI w (some ⟨gE,pre key m v,none⟩) (rowI key v m) :=
 h.edges.row _ λ r z hz=>by
  obtain⟨j,rfl,h1,h2,h3⟩:=rowI_at hz;have h4:=h.place j h3;rw[h1,h2]at h4;have h5:=Kw (key:=key) h.keys h3;rw[h1,h2]at h5;exact⟨h5,h4⟩
def OfE (g:Nat) (key:Nat->Nat) (v m:Nat) (w:A_) (e:Ending) (w':A_):Prop:=∃ x c,e=.returned (.slice (some x) (cnt key v m) c)/\RowI w' (some x) (rowI key v m)/\Af w w'/\x.block=g
theorem pA (w:A_) (gE gB n m v:Nat) (key:Nat->Nat) (f:Nat->Int) (h:Laid w gE gB n m key f) (hv:v<n) (hn:n<=60000) (hm:m<=60000) :
  B_ E_ 277 #[.agg #[rowV gE m,rowV gB (n+1)],i64 v] w λ e w'=>OfE gE key v m w e w':=by
 have HR:=zh (λ W (k:Af w W)=>(h.row hv).grew k)
 have HZ:Hid (cnt key v m=0->rowI key v m=[]):=λ h=>List.eq_nil_of_length_eq_zero (by rw[rowI_length];exact h)
 have b0:=zv w 297 #[rowV gE m,rowV gB (n+1)]
 obtain⟨c0,c1⟩:=BP b0
 have h1:=(h.begin.alloc (.cells #[rowV gE m,rowV gB (n+1)] 297)).cell (i:=v) (by omega)
 have h2:=(h.begin.alloc (.cells #[rowV gE m,rowV gB (n+1)] 297)).cell (i:=v+1) (by omega)
 have hp:=pE key m n (v+1) h.keys (by omega)
 have he:pre key m (v+1)=pre key m v+cnt key v m:=rfl
 rw[he]at h2 hp
 obtain⟨a,ha⟩:=zn (pre key m v)
 obtain⟨b,hb⟩:=zn (cnt key v m)
 rw[ha]at h1 HR
 rw[ha,hb]at h2 hp
 have HE:Hid (∀ W c,Af w W->OfE gE key v m w (.returned (.slice (some ⟨gE,a,none⟩) b c)) W):=λ W c k=>by rw[<- hb];exact⟨_,c,rfl,HR.out W k,k,rfl⟩
 have HE0:Hid (∀ W c,b=0->Af w W->OfE gE key v m w (.returned (.slice (some ⟨gE,0,none⟩) 0 c)) W):=λ W c h0 k=>by
  rw[<- hb]at h0;refine⟨_,c,by rw[h0],?_,k,rfl⟩;rw[HZ.out h0];exact RowI.nil _ _
 have v0:(0:Int)<=(v:Int):=by omega
 have v1:(v:Int)<(n:Int)+1:=by omega
 have v2:(v:Int)+1<(n:Int)+1:=by omega
 have v3:(0:Int)<=(v:Int)+1:=by omega
 have wv:PD.wrap ((v:Int)+1)=(v:Int)+1:=Pf _ (by omega)
 have tv:((v:Int)+1).toNat=v+1:=by omega
 have d1:decide ((v:Int)<0)=false:=zf (by omega)
 have d2:decide ((n:Int)+1<=(v:Int)+1)=false:=zf (by omega)
 have d3:decide ((n:Int)<=(v:Int))=false:=zf (by omega)
 have s1:((a+b:Nat):Int)=(a:Int)+(b:Int):=by omega
 clear h he ha hb
 go_enter Tryz.func277,Tryz.ntmps277
 go_wp2_with fail
 go_quiet (fail)
 all_goals go_wp2
 all_goals go_ret
 all_goals
  have k:Af w ((w.alloc (.cells #[rowV gE m,rowV gB (n+1)] 297)).drewN nq):=((zr _ _).alloc _).drewN _
  first
  | exact HE.out _ _ k
  | exact HE0.out _ _ (by omega) k
theorem row_any (w:A_) (B a n v:Nat) (es:List AJ) (back:Bool) (h:AdjB w B a n es) (hv:v<n) (hn:n<=60000) (hm:es.length<=60000) :
  B_ E_ 215 #[pt a,i64 v,.bool back] w λ e w'=>∃ x c,e=.returned (.slice (some x) (cnt (if back then LB es else keyF es) v es.length) c)/\RowI w' (some x) (rowI (if back then LB es else keyF es) v es.length)/\Af w w'/\x.block<B:=by
 obtain⟨AE,c,g1,b1,g2,b2,f1,f2,hb,_,l1,l2,z1,z2,z3,z4,_⟩:=h.parts
 have c3:=hb.cell 2
 have c4:=hb.cell 3
 have c5:=hb.cell 4
 have c6:=hb.cell 5
 simp at c3 c4 c5 c6
 cases back with
 | false =>
  have hO:=pA w g1 b1 n es.length v (keyF es) f1 l1 hv hn hm;unfold OfE at hO;replace hO:=zh hO;simp only[Bool.false_eq_true,if_false];obtain⟨b,IU⟩:=zn (cnt (keyF es) v es.length);obtain⟨zs,dB⟩:=zn (rowI (keyF es) v es.length);rw[IU,dB]at hO;rw[IU,dB];obtain⟨L,hL⟩:=zn (es.length);rw[hL]at hO c3 c5;clear h hb l1 l2 IU hL dB;go_enter Tryz.func215,Tryz.ntmps215;go_wp2_with fail;refine hO.out.mono ?_;rintro e w1 ⟨x,c',rfl,hr,k,hxg⟩;go_wp2_with fail;go_ret;exact⟨x,c',rfl,hr,k,by omega⟩
 | true =>
  have hO:=pA w g2 b2 n es.length v (LB es) f2 l2 hv hn hm;unfold OfE at hO;replace hO:=zh hO;simp only[if_true];obtain⟨b,IU⟩:=zn (cnt (LB es) v es.length);obtain⟨zs,dB⟩:=zn (rowI (LB es) v es.length);rw[IU,dB]at hO;rw[IU,dB];obtain⟨L,hL⟩:=zn (es.length);rw[hL]at hO c3 c5;clear h hb l1 l2 IU hL dB;go_enter Tryz.func215,Tryz.ntmps215;go_wp2_with fail;refine hO.out.mono ?_;rintro e w1 ⟨x,c',rfl,hr,k,hxg⟩;go_wp2_with fail;go_ret;exact⟨x,c',rfl,hr,k,by omega⟩
theorem rowI_le (key:Nat->Nat) (v m:Nat):(rowI key v m).length<=m:=by rw[rowI_length];exact MI key v m
end Go.Proofs.YtepelooebggliaaGreatDoor.Ad
namespace Go.Proofs.YtepelooebggliaaGreatDoor
open Go.RowKit Go.Shelf
attribute [local go_sem] Oper.semAt_some
abbrev En:=Nat×AJ
abbrev enV (x:En):Array C_:=#[i64 x.1,.agg #[i64 x.2.1,i64 x.2.2.1,u64 x.2.2.2]]
def Jg (es:List AJ) (v:Nat):List En:=(Ad.rowN (Ad.keyF es) v es.length).map λ k=>(k,(es[k]?).getD (0,0,0))
abbrev eG (n b1 b2 b3:Nat):Nat->Prop:=λ k=>n<=k/\k≠b1/\k≠b2/\k≠b3
structure Hc (w:A_) (b1 b2 b3 a v:Nat):Prop where
 adj:Ao w b1 223 #[pt a]
 node:Ao w b2 3 #[i64 v]
 back:Ao w b3 4 #[.bool false]
theorem Hc.kept {w w':A_} {n b1 b2 b3 a v:Nat} (h:Hc w b1 b2 b3 a v) (k:Kept (eG n b1 b2 b3) w w'):Hc w' b1 b2 b3 a v :=
 ⟨h.adj.kept k (λ e=>e.2.1 rfl),h.node.kept k (λ e=>e.2.2.1 rfl),h.back.kept k (λ e=>e.2.2.2 rfl)⟩
theorem Hc.grew {w w':A_} {b1 b2 b3 a v:Nat} (h:Hc w b1 b2 b3 a v) (k:Af w w'):Hc w' b1 b2 b3 a v:=⟨h.adj.grew k,h.node.grew k,h.back.grew k⟩
theorem cj (m l b1 b2 b3 B a n v:Nat) (es:List AJ) (w0:A_) (hA:Ad.AdjB w0 B a n es) (hB:B<=w0.heap.size) (hv:v<n) (hn:n<=4096) (hm:es.length<=16384)
  (LL:List En) (iU:Jg es v=LL) (J Jx:List {x:En // x∈LL}->A_->Prop) (W:A_) (Fu:Kept (λ j=>w0.heap.size<=j) w0 W) (hE:Hc W b1 b2 b3 a v) (hJ:AbidesFrom W.heap.size J)
  (hY:∀ pre x W1,J pre W1->pre.length<es.length+1->YieldAt PE (m-1) E_ l (enV x.1) W1 λ e W' =>
   (e=.returned (.bool true)/\J (pre++[x]) W'/\Kept (eG w0.heap.size b1 b2 b3) W1 W')\/(e=.returned (.bool false)/\Jx (pre++[x]) W'))
  (h0:J [] W) :
  CallsIn PE m E_ 214 #[.func (.yield l) #[] #[],pt b1,pt b2,pt b3] W λ e W'=>(∃ u,e=.returned u) /\
   (J LL.attach W'\/(∃ pre,pre <+: LL.attach/\Jx pre W')):=by
 have HR:=zh (Ad.row_any W B a n v es false (hA.kept Fu (λ j hj=>by omega)) hv (by omega) (by omega))
 simp only[Bool.false_eq_true,if_false]at HR
 have x1:=hE.adj.cell 0
 have x2:=hE.node.cell 0
 have x3:=hE.back.cell 0
 simp at x1 x2 x3
 have hlen:(Ad.rowI (Ad.keyF es) v es.length).length=Ad.cnt (Ad.keyF es) v es.length:=Ad.rowI_length _ _ _
 have hle:=Ad.rowI_le (Ad.keyF es) v es.length
 obtain⟨L,hL⟩:=zn (Ad.cnt (Ad.keyF es) v es.length)
 rw[hL]at HR hlen
 rw[hlen]at hle
 have HK:=Fo hA Fu hE hlen hB
 have hLm:L<=16384:=by omega
 have hY:=zh hY
 have HLe:=zh hle
 have uD:=zh iU
 clear hA Fu hE hB hlen hL hle iU
 refine callsIn_of_wp Tryz.func214 rfl trivial ?_ rfl
 simp only[Tryz.ntmps214,Pw,Pn,Po,Nat.reduceAdd,Nat.reduceSub,O_,Pa,Px,Ps,Pp,PB]
 refine wpIn_wide.2 ?_
 go_wp2_with fail
 refine HR.out.mono ?_
 rintro r w1 ⟨x,c,rfl,AX,g1,hxB⟩
 have hJ1:=hJ _ _ _ none h0 ⟨g1.os,g1.tape,g1.output,g1.size,λ k hk _=>g1.block k hk (λ h=>h)⟩ (λ r e=>by cases e)
 have HX:=DU AX g1 hxB
 clear HR x1 x2 x3 AX g1 hxB h0
 go_wp2_with fail
 refine(wpIn_wide (n:=m)).1 ?_
 gi_loopw [6,12] (λ u6 i wr=>∃ q:Nat,q<=L/\i=.int .i64 q/\J (LL.attach.take q) wr/\Hid (Kept (eG w0.heap.size b1 b2 b3) w1 wr)) (λ u6 i wr=>L-(intOf i).toNat)
 case atStart=>exact⟨0,Nat.zero_le _,rfl,hJ1,zr _ _⟩
 case round =>
  clear hJ1;obtain⟨q,hq,rfl,da,hk⟩:=hrel;by_cases hql:q<L
  ·obtain⟨z,hz⟩:∃ z,(Ad.rowI (Ad.keyF es) v es.length)[q]? = some z:=⟨_,zq (by rw[HK.out.2.2.2.1];exact hql)⟩;obtain⟨j,rfl,hkj,hcj,hjm⟩:=Ad.rowI_at hz;obtain⟨⟨p,r,t⟩,he⟩:∃ e,es[j]? = some e:=⟨_,zq hjm⟩;obtain⟨x0,AN,hxe0⟩:∃ x:{x:En // x∈LL},LL.attach[q]? = some x/\x.1=(j,(p,r,t)):=by
    have h1:(Ad.rowN (Ad.keyF es) v es.length)[q]? = some j:=by
     unfold Ad.rowI at hz;rw[Pk]at hz;obtain⟨j',h1,h2⟩:=PI.1 hz;have:j'=j:=(by omega);rw[h1,this]
    have h2:LL[q]? = some (j,(p,r,t)):=by
     rw[<- uD.out];unfold Jg;rw[Pk,h1];simp[he]
    have fy:=(Pg.1 h2).1
    refine⟨LL.attach[q]'(by rw[Pv];exact fy),zq _,?_⟩
    rw[List.getElem_attach]
    exact(Pg.1 h2).2
   have L7:LL.attach.take (q+1)=LL.attach.take q++[x0]:=by rw[Py,AN];rfl
   have kW1:Kept (λ j=>w0.heap.size<=j) w0 w1:=HK.out.2.1.grew HX.out.2.1;have kwr:Kept (λ j=>w0.heap.size<=j) w0 wr:=kW1.trans (hk.out.mono λ j _ hj=>hj.1);have cZ:=(HK.out.2.2.1.grew HX.out.2.1).kept hk.out;have hAr:=HK.out.1.kept kwr (λ j hj=>Nat.le_trans HK.out.2.2.2.2 hj);obtain⟨AE,cE,g1,eU,g2,b2',f1,f2,hb,hrE,_⟩:=hAr.parts;obtain⟨bE,oE,rfl,hbE,e0,e1,e2⟩:=hrE j _ he;have AX:=HX.out.1.kept hk.out (λ a ha=>by cases ha;have:=HX.out.2.2;have:=HK.out.2.2.2.2;exact λ e=>by have:=e.1;omega);obtain⟨bR,oR,M0,xW,hcR⟩:=AX q _ hz;cases M0;have y1:=cZ.adj.cell 0;have z1:=hb.cell 1;simp at y1 z1;dsimp only at e0 e1 e2;have q0:(0:Int)<=(q:Int):=(by omega);have q1:(q:Int)<(L:Int):=(by omega);have j1:(j:Int)<(es.length:Int):=(by omega);have Hv:(LL.attach.take q).length<es.length+1:=by have:=HLe.out;rw[List.length_take];omega
   have mo:=hY.out _ x0 _ da Hv;rw[hxe0,<-L7]at mo;have HN:=BO L7 kW1;obtain⟨LE,hLE⟩:=zn (es.length);rw[hLE]at z1 j1;obtain⟨fn,tmps,assign,body,hy,hR⟩:=mo;clear hz hkj hcj hjm he L7 AN hxe0 kW1 kwr cZ hAr hb hrE AX hbE xW Hv hLE da;gi_wp2;refine⟨(λ h=>by cases h),?_⟩;refine hR.mono ?_;rintro e W3 (⟨rfl,vf,tk⟩ | ⟨rfl,hJx⟩)
   ·have hk5:=zh (hk.out.trans tk);clear y1 z1 e0 e1 e2 hcR;gi_wp2;go_roundw
    case rel=>exact⟨q+1,by omega,by go_num,vf,hk5⟩
    case measure=>simp[intOf];omega
   ·clear y1 z1 e0 e1 e2 hcR;gi_wp2;refine zy (results_none rfl _ _ _) rfl ?_;refine⟨⟨_,rfl⟩,.inr ⟨_,?_,hJx⟩⟩;exact PC _ _
  ·obtain rfl:L=q:=(by omega);have hJe:J LL.attach wr:=by
    rw[Pm (by rw[Pv,<-uD.out];unfold Jg;have:=HK.out.2.2.2.1;unfold Ad.rowI at this;rw[Ph]at this ⊢;omega)]at da
    exact da
   gi_wp2;go_end0;exact⟨⟨_,rfl⟩,.inl hJe⟩
theorem kv (m b1 b2 b3 B a n v:Nat) (es:List AJ) (LL:List En) (iU:Jg es v=LL) (w0 w:A_) (hA:Ad.AdjB w0 B a n es) (hB:B<=w0.heap.size) (hv:v<n) (hn:n<=4096) (hm:es.length<=16384) (hk:Kept (λ j=>w0.heap.size<=j) w0 w) (hE:Hc w b1 b2 b3 a v) :
  SeqStopsK PE m E_ 214 #[pt b1,pt b2,pt b3] (λ x:{x:En // x∈LL}=>enV x.1) (Kept (eG w0.heap.size b1 b2 b3)) (λ xs=>xs=LL.attach) (λ pre=>pre <+: LL.attach) (es.length+1) w:=λ l J Jx W hW hJ _ hY h0=>by
 have hg:Af w W:=Af.of_below hW
 refine(cj m l b1 b2 b3 B a n v es w0 hA hB hv hn hm LL iU J Jx W (hk.grew hg) (hE.grew hg) hJ hY h0).mono ?_
 rintro e W' ⟨he,hj | ⟨pre,hp,hj⟩⟩
 ·exact⟨he,.inl ⟨_,rfl,hj⟩⟩
 ·exact⟨he,.inr ⟨pre,hp,hj⟩⟩
theorem N5 (a v:Nat) (w:A_):B_ E_ 151 #[pt a,i64 v,.bool false] w λ e w'=>e=.returned (.func (.func 214) #[] #[pt w.heap.size,pt (w.heap.size+1),pt (w.heap.size+1+1)])/\Hc w' w.heap.size (w.heap.size+1) (w.heap.size+1+1) a v/\Af w w':=by
 have b1:=((zv w 223 #[pt a]).alloc (.cells #[i64 v] 3)).alloc (.cells #[.bool false] 4);have b2:=zv (w.alloc (.cells #[pt a] 223)) 3 #[i64 v];have b3:=zv ((w.alloc (.cells #[pt a] 223)).alloc (.cells #[i64 v] 3)) 4 #[.bool false];rw[Pb]at b2;rw[Pb,Pb]at b3;have HF:=DU b1 (b2.alloc (.cells #[.bool false] 4)) b3;clear b1 b2 b3;go_enter Tryz.func151,Tryz.ntmps151;go_wp2_with fail;go_ret;exact⟨by simp,⟨HF.out.1,HF.out.2.1,HF.out.2.2⟩,(((zr _ _).alloc _).alloc _).alloc _⟩
end Go.Proofs.YtepelooebggliaaGreatDoor
namespace Go.Proofs.YtepelooebggliaaGreatDoor
open Go.RowKit Go.Shelf
variable {F:Fence} {n:Nat} {P:Program}
def Im {β:Type} (b:Nat) (J:β->A_->Prop):Prop:=∀ s W v,J s W->J s (W.setCell ⟨b,0,none⟩ v)
def mz {α:Type} (F:Fence) (n:Nat) (P:Program) (g:Nat) (lb:Array C_) (iK:α->Array C_) (Kp:A_->A_->Prop) (xs:List α) (b:Nat) (w:A_):Prop :=
 ∀ (l:Nat) (J:List α->A_->Prop) (W:A_),Below w.heap.size w W->AbidesFrom W.heap.size J->Im b J ->
  (∀ pre x W1,J pre W1->pre++[x] <+: xs->YieldAt F (n-1) P l (iK x) W1 λ e W'=>e=.returned (.bool true)/\J (pre++[x]) W'/\Kp W1 W')->J [] W ->
  CallsIn F n P g (#[.func (.yield l) #[] #[]]++lb) W λ e W'=>(∃ v,e=.returned v)/\J xs W'
theorem GA (W:A_) (b:Nat) (v:C_) {i:Nat} (h:i≠b):(W.setCell ⟨b,0,none⟩ v).heap[i]? = W.heap[i]? := Below.heap_setCell W ⟨b,0,none⟩ v i h
theorem G7 {α:Type} {g:Operand} {ps:Array Tmp} {assign body:Code} {Q:Exit->Act->A_->Prop} {a:Act} {w:A_} (hro:F.round=none) (h1:1<=n) {gf:Nat} {lb:Array C_} (hg:a.eval g=.func (.func gf) #[] lb) (hFg:F.fn gf) (eg:∀ args w,(callFunc gf args).run P w=.ok (.enter gf args) w)
  {iK:α->Array C_} {Kp:A_->A_->Prop} {xs:List α} {b:Nat} (hb:b<w.heap.size) (hseq:mz F (n-1) P gf lb iK Kp xs b w) (hKt:∀ {A B C:A_},Kp A B->Kp B C->Kp A C)
  (hKb:∀ (W:A_) (l:Nat) (o o':Obj),w.heap.size<=l->W.heap[l]? = some o->o.isCells=false->Kp W (W.putObj l o')) (hps:∀ x,(iK x).size=ps.size)
  (I:List α->A_->Prop) (hI:D_ w.heap.size I) (hIb:Im b I) (h0:I [] w) (a₁:α->Act)
  (sX:∀ (l:Nat) (x:α) (W:A_) (K:Act->A_->Prop),K (a₁ x) W ->
   assign.wpIn (F.inRound l) (n-1-1) P (Exit.then K (λ _ _ _=>False)) { tmps:=(ps.zip (iK x)).foldl (λ t (p,v)=>t.setIfInBounds p v) a.tmps,defers:=[] } W)
  (hbody:∀ (l:Nat) (pre:List α) (x:α) (W:A_),I pre W->pre++[x] <+: xs->body.wpIn (F.inRound l) (n-1-1) P (ownPostK Kp I (λ _ _ _=>False) (pre++[x]) W) (a₁ x) W)
  (zAn:∀ (D:Nat) (W:A_),w.heap.size<=D->I xs W->W.heap[D]? = some (.deferred (some []))->Q .normal { a with defers:={ target:=.collected D,args:=#[] }::a.defers } W) :
  (Code.rangeFunc g ps assign body).wpIn F n P Q a w:=by
 refine wpIn_rangeFunc ?_
 intro fn hfn
 rw[hro]
 obtain⟨rec,OH⟩:∃ rec:LoopState->Option Code->Loop,rec=λ st pe=>{ state:=st,pending:=pe,fn,tmps:=a.tmps,params:=ps,assign,body,defers:=w.heap.size }:=⟨_,rfl⟩
 obtain⟨D,hD⟩:=zn (w.heap.size)
 obtain⟨W1,NL⟩:=zn ((w.alloc (.deferred (some []))).alloc (.loop (rec .ready none)))
 have C5:W1.heap.size=D+2:=by rw[<- NL,<-hD];simp
 have at1:W1.heap[D+1]? = some (.loop (rec .ready none)):=by
  have:=Pe (w.alloc (.deferred (some []))) (.loop (rec .ready none));rwa [Pb,hD,NL]at this
 have at0:W1.heap[D]? = some (.deferred (some [])):=by
  have h:=PH (w.alloc (.deferred (some []))) (.loop (rec .ready none)) D (by simp;omega);rw[NL]at h;rw[h,<-hD];exact Pe w _
 have hI1:I [] W1:=by rw[<- NL];exact hI.alloc _ (hI.alloc _ h0)
 have xu:Below w.heap.size w W1:=by rw[<- NL];exact(((Below.refl _ w).alloc (zl _) _).alloc (by simp) _).mono (zl _)
 refine⟨D+1,[{ target:=.collected D,args:=#[] }],W1,{ target:=.fn (.func gf) lb,args:=#[.func (.yield (D+1)) #[] #[]] },W1,gf,#[.func (.yield (D+1)) #[] #[]]++lb,W1,?_,?_,?_,?_,λ _=>h1,?_⟩
 ·rw[<- NL,OH,<-hD];exact run_enterLoop_outer _ _ _ _ _
 ·simp only[resolve,hg];simp[go_sem]
 ·intro f' hf';simp[Target.leads]at hf';subst hf';exact hFg
 ·simp[invoke,go_sem,eg]
 have only:∀ {A B:A_} {row:Option Nat},(∀ r,row=some r->W1.heap.size<=r/\∃ o:Obj,A.heap[r]? = some o/\o.isWalk=true)->(∀ r,row=some r->w.heap.size<=r/\∃ o:Obj,A.heap[r]? = some o/\o.isCells=false) :=
  λ hr r e=>by obtain⟨hB,o,ho,hw⟩:=hr r e;exact⟨by omega,o,ho,Obj.not_cells_of_walk hw⟩
 refine(hseq (D+1) (λ pre W=>I pre W/\W.heap[D+1]? = some (.loop (rec .ready none))/\W.heap[D]? = some (.deferred (some []))) W1 xu
  (λ s A B row hs ja hr=>⟨hI s A B row hs.1 ja (only (B:=B) hr),(grownBy_keeps ja (λ r e=>(hr r e).2) hs.2.1 rfl).trans hs.2.1,(grownBy_keeps ja (λ r e=>(hr r e).2) hs.2.2 rfl).trans hs.2.2⟩)
  (λ s A v hs=>⟨hIb s A v hs.1,(GA A b v (by omega)).trans hs.2.1,(GA A b v (by omega)).trans hs.2.2⟩) ?_ ⟨hI1,at1,at0⟩).mono ?_
 ·rintro pre x W ⟨hi,hl,hk⟩ Ly;have AI:D+1<W.heap.size:=(N_.1 hl).1;have hy:=run_yield (P:=P) (args:=iK x) hl (by rw[OH];exact hps x);rw[OH]at hy;refine⟨fn,_,assign,body,hy,roundIn_of_wpIn hfn (sX _ x W _ ⟨_,run_beginRound hl (by rw[OH]),?_⟩)⟩;obtain⟨W2,rq⟩:=zn (W.putObj (D+1) (.loop { rec .ready none with state:=.busy }));have hl2:W2.heap[D+1]? = some (.loop { rec .ready none with state:=.busy }):=by rw[<- rq];exact Pd AI
  have Ka:W2.heap[D]? = some (.deferred (some [])):=by rw[<- rq];exact(Pc (by omega)).trans hk
  have kp2:Kp W W2:=by rw[<- rq];exact hKb _ _ _ _ (by omega) hl rfl
  have ob:I pre W2:=by rw[<- rq];exact hI.putObj _ hi (by omega) hl rfl
  rw[rq];refine wpIn_mono (hbody _ pre x _ ob Ly) ?_;rintro e a3 W3 hp;cases e with
  | normal =>
   obtain⟨o3,kp3,yj⟩:=hp;have hl3:=o3.same _ _ hl2 rfl;have hr:=run_endRound (P:=P) none hl3;rw[OH]at hr hl3;refine⟨_,_,hr,rfl,⟨hI.putObj _ yj (by omega) hl3 rfl,?_,(Pc (by omega)).trans (o3.same _ _ Ka rfl)⟩,hKt (hKt kp2 kp3) (hKb _ _ _ _ (by omega) hl3 rfl)⟩;rw[OH];exact Pd (N_.1 hl3).1
  | ret=>exact hp.2.elim
  | exit id=>exact hp.2.elim
  | goto t=>exact hp.2.elim
  | panic ch=>exact hp.elim
  | outgrown=>exact hp.elim
 ·rintro e W2 ⟨⟨v,rfl⟩,hi,hl,hk⟩;exact⟨none,_,by have h:=run_endLoop (P:=P) hl (by rw[OH];simp);rw[OH]at h;exact h,zAn D _ (by omega) (hI.putObj _ hi (by omega) hl rfl) ((Pc (by omega)).trans hk)⟩
end Go.Proofs.YtepelooebggliaaGreatDoor
namespace Go.Proofs.YtepelooebggliaaGreatDoor
open Go.RowKit Go.Shelf
attribute [local go_sem] Oper.semAt_some
theorem KN (l:List UInt8) (W:A_):B_ E_ 241 #[.string (bs l),.string (bs [44])] W λ e W'=>e=.returned (.int .i64 (PO l 44))/\W'=W:=by
 have:=Tryz.strings_Index_one (bs l) 44 W;rw[Hl]at this;exact this
theorem gi (l:List UInt8) (j:Nat) (h:j<=l.length) (W:A_):(Instr.slice 9 (.string (bs l)) none (some (.int .i64 (j:Int))) none).run E_ W=.ok (str (l.take j)) W:=by
 rw[run_slice_string_h (ht:=F_) (h0:=by omega) (h2:=by rw[Bb];omega),PF];unfold str bs;rw[ByteArray.extract_mk];simp
theorem gj (l:List UInt8) (i:Nat) (h:i<=l.length) (W:A_):(Instr.slice 9 (.string (bs l)) (some (.int .i64 (i:Int))) none none).run E_ W=.ok (str (l.drop i)) W:=by
 rw[run_slice_string_l (ht:=F_) (h0:=by omega) (h1:=by rw[Bb];omega),PF,Bb];unfold str bs;rw[ByteArray.extract_mk];simp;exact Pm (by simp)
abbrev mu (b1 b2 b3:Nat):Nat->Prop:=λ k=>k≠b1/\k≠b2/\k≠b3
structure Ch (w:A_) (b1 b2 b3:Nat) (l:List UInt8):Prop where
 sep:Ao w b1 9 #[str [44]]
 txt:Ao w b2 9 #[str l]
 sav:Ao w b3 3 #[i64 0]
 ne:b1≠b2
theorem Ch.keptC {w w':A_} {b1 b2 b3:Nat} {l:List UInt8} (h:Ch w b1 b2 b3 l) (k:Bx (mu b1 b2 b3) w w'):Ch w' b1 b2 b3 l :=
 ⟨k.blk h.sep (λ e=>e.1 rfl),k.blk h.txt (λ e=>e.2.1 rfl),k.blk h.sav (λ e=>e.2.2 rfl),h.ne⟩
theorem Ch.grew {w w':A_} {b1 b2 b3:Nat} {l:List UInt8} (h:Ch w b1 b2 b3 l) (k:Af w w'):Ch w' b1 b2 b3 l:=⟨h.sep.grew k,h.txt.grew k,h.sav.grew k,h.ne⟩
theorem Ch.set {w:A_} {b1 b2 b3:Nat} {l:List UInt8} (h:Ch w b1 b2 b3 l) (l':List UInt8):Ch (w.setCell ⟨b2,0,none⟩ (str l')) b1 b2 b3 l':=by
 have n3:b3≠b2:=λ e=>by
  have h1:=h.sav;rw[e]at h1;have:=h.txt.symm.trans h1;cases this
 exact⟨h.sep.far (p:=⟨b2,0,none⟩) h.ne _,by have:=h.txt.set 0 (str l');simpa using this,h.sav.far (p:=⟨b2,0,none⟩) n3 _,h.ne⟩
theorem er (m l b1 b2 b3:Nat) (ws:List (List UInt8)) (Bn:ws≠[]) (hc:∀ x∈ws,(44:UInt8)∉x) (hs:∀ x∈ws,x.length<=100000) (J:List (List UInt8)->A_->Prop) (W:A_) (hE:Ch W b1 b2 b3 (Bm ws)) (hJb:Im b2 J)
  (hY:∀ pre x W1,J pre W1->pre++[x] <+: ws->YieldAt PE (m-1) E_ l #[str x] W1 λ e W'=>e=.returned (.bool true)/\J (pre++[x]) W'/\Bx (mu b1 b2 b3) W1 W')
  (h0:J [] W) :
  CallsIn PE m E_ 239 #[.func (.yield l) #[] #[],pt b1,pt b2,pt b3] W λ e W'=>(∃ u,e=.returned u)/\J ws W':=by
 have HC:=zh hc
 have HS:=zh hs
 have HJ:=zh hJb
 have hY:=zh hY
 obtain⟨L,hL⟩:=zn (ws.length)
 have fb:0<L:=by rw[<- hL];exact List.length_pos_iff.2 Bn
 have HL:=zh hL
 have HE:=zh hE
 have x1:=hE.sep.cell 0
 simp at x1
 have s1:(bs [44]).size=1:=rfl
 clear hc hs hJb hL hE Bn
 refine callsIn_of_wp Tryz.func239 rfl trivial ?_ rfl
 simp only[Tryz.ntmps239,Pw,Pn,Po,Nat.reduceAdd,Nat.reduceSub,O_,Pa,Px,Ps,Pp,PB]
 gi_wp2
 gi_loopg [7,8] L (λ r u7 u8 wr=>∃ k,k+r=L/\0<r/\J (ws.take k) wr/\Hid (Ch wr b1 b2 b3 (Bm (ws.drop k))))
 case atStart=>exact⟨0,by omega,fb,h0,HE.out⟩
 case round =>
  clear h0;obtain⟨k,hk,hr,da,cZ⟩:=hrel;obtain⟨x,hx⟩:=zx (l:=ws) (i:=k) (by rw[HL.out];omega);have L7:ws.take (k+1)=ws.take k++[x]:=by rw[Py,hx];rfl
  have Ly:ws.take k++[x] <+: ws:=by rw[<- L7];exact PC _ _
  have hdr:ws.drop k=x::ws.drop (k+1):=by
   rw[Pr (by rw[HL.out];omega)];congr 1;exact(Pg.1 hx).2
  have bp:=HC.out x (zm hx);obtain⟨tx,dz⟩:=zn (Bm (ws.drop k));rw[dz]at cZ;have HX:=Em L7 cZ.out hk da;have y1:=cZ.out.sep.cell 0;have y2:=cZ.out.txt.cell 0;have y3:=cZ.out.sav.cell 0;simp at y1 y2 y3;by_cases hl:k+1=L
  ·have CM:tx=x:=by rw[<- dz,hdr,List.drop_eq_nil_of_le (by rw[HL.out];omega),jz]
   have hi:PO tx 44=-1:=by rw[CM];exact index_none x 44 bp
   have HI:=zh (KN tx wr);rw[hi]at HI;have mo:=hY.out _ x _ da Ly;rw[<- CM]at mo;have hend:ws.take k++[x]=ws:=by rw[<- L7,Pm (by rw[HL.out];omega)]
   rw[CM,hend,<-CM]at mo;obtain⟨fn,tmps,assign,body,hy,hR⟩:=mo;clear hx L7 Ly hdr bp dz cZ da hi hend HX;subst CM;gi_wp2;refine⟨trivial,(λ h=>by cases h),?_⟩;refine(callsIn_wide.2 HI.out).mono ?_;rintro r w2 ⟨rfl,rfl⟩;gi_wp2;refine⟨(λ h=>by cases h),?_⟩;refine hR.mono ?_;rintro e W3 ⟨rfl,vf,tk⟩;gi_wp2;go_end0;exact⟨⟨_,rfl⟩,vf⟩
  ·obtain⟨y,hy⟩:=zx (l:=ws) (i:=k+1) (by rw[HL.out];omega);have hdr2:ws.drop (k+1)=y::ws.drop (k+1+1):=by
    rw[Pr (by rw[HL.out];omega)]
    congr 1
    exact(Pg.1 hy).2
   have oO:tx=x++44::Bm (ws.drop (k+1)):=(by rw[<- dz,hdr,hdr2,dF]);have hi:PO tx 44=(x.length:Int):=by rw[oO];exact jr x _ 44 bp
   have HI:=zh (KN tx wr);rw[hi]at HI;have mo:=hY.out _ x _ da Ly;obtain⟨M,hM⟩:=zn (x.length);rw[hM]at HI;have hlen:tx.length=M+1+(Bm (ws.drop (k+1))).length:=by rw[oO,Pt,Pn,hM];omega
   have c1:=λ W=>gi tx M (by omega) W;have c2:=λ W=>gj tx (M+1) (by omega) W;rw[show tx.take M=x by rw[oO,<-hM];simp]at c1;rw[show tx.drop (M+1)=Bm (ws.drop (k+1)) by rw[oO,<-hM,<-List.drop_drop];simp]at c2;rw[show ((M+1:Nat):Int)=(M:Int)+1 by omega]at c2;obtain⟨nx,yv⟩:=zn (Bm (ws.drop (k+1)));rw[yv]at c2;have HNX:=zh yv;have m0:¬ (M:Int)<0:=(by omega);have hM9:M<=100000:=by rw[<- hM];exact HS.out x (zm hx)
   have m1:wrap64 (M:Int)=(M:Int):=by unfold wrap64;omega
   have m2:wrap64 ((M:Int)+1)=(M:Int)+1:=by unfold wrap64;omega
   have lJ:(M:Int)<=((bs tx).size:Int):=by rw[Bb];omega
   have vL:(M:Int)+1<=((bs tx).size:Int):=by rw[Bb];omega
   obtain⟨fn,tmps,assign,body,CN,hR⟩:=mo;clear hx hy L7 Ly hdr hdr2 bp dz oO cZ da hi hM hlen yv;gi_wp2;refine⟨trivial,(λ h=>by cases h),?_⟩;refine(callsIn_wide.2 HI.out).mono ?_;rintro r w2 ⟨rfl,rfl⟩;gi_wp2;refine⟨(λ h=>by cases h),?_⟩;refine hR.mono ?_;rintro e W3 ⟨rfl,vf,tk⟩;have hE3:=HX.out.2.1.keptC tk;have z1:=hE3.sep.cell 0;have z2:=hE3.txt.cell 0;have z4:=hE3.txt.frozen 0;simp at z1 z2;clear y1 y2 y3;have HF:Hid (J (ws.take (k+1)) (W3.setCell ⟨b2,0,none⟩ (str nx))/\Ch (W3.setCell ⟨b2,0,none⟩ (str nx)) b1 b2 b3 (Bm (ws.drop (k+1)))):=by
    rw[HX.out.1,HNX.out]
    exact⟨HJ.out _ _ _ vf,hE3.set nx⟩
   clear hE3 vf;obtain⟨q,rfl⟩:∃ q,gk=q+1:=⟨gk-1,by omega⟩;gi_wp2;gi_roundg q
   case measure=>omega
   case rel=>exact⟨k+1,by omega,by omega,HF.out.1,HF.out.2⟩
theorem kt (m b1 b2 b3:Nat) (ws:List (List UInt8)) (Bn:ws≠[]) (hc:∀ x∈ws,(44:UInt8)∉x) (hs:∀ x∈ws,x.length<=100000) (w:A_) (hE:Ch w b1 b2 b3 (Bm ws)) :
  mz PE m E_ 239 #[pt b1,pt b2,pt b3] (λ x=>#[str x]) (Bx (mu b1 b2 b3)) ws b2 w:=λ l J W hW _ hJb hY h0 =>
 er m l b1 b2 b3 ws Bn hc hs J W (hE.grew (Af.of_below hW)) hJb hY h0
theorem kr (l:List UInt8) (w:A_):B_ E_ 127 #[str l,str [44]] w λ e w'=>e=.returned (.func (.func 239) #[] #[pt (w.heap.size+1),pt w.heap.size,pt (w.heap.size+1+1)])/\Ch w' (w.heap.size+1) w.heap.size (w.heap.size+1+1) l/\Af w w':=by
 have H:Hid (∀ W,B_ E_ 177 #[str l,str [44],i64 0] W λ e w'=>e=.returned (.func (.func 239) #[] #[pt (W.heap.size+1),pt W.heap.size,pt (W.heap.size+1+1)])/\Ch w' (W.heap.size+1) W.heap.size (W.heap.size+1+1) l/\Af W w'):=λ W=>by
  have b1:=((zv W 9 #[str l]).alloc (.cells #[str [44]] 9)).alloc (.cells #[i64 0] 3);have b2:=zv (W.alloc (.cells #[str l] 9)) 9 #[str [44]];have b3:=zv ((W.alloc (.cells #[str l] 9)).alloc (.cells #[str [44]] 9)) 3 #[i64 0];rw[Pb]at b2;rw[Pb,Pb]at b3;have HF:=DU b1 (b2.alloc (.cells #[i64 0] 3)) b3;clear b1 b2 b3;go_enter Tryz.func177,Tryz.ntmps177;go_wp2_with fail;go_ret;exact⟨by simp,⟨HF.out.2.1,HF.out.1,HF.out.2.2,by omega⟩,(((zr _ _).alloc _).alloc _).alloc _⟩
 go_enter Tryz.func127,Tryz.ntmps127;go_wp2_with fail;refine(H.out _).mono ?_;rintro e w2 ⟨rfl,h,g⟩;have HF:=BO h g;clear h g;go_wp2_with fail;go_ret;exact⟨rfl,HF.out.1,HF.out.2⟩
end Go.Proofs.YtepelooebggliaaGreatDoor
