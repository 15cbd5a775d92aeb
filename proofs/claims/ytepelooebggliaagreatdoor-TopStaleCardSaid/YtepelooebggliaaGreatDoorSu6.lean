/- Walks of functions that the law reaches, and plain laws, part 7 of 21: lemmas for the proof in the last text; no condition. Shortened by program. -/
import Derived.RangeFuncFrom
import Derived.RangeFuncWrites
import Derived.RangeFuncLeaves
import Derived.Shelf.Abstract
import Derived.OwnWalkIn
import Derived.TacticsInMore
import Derived.LoopNIn
import Derived.LoopIn
import Derived.WalkMore
import Derived.OrdersIn
import Derived.RangeFuncCalls
import Derived.Shelf.Strings.OnBuilder
import Derived.Shelf.Strconv.Itoa3
import Derived.Shelf.Strings.Search3
import Derived.Shelf.Strings.Repeat
import Derived.Shelf.LaysM
import Derived.Test.YtepelooebggliaaGreatDoorProg
import Derived.Lib.SliceRun
import Derived.RegionTactic
import Derived.Deep.DeepCutAuto
import Derived.Lib.Hide
import Derived.RangeFuncNested
import Derived.RangeFuncBox
import Derived.Sort.LoopGhostIn
import Derived.Test.YtepelooebggliaaGreatDoorSu0
import Derived.Test.YtepelooebggliaaGreatDoorSu2
import Derived.Test.YtepelooebggliaaGreatDoorSu3
import Derived.Test.YtepelooebggliaaGreatDoorSu5
open Go renaming World->A_,Calls->B_,Value->C_,OwnFrom->D_
open Go.Proofs.Tryz renaming prog->E_,underlying9->F_,underlying26->G_,underlying3->H_,underlying4->I_,underlying5->J_,zeroValue3->K_,zeroValue4->L_,zeroValue9->M_,zeroValue5->N_,sizeOf3->O_,sizeOf4->Pa,sizeOf9->Pb,sizeOf5->Pc,isAgg3->Pd,isAgg4->Pe,isAgg9->Pf,isAgg5->Pg,underlying264->Ph,underlying339->Pj,underlying20->Pk,underlying97->Pm,zeroValue264->Pn,zeroValue339->Po,underlying0->Pp,zeroValue20->Pq,zeroValue97->Pr,zeroValue0->Ps,sizeOf264->Pt,sizeOf339->Pu,sizeOf20->Pv,sizeOf97->Pw,isAgg264->Px,isAgg339->Py,sizeOf0->Pz,isAgg20->PA,isAgg97->PB,isAgg0->PC,underlying181->PD,underlying183->PE,underlying186->PF,underlying187->PG,underlying254->PH,underlying333->PI,underlying340->PJ,zeroValue181->PK,zeroValue183->PL,zeroValue186->PM,zeroValue187->PN,zeroValue254->PO,zeroValue333->PQ,underlying29->PR,zeroValue340->PS,zeroValue29->PT,results208->PU,sizeOf181->PV,sizeOf183->PW,sizeOf186->PX,sizeOf187->PY,sizeOf254->PZ,sizeOf333->P0,sizeOf340->P2
open Array renaming getElem?_eq_some_iff->P3,replicate_succ->P4,replicate_zero->P5
open Go.World renaming size_alloc->P6,putObj_heap_other->P7,putObj_heap_same->P8,alloc_heap_new->P9
open Go.IntWalk renaming i64_in->P_
open List renaming getElem?_eq_some_iff->Qa,length_map->Qb,length_range->Qc,getElem?_map->Qd,take_of_length_le->Qe,length_cons->Qf,length_nil->Qg,nil_append->Qh,range->Qi,drop_eq_getElem_cons->Qj,append_toArray->Qk,length_append->Ql,getElem_range->Qm,length_attach->Qn,size_toArray->Qo,push_toArray->Qp,take_add_one->Qq,getElem_map->Qr,all_eq_true->Qs,cons_append->Qt,take_prefix->Qu
open Go.IntKind renaming i64->Qv
open Go.Fence renaming wide->Qw
open Go.Shelf renaming Ren->Qx
open Int renaming toNat_natCast->Qy,le_refl->Qz
open Go.RowKit.Below renaming heap_alloc->QA
open Option renaming map_eq_some_iff->QB
open Nat renaming lt_or_ge->QC,zero_add->QD,mul_one->QE,add_sub_cancel->QF,lt_trichotomy->QG
open Go.Lib renaming indexByte->QH
set_option maxHeartbeats 16000000
set_option maxRecDepth 100000
set_option linter.unusedVariables false
set_option linter.unusedSimpArgs false
namespace Go.Proofs.YtepelooebggliaaGreatDoor
open Go.RowKit Go.Shelf
theorem Ek {β:Type} (B g:Nat) (t:TypeId) (f:β->Array C_):D_ B (λ (s:β) W=>Am W g t (f s)):=λ s A W row hs hg hr =>
 hs.grown hg (λ e=>by
  obtain⟨_,o,ho,hc⟩:=hr g e.symm;rw[show A.heap[g]? = some (.cells (f s) t (0,0)) from hs]at ho;cases ho;cases hc)
theorem aF {β:Type} {F:Nat->Prop} {w:A_} {B:Nat} (hB:∀ k,B<=k->k<w.heap.size->F k):D_ B (λ (_:β) W=>Kept F w W):=λ s A W row hs hg hr =>
 hs.grown hg (λ k e=>by
  rcases QC k w.heap.size with h | h
  ·exact .inl (hB k (hr k e).1 h)
  ·exact .inr h)
theorem KN {β:Type} {w:A_} {B:Nat} (hB:w.heap.size<=B):D_ B (λ (_:β) W=>Ac w W):=aF (λ k h1 h2=>absurd h2 (by omega))
theorem uz {β:Type} (B base e size:Nat) (v:β->C_) (n:β->Nat) (xs:β->List C_):D_ B (λ (s:β) W=>W.ownsRow base e size (v s) (n s) (xs s)):=λ s A W row hs hg hr=>by
 refine⟨hs.1,?_⟩;rcases hs.2 with hn | ⟨g,cap,cur,hv,hb,jA,rest⟩
 ·exact .inl hn
 ·refine .inr ⟨g,cap,cur,hv,hb,(hg.block g (P3.1 jA).1 (λ e=>?_)).trans jA,rest⟩;obtain⟨_,o,ho,hc⟩:=hr g e.symm;rw[jA]at ho;cases ho;cases hc
theorem pO {β:Type} {B:Nat} (p:β->Prop):D_ B (λ (s:β) (_:A_)=>p s):=λ _ _ _ _ hs _ _=>hs
theorem Kept.putObj {F:Nat->Prop} {w W:A_} (h:Kept F w W) (D:Nat) (o':Obj) (hD:F D\/w.heap.size<=D):Kept F w (W.putObj D o') :=
 h.grown (grownBy_putObj' W D o') (λ k e=>by cases e;exact hD)
theorem Kept.from {F:Nat->Prop} {W W':A_} (h:Kept F W W') (B:Nat) (hF:∀ k,F k->k<B\/∀ o:Obj,W.heap[k]? = some o->o.isCells=true):KeepsFrom B W W' :=
 ⟨h.size,λ k o hB hk ho=>(h.block k (P3.1 hk).1 (λ f=>by
  rcases hF k f with h1 | h1
  ·omega
  ·rw[h1 o hk]at ho;cases ho)).trans hk⟩
theorem Kept.others {F:Nat->Prop} {W W':A_} (h:Kept F W W') (hF:∀ k,F k->∀ o:Obj,W.heap[k]? = some o->o.isCells=true):KeepsOthers W W' :=
 ⟨h.size,λ k o hk ho=>(h.block k (P3.1 hk).1 (λ f=>by rw[hF k f o hk]at ho;cases ho)).trans hk⟩
theorem Am.iscells {w:A_} {g:Nat} {t:TypeId} {cs:Array C_} (h:Am w g t cs) (o:Obj) (ho:w.heap[g]? = some o):o.isCells=true:=by
 rw[show w.heap[g]? = some (.cells cs t (0,0)) from h]at ho;cases ho;rfl
structure Bs (F:Nat->Prop) (w w':A_):Prop where
 size:w.heap.size<=w'.heap.size
 block:∀ (k:Nat) (o:Obj),w.heap[k]? = some o->o.isCells=true->¬ F k->w'.heap[k]? = some o
theorem Bs.refl (F:Nat->Prop) (w:A_):Bs F w w:=⟨zl _,λ _ _ h _ _=>h⟩
theorem Bs.trans {F:Nat->Prop} {a b c:A_} (h:Bs F a b) (k:Bs F b c):Bs F a c :=
 ⟨Nat.le_trans h.size k.size,λ i o hi ho hf=>k.block i o (h.block i o hi ho hf) ho hf⟩
theorem Bs.mono {F G:Nat->Prop} {a b:A_} (h:Bs F a b) (hFG:∀ k,F k->G k):Bs G a b :=
 ⟨h.size,λ i o hi ho hf=>h.block i o hi ho λ hF=>hf (hFG i hF)⟩
theorem Kept.keptC {F G:Nat->Prop} {a b:A_} (h:Kept F a b) (hFG:∀ k,F k->G k):Bs G a b :=
 ⟨h.size,λ i o hi _ hf=>(h.block i (P3.1 hi).1 (λ f=>hf (hFG i f))).trans hi⟩
theorem Bs.put {F:Nat->Prop} (W:A_) (l:Nat) (o o':Obj) (hl:W.heap[l]? = some o) (ho:o.isCells=false):Bs F W (W.putObj l o') :=
 ⟨(grownBy_putObj' W l o').size,λ i x hi hx _=>((grownBy_putObj' W l o').block i (P3.1 hi).1 (λ e=>by cases e;rw[hl]at hi;cases hi;rw[ho]at hx;cases hx)).trans hi⟩
theorem Bs.own {F:Nat->Prop} {w w':A_} (h:Bs F w w') {base n size:Nat} {e:TypeId} {v:C_} {xs:List C_} (ho:w.ownsRow base e size v n xs) (hf:∀ k,v.ownBlock=some k->¬ F k):w'.ownsRow base e size v n xs:=by
 refine⟨ho.1,?_⟩;rcases ho.2 with hn | ⟨g,cap,cur,hv,hb,jA,rest⟩
 ·exact .inl hn
 ·exact .inr ⟨g,cap,cur,hv,hb,h.block g _ jA rfl (hf g (by rw[hv];rfl)),rest⟩
theorem Bs.blk {F:Nat->Prop} {w w':A_} (h:Bs F w w') {g:Nat} {t:TypeId} {cs:Array C_} (hb:Am w g t cs) (hf:¬ F g):Am w' g t cs:=h.block g _ hb rfl hf
end Go.Proofs.YtepelooebggliaaGreatDoor
namespace Go.Proofs.YtepelooebggliaaGreatDoor
open Go.RowKit
def JV (Q:Exit->Act->A_->Prop):Exit->Act->A_->Prop
 | .outgrown,_,_=>False
 | e,a,w=>Q e a w
def Ny (ops:Array Oper):Bool:=ops.all λ o=>match o.op with | .defer _=>false | _=>true
section
variable {P:Program} {ops:Array Oper} {Q:Exit->Act->A_->Prop} {md:Region.Mode} {E:List Nat} {F:Nat->Prop} {n l:Nat}
theorem fb {o:Oper} {a:Act} {w:A_} {K:Act->A_->Prop} (hd:∀ c,o.op≠.defer c) (h:o.wp P a w K (Calm (JV Q))):o.wpIn (Qw.inRound l) n P a w K Q:=by
 refine⟨λ _ _=>trivial,?_⟩;rw[Oper.semAt_eq _ _ _ hd];unfold Oper.wp at h;generalize (execOp a.eval o).run P w=r at *;cases r with
 | ok x w' =>
  cases x<;>simp only[Oper.upon,Oper.uponIn]at h ⊢
  case value=>exact h
  case skip=>exact h
  case defer=>exact h
  case enter f args =>
   refine⟨(λ h=>by cases h),CallsIn.inRound l (callsIn_wide.2 (h.mono λ e rZ he=>?_))⟩;cases e with
   | returned u=>exact he
   | panicked c=>exact(he:False).elim
   | outgrown=>obtain⟨_,_,hx⟩:=he;exact(hx:False).elim
  case row row args =>
   refine⟨(λ h=>by cases h),λ c cs _=>?_⟩;obtain⟨v,w',r,s⟩:=h c cs;exact⟨v,w',r,stepsIn_wide.2 s⟩
 | halt x w' =>
  cases x<;>simp only[Oper.upon,Oper.uponIn]at h ⊢
  case panic u=>exact(h:False).elim
theorem Lp (hnd:Ny ops=true) {i:Nat} {K:Act->A_->Prop} {a:Act} {w:A_} (h:wpOp P ops (Calm (JV Q)) i K a w):wpOpIn (Qw.inRound l) n P ops Q i K a w:=by
 unfold wpOp at h;unfold wpOpIn;cases ho:ops[i]? with
 | none=>rw[ho]at h;exact h
 | some o =>
  rw[ho]at h;simp only at h ⊢;have hd:∀ c,o.op≠.defer c:=λ c e=>by
   have h1:=Array.all_eq_true'.1 hnd o (Array.mem_of_getElem? ho);rw[e]at h1;cases h1
  split at h
  ·rename_i hw;rw[if_pos hw];rcases h with h | ⟨_,_,_,h⟩
   ·exact fb hd h
   ·exact(h:False).elim
  ·rename_i hw;rw[if_neg hw];exact⟨λ _ _=>trivial,h⟩
theorem Fo (hnd:Ny ops=true):∀ (fuel:Nat) (listed:Array Bool) (a:Act) (w:A_),AK P md ops E F (Calm (JV Q)) fuel listed a w->wpAnyIn (Qw.inRound l) n P md ops Q fuel listed a w
 | 0,_,_,_,h=>h
 | fuel+1,_,_,_,h=>⟨h.1,λ i hi=>Lp hnd (wpOp_mono (λ a' w' h'=>Fo hnd fuel _ a' w' h'.2) (h.2 i hi))⟩
theorem Dx (E:List Nat) (F:Nat->Prop) {id:Nat} {a:Act} {w:A_} (hm:P.follows .mixedOrders=true) (hnd:Ny ops=true)
  (h:AK P .any ops E F (Calm (JV Q)) ops.size (Array.replicate ops.size false) a w.drew):(Code.region id ops true).wpIn (Qw.inRound l) n P Q a w :=
 wpIn_region_any hm (Fo hnd _ _ _ _ h)
end
end Go.Proofs.YtepelooebggliaaGreatDoor
namespace Go.Proofs
open Go.Shelf Go.RowKit Go.Lib
def Tryz.lays156_ren:Qx:=⟨fun | 156=>71 | 165=>113 | 166=>114 | 169=>115 | 240=>167 | 241=>168 | 276=>236 | 277=>237 | n=>n,fun | 31=>40 | 9=>9 | 3=>3 | 4=>4 | 0=>0 | 20=>20 | 72=>183 | 76=>187 | 70=>181 | 37=>97 | 75=>186 | 127=>254 | 164=>333 | 5=>5 | 80=>189 | n=>n,fun | n=>n⟩
theorem Tryz.lays156:Go.Proofs.Lays.n156 E_ Tryz.lays156_ren:={
 mixed:=by kernel_rfl
 f156:=Tryz.func71.trans (congrArg some (by kernel_rfl))
 f165:=Tryz.func113.trans (congrArg some (by kernel_rfl))
 f166:=Tryz.func114.trans (congrArg some (by kernel_rfl))
 f169:=Tryz.func115.trans (congrArg some (by kernel_rfl))
 f240:=Tryz.func167.trans (congrArg some (by kernel_rfl))
 f241:=Tryz.func168.trans (congrArg some (by kernel_rfl))
 f276:=Tryz.func236.trans (congrArg some (by kernel_rfl))
 f277:=Tryz.func237.trans (congrArg some (by kernel_rfl))
 t0:=Pp
 a0:=PC
 z0:=Pz
 v0:=Ps
 t3:=H_
 a3:=Pd
 z3:=O_
 v3:=K_
 t4:=I_
 a4:=Pe
 z4:=Pa
 v4:=L_
 t9:=F_
 a9:=Pf
 z9:=Pb
 v9:=M_
 t20:=Pk
 a20:=PA
 z20:=Pv
 v20:=Pq
 t31:=Tryz.underlying40
 a31:=Tryz.isAgg40
 z31:=Tryz.sizeOf40
 v31:=Tryz.zeroValue40
 t37:=Pm
 a37:=PB
 z37:=Pw
 v37:=Pr
 t70:=PD
 a70:=Tryz.isAgg181
 z70:=PV
 v70:=PK
 t72:=PE
 a72:=Tryz.isAgg183
 z72:=PW
 v72:=PL
 t75:=PF
 a75:=Tryz.isAgg186
 z75:=PX
 v75:=PM
 t76:=PG
 a76:=Tryz.isAgg187
 z76:=PY
 v76:=PN
 t127:=PH
 a127:=Tryz.isAgg254
 z127:=PZ
 v127:=PO
 t164:=PI
 a164:=Tryz.isAgg333
 z164:=P0
 v164:=PQ }
theorem Tryz.Builder_Extra_156:Builder.Extra E_ Tryz.lays156_ren:={
 sizeBuilder:=by kernel_rfl
 liesBuilder:=by kernel_rfl
 t5:=J_
 a5:=Pg
 z5:=Pc
 v5:=N_
 infoByte:=by kernel_rfl
 cellsByte:=by kernel_rfl
 sizeByte:=by kernel_rfl
 neB5:=by decide }
theorem Tryz.strings_Join_none (a:Option Addr) (c:Nat) (sep:ByteArray) (w:A_) :
  B_ E_ 71 #[.slice a 0 c,.string sep] w λ e w'=>e=.returned (.string ⟨#[]⟩)/\w'=w:=Any.strings_Join_none Tryz.lays156 Tryz.Builder_Extra_156 a c sep w
theorem Tryz.strings_Join (bk o c:Nat) (xs:List ByteArray) (sep:ByteArray) (w:A_) (GH:∀ (j:Nat) x,xs[j]? = some x->w.cell? ⟨bk,o+j,none⟩=some (.string x)) (hbk:bk<w.heap.size) (hN:xs.length<=140737488355328) (Bg:xs.length<=c) (hlen:(Lib.join (xs.map (·.data.toList)) sep.data.toList).length<=140737488355328) :
  B_ E_ 71 #[.slice (some ⟨bk,o,none⟩) xs.length c,.string sep] w λ e w'=>e=.returned (.string ⟨(Lib.join (xs.map (·.data.toList)) sep.data.toList).toArray⟩)/\Below w.heap.size w w':=Any.strings_Join Tryz.lays156 Tryz.Builder_Extra_156 bk o c xs sep w GH hbk hN Bg hlen
def Tryz.lays283_ren:Qx:=⟨fun | 283=>231 | n=>n,fun | 3=>3 | 9=>9 | 4=>4 | n=>n,fun | n=>n⟩
theorem Tryz.lays283:Go.Proofs.Lays.n283 E_ Tryz.lays283_ren:={
 mixed:=by kernel_rfl
 f283:=Tryz.func231.trans (congrArg some (by kernel_rfl))
 t3:=H_
 a3:=Pd
 z3:=O_
 v3:=K_
 t4:=I_
 a4:=Pe
 z4:=Pa
 v4:=L_
 t9:=F_
 a9:=Pf
 z9:=Pb
 v9:=M_ }
theorem Tryz.internal_strconv_small (i:Nat) (h:i<100) (w:A_) :
  B_ E_ 231 #[.int .i64 i] w λ e w'=>e=.returned (.string ⟨(Lib.decDigits i).toArray⟩)/\w'=w:=Any.internal_strconv_small Tryz.lays283 i h w
def Tryz.lays171_ren:Qx:=⟨fun | 171=>112 | 243=>166 | 246=>235 | 283=>231 | 284=>232 | 285=>233 | 286=>234 | 129=>307 | 317=>306 | 318=>308 | 319=>309 | 320=>310 | 337=>375 | 338=>376 | n=>n,fun | 3=>3 | 9=>9 | 2=>2 | 4=>4 | 171=>327 | 0=>0 | 53=>29 | 37=>97 | 5=>5 | 173=>330 | 212=>406 | 51=>339 | 20=>20 | 213=>407 | 46=>264 | 232=>531 | 233=>532 | n=>n,fun | 17=>0 | 18=>4 | 19=>5 | n=>n⟩
theorem Tryz.lays171:Go.Proofs.Lays.n171 E_ Tryz.lays171_ren:={
 mixed:=by kernel_rfl
 f129:=Tryz.func307.trans (congrArg some (by kernel_rfl))
 f171:=Tryz.func112.trans (congrArg some (by kernel_rfl))
 f243:=Tryz.func166.trans (congrArg some (by kernel_rfl))
 f246:=Tryz.func235.trans (congrArg some (by kernel_rfl))
 f283:=Tryz.func231.trans (congrArg some (by kernel_rfl))
 f284:=Tryz.func232.trans (congrArg some (by kernel_rfl))
 f285:=Tryz.func233.trans (congrArg some (by kernel_rfl))
 f286:=Tryz.func234.trans (congrArg some (by kernel_rfl))
 f317:=Tryz.func306.trans (congrArg some (by kernel_rfl))
 f318:=Tryz.func308.trans (congrArg some (by kernel_rfl))
 f319:=Tryz.func309.trans (congrArg some (by kernel_rfl))
 f320:=Tryz.func310.trans (congrArg some (by kernel_rfl))
 f337:=Tryz.func375.trans (congrArg some (by kernel_rfl))
 f338:=Tryz.func376.trans (congrArg some (by kernel_rfl))
 t0:=Pp
 a0:=PC
 z0:=Pz
 v0:=Ps
 t2:=Tryz.underlying2
 a2:=Tryz.isAgg2
 z2:=Tryz.sizeOf2
 v2:=Tryz.zeroValue2
 t3:=H_
 a3:=Pd
 z3:=O_
 v3:=K_
 t4:=I_
 a4:=Pe
 z4:=Pa
 v4:=L_
 t5:=J_
 a5:=Pg
 z5:=Pc
 v5:=N_
 t9:=F_
 a9:=Pf
 z9:=Pb
 v9:=M_
 t20:=Pk
 a20:=PA
 z20:=Pv
 v20:=Pq
 t37:=Pm
 a37:=PB
 z37:=Pw
 v37:=Pr
 t46:=Ph
 a46:=Px
 z46:=Pt
 v46:=Pn
 t51:=Pj
 a51:=Py
 z51:=Pu
 v51:=Po
 t53:=PR
 a53:=Tryz.isAgg29
 z53:=Tryz.sizeOf29
 v53:=PT
 t171:=Tryz.underlying327
 a171:=Tryz.isAgg327
 z171:=Tryz.sizeOf327
 v171:=Tryz.zeroValue327
 t173:=Tryz.underlying330
 a173:=Tryz.isAgg330
 z173:=Tryz.sizeOf330
 v173:=Tryz.zeroValue330
 t212:=Tryz.underlying406
 a212:=Tryz.isAgg406
 z212:=Tryz.sizeOf406
 v212:=Tryz.zeroValue406
 t213:=Tryz.underlying407
 a213:=Tryz.isAgg407
 z213:=Tryz.sizeOf407
 t232:=Tryz.underlying531
 a232:=Tryz.isAgg531
 z232:=Tryz.sizeOf531
 v232:=Tryz.zeroValue531
 t233:=Tryz.underlying532
 a233:=Tryz.isAgg532
 z233:=Tryz.sizeOf532
 v233:=Tryz.zeroValue532
 g17:=by kernel_rfl
 g18:=by kernel_rfl
 g19:=by kernel_rfl }
theorem Tryz.strconv_Itoa_small (i:Nat) (hi:i<100) (w:A_) :
  B_ E_ 112 #[.int .i64 i] w λ e w'=>e=.returned (.string ⟨(Lib.decDigits i).toArray⟩)/\w'=w:=Any.strconv_Itoa_small Tryz.lays171 i hi w
def Tryz.lays143_ren:Qx:=⟨fun | 143=>241 | 219=>312 | 217=>377 | 225=>378 | 224=>379 | 267=>380 | 266=>438 | 314=>439 | n=>n,fun | 9=>9 | 3=>3 | 4=>4 | 5=>5 | 46=>264 | 146=>340 | 51=>339 | n=>n,fun | 1=>1 | n=>n⟩
theorem Tryz.lays143:Go.Proofs.Lays.n143 E_ Tryz.lays143_ren:={
 mixed:=by kernel_rfl
 f143:=Tryz.func241.trans (congrArg some (by kernel_rfl))
 f217:=Tryz.func377.trans (congrArg some (by kernel_rfl))
 f219:=Tryz.func312.trans (congrArg some (by kernel_rfl))
 f224:=Tryz.func379.trans (congrArg some (by kernel_rfl))
 f225:=Tryz.func378.trans (congrArg some (by kernel_rfl))
 f266:=Tryz.func438.trans (congrArg some (by kernel_rfl))
 f267:=Tryz.func380.trans (congrArg some (by kernel_rfl))
 f314:=Tryz.func439.trans (congrArg some (by kernel_rfl))
 t3:=H_
 a3:=Pd
 z3:=O_
 v3:=K_
 t4:=I_
 a4:=Pe
 z4:=Pa
 v4:=L_
 t5:=J_
 a5:=Pg
 z5:=Pc
 v5:=N_
 t9:=F_
 a9:=Pf
 z9:=Pb
 v9:=M_
 t46:=Ph
 a46:=Px
 z46:=Pt
 v46:=Pn
 t51:=Pj
 a51:=Py
 z51:=Pu
 v51:=Po
 t146:=PJ
 a146:=Tryz.isAgg340
 z146:=P2
 v146:=PS
 g1:=by kernel_rfl }
theorem Tryz.strings_Index_one (s:ByteArray) (c:UInt8) (w:A_) :
  B_ E_ 241 #[.string s,.string ⟨#[c]⟩] w λ e w'=>e=.returned (.int .i64 (QH s.data.toList c))/\w'=w:=Any.strings_Index_one Tryz.lays143 s c w
def Tryz.lays105_ren:Qx:=⟨fun | 105=>129 | 212=>178 | 99=>179 | 165=>113 | 166=>114 | 170=>180 | 169=>115 | 263=>242 | 264=>183 | 206=>243 | 240=>167 | 241=>168 | 276=>236 | 277=>237 | n=>n,fun | 9=>9 | 3=>3 | 4=>4 | 20=>20 | 0=>0 | 46=>264 | 109=>265 | 5=>5 | 72=>183 | 76=>187 | 51=>339 | 146=>340 | 53=>29 | 148=>270 | 70=>181 | 37=>97 | 75=>186 | 127=>254 | 164=>333 | 80=>189 | n=>n,fun | n=>n⟩
theorem Tryz.lays105:Go.Proofs.Lays.n105 E_ Tryz.lays105_ren:={
 mixed:=by kernel_rfl
 f99:=Tryz.func179.trans (congrArg some (by kernel_rfl))
 f105:=Tryz.func129.trans (congrArg some (by kernel_rfl))
 f165:=Tryz.func113.trans (congrArg some (by kernel_rfl))
 f166:=Tryz.func114.trans (congrArg some (by kernel_rfl))
 f169:=Tryz.func115.trans (congrArg some (by kernel_rfl))
 f170:=Tryz.func180.trans (congrArg some (by kernel_rfl))
 f206:=Tryz.func243.trans (congrArg some (by kernel_rfl))
 f212:=Tryz.func178.trans (congrArg some (by kernel_rfl))
 f240:=Tryz.func167.trans (congrArg some (by kernel_rfl))
 f241:=Tryz.func168.trans (congrArg some (by kernel_rfl))
 f263:=Tryz.func242.trans (congrArg some (by kernel_rfl))
 f264:=Tryz.func183.trans (congrArg some (by kernel_rfl))
 f276:=Tryz.func236.trans (congrArg some (by kernel_rfl))
 f277:=Tryz.func237.trans (congrArg some (by kernel_rfl))
 t0:=Pp
 a0:=PC
 z0:=Pz
 v0:=Ps
 t3:=H_
 a3:=Pd
 z3:=O_
 v3:=K_
 t4:=I_
 a4:=Pe
 z4:=Pa
 v4:=L_
 t5:=J_
 a5:=Pg
 z5:=Pc
 v5:=N_
 t9:=F_
 a9:=Pf
 z9:=Pb
 v9:=M_
 t20:=Pk
 a20:=PA
 z20:=Pv
 v20:=Pq
 t37:=Pm
 a37:=PB
 z37:=Pw
 v37:=Pr
 t46:=Ph
 a46:=Px
 z46:=Pt
 v46:=Pn
 t51:=Pj
 a51:=Py
 z51:=Pu
 v51:=Po
 t53:=PR
 a53:=Tryz.isAgg29
 z53:=Tryz.sizeOf29
 v53:=PT
 t70:=PD
 a70:=Tryz.isAgg181
 z70:=PV
 v70:=PK
 t72:=PE
 a72:=Tryz.isAgg183
 z72:=PW
 v72:=PL
 t75:=PF
 a75:=Tryz.isAgg186
 z75:=PX
 v75:=PM
 t76:=PG
 a76:=Tryz.isAgg187
 z76:=PY
 v76:=PN
 t109:=Tryz.underlying265
 a109:=Tryz.isAgg265
 z109:=Tryz.sizeOf265
 v109:=Tryz.zeroValue265
 t127:=PH
 a127:=Tryz.isAgg254
 z127:=PZ
 v127:=PO
 t146:=PJ
 a146:=Tryz.isAgg340
 z146:=P2
 v146:=PS
 t148:=Tryz.underlying270
 a148:=Tryz.isAgg270
 z148:=Tryz.sizeOf270
 v148:=Tryz.zeroValue270
 t164:=PI
 a164:=Tryz.isAgg333
 z164:=P0
 v164:=PQ }
theorem Tryz.Builder_Extra_105:Builder.Extra E_ Tryz.lays105_ren:={
 sizeBuilder:=by kernel_rfl
 liesBuilder:=by kernel_rfl
 t5:=J_
 a5:=Pg
 z5:=Pc
 v5:=N_
 infoByte:=by kernel_rfl
 cellsByte:=by kernel_rfl
 sizeByte:=by kernel_rfl
 neB5:=by decide }
theorem Tryz.strings_Repeat_main (s:ByteArray) (c:Nat) (w:A_) (Jp:2<=c) (hc:c<=9223372036854775807) (hlen:s.size*c<=140737488355328) (h0:0<s.size) :
  B_ E_ 129 #[.string s,.int .i64 c] w λ e w'=>e=.returned (.string ⟨(Lib.repeatL s.data.toList c).toArray⟩)/\Below w.heap.size w w':=Any.strings_Repeat_main Tryz.lays105 Tryz.Builder_Extra_105 s c w Jp hc hlen h0
end Go.Proofs
namespace Go.Proofs.YtepelooebggliaaGreatDoor.Ad
open Go.RowKit
def cnt (key:Nat->Nat) (v:Nat):Nat->Nat
 | 0=>0
 | k+1=>cnt key v k+(if key k=v then 1 else 0)
def pre (key:Nat->Nat) (m:Nat):Nat->Nat
 | 0=>0
 | v+1=>pre key m v+cnt key v m
def rowN (key:Nat->Nat) (v:Nat):Nat->List Nat
 | 0=>[]
 | k+1=>rowN key v k++(if key k=v then [k] else [])
theorem JD {key:Nat->Nat} {v k:Nat} (h:key k=v):cnt key v (k+1)=cnt key v k+1:=by simp[cnt,h]
theorem cZ {key:Nat->Nat} {v k:Nat} (h:key k≠v):cnt key v (k+1)=cnt key v k:=by simp[cnt,h]
theorem aX {key:Nat->Nat} {v k:Nat} (h:key k=v):rowN key v (k+1)=rowN key v k++[k]:=by simp[rowN,h]
theorem gP {key:Nat->Nat} {v k:Nat} (h:key k≠v):rowN key v (k+1)=rowN key v k:=by simp[rowN,h]
theorem Ey (key:Nat->Nat) (v:Nat):∀ k,(rowN key v k).length=cnt key v k
 | 0=>rfl
 | k+1=>by
  by_cases h:key k=v
  ·rw[aX h,JD h,Ql,Ey key v k];rfl
  ·rw[gP h,cZ h,Ey key v k]
theorem M5 (key:Nat->Nat) (v:Nat):∀ k,cnt key v k<=k
 | 0=>zl _
 | k+1=>by
  have:=M5 key v k;simp only[cnt];split<;>omega
theorem OD (key:Nat->Nat) (v:Nat) {j:Nat}:∀ {k:Nat},j<=k->cnt key v j<=cnt key v k
 | 0,h=>by
  obtain rfl:j=0:=(by omega);exact zl _
 | k+1,h=>by
  rcases QC j (k+1) with hl | hl
  ·have:=OD key v (j:=j) (k:=k) (by omega);simp only[cnt];omega
  ·obtain rfl:j=k+1:=(by omega);exact zl _
theorem J6 {key:Nat->Nat} {v j k:Nat} (h:key j=v) (hj:j<k):cnt key v j<cnt key v k:=by
 have h1:=JD h;have h2:=OD key v (j:=j+1) (k:=k) (by omega);omega
theorem sN {key:Nat->Nat} {v i j:Nat} (hi:key i=v) (hj:key j=v) (h:cnt key v i=cnt key v j):i=j:=by
 rcases QG i j with h1 | h1 | h1
 ·have:=J6 hi h1;omega
 ·exact h1
 ·have:=J6 hj h1;omega
theorem NL (key:Nat->Nat) (v:Nat):∀ (k r j:Nat),(rowN key v k)[r]? = some j->key j=v/\cnt key v j=r/\j<k
 | 0,r,j,h=>by simp[rowN]at h
 | k+1,r,j,h=>by
  by_cases hk:key k=v
  ·rw[aX hk]at h;rcases QC r (rowN key v k).length with hl | hl
   ·rw[List.getElem?_append_left hl]at h;obtain⟨a,b,c⟩:=NL key v k r j h;exact⟨a,b,by omega⟩
   ·rw[List.getElem?_append_right hl]at h;rw[Ey]at hl h;have hr:r-cnt key v k=0:=by
     rcases Nat.eq_zero_or_pos (r-cnt key v k) with h0 | h0
     ·exact h0
     ·rw[List.getElem?_eq_none (by simp;omega)]at h;cases h
    rw[hr]at h;obtain rfl:k=j:=(by simpa using h);exact⟨hk,by omega,by omega⟩
  ·rw[gP hk]at h;obtain⟨a,b,c⟩:=NL key v k r j h;exact⟨a,b,by omega⟩
theorem aH (key:Nat->Nat) (m:Nat):∀ n,pre key (m+1) n=pre key m n+(if key m<n then 1 else 0)
 | 0=>by simp[pre]
 | n+1=>by
  simp only[pre,aH key m n,cnt];by_cases h1:key m<n
  ·rw[if_pos h1,if_neg (by omega),if_pos (by omega)];omega
  ·rw[if_neg h1];by_cases h2:key m=n
   ·rw[if_pos h2,if_pos (by omega)];omega
   ·rw[if_neg h2,if_neg (by omega)];omega
theorem aI (key:Nat->Nat):∀ n,pre key 0 n=0
 | 0=>rfl
 | n+1=>by simp[pre,cnt,aI key n]
theorem NA (key:Nat->Nat) (n:Nat):∀ m,(∀ k,k<m->key k<n)->pre key m n=m
 | 0,_=>aI key n
 | m+1,h=>by rw[aH,NA key n m (λ k hk=>h k (by omega)),if_pos (h m (by omega))]
theorem FQ (key:Nat->Nat) (m:Nat) {u:Nat}:∀ {v:Nat},u<=v->pre key m u<=pre key m v
 | 0,h=>by
  obtain rfl:u=0:=(by omega);exact zl _
 | v+1,h=>by
  rcases QC u (v+1) with hl | hl
  ·have:=FQ key m (u:=u) (v:=v) (by omega);simp only[pre];omega
  ·obtain rfl:u=v+1:=(by omega);exact zl _
theorem KQ {key:Nat->Nat} {m n j:Nat} (hk:∀ k,k<m->key k<n) (hj:j<m):pre key m (key j)+cnt key (key j) j<m:=by
 have h1:=J6 (key:=key) (v:=key j) rfl hj;have h2:pre key m (key j)+cnt key (key j) m=pre key m (key j+1):=rfl;have h3:=FQ key m (u:=key j+1) (v:=n) (hk j hj);rw[NA key n m hk]at h3;omega
theorem kJ {key:Nat->Nat} {m i j:Nat} (hi:i<m) (hj:j<m) (h:pre key m (key i)+cnt key (key i) i=pre key m (key j)+cnt key (key j) j):i=j:=by
 have a1:=J6 (key:=key) (v:=key i) rfl hi;have a2:=J6 (key:=key) (v:=key j) rfl hj;have b1:pre key m (key i)+cnt key (key i) m=pre key m (key i+1):=rfl;have b2:pre key m (key j)+cnt key (key j) m=pre key m (key j+1):=rfl;rcases QG (key i) (key j) with h1 | h1 | h1
 ·have:=FQ key m (u:=key i+1) (v:=key j) h1;omega
 ·rw[h1]at h a1;exact sN (v:=key j) h1 rfl (by omega)
 ·have:=FQ key m (u:=key j+1) (v:=key i) h1;omega
def IntsF (w:A_) (g n:Nat) (f:Nat->Int):Prop:=∃ cur,Am w g 3 cur/\∀ i,i<n->cur[i]? = some (i64 (f i))
abbrev rowV (g n:Nat):C_:=.slice (some ⟨g,0,none⟩) n n
theorem IntsF.lt {w:A_} {g n:Nat} {f:Nat->Int} (h:IntsF w g n f):g<w.heap.size:=h.elim λ _ h=>h.1.lt
theorem IntsF.cell {w:A_} {g n i:Nat} {f:Nat->Int} (h:IntsF w g n f) (hi:i<n):w.cell? ⟨g,i,none⟩=some (i64 (f i)):=by
 obtain⟨cur,h,hc⟩:=h;rw[h.cell i,hc i hi]
theorem IntsF.frozen {w:A_} {g n:Nat} {f:Nat->Int} (h:IntsF w g n f) (i:Nat):w.frozen? ⟨g,i,none⟩=false:=h.elim λ _ h=>h.1.frozen i
theorem IntsF.kept {F:Nat->Prop} {w w':A_} {g n:Nat} {f:Nat->Int} (h:IntsF w g n f) (k:Kept F w w') (hF:¬ F g):IntsF w' g n f:=h.imp λ _ h=>⟨h.1.kept k hF,h.2⟩
theorem IntsF.grew {w w':A_} {g n:Nat} {f:Nat->Int} (h:IntsF w g n f) (k:Ac w w'):IntsF w' g n f:=h.kept k λ h=>h
theorem IntsF.drew {w:A_} {g n:Nat} {f:Nat->Int} (h:IntsF w g n f):IntsF w.drew g n f:=h
theorem IntsF.alloc {w:A_} {g n:Nat} {f:Nat->Int} (h:IntsF w g n f) (o:Obj):IntsF (w.alloc o) g n f:=h.imp λ _ h=>⟨h.1.alloc o,h.2⟩
theorem IntsF.far {w:A_} {g n:Nat} {f:Nat->Int} (h:IntsF w g n f) {p:Addr} (hp:g≠p.block) (u:C_):IntsF (w.setCell p u) g n f:=h.imp λ _ h=>⟨h.1.far hp u,h.2⟩
theorem IntsF.congr {w:A_} {g n:Nat} {f f':Nat->Int} (h:IntsF w g n f) (hf:∀ i,i<n->f i=f' i):IntsF w g n f':=h.imp λ _ h=>⟨h.1,λ i hi=>by rw[<- hf i hi];exact h.2 i hi⟩
theorem IntsF.set {w:A_} {g n i:Nat} {f f':Nat->Int} (h:IntsF w g n f) (hi:i<n) (b:Int) (h1:f' i=b) (h2:∀ j,j<n->j≠i->f' j=f j):IntsF (w.setCell ⟨g,i,none⟩ (i64 b)) g n f':=by
 obtain⟨cur,h,hc⟩:=h;refine⟨_,h.set i (i64 b),λ j hj=>?_⟩;by_cases hji:j=i
 ·subst hji;have hs:=(P3.1 (hc j hj)).1;rw[Array.getElem?_setIfInBounds_self_of_lt hs,h1]
 ·rw[Array.getElem?_setIfInBounds_ne (λ e=>hji e.symm),hc j hj,h2 j hj hji]
theorem made_of {W:A_} {g m:Nat} (h:Am W g 3 (madeCells #[i64 0] m)):IntsF W g m (λ _=>0):=⟨_,h,λ i hi=>by simp[madeCells,Value.cells,hi,Nat.mod_one]⟩
theorem IntsF.row {w:A_} {g n off:Nat} {f:Nat->Int} (h:IntsF w g n f) (zs:List Int) (hz:∀ i z,zs[i]? = some z->off+i<n/\f (off+i)=z):RowI w (some ⟨g,off,none⟩) zs:=λ i z hi=>by
 obtain⟨h1,h2⟩:=hz i z hi;exact⟨g,off,rfl,h.lt,by rw[h.cell h1,h2]⟩
theorem KL {w:A_} {B n:Nat} {v:C_} {f:Nat->Int} (h:AO w B v ((Qi n).map f)) (hn:0<n):∃ g c,v=.slice (some ⟨g,0,none⟩) n c/\B<=g/\IntsF w g n f:=by
 rcases h.2 with ⟨hv,h0⟩ | ⟨g,cap,cur,hv,hb,hg,h1,h2,h3,h4⟩
 ·simp at h0;omega
 ·simp only[Qb,Qc]at hv h4;refine⟨g,cap,hv,hb,cur,hg,λ i hi=>?_⟩;have h5:(cur.toList.take (n*1))[i]? = (((Qi n).map f).map i64)[i]? := (by rw[h4]);rw[List.getElem?_take,if_pos (by omega)]at h5;rw[<- Array.getElem?_toList,h5];simp[hi]
theorem jS (w:A_) (B:Nat) (hB:B<=w.heap.size):(w.alloc (.cells #[] 3)).ownsRow B 3 1 (.slice (some ⟨w.heap.size,0,none⟩) 0 0) 0 [] :=
 ⟨rfl,.inr ⟨w.heap.size,0,#[],rfl,hB,heap_alloc_new w _,zl _,by unfold maxLen;omega,rfl,rfl⟩⟩
theorem Ku (w:A_) (A:Option Addr) (c:Nat) (zs:List Int) (h:RowI w A zs) (hA:A=none->zs=[]) (hl:zs.length<=70000):B_ E_ 81 #[.slice A zs.length c] w λ e w'=>∃ v',e=.returned v'/\AO w' w.heap.size v' zs/\Ac w w':=by
 obtain⟨i0,hi,Cu,BV,Cj⟩:=info_parts info_int;have hq:=λ w a n c=>Lib.run_eql_slice_nil (P:=E_) w 26 3 a n c 0 0 G_;cases A with
 | none =>
  obtain rfl:=hA rfl;clear h hA;simp only[Qg];go_enter Tryz.func81,Tryz.ntmps81;go_wp2;go_ret;exact⟨_,rfl,World.ownsRow_nil _ _ _ _,zr _ _⟩
 | some a =>
  have hn:Hid (∀ j u,(zs.map i64)[j]? = some u->(w.alloc (.cells #[] 3)).cell? (a.add j)=some u):=by
   intro j u hj;rw[Qd]at hj;obtain⟨x,hx,rfl⟩:=QB.1 hj;obtain⟨b,off,ha,hb,hc⟩:=h j x hx;cases ha;have ha:(⟨b,off,none⟩:Addr).add j=⟨b,off+j,none⟩:=by unfold Addr.add;split<;>simp_all
   rw[ha];exact ze ((zr _ _).alloc _) hc
  have hE:=zh (jS w w.heap.size (zl _));have h1:Hid (∀ u∈zs.map i64,u.oneCell'=true):=by
   intro u hu;obtain⟨x,_,rfl⟩:=List.mem_map.1 hu;rfl
  have hL:=zh (show (zs.map i64).length=zs.length*1 by rw[Qb,QE]);clear h hA;go_enter Tryz.func81,Tryz.ntmps81;go_wp2_with (at_builtin;refine wpList_append_own _ rfl (.tmp 5) (.tmp 6) 26 (by rfl) w.heap.size 3 i0 (.int .i64 0) 1 8 G_ hi Cu BV Cj (by rfl) (by omega) _ 0 [] rfl hE.out a zs.length c (zs.map i64) rfl hL.out hn.out h1.out (by unfold maxLen;omega) (by omega) (by simp) ?_;intro v' w1 AV hg _);rw[QD,Qh]at AV;go_wp2_with fail;go_ret;exact⟨_,rfl,AV,((zr (λ _=>False) w).alloc _).grown hg (λ k hk=>by cases hk;exact .inr (zl _))⟩
theorem nH (p q r:Int) (w:A_):B_ E_ 209 #[.agg #[i64 p,i64 q,u64 r]] w λ e w'=>e=.returned (i64 p)/\Ac w w':=by
 go_enter Tryz.func209,Tryz.ntmps209;go_wp2;go_ret;exact⟨rfl,(zr _ _).alloc _⟩
theorem to_any (p q r:Int) (w:A_):B_ E_ 210 #[.agg #[i64 p,i64 q,u64 r]] w λ e w'=>e=.returned (i64 q)/\Ac w w':=by
 go_enter Tryz.func210,Tryz.ntmps210;go_wp2;go_ret;exact⟨rfl,(zr _ _).alloc _⟩
theorem _root_.Go.Proofs.YtepelooebggliaaGreatDoor.RowI.nil (w:A_) (A:Option Addr):RowI w A []:=by intro i e he;simp at he
end Go.Proofs.YtepelooebggliaaGreatDoor.Ad
namespace Go.Proofs.YtepelooebggliaaGreatDoor.Ad
open Go.RowKit
structure Laid (w:A_) (gE gB n m:Nat) (key:Nat->Nat) (f:Nat->Int):Prop where
 begin:IntsF w gB (n+1) (λ v=>(pre key m v:Int))
 edges:IntsF w gE m f
 place:∀ j,j<m->f (pre key m (key j)+cnt key (key j) j)=(j:Int)
 keys:∀ j,j<m->key j<n
theorem Laid.grew {w w':A_} {gE gB n m:Nat} {key:Nat->Nat} {f:Nat->Int} (h:Laid w gE gB n m key f) (k:Ac w w'):Laid w' gE gB n m key f:=⟨h.begin.grew k,h.edges.grew k,h.place,h.keys⟩
theorem Laid.kept {F:Nat->Prop} {w w':A_} {gE gB n m:Nat} {key:Nat->Nat} {f:Nat->Int} (h:Laid w gE gB n m key f) (k:Kept F w w') (h1:¬ F gE) (h2:¬ F gB):Laid w' gE gB n m key f:=⟨h.begin.kept k h2,h.edges.kept k h1,h.place,h.keys⟩
def gQ (gE gB n m:Nat):C_:=.agg #[rowV gE m,rowV gB (n+1)]
def M0 (key:Nat->Nat) (k:Nat):Nat->Int:=λ j=>if j=0 then 0 else (cnt key (j-1) k:Int)
def Lt (key:Nat->Nat) (m v:Nat):Nat->Int:=λ j=>if j<=v then (pre key m j:Int) else (cnt key (j-1) m:Int)
theorem Oy (key:Nat->Nat) (k:Nat):(∀ j,j≠key k+1->M0 key (k+1) j=M0 key k j)/\M0 key (k+1) (key k+1)=M0 key k (key k+1)+1:=by
 refine⟨λ j hj=>?_,?_⟩
 ·unfold M0;split
  ·rfl
  ·rw[cZ (by omega)]
 ·unfold M0;rw[if_neg (by omega),if_neg (by omega),QF,JD rfl];omega
theorem Me (key:Nat->Nat) (m:Nat):M0 key m=Lt key m 0:=by
 funext j;unfold M0 Lt;by_cases h:j=0
 ·subst h;rfl
 ·rw[if_neg h,if_neg (by omega)]
theorem Oz (key:Nat->Nat) (m v:Nat):(∀ j,j≠v+1->Lt key m (v+1) j=Lt key m v j)/\Lt key m (v+1) (v+1)=Lt key m v (v+1)+Lt key m v v:=by
 refine⟨λ j hj=>?_,?_⟩
 ·unfold Lt;by_cases h:j<=v
  ·rw[if_pos h,if_pos (by omega)]
  ·rw[if_neg h,if_neg (by omega)]
 ·unfold Lt;rw[if_pos (zl _),if_neg (by omega),if_pos (zl _),QF];simp only[pre];omega
theorem mW (key:Nat->Nat) (k j:Nat):0<=M0 key k j/\M0 key k j<=k:=by
 unfold M0;split
 ·omega
 ·have:=M5 key (j-1) k;omega
theorem pQ (key:Nat->Nat) (m n v:Nat) (hk:∀ j,j<m->key j<n) (hv:v<=n):pre key m v<=m:=by
 have:=FQ key m hv;rw[NA key n m hk]at this;exact this
theorem M3 (key:Nat->Nat) (m n v j:Nat) (hk:∀ j,j<m->key j<n) (hv:v<=n):0<=Lt key m v j/\Lt key m v j<=m:=by
 unfold Lt;split
 ·rename_i h;have:=pQ key m n j hk (by omega);omega
 ·have:=M5 key (j-1) m;omega
structure P1 (w wr:A_) (gR gE gB r6 n m:Nat) (fE fB:Nat->Int):Prop where
 bR:Am wr gR 297 #[rowV gE m,rowV gB (n+1)]
 iE:IntsF wr gE m fE
 iB:IntsF wr gB (n+1) fB
 b6:Am wr r6 297 #[.slice none 0 0,.slice none 0 0]
 kept:Ac w wr
theorem three (w:A_) (o1 o2 o3:Obj):(((w.alloc o1).alloc o2).alloc o3).drew.heap[w.heap.size]? = some o1/\(((w.alloc o1).alloc o2).alloc o3).drew.heap[w.heap.size+1]? = some o2/\(((w.alloc o1).alloc o2).alloc o3).drew.heap[w.heap.size+1+1]? = some o3/\Ac w (((w.alloc o1).alloc o2).alloc o3).drew:=by
 refine⟨?_,?_,?_,((((zr _ _).alloc _).alloc _).alloc _).drew⟩
 ·exact((QA _ o3 _ (by simp;omega)).trans (QA _ o2 _ (by simp))).trans (heap_alloc_new w o1)
 ·have h:=heap_alloc_new (w.alloc o1) o2;rw[P6]at h;exact(QA _ o3 _ (by simp)).trans h
 ·have h:=heap_alloc_new ((w.alloc o1).alloc o2) o3;rw[P6,P6]at h;exact h
section
variable {w wr w':A_} {gR gE gB r6 n m:Nat} {fE fB:Nat->Int}
theorem P1.grew (h:P1 w wr gR gE gB r6 n m fE fB) (k:Ac wr w'):P1 w w' gR gE gB r6 n m fE fB:=⟨h.bR.grew k,h.iE.grew k,h.iB.grew k,h.b6.grew k,h.kept.trans k⟩
theorem P1.setB (h:P1 w wr gR gE gB r6 n m fE fB) (h1:gB≠gR) (h2:gB≠gE) (h3:r6≠gB) (hw:w.heap.size<=gB) {i:Nat} (hi:i<n+1) {fB':Nat->Int} (b:Int) (e1:fB' i=b) (e2:∀ j,j≠i->fB' j=fB j) :
  P1 w (wr.setCell ⟨gB,i,none⟩ (i64 b)) gR gE gB r6 n m fE fB' :=
 ⟨h.bR.far (p:=⟨gB,i,none⟩) (λ e=>h1 e.symm) _,h.iE.far (p:=⟨gB,i,none⟩) (λ e=>h2 e.symm) _,h.iB.set hi b e1 (λ j _=>e2 j),h.b6.far (p:=⟨gB,i,none⟩) h3 _,h.kept.setCell (p:=⟨gB,i,none⟩) (.inr hw) _⟩
theorem P1.setE (h:P1 w wr gR gE gB r6 n m fE fB) (h1:gE≠gR) (h2:gE≠gB) (h3:r6≠gE) (hw:w.heap.size<=gE) {i:Nat} (hi:i<m) {fE':Nat->Int} (b:Int) (e1:fE' i=b) (e2:∀ j,j≠i->fE' j=fE j) :
  P1 w (wr.setCell ⟨gE,i,none⟩ (i64 b)) gR gE gB r6 n m fE' fB :=
 ⟨h.bR.far (p:=⟨gE,i,none⟩) (λ e=>h1 e.symm) _,h.iE.set hi b e1 (λ j _=>e2 j),h.iB.far (p:=⟨gE,i,none⟩) (λ e=>h2 e.symm) _,h.b6.far (p:=⟨gE,i,none⟩) h3 _,h.kept.setCell (p:=⟨gE,i,none⟩) (.inr hw) _⟩
theorem P1.setA (h:P1 w wr gR gE gB r6 n m fE fB) {gA:Nat} (h1:gA≠gR) (h2:gA≠gE) (h3:gA≠gB) (h4:gA≠r6) (hw:w.heap.size<=gA) (i:Nat) (u:C_):P1 w (wr.setCell ⟨gA,i,none⟩ u) gR gE gB r6 n m fE fB :=
 ⟨h.bR.far (p:=⟨gA,i,none⟩) (λ e=>h1 e.symm) _,h.iE.far (p:=⟨gA,i,none⟩) (λ e=>h2 e.symm) _,h.iB.far (p:=⟨gA,i,none⟩) (λ e=>h3 e.symm) _,h.b6.far (p:=⟨gA,i,none⟩) (λ e=>h4 e.symm) _,h.kept.setCell (p:=⟨gA,i,none⟩) (.inr hw) _⟩
theorem P1.lt (h:P1 w wr gR gE gB r6 n m fE fB):gR<wr.heap.size/\gE<wr.heap.size/\gB<wr.heap.size/\r6<wr.heap.size:=⟨h.bR.lt,h.iE.lt,h.iB.lt,h.b6.lt⟩
end
def atF (key:Nat->Nat) (m k:Nat):Nat->Int:=λ v=>((pre key m v+cnt key v k:Nat):Int)
theorem Ou (key:Nat->Nat) (m k:Nat):(∀ j,j≠key k->atF key m (k+1) j=atF key m k j)/\atF key m (k+1) (key k)=atF key m k (key k)+1:=by
 refine⟨λ j hj=>?_,?_⟩
 ·unfold atF;rw[cZ (λ e=>hj e.symm)]
 ·unfold atF;rw[JD rfl];omega
theorem ME {key:Nat->Nat} {m k:Nat} {f:Nat->Int} (hk:k<m) (hf:∀ j,j<k->f (pre key m (key j)+cnt key (key j) j)=(j:Int)) :
  ∀ j,j<k+1->(λ i=>if i=pre key m (key k)+cnt key (key k) k then (k:Int) else f i) (pre key m (key j)+cnt key (key j) j)=(j:Int):=by
 intro j hj
 show (if _ then _ else _)=_
 split
 ·rename_i h;rw[kJ (by omega) hk h]
 ·rename_i h;refine hf j ?_;rcases QC j k with h1 | h1
  ·exact h1
  ·obtain rfl:j=k:=(by omega);exact absurd rfl h
end Go.Proofs.YtepelooebggliaaGreatDoor.Ad
namespace Go.Proofs.YtepelooebggliaaGreatDoor.Ad
open Go.RowKit
theorem jW (kf:AB->Int) (key:Nat->Nat) (n:Nat) (A:Option Addr) (c:Nat) (es:List AB) (w:A_) (h:Bj w A es) (hl:es.length<=70000) (hn:n<=60000)
  (OT:∀ p q r W,B_ E_ 209 #[.agg #[i64 p,i64 q,u64 r]] W λ e W'=>e=.returned (i64 (kf (p,q,r)))/\Ac W W')
  (Dp:∀ k e,es[k]? = some e->kf e=(key k:Int)/\key k<n) :
  B_ E_ 208 #[i64 n,.slice A es.length c,.func (.func 209) #[] #[]] w λ e w'=>∃ gE gB f,e=.returned (gQ gE gB n es.length)/\Laid w' gE gB n es.length key f/\Ac w w'/\w.heap.size<=gE/\w.heap.size<=gB:=by
 obtain⟨m,hm⟩:=zn (es.length)
 have HM:=zh hm
 rw[hm]at hl
 rw[hm]
 obtain⟨i0,hi,Cu,BV,Cj⟩:=info_parts info_int
 have Hu:=λ W=>run_make (P:=E_) W 26 3 i0 _ G_ hi Cu .i64 .i64 (m:Int) (m:Int) (by omega) (Qz _) (by rw[Cj];omega) (by omega)
 have oH:=λ W=>run_make (P:=E_) W 26 3 i0 _ G_ hi Cu .i64 .i64 ((n:Int)+1) ((n:Int)+1) (by omega) (Qz _) (by rw[Cj];omega) (by omega)
 have EI:((n:Int)+1).toNat=n+1:=by omega
 simp only[Qy,BV,QE,EI]at Hu oH
 clear hi Cu BV Cj EI
 have HE:=zh h
 have HC:=zh OT
 have HK:=zh Dp
 have Is:Hid (∀ j,j<m->key j<n):=λ j hj=>(Dp j _ (zq (by omega))).2
 clear h OT Dp hm
 go_enter Tryz.func208,Tryz.ntmps208
 go_upto_region 1 with fail
 obtain⟨w0,Oe,k0,b6⟩:=zb w #[.slice none 0 0,.slice none 0 0] 297 rfl
 rw[Oe]
 clear Oe
 have z0:=k0.size
 have z6:=b6.lt
 have K0:=zh k0
 have B6:=zh b6
 clear k0 b6
 obtain⟨r6,dT⟩:=zn (w.heap.size)
 have mz:=zh dT
 rw[dT]at z0 z6 B6 ⊢
 clear dT
 go_cut [7] (λ s7 wx=>∃ gR gE gB:Nat,s7=.pointer (some ⟨gR,0,none⟩)/\gR≠gE/\gR≠gB/\gE≠gB/\w0.heap.size<=gR/\w0.heap.size<=gE/\w0.heap.size<=gB/\Hid (Am wx gR 297 #[rowV gE m,rowV gB (n+1)]/\IntsF wx gE m (λ _=>0)/\IntsF wx gB (n+1) (λ _=>0)/\Ac w0 wx))
 case first =>
  go_region;all_goals go_wp2_with fail
  all_goals go_meet
  all_goals first
   | exact⟨w0.heap.size ,w0.heap.size+1,w0.heap.size+1+1,rfl,by omega,by omega,by omega,by omega,by omega,by omega,(three _ _ _ _).1,made_of (three _ _ _ _).2.1,made_of (three _ _ _ _).2.2.1,(three _ _ _ _).2.2.2⟩
   | exact⟨w0.heap.size ,w0.heap.size+1+1,w0.heap.size+1,rfl,by omega,by omega,by omega,by omega,by omega,by omega,(three _ _ _ _).1,made_of (three _ _ _ _).2.2.1,made_of (three _ _ _ _).2.1,(three _ _ _ _).2.2.2⟩
   | exact⟨w0.heap.size+1,w0.heap.size ,w0.heap.size+1+1,rfl,by omega,by omega,by omega,by omega,by omega,by omega,(three _ _ _ _).2.1,made_of (three _ _ _ _).1,made_of (three _ _ _ _).2.2.1,(three _ _ _ _).2.2.2⟩
   | exact⟨w0.heap.size+1,w0.heap.size+1+1,w0.heap.size ,rfl,by omega,by omega,by omega,by omega,by omega,by omega,(three _ _ _ _).2.1,made_of (three _ _ _ _).2.2.1,made_of (three _ _ _ _).1,(three _ _ _ _).2.2.2⟩
   | exact⟨w0.heap.size+1+1,w0.heap.size ,w0.heap.size+1,rfl,by omega,by omega,by omega,by omega,by omega,by omega,(three _ _ _ _).2.2.1,made_of (three _ _ _ _).1,made_of (three _ _ _ _).2.1,(three _ _ _ _).2.2.2⟩
   | exact⟨w0.heap.size+1+1,w0.heap.size+1,w0.heap.size ,rfl,by omega,by omega,by omega,by omega,by omega,by omega,(three _ _ _ _).2.2.1,made_of (three _ _ _ _).2.1,made_of (three _ _ _ _).1,(three _ _ _ _).2.2.2⟩
 case rest =>
  obtain⟨gR,gE,gB,rfl,n1,n2,n3,g1,g2,g3,HS⟩:=hcut;clear Hu oH;have wJ:¬ gE=gR:=λ h=>n1 h.symm;have um:¬ gB=gR:=λ h=>n2 h.symm;have wK:¬ gB=gE:=λ h=>n3 h.symm;have e1:¬ r6=gR:=(by omega);have e2:¬ r6=gE:=(by omega);have e3:¬ r6=gB:=(by omega);have hP:Hid (P1 w wc gR gE gB r6 n m (λ _=>0) (M0 key 0)):=⟨HS.out.1,HS.out.2.1,HS.out.2.2.1.congr (λ i _=>by unfold M0;simp[cnt]),B6.out.grew HS.out.2.2.2,K0.out.trans HS.out.2.2.2⟩;have gw1:w.heap.size<=gR:=by rw[mz.out];omega
  have gw2:w.heap.size<=gE:=by rw[mz.out];omega
  have yg:w.heap.size<=gB:=by rw[mz.out];omega
  clear HS K0 B6 z0 g1 g2 g3;go_wp2_with fail;go_loopw [9,24] (λ u9 i wr=>∃ k:Nat,k<=m/\i=.int .i64 k/\Hid (P1 w wr gR gE gB r6 n m (λ _=>0) (M0 key k))) (λ _ i _=>m-(intOf i).toNat)
  case atStart=>exact⟨0,by omega,rfl,hP⟩
  case round =>
   clear hP;obtain⟨k,hk,rfl,hP⟩:=hrel;by_cases AH:k<m
   ·obtain⟨x,hx⟩:=zx (l:=es) (i:=k) (by rw[HM.out];exact AH);obtain⟨b,off,Nb,hb,c0,c1,c2⟩:=HE.out k x hx;have JI:=HK.out k x hx;have Gk:=JI.2;obtain⟨p,q,r⟩:=x;subst Nb;replace c0:=hP.out.kept.cell c0;replace c1:=hP.out.kept.cell c1;replace c2:=hP.out.kept.cell c2;dsimp only at c0 c1 c2;have Ir:=zh (λ W=>HC.out p q r W);rw[JI.1]at Ir;have CR:=zh (Oy key k);have dI:=mW key k (key k+1);obtain⟨v,hv⟩:=zn (key k);rw[hv]at Ir CR dI Gk;obtain⟨y,hy⟩:=zn (M0 key k (v+1));rw[hy]at dI;have HY:=zh hy;obtain⟨y0,y1⟩:=dI;have v0:(0:Int)<=(v:Int)+1:=(by omega);have v1:(v:Int)+1<(n:Int)+1:=(by omega);have k0:(0:Int)<=(k:Int):=(by omega);have k1:(k:Int)<(m:Int):=(by omega);have wv:Qv.wrap ((v:Int)+1)=(v:Int)+1:=P_ _ (by omega);have wy:Qv.wrap (y+1)=y+1:=P_ _ (by omega);have tv:((v:Int)+1).toNat=v+1:=(by omega);clear hx JI hv hy;go_wp2_with fail;obtain⟨w2,BM,gj,bE⟩:=zb wr #[i64 p,i64 q,.int .u64 r] 65 rfl;rw[BM];clear BM;have bR:=hP.out.bR.grew gj;have iB:=hP.out.iB.grew gj;refine rG [10] (λ _=>False) ?_;refine pG 0 28 ?_;refine tG 1 29 (y:=λ w' Ah=>by have AM:=(bR.drew.grew Ah).cell 1;have AX:=(bE.drew.grew Ah).cell 0;have CN:=(bE.drew.grew Ah).cell 1;have pa:=(bE.drew.grew Ah).cell 2;simp at AM AX CN pa;go_simp<;>with_reducible rfl) (h:=?_);refine pG 2 30 ?_;refine tG 3 31 (y:=λ w' Ah=>by have AM:=(bR.drew.grew Ah).cell 1;have AX:=(bE.drew.grew Ah).cell 0;have CN:=(bE.drew.grew Ah).cell 1;have pa:=(bE.drew.grew Ah).cell 2;simp at AM AX CN pa;go_simp<;>with_reducible rfl) (h:=?_);refine sG 4 32 (λ K Aj=>?_);go_simp;refine(Ir.out _).mono ?_;rintro e w3 ⟨rfl,k3⟩;have tY:=iB.drew.grew k3;have sF:=bR.drew.grew k3;refine Aj _ _ (λ _=>k3) ?_;clear Aj;simp only[sA];refine pG 5 33 ?_;refine pG 6 34 ?_;refine tG 7 35 (y:=λ w' Ah=>by have AM:=(tY.grew Ah).cell (i:=v+1) (by omega);rw[HY.out]at AM;go_simp<;>with_reducible rfl) (h:=?_);refine pG 8 36 ?_;refine pG 9 37 ?_;refine DH 10 (λ K Aj=>?_);have AM:=tY.cell (i:=v+1) (by omega);have AX:=tY.frozen (v+1);rw[HY.out]at AM;go_simp;refine Aj _ (λ h=>absurd (by simp) h) ?_;clear Aj;refine dG ?_;have Nf:=zh (((hP.out.grew gj).grew ((zr (λ _=>False) _).drew.trans k3)).setB um wK e3 yg (show v+1<n+1 by omega) (y+1) (by rw[CR.out.2,HY.out]) CR.out.1);clear hP bE bR iB tY sF k3 gj c0 c1 c2;go_wp2_with fail;go_roundw
    case rel=>exact⟨k+1,by omega,by go_num,Nf⟩
    case measure=>simp[intOf];omega
   ·obtain rfl:m=k:=(by omega);have vF:Hid (P1 w wr gR gE gB r6 n m (λ _=>0) (Lt key m 0)):=by
     rw[<- Me];exact hP.out
    clear hP;go_wp2_with fail;go_loopw [10,40] (λ qt i wr=>∃ v:Nat,v<=n/\i=.int .i64 v/\Hid (P1 w wr gR gE gB r6 n m (λ _=>0) (Lt key m v))) (λ _ i _=>n-(intOf i).toNat)
    case atStart=>exact⟨0,by omega,rfl,vF⟩
    case round =>
     clear vF;obtain⟨v,hv,rfl,hP⟩:=hrel;by_cases AH:v<n
     ·have bR:=hP.out.bR;have iB:=hP.out.iB;have CR:=zh (Oz key m v);have q1:=M3 key m n v (v+1) Is.out (by omega);have q2:=M3 key m n v v Is.out (by omega);obtain⟨y1,Br⟩:=zn (Lt key m v (v+1));obtain⟨y2,DC⟩:=zn (Lt key m v v);rw[Br]at q1;rw[DC]at q2;have mB:=zh Br;have mC:=zh DC;obtain⟨a0,a1⟩:=q1;obtain⟨a2,a3⟩:=q2;have v0:(0:Int)<=(v:Int)+1:=(by omega);have v1:(v:Int)+1<(n:Int)+1:=(by omega);have v2:(0:Int)<=(v:Int):=(by omega);have v3:(v:Int)<(n:Int)+1:=(by omega);have v4:(v:Int)<(n:Int):=(by omega);have wv:Qv.wrap ((v:Int)+1)=(v:Int)+1:=P_ _ (by omega);have wy:Qv.wrap (y1+y2)=y1+y2:=P_ _ (by omega);have tv:((v:Int)+1).toNat=v+1:=(by omega);clear Br DC;go_wp2_with fail;refine rG [13] (λ _=>False) ?_;refine pG 0 43 ?_;refine tG 1 44 (y:=λ w' Ah=>by have AM:=(bR.drew.grew Ah).cell 1;have AX:=(iB.drew.grew Ah).cell (i:=v+1) (by omega);have CN:=(iB.drew.grew Ah).cell (i:=v) (by omega);rw[mB.out]at AX;rw[mC.out]at CN;simp at AM;go_simp<;>with_reducible rfl) (h:=?_);refine pG 2 45 ?_;refine pG 3 46 ?_;refine pG 4 47 ?_;refine tG 5 48 (y:=λ w' Ah=>by have AM:=(bR.drew.grew Ah).cell 1;have AX:=(iB.drew.grew Ah).cell (i:=v+1) (by omega);have CN:=(iB.drew.grew Ah).cell (i:=v) (by omega);rw[mB.out]at AX;rw[mC.out]at CN;simp at AM;go_simp<;>with_reducible rfl) (h:=?_);refine pG 6 49 ?_;refine tG 7 50 (y:=λ w' Ah=>by have AM:=(bR.drew.grew Ah).cell 1;have AX:=(iB.drew.grew Ah).cell (i:=v+1) (by omega);have CN:=(iB.drew.grew Ah).cell (i:=v) (by omega);rw[mB.out]at AX;rw[mC.out]at CN;simp at AM;go_simp<;>with_reducible rfl) (h:=?_);refine pG 8 51 ?_;refine pG 9 52 ?_;refine tG 10 53 (y:=λ w' Ah=>by have AM:=(bR.drew.grew Ah).cell 1;have AX:=(iB.drew.grew Ah).cell (i:=v+1) (by omega);have CN:=(iB.drew.grew Ah).cell (i:=v) (by omega);rw[mB.out]at AX;rw[mC.out]at CN;simp at AM;go_simp<;>with_reducible rfl) (h:=?_);refine pG 11 54 ?_;refine pG 12 55 ?_;refine DH 13 (λ K Aj=>?_);have AX:=iB.drew.frozen (v+1);have CN:=iB.drew.cell (i:=v+1) (by omega);go_simp;refine Aj _ (λ h=>absurd (by simp) h) ?_;clear Aj;refine dG ?_;have Nf:=zh ((hP.out.grew ((zr (λ _=>False) _).drew)).setB um wK e3 yg (show v+1<n+1 by omega) (y1+y2) (by rw[CR.out.2,mB.out,mC.out]) CR.out.1);clear hP bR iB;go_wp2_with fail;go_roundw
      case rel=>exact⟨v+1,by omega,by go_num,Nf⟩
      case measure=>simp[intOf];omega
     ·obtain rfl:n=v:=(by omega);have c1:=hP.out.bR.cell 1;simp at c1;have lQ:Hid (P1 w wr gR gE gB r6 n m (λ _=>0) (λ v=>(pre key m v:Int))):=⟨hP.out.bR,hP.out.iE,hP.out.iB.congr (λ i hi=>by unfold Lt;rw[if_pos (by omega)]),hP.out.b6,hP.out.kept⟩;have cj:=Ku wr (some ⟨gB,0,none⟩) (n+1) ((Qi (n+1)).map (λ v=>(pre key m v:Int))) (lQ.out.iB.row _ (λ i z hz=>by
       obtain⟨h1,rfl⟩:=Qa.1 hz
       rw[Qb,Qc]at h1
       rw[Qr,Qm,QD]
       exact⟨h1,rfl⟩)) (λ h=>by cases h) (by simp;omega)
      rw[Qb,Qc]at cj;have cj:=zh cj;clear hP;go_wp2_with fail;refine cj.out.mono ?_;rintro e w5 ⟨u,rfl,o5,k5⟩;obtain⟨gA,cA,rfl,lS,iA⟩:=KL o5 (by omega);have yO:=lQ.out.lt;have O5:=lQ.out.kept.size;have m1:gA≠gR:=(by omega);have m2:gA≠gE:=(by omega);have m3:gA≠gB:=(by omega);have m4:gA≠r6:=(by omega);have gw4:w.heap.size<=gA:=(by omega);have hQ:Hid (∃ f:Nat->Int,P1 w w5 gR gE gB r6 n m f (λ v=>(pre key m v:Int))/\IntsF w5 gA (n+1) (atF key m 0)/\∀ j,j<0->f (pre key m (key j)+cnt key (key j) j)=(j:Int)) :=
       ⟨_,lQ.out.grew k5,iA.congr (λ i _=>by unfold atF;simp[cnt]),λ j hj=>by omega⟩
      clear lQ cj o5 iA k5 lS yO O5 c1;go_wp2_with fail;go_loopw [12,13,14,62] (λ rY lA lB i wr=>∃ k:Nat,k<=m/\i=.int .i64 k/\Hid (∃ f:Nat->Int,P1 w wr gR gE gB r6 n m f (λ v=>(pre key m v:Int))/\IntsF wr gA (n+1) (atF key m k)/\∀ j,j<k->f (pre key m (key j)+cnt key (key j) j)=(j:Int))) (λ _ _ _ i _=>m-(intOf i).toNat)
      case atStart=>exact⟨0,by omega,rfl,hQ⟩
      case round =>
       clear hQ;obtain⟨k,hk,rfl,hQ⟩:=hrel;obtain⟨f,hP,iA,hf⟩:=hQ.out;have hP:=zh hP;have hf:=zh hf;have iA:=zh iA;clear hQ;by_cases AH:k<m
       ·obtain⟨x,hx⟩:=zx (l:=es) (i:=k) (by rw[HM.out];exact AH);obtain⟨b,off,Nb,hb,c0,c1,c2⟩:=HE.out k x hx;have JI:=HK.out k x hx;have Gk:=JI.2;obtain⟨p,q,r⟩:=x;subst Nb;replace c0:=hP.out.kept.cell c0;replace c1:=hP.out.kept.cell c1;replace c2:=hP.out.kept.cell c2;dsimp only at c0 c1 c2;have Ir:=zh (λ W=>HC.out p q r W);rw[JI.1]at Ir;have CR:=zh (Ou key m k);have Hz:=KQ Is.out AH;have zc:=zh (ME AH hf.out);obtain⟨v,hv⟩:=zn (key k);rw[hv]at Ir CR Hz zc Gk;obtain⟨a,ha⟩:=zn (pre key m v+cnt key v k);rw[ha]at Hz zc;have lG:Hid (atF key m k v=(a:Int)):=by show _=_;unfold atF;rw[ha]
        have a0:(0:Int)<=(a:Int):=(by omega);have a1:(a:Int)<(m:Int):=(by omega);have v0:(0:Int)<=(v:Int):=(by omega);have v1:(v:Int)<(n:Int)+1:=(by omega);have k0:(0:Int)<=(k:Int):=(by omega);have k1:(k:Int)<(m:Int):=(by omega);have wa:Qv.wrap ((a:Int)+1)=(a:Int)+1:=P_ _ (by omega);clear hx JI hv ha;have bE:=zv wr 65 #[i64 p,i64 q,.int .u64 r];obtain⟨d0,d1,d2⟩:=mu bE;go_wp2_with fail;refine(Ir.out _).mono ?_;rintro e w3 ⟨rfl,k3⟩;have k3:Ac wr w3:=((zr _ _).alloc _).trans k3;have Nf:=zh (hP.out.grew k3);have zK:=zh (iA.out.grew k3);have bR:=Nf.out.bR;clear hP iA k3 c0 c1 c2 d0 d1 d2 bE;go_wp2_with fail;refine rG [8] (λ _=>False) ?_;refine pG 0 70 ?_;refine tG 1 71 (y:=λ w' Ah=>by have AM:=(bR.drew.grew Ah).cell 0;simp at AM;go_simp<;>with_reducible rfl) (h:=?_);refine pG 2 72 ?_;refine pG 3 73 ?_;refine pG 4 74 ?_;refine tG 5 75 (y:=λ w' Ah=>by have AX:=(zK.out.drew.grew Ah).cell (i:=v) (by omega);rw[lG.out]at AX;go_simp<;>with_reducible rfl) (h:=?_);refine pG 6 76 ?_;refine pG 7 77 ?_;refine DH 8 (λ K Aj=>?_);have AX:=Nf.out.iE.drew.frozen a;have CN:=Nf.out.iE.drew.cell (i:=a) Hz;go_simp;refine Aj _ (λ h=>absurd (by simp) h) ?_;clear Aj;refine dG ?_;have hP4:=zh ((Nf.out.setE wJ n3 e2 gw2 Hz (k:Int) (show (λ i=>if i=a then (k:Int) else f i) a=(k:Int) by simp) (λ j hj=>if_neg hj)).grew ((zr (λ _=>False) _).drew));have zL:=zh ((zK.out.far (p:=⟨gE,a,none⟩) m2 (i64 (k:Int))).drew);have c4:=zL.out.cell (i:=v) (by omega);have f4:=zL.out.frozen v;rw[lG.out]at c4;clear Nf zK bR;go_wp2_with fail;go_roundw
        case rel =>
         refine⟨k+1,by omega,by go_num,_,hP4.out.setA m1 m2 m3 m4 gw4 v _,?_,zc.out⟩;exact zL.out.set (by omega) _ (by rw[CR.out.2,lG.out]) (λ j _=>CR.out.1 j)
        case measure=>simp[intOf];omega
       ·obtain rfl:m=k:=(by omega);have hL:Hid (Laid wr gE gB n m key f):=⟨hP.out.iB,hP.out.iE,hf.out,Is.out⟩;have hKw:=zh hP.out.kept;have Nj:=hP.out.b6;have yz:=hP.out.bR;have c0:=yz.cell 0;have c1:=yz.cell 1;have f0:=Nj.frozen 0;have f1:=Nj.frozen 1;have d0:=Nj.cell 0;have d1:=Nj.cell 1;simp at c0 c1 d0 d1;have lX:w.heap.size<=r6:=by rw[mz.out];exact zl _
        clear hP hf iA;go_wp2_with fail;obtain⟨q0,q1⟩:=CE (((Nj.set 0 (rowV gE m)).set 1 (rowV gB (n+1))));have hF:Kept (·=r6) wr ((wr.setCell ⟨r6,0,none⟩ (rowV gE m)).setCell ⟨r6,1,none⟩ (rowV gB (n+1))):=((zr (·=r6) wr).setCell (p:=⟨r6,0,none⟩) (.inl rfl) _).setCell (p:=⟨r6,1,none⟩) (.inl rfl) _;refine zy (v:=.agg #[rowV gE m,rowV gB (n+1)]) (by simp[results,PU,go_sem,q0,q1]) rfl ⟨gE,gB,f,rfl,?_,?_,gw2,yg⟩
        ·exact hL.out.kept hF (λ h=>e2 h.symm) (λ h=>e3 h.symm)
        ·exact hKw.out.then hF (λ i hi h=>by have:i=r6:=h;omega)
end Go.Proofs.YtepelooebggliaaGreatDoor.Ad
namespace Go.Proofs.YtepelooebggliaaGreatDoor.Ad
open Go.RowKit
theorem uf (kf:AB->Int) (key:Nat->Nat) (n:Nat) (A:Option Addr) (c:Nat) (es:List AB) (w:A_) (h:Bj w A es) (hl:es.length<=70000) (hn:n<=60000)
  (OT:∀ p q r W,B_ E_ 210 #[.agg #[i64 p,i64 q,u64 r]] W λ e W'=>e=.returned (i64 (kf (p,q,r)))/\Ac W W')
  (Dp:∀ k e,es[k]? = some e->kf e=(key k:Int)/\key k<n) :
  B_ E_ 208 #[i64 n,.slice A es.length c,.func (.func 210) #[] #[]] w λ e w'=>∃ gE gB f,e=.returned (gQ gE gB n es.length)/\Laid w' gE gB n es.length key f/\Ac w w'/\w.heap.size<=gE/\w.heap.size<=gB:=by
 obtain⟨m,hm⟩:=zn (es.length)
 have HM:=zh hm
 rw[hm]at hl
 rw[hm]
 obtain⟨i0,hi,Cu,BV,Cj⟩:=info_parts info_int
 have Hu:=λ W=>run_make (P:=E_) W 26 3 i0 _ G_ hi Cu .i64 .i64 (m:Int) (m:Int) (by omega) (Qz _) (by rw[Cj];omega) (by omega)
 have oH:=λ W=>run_make (P:=E_) W 26 3 i0 _ G_ hi Cu .i64 .i64 ((n:Int)+1) ((n:Int)+1) (by omega) (Qz _) (by rw[Cj];omega) (by omega)
 have EI:((n:Int)+1).toNat=n+1:=by omega
 simp only[Qy,BV,QE,EI]at Hu oH
 clear hi Cu BV Cj EI
 have HE:=zh h
 have HC:=zh OT
 have HK:=zh Dp
 have Is:Hid (∀ j,j<m->key j<n):=λ j hj=>(Dp j _ (zq (by omega))).2
 clear h OT Dp hm
 go_enter Tryz.func208,Tryz.ntmps208
 go_upto_region 1 with fail
 obtain⟨w0,Oe,k0,b6⟩:=zb w #[.slice none 0 0,.slice none 0 0] 297 rfl
 rw[Oe]
 clear Oe
 have z0:=k0.size
 have z6:=b6.lt
 have K0:=zh k0
 have B6:=zh b6
 clear k0 b6
 obtain⟨r6,dT⟩:=zn (w.heap.size)
 have mz:=zh dT
 rw[dT]at z0 z6 B6 ⊢
 clear dT
 go_cut [7] (λ s7 wx=>∃ gR gE gB:Nat,s7=.pointer (some ⟨gR,0,none⟩)/\gR≠gE/\gR≠gB/\gE≠gB/\w0.heap.size<=gR/\w0.heap.size<=gE/\w0.heap.size<=gB/\Hid (Am wx gR 297 #[rowV gE m,rowV gB (n+1)]/\IntsF wx gE m (λ _=>0)/\IntsF wx gB (n+1) (λ _=>0)/\Ac w0 wx))
 case first =>
  go_region;all_goals go_wp2_with fail
  all_goals go_meet
  all_goals first
   | exact⟨w0.heap.size ,w0.heap.size+1,w0.heap.size+1+1,rfl,by omega,by omega,by omega,by omega,by omega,by omega,(three _ _ _ _).1,made_of (three _ _ _ _).2.1,made_of (three _ _ _ _).2.2.1,(three _ _ _ _).2.2.2⟩
   | exact⟨w0.heap.size ,w0.heap.size+1+1,w0.heap.size+1,rfl,by omega,by omega,by omega,by omega,by omega,by omega,(three _ _ _ _).1,made_of (three _ _ _ _).2.2.1,made_of (three _ _ _ _).2.1,(three _ _ _ _).2.2.2⟩
   | exact⟨w0.heap.size+1,w0.heap.size ,w0.heap.size+1+1,rfl,by omega,by omega,by omega,by omega,by omega,by omega,(three _ _ _ _).2.1,made_of (three _ _ _ _).1,made_of (three _ _ _ _).2.2.1,(three _ _ _ _).2.2.2⟩
   | exact⟨w0.heap.size+1,w0.heap.size+1+1,w0.heap.size ,rfl,by omega,by omega,by omega,by omega,by omega,by omega,(three _ _ _ _).2.1,made_of (three _ _ _ _).2.2.1,made_of (three _ _ _ _).1,(three _ _ _ _).2.2.2⟩
   | exact⟨w0.heap.size+1+1,w0.heap.size ,w0.heap.size+1,rfl,by omega,by omega,by omega,by omega,by omega,by omega,(three _ _ _ _).2.2.1,made_of (three _ _ _ _).1,made_of (three _ _ _ _).2.1,(three _ _ _ _).2.2.2⟩
   | exact⟨w0.heap.size+1+1,w0.heap.size+1,w0.heap.size ,rfl,by omega,by omega,by omega,by omega,by omega,by omega,(three _ _ _ _).2.2.1,made_of (three _ _ _ _).2.1,made_of (three _ _ _ _).1,(three _ _ _ _).2.2.2⟩
 case rest =>
  obtain⟨gR,gE,gB,rfl,n1,n2,n3,g1,g2,g3,HS⟩:=hcut;clear Hu oH;have wJ:¬ gE=gR:=λ h=>n1 h.symm;have um:¬ gB=gR:=λ h=>n2 h.symm;have wK:¬ gB=gE:=λ h=>n3 h.symm;have e1:¬ r6=gR:=(by omega);have e2:¬ r6=gE:=(by omega);have e3:¬ r6=gB:=(by omega);have hP:Hid (P1 w wc gR gE gB r6 n m (λ _=>0) (M0 key 0)):=⟨HS.out.1,HS.out.2.1,HS.out.2.2.1.congr (λ i _=>by unfold M0;simp[cnt]),B6.out.grew HS.out.2.2.2,K0.out.trans HS.out.2.2.2⟩;have gw1:w.heap.size<=gR:=by rw[mz.out];omega
  have gw2:w.heap.size<=gE:=by rw[mz.out];omega
  have yg:w.heap.size<=gB:=by rw[mz.out];omega
  clear HS K0 B6 z0 g1 g2 g3;go_wp2_with fail;go_loopw [9,24] (λ u9 i wr=>∃ k:Nat,k<=m/\i=.int .i64 k/\Hid (P1 w wr gR gE gB r6 n m (λ _=>0) (M0 key k))) (λ _ i _=>m-(intOf i).toNat)
  case atStart=>exact⟨0,by omega,rfl,hP⟩
  case round =>
   clear hP;obtain⟨k,hk,rfl,hP⟩:=hrel;by_cases AH:k<m
   ·obtain⟨x,hx⟩:=zx (l:=es) (i:=k) (by rw[HM.out];exact AH);obtain⟨b,off,Nb,hb,c0,c1,c2⟩:=HE.out k x hx;have JI:=HK.out k x hx;have Gk:=JI.2;obtain⟨p,q,r⟩:=x;subst Nb;replace c0:=hP.out.kept.cell c0;replace c1:=hP.out.kept.cell c1;replace c2:=hP.out.kept.cell c2;dsimp only at c0 c1 c2;have Ir:=zh (λ W=>HC.out p q r W);rw[JI.1]at Ir;have CR:=zh (Oy key k);have dI:=mW key k (key k+1);obtain⟨v,hv⟩:=zn (key k);rw[hv]at Ir CR dI Gk;obtain⟨y,hy⟩:=zn (M0 key k (v+1));rw[hy]at dI;have HY:=zh hy;obtain⟨y0,y1⟩:=dI;have v0:(0:Int)<=(v:Int)+1:=(by omega);have v1:(v:Int)+1<(n:Int)+1:=(by omega);have k0:(0:Int)<=(k:Int):=(by omega);have k1:(k:Int)<(m:Int):=(by omega);have wv:Qv.wrap ((v:Int)+1)=(v:Int)+1:=P_ _ (by omega);have wy:Qv.wrap (y+1)=y+1:=P_ _ (by omega);have tv:((v:Int)+1).toNat=v+1:=(by omega);clear hx JI hv hy;go_wp2_with fail;obtain⟨w2,BM,gj,bE⟩:=zb wr #[i64 p,i64 q,.int .u64 r] 65 rfl;rw[BM];clear BM;have bR:=hP.out.bR.grew gj;have iB:=hP.out.iB.grew gj;refine rG [10] (λ _=>False) ?_;refine pG 0 28 ?_;refine tG 1 29 (y:=λ w' Ah=>by have AM:=(bR.drew.grew Ah).cell 1;have AX:=(bE.drew.grew Ah).cell 0;have CN:=(bE.drew.grew Ah).cell 1;have pa:=(bE.drew.grew Ah).cell 2;simp at AM AX CN pa;go_simp<;>with_reducible rfl) (h:=?_);refine pG 2 30 ?_;refine tG 3 31 (y:=λ w' Ah=>by have AM:=(bR.drew.grew Ah).cell 1;have AX:=(bE.drew.grew Ah).cell 0;have CN:=(bE.drew.grew Ah).cell 1;have pa:=(bE.drew.grew Ah).cell 2;simp at AM AX CN pa;go_simp<;>with_reducible rfl) (h:=?_);refine sG 4 32 (λ K Aj=>?_);go_simp;refine(Ir.out _).mono ?_;rintro e w3 ⟨rfl,k3⟩;have tY:=iB.drew.grew k3;have sF:=bR.drew.grew k3;refine Aj _ _ (λ _=>k3) ?_;clear Aj;simp only[sA];refine pG 5 33 ?_;refine pG 6 34 ?_;refine tG 7 35 (y:=λ w' Ah=>by have AM:=(tY.grew Ah).cell (i:=v+1) (by omega);rw[HY.out]at AM;go_simp<;>with_reducible rfl) (h:=?_);refine pG 8 36 ?_;refine pG 9 37 ?_;refine DH 10 (λ K Aj=>?_);have AM:=tY.cell (i:=v+1) (by omega);have AX:=tY.frozen (v+1);rw[HY.out]at AM;go_simp;refine Aj _ (λ h=>absurd (by simp) h) ?_;clear Aj;refine dG ?_;have Nf:=zh (((hP.out.grew gj).grew ((zr (λ _=>False) _).drew.trans k3)).setB um wK e3 yg (show v+1<n+1 by omega) (y+1) (by rw[CR.out.2,HY.out]) CR.out.1);clear hP bE bR iB tY sF k3 gj c0 c1 c2;go_wp2_with fail;go_roundw
    case rel=>exact⟨k+1,by omega,by go_num,Nf⟩
    case measure=>simp[intOf];omega
   ·obtain rfl:m=k:=(by omega);have vF:Hid (P1 w wr gR gE gB r6 n m (λ _=>0) (Lt key m 0)):=by
     rw[<- Me];exact hP.out
    clear hP;go_wp2_with fail;go_loopw [10,40] (λ qt i wr=>∃ v:Nat,v<=n/\i=.int .i64 v/\Hid (P1 w wr gR gE gB r6 n m (λ _=>0) (Lt key m v))) (λ _ i _=>n-(intOf i).toNat)
    case atStart=>exact⟨0,by omega,rfl,vF⟩
    case round =>
     clear vF;obtain⟨v,hv,rfl,hP⟩:=hrel;by_cases AH:v<n
     ·have bR:=hP.out.bR;have iB:=hP.out.iB;have CR:=zh (Oz key m v);have q1:=M3 key m n v (v+1) Is.out (by omega);have q2:=M3 key m n v v Is.out (by omega);obtain⟨y1,Br⟩:=zn (Lt key m v (v+1));obtain⟨y2,DC⟩:=zn (Lt key m v v);rw[Br]at q1;rw[DC]at q2;have mB:=zh Br;have mC:=zh DC;obtain⟨a0,a1⟩:=q1;obtain⟨a2,a3⟩:=q2;have v0:(0:Int)<=(v:Int)+1:=(by omega);have v1:(v:Int)+1<(n:Int)+1:=(by omega);have v2:(0:Int)<=(v:Int):=(by omega);have v3:(v:Int)<(n:Int)+1:=(by omega);have v4:(v:Int)<(n:Int):=(by omega);have wv:Qv.wrap ((v:Int)+1)=(v:Int)+1:=P_ _ (by omega);have wy:Qv.wrap (y1+y2)=y1+y2:=P_ _ (by omega);have tv:((v:Int)+1).toNat=v+1:=(by omega);clear Br DC;go_wp2_with fail;refine rG [13] (λ _=>False) ?_;refine pG 0 43 ?_;refine tG 1 44 (y:=λ w' Ah=>by have AM:=(bR.drew.grew Ah).cell 1;have AX:=(iB.drew.grew Ah).cell (i:=v+1) (by omega);have CN:=(iB.drew.grew Ah).cell (i:=v) (by omega);rw[mB.out]at AX;rw[mC.out]at CN;simp at AM;go_simp<;>with_reducible rfl) (h:=?_);refine pG 2 45 ?_;refine pG 3 46 ?_;refine pG 4 47 ?_;refine tG 5 48 (y:=λ w' Ah=>by have AM:=(bR.drew.grew Ah).cell 1;have AX:=(iB.drew.grew Ah).cell (i:=v+1) (by omega);have CN:=(iB.drew.grew Ah).cell (i:=v) (by omega);rw[mB.out]at AX;rw[mC.out]at CN;simp at AM;go_simp<;>with_reducible rfl) (h:=?_);refine pG 6 49 ?_;refine tG 7 50 (y:=λ w' Ah=>by have AM:=(bR.drew.grew Ah).cell 1;have AX:=(iB.drew.grew Ah).cell (i:=v+1) (by omega);have CN:=(iB.drew.grew Ah).cell (i:=v) (by omega);rw[mB.out]at AX;rw[mC.out]at CN;simp at AM;go_simp<;>with_reducible rfl) (h:=?_);refine pG 8 51 ?_;refine pG 9 52 ?_;refine tG 10 53 (y:=λ w' Ah=>by have AM:=(bR.drew.grew Ah).cell 1;have AX:=(iB.drew.grew Ah).cell (i:=v+1) (by omega);have CN:=(iB.drew.grew Ah).cell (i:=v) (by omega);rw[mB.out]at AX;rw[mC.out]at CN;simp at AM;go_simp<;>with_reducible rfl) (h:=?_);refine pG 11 54 ?_;refine pG 12 55 ?_;refine DH 13 (λ K Aj=>?_);have AX:=iB.drew.frozen (v+1);have CN:=iB.drew.cell (i:=v+1) (by omega);go_simp;refine Aj _ (λ h=>absurd (by simp) h) ?_;clear Aj;refine dG ?_;have Nf:=zh ((hP.out.grew ((zr (λ _=>False) _).drew)).setB um wK e3 yg (show v+1<n+1 by omega) (y1+y2) (by rw[CR.out.2,mB.out,mC.out]) CR.out.1);clear hP bR iB;go_wp2_with fail;go_roundw
      case rel=>exact⟨v+1,by omega,by go_num,Nf⟩
      case measure=>simp[intOf];omega
     ·obtain rfl:n=v:=(by omega);have c1:=hP.out.bR.cell 1;simp at c1;have lQ:Hid (P1 w wr gR gE gB r6 n m (λ _=>0) (λ v=>(pre key m v:Int))):=⟨hP.out.bR,hP.out.iE,hP.out.iB.congr (λ i hi=>by unfold Lt;rw[if_pos (by omega)]),hP.out.b6,hP.out.kept⟩;have cj:=Ku wr (some ⟨gB,0,none⟩) (n+1) ((Qi (n+1)).map (λ v=>(pre key m v:Int))) (lQ.out.iB.row _ (λ i z hz=>by
       obtain⟨h1,rfl⟩:=Qa.1 hz
       rw[Qb,Qc]at h1
       rw[Qr,Qm,QD]
       exact⟨h1,rfl⟩)) (λ h=>by cases h) (by simp;omega)
      rw[Qb,Qc]at cj;have cj:=zh cj;clear hP;go_wp2_with fail;refine cj.out.mono ?_;rintro e w5 ⟨u,rfl,o5,k5⟩;obtain⟨gA,cA,rfl,lS,iA⟩:=KL o5 (by omega);have yO:=lQ.out.lt;have O5:=lQ.out.kept.size;have m1:gA≠gR:=(by omega);have m2:gA≠gE:=(by omega);have m3:gA≠gB:=(by omega);have m4:gA≠r6:=(by omega);have gw4:w.heap.size<=gA:=(by omega);have hQ:Hid (∃ f:Nat->Int,P1 w w5 gR gE gB r6 n m f (λ v=>(pre key m v:Int))/\IntsF w5 gA (n+1) (atF key m 0)/\∀ j,j<0->f (pre key m (key j)+cnt key (key j) j)=(j:Int)) :=
       ⟨_,lQ.out.grew k5,iA.congr (λ i _=>by unfold atF;simp[cnt]),λ j hj=>by omega⟩
      clear lQ cj o5 iA k5 lS yO O5 c1;go_wp2_with fail;go_loopw [12,13,14,62] (λ rY lA lB i wr=>∃ k:Nat,k<=m/\i=.int .i64 k/\Hid (∃ f:Nat->Int,P1 w wr gR gE gB r6 n m f (λ v=>(pre key m v:Int))/\IntsF wr gA (n+1) (atF key m k)/\∀ j,j<k->f (pre key m (key j)+cnt key (key j) j)=(j:Int))) (λ _ _ _ i _=>m-(intOf i).toNat)
      case atStart=>exact⟨0,by omega,rfl,hQ⟩
      case round =>
       clear hQ;obtain⟨k,hk,rfl,hQ⟩:=hrel;obtain⟨f,hP,iA,hf⟩:=hQ.out;have hP:=zh hP;have hf:=zh hf;have iA:=zh iA;clear hQ;by_cases AH:k<m
       ·obtain⟨x,hx⟩:=zx (l:=es) (i:=k) (by rw[HM.out];exact AH);obtain⟨b,off,Nb,hb,c0,c1,c2⟩:=HE.out k x hx;have JI:=HK.out k x hx;have Gk:=JI.2;obtain⟨p,q,r⟩:=x;subst Nb;replace c0:=hP.out.kept.cell c0;replace c1:=hP.out.kept.cell c1;replace c2:=hP.out.kept.cell c2;dsimp only at c0 c1 c2;have Ir:=zh (λ W=>HC.out p q r W);rw[JI.1]at Ir;have CR:=zh (Ou key m k);have Hz:=KQ Is.out AH;have zc:=zh (ME AH hf.out);obtain⟨v,hv⟩:=zn (key k);rw[hv]at Ir CR Hz zc Gk;obtain⟨a,ha⟩:=zn (pre key m v+cnt key v k);rw[ha]at Hz zc;have lG:Hid (atF key m k v=(a:Int)):=by show _=_;unfold atF;rw[ha]
        have a0:(0:Int)<=(a:Int):=(by omega);have a1:(a:Int)<(m:Int):=(by omega);have v0:(0:Int)<=(v:Int):=(by omega);have v1:(v:Int)<(n:Int)+1:=(by omega);have k0:(0:Int)<=(k:Int):=(by omega);have k1:(k:Int)<(m:Int):=(by omega);have wa:Qv.wrap ((a:Int)+1)=(a:Int)+1:=P_ _ (by omega);clear hx JI hv ha;have bE:=zv wr 65 #[i64 p,i64 q,.int .u64 r];obtain⟨d0,d1,d2⟩:=mu bE;go_wp2_with fail;refine(Ir.out _).mono ?_;rintro e w3 ⟨rfl,k3⟩;have k3:Ac wr w3:=((zr _ _).alloc _).trans k3;have Nf:=zh (hP.out.grew k3);have zK:=zh (iA.out.grew k3);have bR:=Nf.out.bR;clear hP iA k3 c0 c1 c2 d0 d1 d2 bE;go_wp2_with fail;refine rG [8] (λ _=>False) ?_;refine pG 0 70 ?_;refine tG 1 71 (y:=λ w' Ah=>by have AM:=(bR.drew.grew Ah).cell 0;simp at AM;go_simp<;>with_reducible rfl) (h:=?_);refine pG 2 72 ?_;refine pG 3 73 ?_;refine pG 4 74 ?_;refine tG 5 75 (y:=λ w' Ah=>by have AX:=(zK.out.drew.grew Ah).cell (i:=v) (by omega);rw[lG.out]at AX;go_simp<;>with_reducible rfl) (h:=?_);refine pG 6 76 ?_;refine pG 7 77 ?_;refine DH 8 (λ K Aj=>?_);have AX:=Nf.out.iE.drew.frozen a;have CN:=Nf.out.iE.drew.cell (i:=a) Hz;go_simp;refine Aj _ (λ h=>absurd (by simp) h) ?_;clear Aj;refine dG ?_;have hP4:=zh ((Nf.out.setE wJ n3 e2 gw2 Hz (k:Int) (show (λ i=>if i=a then (k:Int) else f i) a=(k:Int) by simp) (λ j hj=>if_neg hj)).grew ((zr (λ _=>False) _).drew));have zL:=zh ((zK.out.far (p:=⟨gE,a,none⟩) m2 (i64 (k:Int))).drew);have c4:=zL.out.cell (i:=v) (by omega);have f4:=zL.out.frozen v;rw[lG.out]at c4;clear Nf zK bR;go_wp2_with fail;go_roundw
        case rel =>
         refine⟨k+1,by omega,by go_num,_,hP4.out.setA m1 m2 m3 m4 gw4 v _,?_,zc.out⟩;exact zL.out.set (by omega) _ (by rw[CR.out.2,lG.out]) (λ j _=>CR.out.1 j)
        case measure=>simp[intOf];omega
       ·obtain rfl:m=k:=(by omega);have hL:Hid (Laid wr gE gB n m key f):=⟨hP.out.iB,hP.out.iE,hf.out,Is.out⟩;have hKw:=zh hP.out.kept;have Nj:=hP.out.b6;have yz:=hP.out.bR;have c0:=yz.cell 0;have c1:=yz.cell 1;have f0:=Nj.frozen 0;have f1:=Nj.frozen 1;have d0:=Nj.cell 0;have d1:=Nj.cell 1;simp at c0 c1 d0 d1;have lX:w.heap.size<=r6:=by rw[mz.out];exact zl _
        clear hP hf iA;go_wp2_with fail;obtain⟨q0,q1⟩:=CE (((Nj.set 0 (rowV gE m)).set 1 (rowV gB (n+1))));have hF:Kept (·=r6) wr ((wr.setCell ⟨r6,0,none⟩ (rowV gE m)).setCell ⟨r6,1,none⟩ (rowV gB (n+1))):=((zr (·=r6) wr).setCell (p:=⟨r6,0,none⟩) (.inl rfl) _).setCell (p:=⟨r6,1,none⟩) (.inl rfl) _;refine zy (v:=.agg #[rowV gE m,rowV gB (n+1)]) (by simp[results,PU,go_sem,q0,q1]) rfl ⟨gE,gB,f,rfl,?_,?_,gw2,yg⟩
        ·exact hL.out.kept hF (λ h=>e2 h.symm) (λ h=>e3 h.symm)
        ·exact hKw.out.then hF (λ i hi h=>by have:i=r6:=h;omega)
end Go.Proofs.YtepelooebggliaaGreatDoor.Ad
namespace Go.Proofs.YtepelooebggliaaGreatDoor.Ad
open Go.RowKit
theorem right_zero {n:Int} {es:List AB} (h:Aq n es=0):1<=n/\n<=4096/\es.length<=16384/\∀ (k:Nat) (p q r:Int),es[k]? = some (p,q,r)->0<=p/\p<n/\0<=q/\q<n/\p≠q/\1<=r/\r<=4294967296:=by
 unfold Aq at h;by_cases h1:n<1\/4096<n
 ·rw[if_pos h1]at h;cases h
 rw[if_neg h1]at h;by_cases h2:16384<es.length
 ·rw[if_pos h2]at h;cases h
 rw[if_neg h2]at h;by_cases h3:es.all (AU n)=true
 ·rw[if_pos h3]at h;by_cases h4:es.all G9=true
  ·refine⟨by omega,by omega,by omega,λ k p q r hk=>?_⟩;have hm:=zm hk;have a:=Qs.1 h3 _ hm;have b:=Qs.1 h4 _ hm;simp[AU]at a;simp[G9]at b;omega
  ·rw[if_neg h4]at h;cases h
 ·rw[if_neg h3]at h;cases h
def keyF (es:List AB) (k:Nat):Nat:=((es[k]?).map (λ e=>e.1.toNat)).getD 0
def LY (es:List AB) (k:Nat):Nat:=((es[k]?).map (λ e=>e.2.1.toNat)).getD 0
theorem po {n:Nat} {es:List AB} (h:Aq n es=0):∀ k e,es[k]? = some e->(λ e:AB=>e.1) e=(keyF es k:Int)/\keyF es k<n:=λ k e he=>by
 obtain⟨p,q,r⟩:=e;have h1:=(right_zero h).2.2.2 k p q r he;unfold keyF;rw[he];simp;omega
theorem zS {n:Nat} {es:List AB} (h:Aq n es=0):∀ k e,es[k]? = some e->(λ e:AB=>e.2.1) e=(LY es k:Int)/\LY es k<n:=λ k e he=>by
 obtain⟨p,q,r⟩:=e;have h1:=(right_zero h).2.2.2 k p q r he;unfold LY;rw[he];simp;omega
structure AdjB (w:A_) (B a n:Nat) (es:List AB):Prop where
 parts:∃ (AE:Option Addr) (c g1 b1 g2 b2:Nat) (f1 f2:Nat->Int),Am w a 301 #[i64 n,.slice AE es.length c,rowV g1 es.length,rowV b1 (n+1),rowV g2 es.length,rowV b2 (n+1)]/\Bj w AE es /\
  Laid w g1 b1 n es.length (keyF es) f1/\Laid w g2 b2 n es.length (LY es) f2/\a<B/\g1<B/\b1<B/\g2<B/\b2<B/\∀ x,AE=some x->x.block<B\/es=[]
theorem AdjB.kept {F:Nat->Prop} {w w':A_} {B a n:Nat} {es:List AB} (h:AdjB w B a n es) (k:Kept F w w') (hF:∀ j,F j->B<=j):AdjB w' B a n es:=by
 obtain⟨AE,c,g1,b1,g2,b2,f1,f2,h1,h2,h3,h4,z1,z2,z3,z4,z5,z6⟩:=h.parts;have no:∀ j,j<B->¬ F j:=λ j hj hf=>by have:=hF j hf;omega
 refine⟨AE,c,g1,b1,g2,b2,f1,f2,h1.kept k (no _ z1),?_,h3.kept k (no _ z2) (no _ z3),h4.kept k (no _ z4) (no _ z5),z1,z2,z3,z4,z5,z6⟩;rcases es with _ | ⟨e,es⟩
 ·exact Bj.nil _ _
 ·refine h2.kept k λ x hx=>?_;rcases z6 x hx with h | h
  ·exact no _ h
  ·cases h
theorem AdjB.grew {w w':A_} {B a n:Nat} {es:List AB} (h:AdjB w B a n es) (k:Ac w w'):AdjB w' B a n es:=h.kept k λ _ h=>h.elim
theorem new_yes (n:Nat) (AE:Option Addr) (c:Nat) (es:List AB) (w:A_) (h:Bj w AE es) (hr:Aq n es=0) :
  B_ E_ 148 #[.agg #[i64 n,.slice AE es.length c]] w λ e w'=>∃ a,e=.returned (.tuple #[pt a,i64 0])/\AdjB w' w'.heap.size a n es/\Ac w w':=by
 have hl:=(right_zero hr).2.2.1
 have Hv:=(right_zero hr).2.1
 have b0:=zv w 24 #[i64 n,.slice AE es.length c]
 have BY:Ac w (w.alloc (.cells #[i64 n,.slice AE es.length c] 24)):=(zr _ _).alloc _
 have hC:=zh (CH n AE c es _ (h.grew BY) (by omega))
 have cj:=zh (λ W (k:Ac w W)=>C4 n AE c es W (h.grew k) (by omega))
 have hkF:=zh (po hr)
 have hkT:=zh (zS hr)
 have hLF:=zh (λ A c W (r:Bj W A es)=>jW (λ e=>e.1) (keyF es) n A c es W r (by omega) (by omega) (λ p q r W=>nH p q r W) hkF.out)
 have hLT:=zh (λ A c W (r:Bj W A es)=>uf (λ e=>e.2.1) (LY es) n A c es W r (by omega) (by omega) (λ p q r W=>to_any p q r W) hkT.out)
 rw[hr]at hC
 obtain⟨L,hL⟩:=zn (es.length)
 have HL:=zh hL
 rw[hL]at b0 BY hC cj hLF hLT ⊢
 clear h hL hl hr hkF hkT
 obtain⟨c0,c1⟩:=CE b0
 go_enter Tryz.func148,Tryz.ntmps148
 go_wp2_with fail
 refine hC.out.mono ?_
 rintro e w1 ⟨rfl,k1⟩
 replace b0:=b0.grew k1
 replace BY:=BY.trans k1
 replace c0:=b0.cell 0
 replace c1:=b0.cell 1
 simp at c0 c1
 clear k1
 go_wp2_with fail
 refine(cj.out _ BY).mono ?_
 rintro e w2 ⟨v,rfl,hE,k2⟩
 obtain⟨A2,c2,hv,AY⟩:=hE.row
 rw[HL.out]at hv
 subst hv
 have AV:=zh hE
 have hz01:=b0.lt
 replace b0:=b0.grew k2
 have BV:=BY.size
 have Cj:=k2.size
 replace BY:=BY.trans k2
 have f0:=b0.frozen 0
 have f1:=b0.frozen 1
 have Cu:=b0.lt
 obtain⟨q0,q1⟩:=CE b0
 go_upto_region 4 with fail
 have hF:Kept (·=w.heap.size) w2 ((w2.setCell ⟨w.heap.size,0,none⟩ (i64 n)).setCell ⟨w.heap.size,1,none⟩ (.slice A2 L c2)):=((zr (·=w.heap.size) w2).setCell (p:=⟨w.heap.size,0,none⟩) (.inl rfl) _).setCell (p:=⟨w.heap.size,1,none⟩) (.inl rfl) _
 have b3:=(b0.set 0 (i64 n)).set 1 (.slice A2 L c2)
 simp at b3
 obtain⟨w3,Dj⟩:=zn ((w2.setCell ⟨w.heap.size,0,none⟩ (i64 n)).setCell ⟨w.heap.size,1,none⟩ (.slice A2 L c2))
 rw[Dj]at hF b3 ⊢
 have N7:Hid (∀ x,A2=some x->(w.heap.size+1<=x.block/\x.block<w2.heap.size)\/es=[]):=λ x hx=>by
  rcases es with _ | ⟨e,es⟩
  ·exact .inr rfl
  ·left;have h1:=(AV.out.lt x.block (by rw[hx];rfl));refine⟨?_,h1.2⟩;have h2:=h1.1;omega
 have oX:Hid (Bj w3 A2 es):=by
  show Bj _ _ _;by_cases ts:es=[]
  ·rw[ts];exact Bj.nil _ _
  ·refine AY.kept hF λ x hx hq=>?_;rcases N7.out x hx with h | h
   ·have:x.block=w.heap.size:=hq;omega
   ·exact ts h
 have kw3:Ac w w3:=BY.then hF (λ i hi h=>by have:i=w.heap.size:=h;omega)
 have hz3:=hF.size
 clear Dj hC cj hE AY AV b0 c0 c1 q0 q1 f0 f1 BY k2
 refine rG [] (λ _=>False) ?_
 refine tG 0 9 (y:=λ w' Ah=>by have AM:=(b3.drew.grew Ah).cell 0;have AX:=(b3.drew.grew Ah).cell 1;simp at AM AX;go_simp<;>with_reducible rfl) (h:=?_)
 refine pG 1 10 ?_
 refine tG 2 11 (y:=λ w' Ah=>by have AM:=(b3.drew.grew Ah).cell 0;have AX:=(b3.drew.grew Ah).cell 1;simp at AM AX;go_simp<;>with_reducible rfl) (h:=?_)
 refine pG 3 12 ?_
 refine tG 4 13 (y:=λ w' Ah=>by have AM:=(b3.drew.grew Ah).cell 0;have AX:=(b3.drew.grew Ah).cell 1;simp at AM AX;go_simp<;>with_reducible rfl) (h:=?_)
 refine pG 6 15 ?_
 refine tG 7 16 (y:=λ w' Ah=>by have AM:=(b3.drew.grew Ah).cell 0;have AX:=(b3.drew.grew Ah).cell 1;simp at AM AX;go_simp<;>with_reducible rfl) (h:=?_)
 refine pG 8 17 ?_
 refine tG 9 18 (y:=λ w' Ah=>by have AM:=(b3.drew.grew Ah).cell 0;have AX:=(b3.drew.grew Ah).cell 1;simp at AM AX;go_simp<;>with_reducible rfl) (h:=?_)
 refine sG 5 14 (λ K Aj=>?_)
 go_simp
 refine(hLF.out A2 c2 _ (oX.out.grew (zr _ _).drew)).mono ?_
 rintro e w4 ⟨g1,gb1,f1,he,l1,k4,m1,m2⟩
 unfold gQ at he
 subst he
 refine Aj _ _ (λ _=>k4) ?_
 clear Aj
 simp only[sA]
 refine sG 10 19 (λ K Aj=>?_)
 go_simp
 refine(hLT.out A2 c2 _ ((oX.out.grew (zr _ _).drew).grew k4)).mono ?_
 rintro e w5 ⟨g2,gb2,f2,he,l2,k5,m3,m4⟩
 unfold gQ at he
 subst he
 refine Aj _ _ (λ _=>k5) ?_
 clear Aj
 simp only[sA]
 refine pG 11 20 ?_
 refine sG 12 21 (λ K Aj=>?_)
 go_simp
 refine Aj _ _ (λ _=>(zr _ _).alloc _) ?_
 clear Aj
 simp only[sA]
 refine pG 13 2 ?_
 refine pG 14 3 ?_
 refine dG ?_
 go_wp2_with fail
 go_ret2
 have D6:Ac w3 w4:=(zr _ _).drew.trans k4
 have hz4:=D6.size
 have hz5:=k5.size
 have Ia:Bj w5 A2 es:=(oX.out.grew D6).grew k5
 have GI:=l1.edges.lt
 have hgb1:=l1.begin.lt
 have cB:=l2.edges.lt
 have hgb2:=l2.begin.lt
 refine⟨w5.heap.size,rfl,⟨A2,c2,g1,gb1,g2,gb2,f1,f2,?_⟩,((kw3.trans D6).trans k5).alloc _⟩
 rw[HL.out]
 refine⟨zv w5 _ _,Ia.grew ((zr _ _).alloc _),(l1.grew k5).grew ((zr _ _).alloc _),l2.grew ((zr _ _).alloc _),by simp,by simp;omega,by simp;omega,by simp;omega,by simp;omega,λ x hx=>?_⟩
 rcases N7.out x hx with h | h
 ·left;simp;omega
 ·exact .inr h
end Go.Proofs.YtepelooebggliaaGreatDoor.Ad
namespace Go.Proofs.YtepelooebggliaaGreatDoor.Ad
open Go.RowKit
def rowI (key:Nat->Nat) (v m:Nat):List Int:=(rowN key v m).map (λ k:Nat=>(k:Int))
theorem rowI_length (key:Nat->Nat) (v m:Nat):(rowI key v m).length=cnt key v m:=by simp[rowI,Ey]
theorem rowI_at {key:Nat->Nat} {v m r:Nat} {z:Int} (h:(rowI key v m)[r]? = some z):∃ j:Nat,z=(j:Int)/\key j=v/\cnt key v j=r/\j<m:=by
 unfold rowI at h;rw[Qd]at h;obtain⟨j,hj,rfl⟩:=QB.1 h;obtain⟨a,b,c⟩:=NL key v m r j hj;exact⟨j,rfl,a,b,c⟩
theorem Laid.row {w:A_} {gE gB n m v:Nat} {key:Nat->Nat} {f:Nat->Int} (h:Laid w gE gB n m key f) (hv:v<n):RowI w (some ⟨gE,pre key m v,none⟩) (rowI key v m) :=
 h.edges.row _ λ r z hz=>by
  obtain⟨j,rfl,h1,h2,h3⟩:=rowI_at hz;have h4:=h.place j h3;rw[h1,h2]at h4;have h5:=KQ (key:=key) h.keys h3;rw[h1,h2]at h5;exact⟨h5,h4⟩
def OfE (g:Nat) (key:Nat->Nat) (v m:Nat) (w:A_) (e:Ending) (w':A_):Prop:=∃ x c,e=.returned (.slice (some x) (cnt key v m) c)/\RowI w' (some x) (rowI key v m)/\Ac w w'/\x.block=g
theorem pK (w:A_) (gE gB n m v:Nat) (key:Nat->Nat) (f:Nat->Int) (h:Laid w gE gB n m key f) (hv:v<n) (hn:n<=60000) (hm:m<=60000) :
  B_ E_ 277 #[.agg #[rowV gE m,rowV gB (n+1)],i64 v] w λ e w'=>OfE gE key v m w e w':=by
 have HR:=zh (λ W (k:Ac w W)=>(h.row hv).grew k)
 have HZ:Hid (cnt key v m=0->rowI key v m=[]):=λ h=>List.eq_nil_of_length_eq_zero (by rw[rowI_length];exact h)
 have b0:=zv w 297 #[rowV gE m,rowV gB (n+1)]
 obtain⟨c0,c1⟩:=CE b0
 have h1:=(h.begin.alloc (.cells #[rowV gE m,rowV gB (n+1)] 297)).cell (i:=v) (by omega)
 have h2:=(h.begin.alloc (.cells #[rowV gE m,rowV gB (n+1)] 297)).cell (i:=v+1) (by omega)
 have hp:=pQ key m n (v+1) h.keys (by omega)
 have he:pre key m (v+1)=pre key m v+cnt key v m:=rfl
 rw[he]at h2 hp
 obtain⟨a,ha⟩:=zn (pre key m v)
 obtain⟨b,hb⟩:=zn (cnt key v m)
 rw[ha]at h1 HR
 rw[ha,hb]at h2 hp
 have HE:Hid (∀ W c,Ac w W->OfE gE key v m w (.returned (.slice (some ⟨gE,a,none⟩) b c)) W):=λ W c k=>by rw[<- hb];exact⟨_,c,rfl,HR.out W k,k,rfl⟩
 have HE0:Hid (∀ W c,b=0->Ac w W->OfE gE key v m w (.returned (.slice (some ⟨gE,0,none⟩) 0 c)) W):=λ W c h0 k=>by
  rw[<- hb]at h0;refine⟨_,c,by rw[h0],?_,k,rfl⟩;rw[HZ.out h0];exact RowI.nil _ _
 have v0:(0:Int)<=(v:Int):=by omega
 have v1:(v:Int)<(n:Int)+1:=by omega
 have v2:(v:Int)+1<(n:Int)+1:=by omega
 have v3:(0:Int)<=(v:Int)+1:=by omega
 have wv:Qv.wrap ((v:Int)+1)=(v:Int)+1:=P_ _ (by omega)
 have tv:((v:Int)+1).toNat=v+1:=by omega
 have d1:decide ((v:Int)<0)=false:=zf (by omega)
 have d2:decide ((n:Int)+1<=(v:Int)+1)=false:=zf (by omega)
 have d3:decide ((n:Int)<=(v:Int))=false:=zf (by omega)
 have s1:((a+b:Nat):Int)=(a:Int)+(b:Int):=by omega
 clear h he ha hb
 go_enter Tryz.func277,Tryz.ntmps277
 go_wp2_with fail
 go_quiet (fail)
 all_goals go_wp2
 all_goals go_ret
 all_goals
  have k:Ac w ((w.alloc (.cells #[rowV gE m,rowV gB (n+1)] 297)).drewN nq):=((zr _ _).alloc _).drewN _
  first
  | exact HE.out _ _ k
  | exact HE0.out _ _ (by omega) k
theorem row_any (w:A_) (B a n v:Nat) (es:List AB) (back:Bool) (h:AdjB w B a n es) (hv:v<n) (hn:n<=60000) (hm:es.length<=60000) :
  B_ E_ 215 #[pt a,i64 v,.bool back] w λ e w'=>∃ x c,e=.returned (.slice (some x) (cnt (if back then LY es else keyF es) v es.length) c)/\RowI w' (some x) (rowI (if back then LY es else keyF es) v es.length)/\Ac w w'/\x.block<B:=by
 obtain⟨AE,c,g1,b1,g2,b2,f1,f2,hb,_,l1,l2,z1,z2,z3,z4,_⟩:=h.parts
 have c3:=hb.cell 2
 have c4:=hb.cell 3
 have c5:=hb.cell 4
 have c6:=hb.cell 5
 simp at c3 c4 c5 c6
 cases back with
 | false =>
  have hO:=pK w g1 b1 n es.length v (keyF es) f1 l1 hv hn hm;unfold OfE at hO;replace hO:=zh hO;simp only[Bool.false_eq_true,if_false];obtain⟨b,I5⟩:=zn (cnt (keyF es) v es.length);obtain⟨zs,dX⟩:=zn (rowI (keyF es) v es.length);rw[I5,dX]at hO;rw[I5,dX];obtain⟨L,hL⟩:=zn (es.length);rw[hL]at hO c3 c5;clear h hb l1 l2 I5 hL dX;go_enter Tryz.func215,Tryz.ntmps215;go_wp2_with fail;refine hO.out.mono ?_;rintro e w1 ⟨x,c',rfl,hr,k,hxg⟩;go_wp2_with fail;go_ret;exact⟨x,c',rfl,hr,k,by omega⟩
 | true =>
  have hO:=pK w g2 b2 n es.length v (LY es) f2 l2 hv hn hm;unfold OfE at hO;replace hO:=zh hO;simp only[if_true];obtain⟨b,I5⟩:=zn (cnt (LY es) v es.length);obtain⟨zs,dX⟩:=zn (rowI (LY es) v es.length);rw[I5,dX]at hO;rw[I5,dX];obtain⟨L,hL⟩:=zn (es.length);rw[hL]at hO c3 c5;clear h hb l1 l2 I5 hL dX;go_enter Tryz.func215,Tryz.ntmps215;go_wp2_with fail;refine hO.out.mono ?_;rintro e w1 ⟨x,c',rfl,hr,k,hxg⟩;go_wp2_with fail;go_ret;exact⟨x,c',rfl,hr,k,by omega⟩
theorem rowI_le (key:Nat->Nat) (v m:Nat):(rowI key v m).length<=m:=by rw[rowI_length];exact M5 key v m
end Go.Proofs.YtepelooebggliaaGreatDoor.Ad
namespace Go.Proofs.YtepelooebggliaaGreatDoor
open Go.RowKit Go.Shelf
attribute [local go_sem] Oper.semAt_some
abbrev En:=Nat×AB
abbrev enV (x:En):Array C_:=#[i64 x.1,.agg #[i64 x.2.1,i64 x.2.2.1,u64 x.2.2.2]]
def Jt (es:List AB) (v:Nat):List En:=(Ad.rowN (Ad.keyF es) v es.length).map λ k=>(k,(es[k]?).getD (0,0,0))
abbrev fc (n b1 b2 b3:Nat):Nat->Prop:=λ k=>n<=k/\k≠b1/\k≠b2/\k≠b3
structure Hc (w:A_) (b1 b2 b3 a v:Nat):Prop where
 adj:Am w b1 223 #[pt a]
 node:Am w b2 3 #[i64 v]
 back:Am w b3 4 #[.bool false]
theorem Hc.kept {w w':A_} {n b1 b2 b3 a v:Nat} (h:Hc w b1 b2 b3 a v) (k:Kept (fc n b1 b2 b3) w w'):Hc w' b1 b2 b3 a v :=
 ⟨h.adj.kept k (λ e=>e.2.1 rfl),h.node.kept k (λ e=>e.2.2.1 rfl),h.back.kept k (λ e=>e.2.2.2 rfl)⟩
theorem Hc.grew {w w':A_} {b1 b2 b3 a v:Nat} (h:Hc w b1 b2 b3 a v) (k:Ac w w'):Hc w' b1 b2 b3 a v:=⟨h.adj.grew k,h.node.grew k,h.back.grew k⟩
theorem cQ (m l b1 b2 b3 B a n v:Nat) (es:List AB) (w0:A_) (hA:Ad.AdjB w0 B a n es) (hB:B<=w0.heap.size) (hv:v<n) (hn:n<=4096) (hm:es.length<=16384)
  (LL:List En) (jn:Jt es v=LL) (J Jx:List {x:En // x∈LL}->A_->Prop) (W:A_) (EH:Kept (λ j=>w0.heap.size<=j) w0 W) (hE:Hc W b1 b2 b3 a v) (hJ:AbidesFrom W.heap.size J)
  (hY:∀ pre x W1,J pre W1->pre.length<es.length+1->YieldAt Qw (m-1) E_ l (enV x.1) W1 λ e W' =>
   (e=.returned (.bool true)/\J (pre++[x]) W'/\Kept (fc w0.heap.size b1 b2 b3) W1 W')\/(e=.returned (.bool false)/\Jx (pre++[x]) W'))
  (h0:J [] W) :
  CallsIn Qw m E_ 214 #[.func (.yield l) #[] #[],pt b1,pt b2,pt b3] W λ e W'=>(∃ u,e=.returned u) /\
   (J LL.attach W'\/(∃ pre,pre <+: LL.attach/\Jx pre W')):=by
 have HR:=zh (Ad.row_any W B a n v es false (hA.kept EH (λ j hj=>by omega)) hv (by omega) (by omega))
 simp only[Bool.false_eq_true,if_false]at HR
 have x1:=hE.adj.cell 0
 have x2:=hE.node.cell 0
 have x3:=hE.back.cell 0
 simp at x1 x2 x3
 have hlen:(Ad.rowI (Ad.keyF es) v es.length).length=Ad.cnt (Ad.keyF es) v es.length:=Ad.rowI_length _ _ _
 have hle:=Ad.rowI_le (Ad.keyF es) v es.length
 obtain⟨L,hL⟩:=zn (Ad.cnt (Ad.keyF es) v es.length)
 rw[hL]at HR hlen
 rw[hlen]at hle
 have HK:=Gt hA EH hE hlen hB
 have hLm:L<=16384:=by omega
 have hY:=zh hY
 have HLe:=zh hle
 have uV:=zh jn
 clear hA EH hE hB hlen hL hle jn
 refine callsIn_of_wp Tryz.func214 rfl trivial ?_ rfl
 simp only[Tryz.ntmps214,Qo,Qf,Qg,Nat.reduceAdd,Nat.reduceSub,P4,P5,Qp,Qk,Qh,Qt]
 refine wpIn_wide.2 ?_
 go_wp2_with fail
 refine HR.out.mono ?_
 rintro r w1 ⟨x,c,rfl,AY,g1,hxB⟩
 have hJ1:=hJ _ _ _ none h0 ⟨g1.os,g1.tape,g1.output,g1.size,λ k hk _=>g1.block k hk (λ h=>h)⟩ (λ r e=>by cases e)
 have HX:=DK AY g1 hxB
 clear HR x1 x2 x3 AY g1 hxB h0
 go_wp2_with fail
 refine(wpIn_wide (n:=m)).1 ?_
 gi_loopw [6,12] (λ u6 i wr=>∃ q:Nat,q<=L/\i=.int .i64 q/\J (LL.attach.take q) wr/\Hid (Kept (fc w0.heap.size b1 b2 b3) w1 wr)) (λ u6 i wr=>L-(intOf i).toNat)
 case atStart=>exact⟨0,Nat.zero_le _,rfl,hJ1,zr _ _⟩
 case round =>
  clear hJ1;obtain⟨q,hq,rfl,dE,hk⟩:=hrel;by_cases hql:q<L
  ·obtain⟨z,hz⟩:∃ z,(Ad.rowI (Ad.keyF es) v es.length)[q]? = some z:=⟨_,zq (by rw[HK.out.2.2.2.1];exact hql)⟩;obtain⟨j,rfl,hkj,hcj,hjm⟩:=Ad.rowI_at hz;obtain⟨⟨p,r,t⟩,he⟩:∃ e,es[j]? = some e:=⟨_,zq hjm⟩;obtain⟨x0,AM,hxe0⟩:∃ x:{x:En // x∈LL},LL.attach[q]? = some x/\x.1=(j,(p,r,t)):=by
    have h1:(Ad.rowN (Ad.keyF es) v es.length)[q]? = some j:=by
     unfold Ad.rowI at hz;rw[Qd]at hz;obtain⟨j',h1,h2⟩:=QB.1 hz;have:j'=j:=(by omega);rw[h1,this]
    have h2:LL[q]? = some (j,(p,r,t)):=by
     rw[<- uV.out];unfold Jt;rw[Qd,h1];simp[he]
    have fU:=(Qa.1 h2).1
    refine⟨LL.attach[q]'(by rw[Qn];exact fU),zq _,?_⟩
    rw[List.getElem_attach]
    exact(Qa.1 h2).2
   have JK:LL.attach.take (q+1)=LL.attach.take q++[x0]:=by rw[Qq,AM];rfl
   have kW1:Kept (λ j=>w0.heap.size<=j) w0 w1:=HK.out.2.1.grew HX.out.2.1;have kwr:Kept (λ j=>w0.heap.size<=j) w0 wr:=kW1.trans (hk.out.mono λ j _ hj=>hj.1);have dC:=(HK.out.2.2.1.grew HX.out.2.1).kept hk.out;have hAr:=HK.out.1.kept kwr (λ j hj=>Nat.le_trans HK.out.2.2.2.2 hj);obtain⟨AE,cE,g1,fv,g2,b2',f1,f2,hb,hrE,_⟩:=hAr.parts;obtain⟨bE,oE,rfl,hbE,e0,e1,e2⟩:=hrE j _ he;have AY:=HX.out.1.kept hk.out (λ a ha=>by cases ha;have:=HX.out.2.2;have:=HK.out.2.2.2.2;exact λ e=>by have:=e.1;omega);obtain⟨bR,oR,Iw,yz,hcR⟩:=AY q _ hz;cases Iw;have y1:=dC.adj.cell 0;have z1:=hb.cell 1;simp at y1 z1;dsimp only at e0 e1 e2;have q0:(0:Int)<=(q:Int):=(by omega);have q1:(q:Int)<(L:Int):=(by omega);have j1:(j:Int)<(es.length:Int):=(by omega);have Hz:(LL.attach.take q).length<es.length+1:=by have:=HLe.out;rw[List.length_take];omega
   have mD:=hY.out _ x0 _ dE Hz;rw[hxe0,<-JK]at mD;have HN:=BP JK kW1;obtain⟨LE,hLE⟩:=zn (es.length);rw[hLE]at z1 j1;obtain⟨fn,tmps,assign,body,hy,hR⟩:=mD;clear hz hkj hcj hjm he JK AM hxe0 kW1 kwr dC hAr hb hrE AY hbE yz Hz hLE dE;gi_wp2;refine⟨(λ h=>by cases h),?_⟩;refine hR.mono ?_;rintro e W3 (⟨rfl,vE,tB⟩ | ⟨rfl,hJx⟩)
   ·have hk5:=zh (hk.out.trans tB);clear y1 z1 e0 e1 e2 hcR;gi_wp2;go_roundw
    case rel=>exact⟨q+1,by omega,by go_num,vE,hk5⟩
    case measure=>simp[intOf];omega
   ·clear y1 z1 e0 e1 e2 hcR;gi_wp2;refine zy (results_none rfl _ _ _) rfl ?_;refine⟨⟨_,rfl⟩,.inr ⟨_,?_,hJx⟩⟩;exact Qu _ _
  ·obtain rfl:L=q:=(by omega);have hJe:J LL.attach wr:=by
    rw[Qe (by rw[Qn,<-uV.out];unfold Jt;have:=HK.out.2.2.2.1;unfold Ad.rowI at this;rw[Qb]at this ⊢;omega)]at dE
    exact dE
   gi_wp2;go_end0;exact⟨⟨_,rfl⟩,.inl hJe⟩
theorem lk (m b1 b2 b3 B a n v:Nat) (es:List AB) (LL:List En) (jn:Jt es v=LL) (w0 w:A_) (hA:Ad.AdjB w0 B a n es) (hB:B<=w0.heap.size) (hv:v<n) (hn:n<=4096) (hm:es.length<=16384) (hk:Kept (λ j=>w0.heap.size<=j) w0 w) (hE:Hc w b1 b2 b3 a v) :
  SeqStopsK Qw m E_ 214 #[pt b1,pt b2,pt b3] (λ x:{x:En // x∈LL}=>enV x.1) (Kept (fc w0.heap.size b1 b2 b3)) (λ xs=>xs=LL.attach) (λ pre=>pre <+: LL.attach) (es.length+1) w:=λ l J Jx W hW hJ _ hY h0=>by
 have hg:Ac w W:=Ac.of_below hW
 refine(cQ m l b1 b2 b3 B a n v es w0 hA hB hv hn hm LL jn J Jx W (hk.grew hg) (hE.grew hg) hJ hY h0).mono ?_
 rintro e W' ⟨he,hj | ⟨pre,hp,hj⟩⟩
 ·exact⟨he,.inl ⟨_,rfl,hj⟩⟩
 ·exact⟨he,.inr ⟨pre,hp,hj⟩⟩
theorem Oq (a v:Nat) (w:A_):B_ E_ 151 #[pt a,i64 v,.bool false] w λ e w'=>e=.returned (.func (.func 214) #[] #[pt w.heap.size,pt (w.heap.size+1),pt (w.heap.size+1+1)])/\Hc w' w.heap.size (w.heap.size+1) (w.heap.size+1+1) a v/\Ac w w':=by
 have b1:=((zv w 223 #[pt a]).alloc (.cells #[i64 v] 3)).alloc (.cells #[.bool false] 4);have b2:=zv (w.alloc (.cells #[pt a] 223)) 3 #[i64 v];have b3:=zv ((w.alloc (.cells #[pt a] 223)).alloc (.cells #[i64 v] 3)) 4 #[.bool false];rw[P6]at b2;rw[P6,P6]at b3;have HF:=DK b1 (b2.alloc (.cells #[.bool false] 4)) b3;clear b1 b2 b3;go_enter Tryz.func151,Tryz.ntmps151;go_wp2_with fail;go_ret;exact⟨by simp,⟨HF.out.1,HF.out.2.1,HF.out.2.2⟩,(((zr _ _).alloc _).alloc _).alloc _⟩
end Go.Proofs.YtepelooebggliaaGreatDoor
namespace Go.Proofs.YtepelooebggliaaGreatDoor
open Go.RowKit Go.Shelf
variable {F:Fence} {n:Nat} {P:Program}
def Iy {β:Type} (b:Nat) (J:β->A_->Prop):Prop:=∀ s W v,J s W->J s (W.setCell ⟨b,0,none⟩ v)
def mL {α:Type} (F:Fence) (n:Nat) (P:Program) (g:Nat) (lb:Array C_) (jf:α->Array C_) (Kp:A_->A_->Prop) (xs:List α) (b:Nat) (w:A_):Prop :=
 ∀ (l:Nat) (J:List α->A_->Prop) (W:A_),Below w.heap.size w W->AbidesFrom W.heap.size J->Iy b J ->
  (∀ pre x W1,J pre W1->pre++[x] <+: xs->YieldAt F (n-1) P l (jf x) W1 λ e W'=>e=.returned (.bool true)/\J (pre++[x]) W'/\Kp W1 W')->J [] W ->
  CallsIn F n P g (#[.func (.yield l) #[] #[]]++lb) W λ e W'=>(∃ v,e=.returned v)/\J xs W'
theorem Gq (W:A_) (b:Nat) (v:C_) {i:Nat} (h:i≠b):(W.setCell ⟨b,0,none⟩ v).heap[i]? = W.heap[i]? := Below.heap_setCell W ⟨b,0,none⟩ v i h
theorem G0 {α:Type} {g:Operand} {ps:Array Tmp} {assign body:Code} {Q:Exit->Act->A_->Prop} {a:Act} {w:A_} (hro:F.round=none) (h1:1<=n) {gf:Nat} {lb:Array C_} (hg:a.eval g=.func (.func gf) #[] lb) (hFg:F.fn gf) (eg:∀ args w,(callFunc gf args).run P w=.ok (.enter gf args) w)
  {jf:α->Array C_} {Kp:A_->A_->Prop} {xs:List α} {b:Nat} (hb:b<w.heap.size) (hseq:mL F (n-1) P gf lb jf Kp xs b w) (hKt:∀ {A B C:A_},Kp A B->Kp B C->Kp A C)
  (hKb:∀ (W:A_) (l:Nat) (o o':Obj),w.heap.size<=l->W.heap[l]? = some o->o.isCells=false->Kp W (W.putObj l o')) (hps:∀ x,(jf x).size=ps.size)
  (I:List α->A_->Prop) (hI:D_ w.heap.size I) (hIb:Iy b I) (h0:I [] w) (a₁:α->Act)
  (tm:∀ (l:Nat) (x:α) (W:A_) (K:Act->A_->Prop),K (a₁ x) W ->
   assign.wpIn (F.inRound l) (n-1-1) P (Exit.then K (λ _ _ _=>False)) { tmps:=(ps.zip (jf x)).foldl (λ t (p,v)=>t.setIfInBounds p v) a.tmps,defers:=[] } W)
  (hbody:∀ (l:Nat) (pre:List α) (x:α) (W:A_),I pre W->pre++[x] <+: xs->body.wpIn (F.inRound l) (n-1-1) P (ownPostK Kp I (λ _ _ _=>False) (pre++[x]) W) (a₁ x) W)
  (zAD:∀ (D:Nat) (W:A_),w.heap.size<=D->I xs W->W.heap[D]? = some (.deferred (some []))->Q .normal { a with defers:={ target:=.collected D,args:=#[] }::a.defers } W) :
  (Code.rangeFunc g ps assign body).wpIn F n P Q a w:=by
 refine wpIn_rangeFunc ?_
 intro fn hfn
 rw[hro]
 obtain⟨rec,O0⟩:∃ rec:LoopState->Option Code->Loop,rec=λ st pe=>{ state:=st,pending:=pe,fn,tmps:=a.tmps,params:=ps,assign,body,defers:=w.heap.size }:=⟨_,rfl⟩
 obtain⟨D,hD⟩:=zn (w.heap.size)
 obtain⟨W1,N8⟩:=zn ((w.alloc (.deferred (some []))).alloc (.loop (rec .ready none)))
 have CR:W1.heap.size=D+2:=by rw[<- N8,<-hD];simp
 have at1:W1.heap[D+1]? = some (.loop (rec .ready none)):=by
  have:=P9 (w.alloc (.deferred (some []))) (.loop (rec .ready none));rwa [P6,hD,N8]at this
 have at0:W1.heap[D]? = some (.deferred (some [])):=by
  have h:=QA (w.alloc (.deferred (some []))) (.loop (rec .ready none)) D (by simp;omega);rw[N8]at h;rw[h,<-hD];exact P9 w _
 have hI1:I [] W1:=by rw[<- N8];exact hI.alloc _ (hI.alloc _ h0)
 have xQ:Below w.heap.size w W1:=by rw[<- N8];exact(((Below.refl _ w).alloc (zl _) _).alloc (by simp) _).mono (zl _)
 refine⟨D+1,[{ target:=.collected D,args:=#[] }],W1,{ target:=.fn (.func gf) lb,args:=#[.func (.yield (D+1)) #[] #[]] },W1,gf,#[.func (.yield (D+1)) #[] #[]]++lb,W1,?_,?_,?_,?_,λ _=>h1,?_⟩
 ·rw[<- N8,O0,<-hD];exact run_enterLoop_outer _ _ _ _ _
 ·simp only[resolve,hg];simp[go_sem]
 ·intro f' hf';simp[Target.leads]at hf';subst hf';exact hFg
 ·simp[invoke,go_sem,eg]
 have only:∀ {A B:A_} {row:Option Nat},(∀ r,row=some r->W1.heap.size<=r/\∃ o:Obj,A.heap[r]? = some o/\o.isWalk=true)->(∀ r,row=some r->w.heap.size<=r/\∃ o:Obj,A.heap[r]? = some o/\o.isCells=false) :=
  λ hr r e=>by obtain⟨hB,o,ho,hw⟩:=hr r e;exact⟨by omega,o,ho,Obj.not_cells_of_walk hw⟩
 refine(hseq (D+1) (λ pre W=>I pre W/\W.heap[D+1]? = some (.loop (rec .ready none))/\W.heap[D]? = some (.deferred (some []))) W1 xQ
  (λ s A B row hs jy hr=>⟨hI s A B row hs.1 jy (only (B:=B) hr),(grownBy_keeps jy (λ r e=>(hr r e).2) hs.2.1 rfl).trans hs.2.1,(grownBy_keeps jy (λ r e=>(hr r e).2) hs.2.2 rfl).trans hs.2.2⟩)
  (λ s A v hs=>⟨hIb s A v hs.1,(Gq A b v (by omega)).trans hs.2.1,(Gq A b v (by omega)).trans hs.2.2⟩) ?_ ⟨hI1,at1,at0⟩).mono ?_
 ·rintro pre x W ⟨hi,hl,hk⟩ LS;have AH:D+1<W.heap.size:=(P3.1 hl).1;have hy:=run_yield (P:=P) (args:=jf x) hl (by rw[O0];exact hps x);rw[O0]at hy;refine⟨fn,_,assign,body,hy,roundIn_of_wpIn hfn (tm _ x W _ ⟨_,run_beginRound hl (by rw[O0]),?_⟩)⟩;obtain⟨W2,rL⟩:=zn (W.putObj (D+1) (.loop { rec .ready none with state:=.busy }));have oB:W2.heap[D+1]? = some (.loop { rec .ready none with state:=.busy }):=by rw[<- rL];exact P8 AH
  have Lz:W2.heap[D]? = some (.deferred (some [])):=by rw[<- rL];exact(P7 (by omega)).trans hk
  have kp2:Kp W W2:=by rw[<- rL];exact hKb _ _ _ _ (by omega) hl rfl
  have oy:I pre W2:=by rw[<- rL];exact hI.putObj _ hi (by omega) hl rfl
  rw[rL];refine wpIn_mono (hbody _ pre x _ oy LS) ?_;rintro e a3 W3 hp;cases e with
  | normal =>
   obtain⟨o3,kp3,yJ⟩:=hp;have tJ:=o3.same _ _ oB rfl;have hr:=run_endRound (P:=P) none tJ;rw[O0]at hr tJ;refine⟨_,_,hr,rfl,⟨hI.putObj _ yJ (by omega) tJ rfl,?_,(P7 (by omega)).trans (o3.same _ _ Lz rfl)⟩,hKt (hKt kp2 kp3) (hKb _ _ _ _ (by omega) tJ rfl)⟩;rw[O0];exact P8 (P3.1 tJ).1
  | ret=>exact hp.2.elim
  | exit id=>exact hp.2.elim
  | goto t=>exact hp.2.elim
  | panic ch=>exact hp.elim
  | outgrown=>exact hp.elim
 ·rintro e W2 ⟨⟨v,rfl⟩,hi,hl,hk⟩;exact⟨none,_,by have h:=run_endLoop (P:=P) hl (by rw[O0];simp);rw[O0]at h;exact h,zAD D _ (by omega) (hI.putObj _ hi (by omega) hl rfl) ((P7 (by omega)).trans hk)⟩
end Go.Proofs.YtepelooebggliaaGreatDoor
namespace Go.Proofs.YtepelooebggliaaGreatDoor
open Go.RowKit Go.Shelf
attribute [local go_sem] Oper.semAt_some
theorem Lf (l:List UInt8) (W:A_):B_ E_ 241 #[.string (bs l),.string (bs [44])] W λ e W'=>e=.returned (.int .i64 (QH l 44))/\W'=W:=by
 have:=Tryz.strings_Index_one (bs l) 44 W;rw[FW]at this;exact this
theorem gU (l:List UInt8) (j:Nat) (h:j<=l.length) (W:A_):(Instr.slice 9 (.string (bs l)) none (some (.int .i64 (j:Int))) none).run E_ W=.ok (str (l.take j)) W:=by
 rw[run_slice_string_h (ht:=F_) (h0:=by omega) (h2:=by rw[AT];omega),Qy];unfold str bs;rw[ByteArray.extract_mk];simp
theorem gV (l:List UInt8) (i:Nat) (h:i<=l.length) (W:A_):(Instr.slice 9 (.string (bs l)) (some (.int .i64 (i:Int))) none none).run E_ W=.ok (str (l.drop i)) W:=by
 rw[run_slice_string_l (ht:=F_) (h0:=by omega) (h1:=by rw[AT];omega),Qy,AT];unfold str bs;rw[ByteArray.extract_mk];simp;exact Qe (by simp)
abbrev mG (b1 b2 b3:Nat):Nat->Prop:=λ k=>k≠b1/\k≠b2/\k≠b3
structure Cc (w:A_) (b1 b2 b3:Nat) (l:List UInt8):Prop where
 sep:Am w b1 9 #[str [44]]
 txt:Am w b2 9 #[str l]
 sav:Am w b3 3 #[i64 0]
 ne:b1≠b2
theorem Cc.keptC {w w':A_} {b1 b2 b3:Nat} {l:List UInt8} (h:Cc w b1 b2 b3 l) (k:Bs (mG b1 b2 b3) w w'):Cc w' b1 b2 b3 l :=
 ⟨k.blk h.sep (λ e=>e.1 rfl),k.blk h.txt (λ e=>e.2.1 rfl),k.blk h.sav (λ e=>e.2.2 rfl),h.ne⟩
theorem Cc.grew {w w':A_} {b1 b2 b3:Nat} {l:List UInt8} (h:Cc w b1 b2 b3 l) (k:Ac w w'):Cc w' b1 b2 b3 l:=⟨h.sep.grew k,h.txt.grew k,h.sav.grew k,h.ne⟩
theorem Cc.set {w:A_} {b1 b2 b3:Nat} {l:List UInt8} (h:Cc w b1 b2 b3 l) (l':List UInt8):Cc (w.setCell ⟨b2,0,none⟩ (str l')) b1 b2 b3 l':=by
 have n3:b3≠b2:=λ e=>by
  have h1:=h.sav;rw[e]at h1;have:=h.txt.symm.trans h1;cases this
 exact⟨h.sep.far (p:=⟨b2,0,none⟩) h.ne _,by have:=h.txt.set 0 (str l');simpa using this,h.sav.far (p:=⟨b2,0,none⟩) n3 _,h.ne⟩
theorem eP (m l b1 b2 b3:Nat) (ws:List (List UInt8)) (Bm:ws≠[]) (hc:∀ x∈ws,(44:UInt8)∉x) (hs:∀ x∈ws,x.length<=100000) (J:List (List UInt8)->A_->Prop) (W:A_) (hE:Cc W b1 b2 b3 (Bl ws)) (hJb:Iy b2 J)
  (hY:∀ pre x W1,J pre W1->pre++[x] <+: ws->YieldAt Qw (m-1) E_ l #[str x] W1 λ e W'=>e=.returned (.bool true)/\J (pre++[x]) W'/\Bs (mG b1 b2 b3) W1 W')
  (h0:J [] W) :
  CallsIn Qw m E_ 239 #[.func (.yield l) #[] #[],pt b1,pt b2,pt b3] W λ e W'=>(∃ u,e=.returned u)/\J ws W':=by
 have HC:=zh hc
 have HS:=zh hs
 have HJ:=zh hJb
 have hY:=zh hY
 obtain⟨L,hL⟩:=zn (ws.length)
 have rI:0<L:=by rw[<- hL];exact List.length_pos_iff.2 Bm
 have HL:=zh hL
 have HE:=zh hE
 have x1:=hE.sep.cell 0
 simp at x1
 have s1:(bs [44]).size=1:=rfl
 clear hc hs hJb hL hE Bm
 refine callsIn_of_wp Tryz.func239 rfl trivial ?_ rfl
 simp only[Tryz.ntmps239,Qo,Qf,Qg,Nat.reduceAdd,Nat.reduceSub,P4,P5,Qp,Qk,Qh,Qt]
 gi_wp2
 gi_loopg [7,8] L (λ r u7 u8 wr=>∃ k,k+r=L/\0<r/\J (ws.take k) wr/\Hid (Cc wr b1 b2 b3 (Bl (ws.drop k))))
 case atStart=>exact⟨0,by omega,rI,h0,HE.out⟩
 case round =>
  clear h0;obtain⟨k,hk,hr,dE,dC⟩:=hrel;obtain⟨x,hx⟩:=zx (l:=ws) (i:=k) (by rw[HL.out];omega);have JK:ws.take (k+1)=ws.take k++[x]:=by rw[Qq,hx];rfl
  have LS:ws.take k++[x] <+: ws:=by rw[<- JK];exact Qu _ _
  have hdr:ws.drop k=x::ws.drop (k+1):=by
   rw[Qj (by rw[HL.out];omega)];congr 1;exact(Qa.1 hx).2
  have hcx:=HC.out x (zm hx);obtain⟨tx,Nq⟩:=zn (Bl (ws.drop k));rw[Nq]at dC;have HX:=DS JK dC.out hk dE;have y1:=dC.out.sep.cell 0;have y2:=dC.out.txt.cell 0;have y3:=dC.out.sav.cell 0;simp at y1 y2 y3;by_cases hl:k+1=L
  ·have CN:tx=x:=by rw[<- Nq,hdr,List.drop_eq_nil_of_le (by rw[HL.out];omega),jT]
   have hi:QH tx 44=-1:=by rw[CN];exact index_none x 44 hcx
   have HI:=zh (Lf tx wr);rw[hi]at HI;have mD:=hY.out _ x _ dE LS;rw[<- CN]at mD;have hend:ws.take k++[x]=ws:=by rw[<- JK,Qe (by rw[HL.out];omega)]
   rw[CN,hend,<-CN]at mD;obtain⟨fn,tmps,assign,body,hy,hR⟩:=mD;clear hx JK LS hdr hcx Nq dC dE hi hend HX;subst CN;gi_wp2;refine⟨trivial,(λ h=>by cases h),?_⟩;refine(callsIn_wide.2 HI.out).mono ?_;rintro r w2 ⟨rfl,rfl⟩;gi_wp2;refine⟨(λ h=>by cases h),?_⟩;refine hR.mono ?_;rintro e W3 ⟨rfl,vE,tB⟩;gi_wp2;go_end0;exact⟨⟨_,rfl⟩,vE⟩
  ·obtain⟨y,hy⟩:=zx (l:=ws) (i:=k+1) (by rw[HL.out];omega);have hdr2:ws.drop (k+1)=y::ws.drop (k+1+1):=by
    rw[Qj (by rw[HL.out];omega)]
    congr 1
    exact(Qa.1 hy).2
   have o6:tx=x++44::Bl (ws.drop (k+1)):=(by rw[<- Nq,hdr,hdr2,ee]);have hi:QH tx 44=(x.length:Int):=by rw[o6];exact Mx x _ 44 hcx
   have HI:=zh (Lf tx wr);rw[hi]at HI;have mD:=hY.out _ x _ dE LS;obtain⟨M,hM⟩:=zn (x.length);rw[hM]at HI;have hlen:tx.length=M+1+(Bl (ws.drop (k+1))).length:=by rw[o6,Ql,Qf,hM];omega
   have c1:=λ W=>gU tx M (by omega) W;have c2:=λ W=>gV tx (M+1) (by omega) W;rw[show tx.take M=x by rw[o6,<-hM];simp]at c1;rw[show tx.drop (M+1)=Bl (ws.drop (k+1)) by rw[o6,<-hM,<-List.drop_drop];simp]at c2;rw[show ((M+1:Nat):Int)=(M:Int)+1 by omega]at c2;obtain⟨nx,yY⟩:=zn (Bl (ws.drop (k+1)));rw[yY]at c2;have HNX:=zh yY;have m0:¬ (M:Int)<0:=(by omega);have hM9:M<=100000:=by rw[<- hM];exact HS.out x (zm hx)
   have m1:wrap64 (M:Int)=(M:Int):=by unfold wrap64;omega
   have m2:wrap64 ((M:Int)+1)=(M:Int)+1:=by unfold wrap64;omega
   have lV:(M:Int)<=((bs tx).size:Int):=by rw[AT];omega
   have wo:(M:Int)+1<=((bs tx).size:Int):=by rw[AT];omega
   obtain⟨fn,tmps,assign,body,DC,hR⟩:=mD;clear hx hy JK LS hdr hdr2 hcx Nq o6 dC dE hi hM hlen yY;gi_wp2;refine⟨trivial,(λ h=>by cases h),?_⟩;refine(callsIn_wide.2 HI.out).mono ?_;rintro r w2 ⟨rfl,rfl⟩;gi_wp2;refine⟨(λ h=>by cases h),?_⟩;refine hR.mono ?_;rintro e W3 ⟨rfl,vE,tB⟩;have rH:=HX.out.2.1.keptC tB;have z1:=rH.sep.cell 0;have z2:=rH.txt.cell 0;have z4:=rH.txt.frozen 0;simp at z1 z2;clear y1 y2 y3;have HF:Hid (J (ws.take (k+1)) (W3.setCell ⟨b2,0,none⟩ (str nx))/\Cc (W3.setCell ⟨b2,0,none⟩ (str nx)) b1 b2 b3 (Bl (ws.drop (k+1)))):=by
    rw[HX.out.1,HNX.out]
    exact⟨HJ.out _ _ _ vE,rH.set nx⟩
   clear rH vE;obtain⟨q,rfl⟩:∃ q,gk=q+1:=⟨gk-1,by omega⟩;gi_wp2;gi_roundg q
   case measure=>omega
   case rel=>exact⟨k+1,by omega,by omega,HF.out.1,HF.out.2⟩
theorem lh (m b1 b2 b3:Nat) (ws:List (List UInt8)) (Bm:ws≠[]) (hc:∀ x∈ws,(44:UInt8)∉x) (hs:∀ x∈ws,x.length<=100000) (w:A_) (hE:Cc w b1 b2 b3 (Bl ws)) :
  mL Qw m E_ 239 #[pt b1,pt b2,pt b3] (λ x=>#[str x]) (Bs (mG b1 b2 b3)) ws b2 w:=λ l J W hW _ hJb hY h0 =>
 eP m l b1 b2 b3 ws Bm hc hs J W (hE.grew (Ac.of_below hW)) hJb hY h0
theorem lg (l:List UInt8) (w:A_):B_ E_ 127 #[str l,str [44]] w λ e w'=>e=.returned (.func (.func 239) #[] #[pt (w.heap.size+1),pt w.heap.size,pt (w.heap.size+1+1)])/\Cc w' (w.heap.size+1) w.heap.size (w.heap.size+1+1) l/\Ac w w':=by
 have H:Hid (∀ W,B_ E_ 177 #[str l,str [44],i64 0] W λ e w'=>e=.returned (.func (.func 239) #[] #[pt (W.heap.size+1),pt W.heap.size,pt (W.heap.size+1+1)])/\Cc w' (W.heap.size+1) W.heap.size (W.heap.size+1+1) l/\Ac W w'):=λ W=>by
  have b1:=((zv W 9 #[str l]).alloc (.cells #[str [44]] 9)).alloc (.cells #[i64 0] 3);have b2:=zv (W.alloc (.cells #[str l] 9)) 9 #[str [44]];have b3:=zv ((W.alloc (.cells #[str l] 9)).alloc (.cells #[str [44]] 9)) 3 #[i64 0];rw[P6]at b2;rw[P6,P6]at b3;have HF:=DK b1 (b2.alloc (.cells #[i64 0] 3)) b3;clear b1 b2 b3;go_enter Tryz.func177,Tryz.ntmps177;go_wp2_with fail;go_ret;exact⟨by simp,⟨HF.out.2.1,HF.out.1,HF.out.2.2,by omega⟩,(((zr _ _).alloc _).alloc _).alloc _⟩
 go_enter Tryz.func127,Tryz.ntmps127;go_wp2_with fail;refine(H.out _).mono ?_;rintro e w2 ⟨rfl,h,g⟩;have HF:=BP h g;clear h g;go_wp2_with fail;go_ret;exact⟨rfl,HF.out.1,HF.out.2⟩
end Go.Proofs.YtepelooebggliaaGreatDoor
