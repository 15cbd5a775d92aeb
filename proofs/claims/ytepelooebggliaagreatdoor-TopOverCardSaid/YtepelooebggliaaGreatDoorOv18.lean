/- Walks of functions that the law reaches, and plain laws, part 19 of 20: lemmas for the proof in the last text; no condition. Shortened by program. -/
import Derived.SliceStrings
import Derived.ProofKit
import Derived.OpenShut
import Derived.Below
import Derived.Test.YtepelooebggliaaGreatDoorOv0
import Derived.Test.YtepelooebggliaaGreatDoorOv2
import Derived.Test.YtepelooebggliaaGreatDoorOv5
import Derived.Test.YtepelooebggliaaGreatDoorOv13
import Derived.Test.YtepelooebggliaaGreatDoorOv14
import Derived.Test.YtepelooebggliaaGreatDoorOv15
import Derived.Test.YtepelooebggliaaGreatDoorOv17
open Nat renaming le_trans->A_
open Go.Proofs.Tryz renaming prog->B_,underlying40->C_,underlying3->D_,results8->E_,underlying25->F_,underlying28->G_
open Go.Value renaming oneCell'->H_
open Go renaming World->I_,Addr->J_,Value->K_,MemPlace->L_
open List.cons renaming injEq->M_
open List renaming length->N_,mem_map->O_,getD_eq_getElem?_getD->Pa,length_cons->Pb,nodup_cons->Pc,getElem?_eq_some_iff->Pd,getElem?_take->Pe,getElem?_map->Pf,nodup_range->Pg,length_take->Ph,length_map->Pj,nodup_nil->Pk,mem_range->Pm
open Go.DataW renaming trod->Pn
open Go.World renaming alloc->Po,heap->Pp,block_lt_of_cell?->Pq
set_option maxHeartbeats 16000000
set_option maxRecDepth 100000
set_option linter.unusedVariables false
set_option linter.unusedSimpArgs false
namespace Go.Proofs.YtepelooebggliaaGreatDoor
open Go.RowKit
theorem fX:∀ (S l:List Int),S.Nodup->(∀ x∈S,x∈l)->S.length=l.length->l.Perm S
 | [],l,_,_,h=>by
  have:l=[]:=List.eq_nil_of_length_eq_zero (by simpa using h.symm);rw[this]
 | s::S,l,hn,hs,h=>by
  obtain⟨h1,h2⟩:=Pc.1 hn;have hsl:s∈l:=hs s (by simp);have hp:=List.perm_cons_erase hsl;refine hp.trans (.cons s (fX S (l.erase s) h2 (λ x hx=>?_) ?_))
  ·exact(List.mem_erase_of_ne (λ e:x=s=>h1 (by rw[<- e];exact hx))).2 (hs x (by simp[hx]))
  ·rw[List.length_erase_of_mem hsl];simp at h;omega
theorem Ks:∀ l:List Nat,l.Nodup->(l.map λ (i:Nat)=>(i:Int)).Nodup:=λ l h=>by
 induction l with
 | nil=>exact Pk
 | cons a l ih =>
  obtain⟨h1,h2⟩:=Pc.1 h;refine Pc.2 ⟨λ hm=>?_,ih h2⟩;obtain⟨b,hb,e⟩:=O_.1 hm;have e':(b:Int)=(a:Int):=e;have:b=a:=(by omega);rw[this]at hb;exact h1 hb
theorem pI {zs:List Int} (h:Gz zs=true):Bu zs:=by
 unfold Gz at h;rw[List.all_eq_true]at h;have hp:=fX ((List.range zs.length).map λ (i:Nat)=>(i:Int)) zs (Ks _ Pg) (λ x hx=>by
  obtain⟨i,hi,rfl⟩:=O_.1 hx;simpa using h i hi) (by simp)
 refine⟨λ x hx=>?_,hp.nodup_iff.2 (Ks _ Pg)⟩;have:=hp.mem_iff.1 hx;obtain⟨i,hi,rfl⟩:=O_.1 this;have:=Pm.1 hi;omega
theorem pJ {zs:List Int} (h:∀ x∈zs,0<=x):Bc (zs.map Int.toNat)=zs:=by
 unfold Bc;rw[List.map_map];refine(List.map_congr_left (g:=id) λ x hx=>?_).trans (List.map_id _);have:=h x hx;simp only[Function.comp,id];omega
theorem aA (n:Int) (A:Option J_) (c:Nat) (es:List AJ) (E x:Int) (w:I_) (h:Bo w A es) (hl:es.length<=100000) (hr:Au n es=0) :
  Calls B_ 16 #[.agg #[i64 n,.slice A es.length c],i64 E,u64 x] w λ r w'=>∃ gn A' L' c',r=.returned (.tuple #[.agg #[i64 gn,.slice A' L' c'],i64 (BW es E x)])/\(BW es E x=0->gn=n/\L'=es.length/\AP w' w.heap.size (.slice A' L' c') (Cl es E.toNat x))/\Af w w':=by
 by_cases he:0<=E/\E<es.length
 ·by_cases hx:1<=x/\x<=4294967296
  ·have hf:BW es E x=0:=by unfold BW;rw[if_pos he,if_pos hx]
   obtain⟨e,rfl⟩:=Int.eq_ofNat_of_zero_le he.1;refine(aB n A c es e x w h hl hr (by omega) hx).mono ?_;rintro r w' ⟨v,rfl,hE,g⟩;obtain⟨A',c',rfl⟩:=At hE;exact⟨n,A',_,c',by rw[hf];rfl,λ _=>⟨rfl,BF _ _ _,hE⟩,g⟩
  ·have hf:BW es E x=2:=by unfold BW;rw[if_pos he,if_neg hx]
   refine(KF n A c es E x w h hl hr 2 (.inr ⟨he,hx,rfl⟩)).mono ?_;rintro r w' ⟨rfl,g⟩;exact⟨0,none,0,0,by rw[hf],λ h=>(by rw[hf]at h;cases h),g⟩
 ·have hf:BW es E x=8:=by unfold BW;rw[if_neg he]
  refine(KF n A c es E x w h hl hr 8 (.inl ⟨he,rfl⟩)).mono ?_;rintro r w' ⟨rfl,g⟩;exact⟨0,none,0,0,by rw[hf],λ h=>(by rw[hf]at h;cases h),g⟩
def iz (es:List AJ) (e x:Nat):Nat:=if 1<=x/\x<=4294967296 then BW es e x else 2
def uV (es:List AJ) (e x:Nat):List AJ:=if iz es e x=0 then Cl es e x else es
theorem MN {w:I_} {X Y B:Nat} {Ah Ac:Int} {N:Nat} {es:List AJ} (e x:Nat) (h:AB w X Y B Ah Ac 1 N es none) (hr:Au N es=0) (hl:es.length<=800) (he:e<=16383) (hx:x<18446744073709551616) (hB:B<=w.heap.size) :
  Calls B_ 10 #[pt X,str (Az [Am 7,dec e,dec x])] w λ r w'=>∃ nm A n c,r=.returned (CB (iz es e x:Nat) nm A n c none 0 0)/\AB w' X Y B Ah Ac 1 N (uV es e x) none/\Kept (λ j=>j=X\/j=Y) w w':=by
 by_cases lO:1<=x/\x<=4294967296
 ·by_cases nQ:e<es.length
  ·have hf:iz es e x=0:=by unfold iz BW;rw[if_pos lO,if_pos (by omega),if_pos (by omega)]
   refine(JY e x h (by omega) hr hl nQ lO hB).mono ?_;rintro r w' ⟨g,rfl,_,hs,k⟩;exact⟨_,_,_,_,by rw[hf];rfl,by unfold uV;rw[if_pos hf];exact hs,k⟩
  ·have hf:iz es e x=8:=by unfold iz BW;rw[if_pos lO,if_neg (by omega)]
   refine(cP e x h (by omega) hr hl nQ he lO hB).mono ?_;rintro r w' ⟨rfl,hs,k⟩;exact⟨[],none,0,0,by rw[hf];rfl,by unfold uV;rw[if_neg (by omega)];exact hs,k⟩
 ·have hf:iz es e x=2:=by unfold iz;rw[if_neg lO]
  refine(Ol e x h (by omega) he hx lO).mono ?_;rintro r w' ⟨rfl,hs,k⟩;exact⟨[],none,0,0,by rw[hf];rfl,by unfold uV;rw[if_neg (by omega)];exact hs,k.mono λ j _ h=>.inl h⟩
section
variable {P:Program} {ops:Array Oper} {Q:Exit->Act->I_->Prop} {md:Region.Mode} {E:List Nat} {F:Nat->Prop}
theorem aW (i d j:Nat) {oi oj:Oper} {fuel:Nat} {listed:Array Bool} {T:Array K_} {D:List Deferred} {w:I_} (hi:ops[i]? = some oi) (hj:ops[j]? = some oj)
  (hr:Region.ready md ops listed=[i,j]) (hd:(ops[i]?).bind (·.dst)=some d) (vm:(ops[j]?).bind (·.dst)=none) (hw:Region.wanted oi (yielded ops T)=true) (Cc:Region.wanted oj (yielded ops T)=true)
  (h:∀ K:Act->I_->Prop,(∀ (v:K_) (w':I_),(i∉E->Kept F w w')->AM P md ops E F Q fuel (listed.setIfInBounds i true) ⟨T.setIfInBounds d v,D⟩ w'->K (Act.put ⟨T,D⟩ (some d) v) w')->({ oi with dst:=some d }).wp P ⟨T,D⟩ w K Q)
  (h2:∀ K:Act->I_->Prop,(∀ (w':I_),(j∉E->Kept F w w')->AM P md ops E F Q fuel (listed.setIfInBounds j true) ⟨T,D⟩ w'->K ⟨T,D⟩ w')->({ oj with dst:=none }).wp P ⟨T,D⟩ w K Q):AM P md ops E F Q (fuel+1) listed ⟨T,D⟩ w:=by
 refine⟨λ h0=>(by rw[hr]at h0;cases h0),λ k hk=>?_⟩
 rw[hr]at hk
 rcases List.mem_cons.1 hk with rfl | hk
 ·skip;unfold wpOp;simp only[hi,hw,if_true];have e:({ oi with dst:=some d }:Oper)=oi:=(by rw[<- FL hi hd]);rw[<- e];refine .inl (Oper.wp_mono ?_ (h (λ a' w'=>∃ v,a'=Act.put ⟨T,D⟩ (some d) v/\(k∉E->Kept F w w')/\AM P md ops E F Q fuel (listed.setIfInBounds k true) ⟨T.setIfInBounds d v,D⟩ w') λ v w' h1 h2=>⟨v,rfl,h1,h2⟩));rintro a' w' ⟨v,rfl,h1,h2⟩;exact⟨h1,h2⟩
 ·obtain rfl:=List.mem_singleton.1 hk;unfold wpOp;simp only[hj,Cc,if_true];have hdn:oj.dst=none:=by rw[hj]at vm;exact vm
  have e:({ oj with dst:=none }:Oper)=oj:=(by rw[<- hdn]);rw[<- e];refine .inl (Oper.wp_mono ?_ (h2 (λ a' w'=>a'=⟨T,D⟩/\(k∉E->Kept F w w')/\AM P md ops E F Q fuel (listed.setIfInBounds k true) ⟨T,D⟩ w') λ w' h1 h2=>⟨rfl,h1,h2⟩));rintro a' w' ⟨rfl,h1,h2⟩;exact⟨h1,h2⟩
end
abbrev uA:=Int×Nat
def cd (w:I_) (A:Option J_) (cs:List uA):Prop:=∀ (i:Nat) (x:uA),cs[i]? = some x->∃ b off,A=some ⟨b,off,none⟩/\b<w.heap.size/\w.cell? ⟨b,off+i*2,none⟩=some (i64 x.1)/\w.cell? ⟨b,off+i*2+1,none⟩=some (u64 (x.2:Int))
theorem cd.grew {w w':I_} {A:Option J_} {cs:List uA} (h:cd w A cs) (k:Af w w'):cd w' A cs:=λ i x hx=>by
 obtain⟨b,off,hA,hb,h1,h2⟩:=h i x hx;exact⟨b,off,hA,Nat.lt_of_lt_of_le hb k.size,k.cell h1,k.cell h2⟩
def Le (es:List AJ):List uA->List AJ
 | []=>es
 | (e,x)::cs=>Le (if BW es e x=0 then Cl es e.toNat x else es) cs
theorem ns (cs:List uA):∀ (es:List AJ) (c:uA),Le es (cs++[c])=(if BW (Le es cs) c.1 c.2=0 then Cl (Le es cs) c.1.toNat c.2 else Le es cs):=by
 induction cs with
 | nil=>intro es c;obtain⟨e,x⟩:=c;rfl
 | cons d cs ih=>intro es c;obtain⟨e,x⟩:=d;exact ih _ c
theorem zAI {α:Type} {l:List α} {k:Nat} {x:α} (h:l[k]? = some x):l.take (k+1)=l.take k++[x]:=by rw[List.take_add_one,h];rfl
def aX (w:I_) (T:Nat) (A:Option J_) (es:List AJ):Prop:=Bo w A es/\∀ a,A=some a->es≠[]->a.block<T\/∃ cur,Ao w a.block 65 cur
theorem aX.kept {F:Nat->Prop} {w w':I_} {T:Nat} {A:Option J_} {es:List AJ} (h:aX w T A es) (k:Kept F w w') (hF:∀ j,F j->T<=j/\∀ cur,¬ Ao w j 65 cur):aX w' T A es:=by
 by_cases he:es=[]
 ·subst he;exact⟨Bo.nil _ _,λ a _ h=>absurd rfl h⟩
 ·have no:∀ a,A=some a->¬ F a.block:=λ a ha hf=>by
   obtain⟨h1,h2⟩:=hF _ hf;rcases h.2 a ha he with h3 | ⟨cur,h3⟩
   ·omega
   ·exact h2 cur h3
  exact⟨h.1.kept k no,λ a ha _=>(h.2 a ha he).imp id λ ⟨cur,hc⟩=>⟨cur,hc.kept k (no a ha)⟩⟩
theorem aX.grew {w w':I_} {T:Nat} {A:Option J_} {es:List AJ} (h:aX w T A es) (k:Af w w'):aX w' T A es:=h.kept k (λ _ h=>h.elim)
theorem aX.own {w:I_} {B T:Nat} {A:Option J_} {n c:Nat} {es:List AJ} (h:AP w B (.slice A n c) es):aX w T A es:=by
 obtain⟨A',c',hv,hr⟩:=h.row;injection hv with e1 _ _;subst e1;exact⟨hr,λ a ha _=>.inr (Ap h (k:=a.block) (by rw[ha];rfl)).2⟩
theorem yy {w:I_} {X Y B:Nat} {Ah Ac:Int} {N:Nat} {es:List AJ} {x:Hx} (h:AB w X Y B Ah Ac 2 N es (some x)):bV N x.es x.rk x.ss x.out:=by
 obtain⟨left,done,_,⟨Ak,ck,ev,hv,c0,c1,c2,q⟩,_⟩:=h;obtain⟨H,_,_,hO,_⟩:=q.hier;exact hO
theorem iL (f:Int) (nm:List UInt8) (A:Option J_) (n c:Nat) (A2:Option J_) (n2 c2:Nat) (W:I_):(Instr.field 42 (CB f nm A n c A2 n2 c2) 0).run B_ W=.ok (i64 f) W:=by kernel_rfl
structure Mw (w:I_) (T DN X Y B N:Nat) (AE AL AR:Option J_) (L cE M cL R cR:Nat) (es:List AJ) (wr:I_):Prop where
 sess:AB wr X Y B 3 20 1 N es none
 gbox:∃ A c,Ao wr DN 24 #[i64 N,.slice A es.length c]/\aX wr T A es
 right:Au N es=0/\es.length=L
 ask:Ao wr T 28 #[i64 N,.slice AE L cE,.slice AL M cL,.slice AR R cR]
 out:Ao wr (T+1) 24 #[i64 0,.slice none 0 0]
 kept:Af w wr
 lt:w.heap.size=T/\T+1<X/\T+1<Y/\T+1<DN/\DN≠X/\DN≠Y/\B<=wr.heap.size
theorem Mw.move {w wr wx:I_} {T DN X Y B N:Nat} {AE AL AR:Option J_} {L cE M cL R cR:Nat} {es es2:List AJ} {F:Nat->Prop} (h:Mw w T DN X Y B N AE AL AR L cE M cL R cR es wr) (k:Kept F wr wx) (hF:∀ j,F j->j=X\/j=Y\/j=DN) (hs:AB wx X Y B 3 20 1 N es2 none) (hg:∃ A c,Ao wx DN 24 #[i64 N,.slice A es2.length c]/\aX wx T A es2) (hr:Au N es2=0/\es2.length=L) (hXY:w.heap.size<=X/\w.heap.size<=Y/\w.heap.size<=DN):Mw w T DN X Y B N AE AL AR L cE M cL R cR es2 wx:=by
 obtain⟨l1,l2,l3,l4,l5,l6,l7⟩:=h.lt;have n1:¬ F T:=λ hf=>by rcases hF _ hf with e | e | e<;>omega
 have n2:¬ F (T+1):=λ hf=>by rcases hF _ hf with e | e | e<;>omega
 exact⟨hs,hg,hr,h.ask.kept k n1,h.out.kept k n2,h.kept.then k λ i hi hf=>by rcases hF _ hf with e | e | e<;>omega,l1,l2,l3,l4,l5,l6,A_ l7 k.size⟩
theorem Mw.grew {w wr wx:I_} {T DN X Y B N:Nat} {AE AL AR:Option J_} {L cE M cL R cR:Nat} {es:List AJ} (h:Mw w T DN X Y B N AE AL AR L cE M cL R cR es wr) (k:Af wr wx):Mw w T DN X Y B N AE AL AR L cE M cL R cR es wx:=by
 obtain⟨l1,l2,l3,l4,l5,l6,l7⟩:=h.lt;exact h.move k (λ _ h=>h.elim) (h.sess.grew k) (h.gbox.imp λ A h=>h.imp λ c h=>⟨h.1.grew k,h.2.grew k⟩) h.right (by omega)
theorem mQ (es:List AJ) (e x:Nat):(iz es e x=0/\BW es e x=0/\1<=x/\x<=4294967296/\e<es.length)\/(iz es e x=8/\BW es e x=8/\1<=x/\x<=4294967296)\/(iz es e x=2/\(BW es e x=2\/BW es e x=8)/\¬ (1<=x/\x<=4294967296)):=by
 unfold iz BW;by_cases h1:1<=x/\x<=4294967296
 ·have xJ:1<=(x:Int)/\(x:Int)<=4294967296:=(by omega);by_cases h2:e<es.length
  ·left;rw[if_pos h1,if_pos (by omega),if_pos xJ];exact⟨rfl,rfl,h1.1,h1.2,h2⟩
  ·right;left;rw[if_pos h1,if_neg (by omega)];exact⟨rfl,rfl,h1.1,h1.2⟩
 ·right;right;have xJ:¬ (1<=(x:Int)/\(x:Int)<=4294967296):=(by omega);rw[if_neg h1];refine⟨rfl,?_,h1⟩;by_cases h2:e<es.length
  ·left;rw[if_pos (by omega),if_neg xJ]
  ·right;rw[if_neg (by omega)]
theorem dZ {n:Int} {es:List AJ} {k:Nat} {x:Int} (h:Au n es=0) (hk:k<es.length) (hx:1<=x/\x<=4294967296):Au n (Cl es k x)=0:=by
 obtain⟨h1,h2,h3,_⟩:=right_zero h;refine pM h1 h2 (by rw[BF];exact h3) λ e he=>?_;unfold Cl at he;rcases List.mem_or_eq_of_mem_set he with he | rfl
 ·exact CT h he
 ·have hm:es.getD k (0,0,0)∈es:=by
   rw[Pa,zq hk];exact List.getElem_mem hk
  have:=CT h hm;unfold NG at this ⊢;simp only at this ⊢;omega
theorem aX.sess {w w':I_} {X Y B:Nat} {Ah Ac:Int} {ph N:Nat} {es D8:List AJ} {hx:Option Hx} {T:Nat} {A:Option J_} (h:aX w T A D8) (hs:AB w X Y B Ah Ac ph N es hx) (k:Kept (λ j=>j=X\/j=Y) w w') (hT:T<=X/\T<=Y):aX w' T A D8:=h.kept k λ j hj=>⟨by omega,λ cur hb=>by
 obtain⟨left,done,h1,⟨Ak,ck,ev,hv,c0,c1,c2,h2⟩,h3⟩:=hs;rcases hj with e | e
 ·subst e;exact AF hb h1 (by decide) rfl
 ·subst e;exact AF hb h2.blk (by decide) rfl⟩
theorem Mw.same {w wd wx:I_} {T DN X Y B N:Nat} {AE AL AR:Option J_} {L cE M cL R cR:Nat} {es:List AJ} (h:Mw w T DN X Y B N AE AL AR L cE M cL R cR es wd) (k:Kept (λ j=>j=X\/j=Y) wd wx) (hs:AB wx X Y B 3 20 1 N es none):Mw w T DN X Y B N AE AL AR L cE M cL R cR es wx:=by
 obtain⟨l1,l2,l3,l4,l5,l6,l7⟩:=h.lt;obtain⟨A,c,hb,hg⟩:=h.gbox;exact h.move k (λ j hj=>hj.elim .inl λ h=>.inr (.inl h)) hs ⟨A,c,hb.kept k (show ¬ (DN=X\/DN=Y) by omega),hg.sess h.sess k (by omega)⟩ h.right (by omega)
theorem Mw.put {w wd wx wy:I_} {T DN X Y B N:Nat} {AE AL AR:Option J_} {L cE M cL R cR:Nat} {es cQ:List AJ} {A3:Option J_} {c3 B9:Nat} {cur:Array K_} (h:Mw w T DN X Y B N AE AL AR L cE M cL R cR es wd) (k:Kept (λ j=>j=X\/j=Y) wd wx) (hs:AB wx X Y B 3 20 1 N cQ none) (hE:AP wd B9 (.slice A3 L c3) cQ) (hr:Au N cQ=0/\cQ.length=L) (hx:Ao wx DN 24 cur) (kT:Kept (λ j=>j=DN) wx wy) (hb:Ao wy DN 24 #[i64 N,.slice A3 L c3]):Mw w T DN X Y B N AE AL AR L cE M cL R cR cQ wy:=by
 obtain⟨l1,l2,l3,l4,l5,l6,l7⟩:=h.lt;have g1:aX wx T A3 cQ:=(aX.own hE).sess h.sess k (by omega);have g2:aX wy T A3 cQ:=g1.kept kT λ j hj=>⟨by omega,λ cu Gq=>AF (hj▸Gq) hx (by decide) rfl⟩;refine h.move (F:=λ j=>j=X\/j=Y\/j=DN) ((k.mono λ j _ hj=>hj.elim .inl λ h=>.inr (.inl h)).then kT λ j _ hj=>.inr (.inr hj)) (λ j hj=>hj) (hs.far kT (Bl hx (by decide))) ⟨A3,c3,by rw[hr.2];exact hb,g2⟩ hr (by omega)
theorem tr {N:Nat} {es:List AJ} {rk:List Int} {ss:List Sc} {out:List Int} (h:bV N es rk ss out) (hN:N<=7) (hm:es.length<=22):ss.length<=1000:=by
 obtain⟨g,st⟩:=h.st;have h1:=st.len;rw[h.len]at h1;have h2:N*N*N<=7*7*7:=Nat.mul_le_mul (Nat.mul_le_mul hN hN) hN;omega
theorem dW:Bu []:=⟨λ x hx=>by simp at hx,Pk⟩
theorem cy (w:I_) (N:Nat) (AE AL AR:Option J_) (cE cL cR:Nat) (es:List AJ) (cs:List uA) (rk:List Int) (hE:Bo w AE es) (hC:cd w AL cs) (hR:RowI w AR rk) (hr:Au N es=0) (hN:N<=7) (hm:es.length<=22) (DR:cs.length<=20) (JA:rk.length<=60) (hx:∀ c∈cs,c.2<18446744073709551616) :
  Calls B_ 8 #[.agg #[i64 N,.slice AE es.length cE,.slice AL cs.length cL,.slice AR rk.length cR]] w λ e w'=>∃ X Y B A c x,e=.returned (.tuple #[pt X,.agg #[i64 N,.slice A es.length c],.bool true])/\AB w' X Y B 3 20 2 N (Le es cs) (some x)/\x.es=Le es cs/\Bo w' A (Le es cs)/\Au N (Le es cs)=0/\(Le es cs).length=es.length/\B<=w'.heap.size/\w.heap.size<=X/\w.heap.size<=Y/\Af w w'/\(∀ a,A=some a->Le es cs≠[]->a.block<w.heap.size\/∃ cur,Ao w' a.block 65 cur):=by
 obtain⟨i0,hi,BZ,BG,B4⟩:=info_parts Cx
 obtain⟨T,hT⟩:=zn (w.heap.size)
 obtain⟨L,hL⟩:=zn (es.length)
 obtain⟨M,hM⟩:=zn (cs.length)
 obtain⟨R,iV⟩:=zn (rk.length)
 obtain⟨w1,AT⟩:=zn ((w.alloc (.cells #[i64 N,.slice AE L cE,.slice AL M cL,.slice AR R cR] 28)).alloc (.cells #[i64 0,.slice none 0 0] 24))
 have g1:Af w w1:=by rw[<- AT];exact((zr _ _).alloc _).alloc _
 have b0:Ao w1 T 28 #[i64 N,.slice AE L cE,.slice AL M cL,.slice AR R cR]:=by rw[<- AT,<-hT];exact(zv w _ _).alloc _
 have b1:Ao w1 (T+1) 24 #[i64 0,.slice none 0 0]:=by
  rw[<- AT,<-hT];have h:=zv (w.alloc (.cells #[i64 N,.slice AE L cE,.slice AL M cL,.slice AR R cR] 28)) 24 #[i64 0,.slice none 0 0];rw[World.size_alloc]at h;exact h
 have dy:w1.heap.size=T+2:=by rw[<- AT,<-hT];simp
 have HN:=zh (Mr 3 20 w1 (by omega) (by omega))
 have HWd:=zh (λ W (k:Af w W)=>No AE cE N es W (hE.grew k) hr (by omega))
 have HJo:=zh (λ A c W (h:B8 W A (Am 0::AK N es))=>aw A c (Am 0::AK N es) W h (λ x hx=>by
  rcases List.mem_cons.1 hx with rfl | hx
  ·exact(Et (by omega)).1
  ·exact Mu N es x hx) (by rw[Pb,CY];omega) (by
  have h1:=FP (Am 0) (AK N es) 10 (Mt N es hr (by omega));have h2:(Am 0).length=4:=rfl;rw[CY]at h1;omega))
 have hWl:(AK N es).length=2+3*L:=by rw[CY,hL]
 rw[Pb,hWl]at HJo
 have ry:=iL
 have sQ:L<=22:=by omega
 have H0:=Lc hE hC hR hr hx g1
 have be:=Lc hL hM iV hN DR JA
 have zQ:=BO b0 b1
 rw[hL]at HWd
 rw[hL,hM,iV]
 rw[hM]at DR
 rw[iV]at JA
 have x0:=b0.cell 0
 have x1:=b0.cell 1
 simp at x0 x1
 clear hE hC hR hr hm hx g1 b0 b1 hL hM iV
 go_enter Tryz.func8,Tryz.ntmps8
 go_wp2_with fail
 have e0:(w.alloc (.cells #[.int .i64 N,.slice AE L cE,.slice AL M cL,.slice AR R cR] 28)).alloc (.cells #[.int .i64 0,.slice none 0 0] 24)=w1:=AT
 try rw [e0]
 try rw [hT]
 clear e0 AT
 refine HN.out.mono ?_
 rintro e w2 ⟨X,Y,rfl,hX,hY,Gf,g2⟩
 obtain⟨B,hB⟩:=zn (w2.heap.size)
 rw[hB]at Gf
 have x0:=g2.cell x0
 have x1:=g2.cell x1
 have G2:=Fo Gf hX hY g2 hB
 clear HN Gf hX hY g2 hB
 go_wp2_with fail
 refine(HWd.out _ (H0.out.2.2.2.2.2.trans G2.out.2.2.2.1)).mono ?_
 rintro e w3 ⟨v,rfl,ho,g3⟩
 obtain⟨Av,cv,rfl⟩:=At ho
 have G3:=BO ho g3
 have x0:=g3.cell x0
 have x1:=g3.cell x1
 rw[CY,be.out.1]
 obtain⟨w4,Dn,g4⟩:=zg w3 (.cells #[str (Am 0)] 9)
 have o4:Bv w4 w3.heap.size (.slice (some ⟨w3.heap.size,0,none⟩) 1 1) [Am 0]:=by
  rw[<- Dn];exact⟨rfl,.inr ⟨w3.heap.size,1,#[str (Am 0)],rfl,zl _,heap_alloc_new _ _,zl _,by unfold maxLen;omega,rfl,rfl⟩⟩
 obtain⟨A5,c5,hv5,OJ⟩:=(ho.grew g4).row
 have e5:Av=A5:=by injection hv5
 subst e5
 obtain⟨b5,o5,Jt⟩:∃ b5 o5,Av=some ⟨b5,o5,none⟩:=by
  obtain⟨x,hx⟩:=zx (l:=(AK N es)) (i:=0) (by omega);obtain⟨b,off,h1,_⟩:=OJ 0 x hx;exact⟨b,off,h1⟩
 subst Jt
 have vK:Ja w4 (some ⟨b5,o5,none⟩) ((AK N es).map str):=λ j u hu=>by
  rw[Pf]at hu;obtain⟨x,hx,rfl⟩:=Option.map_eq_some_iff.1 hu;exact OJ j x hx
 have hN5:=vK.news
 have EG:∀ u∈(AK N es).map str,u.oneCell'=true:=λ u hu=>by
  obtain⟨x,_,rfl⟩:=O_.1 hu;rfl
 have O4:=DU o4 hN5 g4
 have e4:w3.alloc (.cells #[.string ⟨#[76,79,65,68]⟩] 9)=w4:=Dn
 have DS:((AK N es).map str).length=(2+3*L)*1:=by rw[Pj,hWl];omega
 have MT:w3.heap.size<=w4.heap.size:=g4.size
 clear HWd ho g3 o4 OJ hN5 g4 Dn vK
 go_wp2_with (at_builtin;refine wpList_append_own _ rfl (.tmp 31) (.tmp 32) 40 (by rfl) w3.heap.size 9 i0 (.string ⟨#[]⟩) 1 16 C_ hi BZ BG B4 (by rfl) (by omega) (.slice (some ⟨w3.heap.size,0,none⟩) 1 1) 1 [str (Am 0)] rfl O4.out.1 ⟨b5,o5,none⟩ (2+3*L) cv ((AK N es).map str) rfl DS O4.out.2.1 EG (by unfold maxLen;omega) (by omega) (by omega) ?_;intro v' w5 AV hg _;have HO:=zh (show _/\_ from ⟨AV,hg⟩);obtain⟨A6,c6,hv6⟩:=At AV;clear AV hg EG DS e4;subst hv6)
 have lJ:B8 w5 A6 (Am 0::AK N es):=by
  have ho:Bv w5 w3.heap.size (.slice A6 (1+(2+3*L)) c6) (Am 0::AK N es):=by
   unfold Bv;rw[Pb,hWl,Nat.add_comm (2+3*L) 1];exact HO.out.1
  obtain⟨A7,c7,hv7,hr7⟩:=ho.row;injection hv7 with e1 _ _;rw[e1];exact hr7
 have g5:Af w3 w5:=Kept.grown O4.out.2.2 HO.out.2 (λ k hk=>.inr (by cases hk;exact zl _))
 have g15:Af w1 w5:=G2.out.2.2.2.1.trans (G3.out.2.trans g5)
 have hs:=G2.out.1.grew (G3.out.2.trans g5)
 have hB5:B<=w5.heap.size:=by have:=(G3.out.2.trans g5).size;have:=G2.out.2.2.2.2;omega
 have x0:=g5.cell x0
 have x1:=g5.cell x1
 have aY:=zh (JX N es hs (by omega) H0.out.2.2.2.1 (by have:=be.out.1;omega) hB5)
 have G5:=DU g15 hB5 hs.lt
 rw[show 1+(2+3*L)=2+3*L+1 from by omega]
 refine(HJo.out A6 c6 w5 lJ).mono ?_
 rintro e w9 ⟨rfl,rfl⟩
 have K5:=zh (show Af w1 w5 from g15)
 clear HO lJ g5 g15 hs hB5 O4 G3 HJo MT hWl
 go_wp2_with fail
 refine aY.out.mono ?_
 rintro e w6 ⟨gq,rfl,_,vL,k6⟩
 clear aY
 have q1:=zh (show w.heap.size<=X/\w.heap.size<=Y/\T+1<X/\T+1<Y from by
  have h1:=G2.out.2.1;have h2:=G2.out.2.2.1;omega)
 have nT:¬ (T=X\/T=Y):=by have:=q1.out;omega
 have x0:=k6.cell x0 nT
 have x1:=k6.cell x1 nT
 have zN:w6.cell? ⟨T,0,none⟩=some (i64 N):=x0
 have g6:Af w w6:=(H0.out.2.2.2.2.2.trans K5.out).then k6 λ i hi h=>by have:=q1.out;omega
 have b06:=((zQ.out.1.grew K5.out).kept k6 nT)
 have Lv:=((zQ.out.2.grew K5.out).kept k6 (show ¬ (T+1=X\/T+1=Y) from by have:=q1.out;omega))
 have hB6:B<=w6.heap.size:=A_ G5.out.2.1 k6.size
 obtain⟨DN,hT11⟩:=zn (w6.heap.size)
 obtain⟨w7,lN,uY⟩:=zg w6 (.cells #[.int .i64 N,.slice AE L cE] 24)
 have bg7:Ao w7 DN 24 #[i64 N,.slice AE L cE]:=by rw[<- lN,<-hT11];exact zv _ _ _
 have lt6:=vL.lt
 have szT:T+1<w6.heap.size:=Lv.lt
 have zAl:Le es (cs.take 0)=es:=by rw[List.take_zero];rfl
 have S7:Hid (Mw w T DN X Y B N AE AL AR L cE M cL R cR (Le es (cs.take 0)) w7):=by
  rw[zAl];refine⟨vL.grew uY,⟨AE,cE,by rw[be.out.1];exact bg7,H0.out.1.grew (g6.trans uY),λ a ha Bn=>.inl ?_⟩,⟨H0.out.2.2.2.1,be.out.1⟩,b06.grew uY,Lv.grew uY,g6.trans uY,⟨hT,by have:=q1.out;omega,by have:=q1.out;omega,by omega,by omega,by omega,A_ hB6 uY.size⟩⟩;obtain⟨x,hx⟩:∃ x,es[0]? = some x:=⟨_,zq (List.length_pos_iff.2 Bn)⟩;obtain⟨b,off,h1,h2,_⟩:=H0.out.1 0 x hx;rw[h1]at ha;cases ha;rw[<- hT];exact h2
 have G67:=zh uY
 clear vL k6 b06 Lv g6 hB6 uY bg7 lt6 szT K5 G5 G2 zQ
 go_wp2_with fail
 clear lN hT11 x0 zN x1
 go_loopw [12,13,14,15,16] (λ i v13 v14 v15 v16 wr=>∃ k:Nat,k<=M/\i=.int .i64 k/\Hid (Mw w T DN X Y B N AE AL AR L cE M cL R cR (Le es (cs.take k)) wr)) (λ i _ _ _ _ _=>M-(intOf i).toNat)
 case atStart=>exact⟨0,by omega,rfl,S7⟩
 case round =>
  clear S7;obtain⟨s64,oL⟩:∃ s,s=u64:=⟨u64,rfl⟩;subst oL;obtain⟨k,hk,rfl,hS⟩:=hrel;obtain⟨D8,nS⟩:∃ e,Le es (cs.take k)=e:=⟨_,rfl⟩;rw[nS]at hS;have r1:=hS.out.ask.cell 1;have r2:=hS.out.ask.cell 2;simp at r1 r2;by_cases AI:k<M
  ·have k0:(0:Int)<=(k:Int):=(by omega);have k1':(k:Int)<(M:Int):=(by omega);obtain⟨⟨E,x⟩,hx⟩:∃ x,cs[k]? = some x:=⟨_,zq (by rw[be.out.2.1];exact AI)⟩;have yO:x<18446744073709551616:=H0.out.2.2.2.2.1 _ (zm hx);have hgo:Le es (cs.take (k+1))=if BW D8 E x=0 then Cl D8 E.toNat x else D8:=(by rw[zAI hx,ns,nS]);obtain⟨b,off,hA,hb,c0,c1⟩:=(H0.out.2.1.grew hS.out.kept) k _ hx;have Js:=zh hA;subst hA;obtain⟨Ag,cg,hbg,hga⟩:=hS.out.gbox;obtain⟨oH,Lh⟩:=hS.out.right;obtain⟨hF,hhF⟩:=zn (BW D8 E x);obtain⟨cQ,yg⟩:=zn (Cl D8 E.toNat x);have HW:Hid (∀ W,Af wr W->Calls B_ 16 #[.agg #[i64 N,.slice Ag L cg],i64 E,u64 x] W λ r w'=>∃ gn A' L' c',r=.returned (.tuple #[.agg #[i64 gn,.slice A' L' c'],i64 (hF:Int)])/\(hF=0->gn=N/\L'=L/\∃ B9,AP w' B9 (.slice A' L' c') cQ)/\Af W w'):=λ W k=>by
    have h:=aA (N:Int) Ag cg D8 E x W (hga.1.grew k) (by omega) oH;rw[Lh,hhF,yg]at h;refine h.mono ?_;rintro r w' ⟨gn,A',L',c',rfl,hh,g⟩;exact⟨gn,A',L',c',rfl,λ h0=>(hh h0).imp id λ h=>h.imp id λ h=>⟨_,h⟩,g⟩
   rw[Lh]at hbg;obtain⟨y0,y1⟩:=BP hbg;have Mz:Hid (∀ w',Af wr w'->w'.cell? ⟨T,2,none⟩=some (.slice (some ⟨b,off,none⟩) M cL)/\w'.cell? ⟨b,off+k*2,none⟩=some (i64 E)/\w'.cell? ⟨b,off+k*2+1,none⟩=some (u64 x)/\w'.cell? ⟨DN,0,none⟩=some (i64 N)/\w'.cell? ⟨DN,1,none⟩=some (.slice Ag L cg)):=λ w' g=>⟨g.cell r2,g.cell c0,g.cell c1,g.cell y0,g.cell y1⟩;have gz:Af wr wr.drew:=(zr _ _).drew;have H8:=zh (show _/\_/\_/\_/\_/\_/\_ from ⟨hgo,hhF,yg,oH,Lh,hga,hx⟩);have gO:=zh Mz.out;clear hx hgo c0 c1 hbg hga y0 y1 oH Lh nS hhF yg r1 hb;go_upto_region 10 with fail;clear r2;go_cut [13,14] from 53 to 136 (λ v13 v14 wx=>∃ Dc gn A3 L3 c3,v13=pt Dc/\v14=i64 (hF:Int)/\Hid (Ao wx Dc 24 #[i64 gn,.slice A3 L3 c3]/\Af wr wx/\wr.heap.size<=Dc/\(hF=0->gn=N/\L3=L/\∃ B9,AP wx B9 (.slice A3 L3 c3) cQ)))
   case first =>
    refine rG [18] (λ _=>False) ?_;refine tF 0 61 Mz.out gz ?_;refine pG 1 62 ?_;refine tF 2 63 Mz.out gz ?_;refine pG 3 64 ?_;refine pG 4 65 ?_;refine pG 5 66 ?_;refine tF 6 67 Mz.out gz ?_;refine pG 7 68 ?_;refine tF 8 69 Mz.out gz ?_;refine pG 9 70 ?_;refine pG 10 71 ?_;refine pG 11 72 ?_;refine tF 12 73 Mz.out gz ?_;refine AO 13 74 17 13 rfl rfl (by kernel_rfl) rfl rfl (by rfl) (by rfl) (λ K Al=>?_) (λ K Al=>?_)
    ·skip;go_simp;refine(HW.out _ (gz)).mono ?_;rintro e y1 ⟨gn,A3,L3,c3,rfl,Db,k1⟩;refine Al (.tuple #[.agg #[i64 gn,.slice A3 L3 c3],i64 (hF:Int)]) _ (λ _=>k1) ?_;clear Al;simp only[sA];refine pG 14 60 ?_;refine pG 15 75 ?_;refine pG 16 76 ?_;refine sG 17 13 (λ K Al=>?_);go_simp;obtain⟨Dc,E5⟩:=zn ((Pp y1).size);obtain⟨y2,CN⟩:=zn ((Po y1 (.cells #[.int .i64 0,.slice none 0 0] 24)));have k2:Af y1 y2:=by rw[<- CN];exact DL _ _ _
     have bT:Ao y2 Dc 24 #[i64 0,.slice none 0 0]:=by rw[<- CN,<-E5];exact zv _ _ _
     have hTg:wr.heap.size<=Dc:=by rw[<- E5];exact k1.size
     rw[CN,E5];clear CN E5;have Db:=λ h=>(Db h).imp id λ h=>h.imp id λ h=>h.imp λ _ h=>Af.own k2 h;refine Al (pt Dc) _ (λ _=>k2) ?_;clear Al;simp only[sA];refine Du 18 (λ K Al=>?_);have Mx:=zh bT;have mb:=DU (gz.trans (k1.trans k2)) hTg Db;clear hTg bT;refine wp_store_row 24 (.tmp 13) (.tmp 75) rfl Dc #[i64 gn,.slice A3 L3 c3] rfl rfl 24 _ Mx.out (by kernel_rfl) rfl (Ay (by simp[H_])) ?_;refine Al _ (λ h=>absurd (by simp) h) ?_;clear Al;refine pG 19 14 ?_;refine dG ?_;have t7:=Mx.out.setRow #[i64 gn,.slice A3 L3 c3];obtain⟨y3,CR⟩:=zn (y2.setRow Dc #[i64 gn,.slice A3 L3 c3]);rw[CR]at t7;have kT:Kept (λ j=>j=Dc) y2 y3:=by rw[<- CR];exact(zr (λ j=>j=Dc) _).setRow (.inl rfl) _
     have Je:Af wr y3:=by rw[<- CR];exact mb.out.1.setRow (.inr mb.out.2.1) _
     have HF:Hid (Ao y3 Dc 24 #[i64 gn,.slice A3 L3 c3]/\Af wr y3/\wr.heap.size<=Dc/\(hF=0->gn=N/\L3=L/\∃ B9,AP y3 B9 (.slice A3 L3 c3) cQ)):=by
      refine⟨t7,Je,mb.out.2.1,λ h0=>?_⟩;obtain⟨h1,h2,B9,h3⟩:=mb.out.2.2 h0;refine⟨h1,h2,B9,Kept.own kT h3 λ j hj e=>?_⟩;obtain⟨_,cur,hc⟩:=Ap h3 hj;exact AF (show Ao y2 j 65 cur from hc) Mx.out (by decide) e
     clear t7 kT Je mb Mx Mz gO H8 HW;rw[CR];go_wp2_with fail;go_meet;exact⟨Dc,gn,A3,L3,c3,rfl,rfl,HF⟩
    ·skip;go_simp;obtain⟨Dc,E5⟩:=zn ((Pp wr).size);obtain⟨y1,Br⟩:=zn ((Po wr (.cells #[.int .i64 0,.slice none 0 0] 24)).drew);have k1:Af wr.drew y1:=by rw[<- Br];exact Kept.newD _ _ _
     have bT:Ao y1 Dc 24 #[i64 0,.slice none 0 0]:=by rw[<- Br,<-E5];exact zv _ _ _
     have hTg:wr.heap.size<=Dc:=by rw[<- E5];exact zl _
     rw[Br,E5];clear Br E5;refine Al (pt Dc) _ (λ _=>k1) ?_;clear Al;simp only[sA];refine sG 13 74 (λ K Al=>?_);go_simp;refine(HW.out _ ((gz.trans k1))).mono ?_;rintro e y2 ⟨gn,A3,L3,c3,rfl,Db,k2⟩;have bT:=bT.grew k2;refine Al (.tuple #[.agg #[i64 gn,.slice A3 L3 c3],i64 (hF:Int)]) _ (λ _=>k2) ?_;clear Al;simp only[sA];refine pG 14 60 ?_;refine pG 15 75 ?_;refine pG 16 76 ?_;refine Du 18 (λ K Al=>?_);have Mx:=zh bT;have mb:=DU (gz.trans (k1.trans k2)) hTg Db;clear hTg bT;refine wp_store_row 24 (.tmp 13) (.tmp 75) rfl Dc #[i64 gn,.slice A3 L3 c3] rfl rfl 24 _ Mx.out (by kernel_rfl) rfl (Ay (by simp[H_])) ?_;refine Al _ (λ h=>absurd (by simp) h) ?_;clear Al;refine pG 19 14 ?_;refine dG ?_;have t7:=Mx.out.setRow #[i64 gn,.slice A3 L3 c3];obtain⟨y3,CR⟩:=zn (y2.setRow Dc #[i64 gn,.slice A3 L3 c3]);rw[CR]at t7;have kT:Kept (λ j=>j=Dc) y2 y3:=by rw[<- CR];exact(zr (λ j=>j=Dc) _).setRow (.inl rfl) _
     have Je:Af wr y3:=by rw[<- CR];exact mb.out.1.setRow (.inr mb.out.2.1) _
     have HF:Hid (Ao y3 Dc 24 #[i64 gn,.slice A3 L3 c3]/\Af wr y3/\wr.heap.size<=Dc/\(hF=0->gn=N/\L3=L/\∃ B9,AP y3 B9 (.slice A3 L3 c3) cQ)):=by
      refine⟨t7,Je,mb.out.2.1,λ h0=>?_⟩;obtain⟨h1,h2,B9,h3⟩:=mb.out.2.2 h0;refine⟨h1,h2,B9,Kept.own kT h3 λ j hj e=>?_⟩;obtain⟨_,cur,hc⟩:=Ap h3 hj;exact AF (show Ao y2 j 65 cur from hc) Mx.out (by decide) e
     clear t7 kT Je mb Mx Mz gO H8 HW;rw[CR];go_wp2_with fail;go_meet;exact⟨Dc,gn,A3,L3,c3,rfl,rfl,HF⟩
   case rest =>
    obtain⟨s64,oL⟩:∃ s,s=u64:=⟨u64,rfl⟩;subst oL;obtain⟨wd,IW⟩:∃ w,w=wc:=⟨wc,rfl⟩;subst IW;obtain⟨Dc,gn,A3,L3,c3,rfl,rfl,hC⟩:=hcut;clear HW Mz gz;obtain⟨p0,p1,p2,-,-⟩:=gO.out wd hC.out.2.1;have skip:BW D8 E x≠0->Hid (Mw w T DN X Y B N AE (some ⟨b,off,none⟩) AR L cE M cL R cR (Le es (cs.take (k+1))) wd):=λ h0=>by
     rw[H8.out.1,if_neg h0];exact hS.out.grew hC.out.2.1
    have HSk:=zh skip;clear skip;by_cases hE0:E<0
    ·have d1:decide (E<0)=true:=zt hE0;have S':=HSk.out (by unfold BW;rw[if_neg (by omega)];decide);clear HSk hC H8 gO;go_wp2_with fail;go_roundw
     case rel=>exact⟨k+1,by omega,by go_num,S'⟩
     case measure=>simp[intOf];omega
    have d1:decide (E<0)=false:=zf hE0;by_cases bn:16384<=E
    ·have d2:decide (16384<=E)=true:=zt bn;have S':=HSk.out (by have:=H8.out.2.2.2.2.1;unfold BW;rw[if_neg (by omega)];decide);clear HSk hC H8 gO;go_wp2_with fail;go_roundw
     case rel=>exact⟨k+1,by omega,by go_num,S'⟩
     case measure=>simp[intOf];omega
    have d2:decide (16384<=E)=false:=zf bn;obtain⟨e',rfl⟩:=Int.eq_ofNat_of_zero_le (show 0<=E by omega);clear HSk gO;have hb0:b<w.heap.size:=by
     obtain⟨b',jV,bl,Gq,_⟩:=H0.out.2.1 k _ H8.out.2.2.2.2.2.2;cases bl;exact Gq
    obtain⟨l1,l2,l3,l4,l5,l6,l7⟩:=hS.out.lt;have hlt2:=hS.out.sess.lt;have Da:=hC.out.2.1.size;have q1':=q1.out;have uJ:=zh (show X<wd.heap.size/\Y<wd.heap.size from ⟨by omega,by omega⟩);have Lp:Hid (∀ w',Kept (λ j=>j=X\/j=Y) wd w'->w'.cell? ⟨T,2,none⟩=some (.slice (some ⟨b,off,none⟩) M cL)/\w'.cell? ⟨b,off+k*2,none⟩=some (i64 e')/\w'.cell? ⟨b,off+k*2+1,none⟩=some (u64 x)):=λ w' g=>⟨g.cell p0 (show ¬ (T=X\/T=Y) by omega),g.cell p1 (show ¬ (b=X\/b=Y) by omega),g.cell p2 (show ¬ (b=X\/b=Y) by omega)⟩;obtain⟨fF,hfF⟩:=zn (iz D8 e' x);obtain⟨eN,heN⟩:=zn (uV D8 e' x);have wW:=zh (λ W=>dQ e' (by omega) W);have uG:=zh (λ W=>Dk x yO W);have aY:Hid (∀ W,Af wd W->Calls B_ 10 #[pt X,str (Az [Am 7,dec e',dec x])] W λ r w'=>∃ nm A n c,r=.returned (CB (fF:Int) nm A n c none 0 0)/\AB w' X Y B 3 20 1 N eN none/\Kept (λ j=>j=X\/j=Y) W w'):=λ W g=>by
     have h:=MN e' x ((hS.out.sess.grew hC.out.2.1).grew g) H8.out.2.2.2.1 (by have:=H8.out.2.2.2.2.1;omega) (by omega) yO (A_ l7 (A_ Da g.size));rw[hfF,heN]at h;exact h
    have zW:=BO hfF heN;obtain⟨l1',tn⟩:∃ l,[83,69,84,87,32]++dec e'=l:=⟨_,rfl⟩;obtain⟨l2',tp⟩:∃ l,l1'++[32]=l:=⟨_,rfl⟩;obtain⟨l3',yn⟩:∃ l,l2'++dec x=l:=⟨_,rfl⟩;have fw:Az [Am 7,dec e',dec x]=l3':=by
     rw[<- yn,<-tp,<-tn];show [83,69,84,87]++Dv [dec e',dec x]=_;rw[Fk,Fk];simp[Dv]
    have hz1':(dec e').length<=20:=EL (by omega);have hz2':(dec x).length<=20:=EL yO;have hz3':l1'.length<=25:=by rw[<- tn];simp;omega
    have hz4':l2'.length<=26:=by rw[<- tp];simp;omega
    have vT:¬ 9223372036854775807<5+(bs (dec e')).size:=by rw[Bb];omega
    have tP:¬ 9223372036854775807<(bs l1').size+1:=by rw[Bb];omega
    have vU:¬ 9223372036854775807<(bs l2').size+(bs (dec x)).size:=by rw[Bb,Bb];omega
    have r1':(⟨#[83,69,84,87,32]⟩:ByteArray)++bs (dec e')=bs l1':=by rw[<- tn];exact By [83,69,84,87,32] _
    have r2':bs l1'++(⟨#[32]⟩:ByteArray)=bs l2':=by rw[<- tp];exact By _ [32]
    have r3':bs l2'++bs (dec x)=bs l3':=by rw[<- yn];exact By _ _
    rw[fw]at aY;clear tn tp yn fw hz1' hz2' hz3' hz4';have Iu:Kept (λ j=>j=X\/j=Y) wd wd.drew:=(zr _ _).drew;have J0:Af wd wd.drew:=(zr _ _).drew;clear hfF heN hb0 l1 l2 l3 l4 l5 l6 l7 hlt2 Da q1';go_upto_region 12 with fail;clear d1 d2 p0 p1 p2;go_cut [15] from 53 to 136 (λ v15 wx=>∃ BH G9 A9 n9 c9,v15=pt BH/\Hid (Ao wx BH 42 #[i64 (fF:Int),str G9,.slice A9 n9 c9,.slice none 0 0,.slice none 0 0]/\AB wx X Y B 3 20 1 N eN none/\Kept (λ j=>j=X\/j=Y) wd wx/\wd.heap.size<=BH))
    case first =>
     refine rG [20] (λ j=>j=X\/j=Y) ?_;refine pG 0 93 ?_;refine pG 1 94 ?_;refine tF 2 95 Lp.out Iu ?_;refine pG 3 96 ?_;refine pG 4 97 ?_;refine pG 5 98 ?_;refine tF 6 99 Lp.out Iu ?_;refine pG 10 103 ?_;refine tF 11 104 Lp.out Iu ?_;refine pG 12 105 ?_;refine pG 13 106 ?_;refine pG 14 107 ?_;refine tF 15 108 Lp.out Iu ?_;refine AO 7 100 19 15 rfl rfl (by kernel_rfl) rfl rfl (by rfl) (by rfl) (λ K Al=>?_) (λ K Al=>?_)
     ·skip;go_simp;refine(wW.out _).mono ?_;rintro e v1 ⟨rfl,jy⟩;have j1:=Af.kept (F:=λ j=>j=X\/j=Y) jy;refine Al (str (dec e')) _ (λ _=>j1) ?_;clear Al;simp only[sA];refine pG 8 101 ?_;refine pG 9 102 ?_;refine AO 16 109 19 15 rfl rfl (by kernel_rfl) rfl rfl (by rfl) (by rfl) (λ K Al=>?_) (λ K Al=>?_)
      ·skip;go_simp;refine(uG.out _).mono ?_;rintro e v2 ⟨rfl,bJ⟩;have j2:=Af.kept (F:=λ j=>j=X\/j=Y) bJ;refine Al (str (dec x)) _ (λ _=>j2) ?_;clear Al;simp only[sA];refine pG 17 110 ?_;refine AO 18 111 19 15 rfl rfl (by kernel_rfl) rfl rfl (by rfl) (by rfl) (λ K Al=>?_) (λ K Al=>?_)
       ·skip;go_simp;refine(aY.out _ ((J0.trans jy).trans bJ)).mono ?_;rintro e v3 ⟨G9,A9,n9,c9,rfl,IA,j3⟩;have oY:=j3;refine Al (CB (fF:Int) G9 A9 n9 c9 none 0 0) _ (λ _=>j3) ?_;clear Al;simp only[sA];refine sG 19 15 (λ K Al=>?_);go_simp;obtain⟨BH,Dj⟩:=zn ((Pp v3).size);obtain⟨v4,FB⟩:=zn ((Po v3 (.cells #[.int .i64 0,.string ⟨#[]⟩,.slice none 0 0,.slice none 0 0,.slice none 0 0] 42)));have jG4:Af v3 v4:=by rw[<- FB];exact DL _ _ _
        have j4:=Af.kept (F:=λ j=>j=X\/j=Y) jG4;have bT:Ao v4 BH 42 #[i64 0,.string ⟨#[]⟩,.slice none 0 0,.slice none 0 0,.slice none 0 0]:=by rw[<- FB,<-Dj];exact zv _ _ _
        have DQ:wd.heap.size<=BH:=by rw[<- Dj];exact((((Iu.trans j1).trans j2).trans j3)).size
        have Kr:¬ (BH=X\/BH=Y):=by have:=uJ.out;omega
        rw[FB,Dj];clear FB Dj;have IA:=IA.grew jG4;refine Al (pt BH) _ (λ _=>j4) ?_;clear Al;simp only[sA];refine Du 20 (λ K Al=>?_);have DV:=zh bT;have JF:=zh (show Kept (λ j=>j=X\/j=Y) wd v4/\AB v4 X Y B 3 20 1 N eN none/\wd.heap.size<=BH from ⟨((((Iu.trans j1).trans j2).trans j3).trans j4),IA,DQ⟩);clear bT IA DQ;refine wp_store_row 42 (.tmp 15) (.tmp 111) rfl BH #[i64 (fF:Int),str G9,.slice A9 n9 c9,.slice none 0 0,.slice none 0 0] rfl rfl 42 _ DV.out (by kernel_rfl) rfl (Ay (by simp[H_])) ?_;refine Al _ (λ h=>absurd (by simp) h) ?_;clear Al;refine dG ?_;have t7:=DV.out.setRow #[i64 (fF:Int),str G9,.slice A9 n9 c9,.slice none 0 0,.slice none 0 0];obtain⟨y5,M3⟩:=zn (v4.setRow BH #[i64 (fF:Int),str G9,.slice A9 n9 c9,.slice none 0 0,.slice none 0 0]);rw[M3]at t7;have kT:Kept (λ j=>j=BH) v4 y5:=by rw[<- M3];exact(zr (λ j=>j=BH) _).setRow (.inl rfl) _
        have Je:Kept (λ j=>j=X\/j=Y) wd y5:=by rw[<- M3];exact JF.out.1.setRow (.inr JF.out.2.2) _
        have HF:Hid (Ao y5 BH 42 #[i64 (fF:Int),str G9,.slice A9 n9 c9,.slice none 0 0,.slice none 0 0]/\AB y5 X Y B 3 20 1 N eN none/\Kept (λ j=>j=X\/j=Y) wd y5/\wd.heap.size<=BH):=⟨t7,JF.out.2.1.farT kT DV.out,Je,JF.out.2.2⟩;clear t7 kT Je JF DV Lp wW uG aY;rw[M3];go_wp2_with fail;go_meet;exact⟨BH,G9,A9,n9,c9,rfl,HF⟩
       ·skip;go_simp;obtain⟨BH,Dj⟩:=zn ((Pp v2).size);obtain⟨v3,CR⟩:=zn ((Po v2 (.cells #[.int .i64 0,.string ⟨#[]⟩,.slice none 0 0,.slice none 0 0,.slice none 0 0] 42)));have oY:Af v2 v3:=by rw[<- CR];exact DL _ _ _
        have j3:=Af.kept (F:=λ j=>j=X\/j=Y) oY;have bT:Ao v3 BH 42 #[i64 0,.string ⟨#[]⟩,.slice none 0 0,.slice none 0 0,.slice none 0 0]:=by rw[<- CR,<-Dj];exact zv _ _ _
        have DQ:wd.heap.size<=BH:=by rw[<- Dj];exact(((Iu.trans j1).trans j2)).size
        have Kr:¬ (BH=X\/BH=Y):=by have:=uJ.out;omega
        rw[CR,Dj];clear CR Dj;refine Al (pt BH) _ (λ _=>j3) ?_;clear Al;simp only[sA];refine sG 18 111 (λ K Al=>?_);go_simp;refine(aY.out _ (((J0.trans jy).trans bJ).trans oY)).mono ?_;rintro e v4 ⟨G9,A9,n9,c9,rfl,IA,j4⟩;have jG4:=j4;have bT:=bT.kept j4 Kr;refine Al (CB (fF:Int) G9 A9 n9 c9 none 0 0) _ (λ _=>j4) ?_;clear Al;simp only[sA];refine Du 20 (λ K Al=>?_);have DV:=zh bT;have JF:=zh (show Kept (λ j=>j=X\/j=Y) wd v4/\AB v4 X Y B 3 20 1 N eN none/\wd.heap.size<=BH from ⟨((((Iu.trans j1).trans j2).trans j3).trans j4),IA,DQ⟩);clear bT IA DQ;refine wp_store_row 42 (.tmp 15) (.tmp 111) rfl BH #[i64 (fF:Int),str G9,.slice A9 n9 c9,.slice none 0 0,.slice none 0 0] rfl rfl 42 _ DV.out (by kernel_rfl) rfl (Ay (by simp[H_])) ?_;refine Al _ (λ h=>absurd (by simp) h) ?_;clear Al;refine dG ?_;have t7:=DV.out.setRow #[i64 (fF:Int),str G9,.slice A9 n9 c9,.slice none 0 0,.slice none 0 0];obtain⟨y5,M3⟩:=zn (v4.setRow BH #[i64 (fF:Int),str G9,.slice A9 n9 c9,.slice none 0 0,.slice none 0 0]);rw[M3]at t7;have kT:Kept (λ j=>j=BH) v4 y5:=by rw[<- M3];exact(zr (λ j=>j=BH) _).setRow (.inl rfl) _
        have Je:Kept (λ j=>j=X\/j=Y) wd y5:=by rw[<- M3];exact JF.out.1.setRow (.inr JF.out.2.2) _
        have HF:Hid (Ao y5 BH 42 #[i64 (fF:Int),str G9,.slice A9 n9 c9,.slice none 0 0,.slice none 0 0]/\AB y5 X Y B 3 20 1 N eN none/\Kept (λ j=>j=X\/j=Y) wd y5/\wd.heap.size<=BH):=⟨t7,JF.out.2.1.farT kT DV.out,Je,JF.out.2.2⟩;clear t7 kT Je JF DV Lp wW uG aY;rw[M3];go_wp2_with fail;go_meet;exact⟨BH,G9,A9,n9,c9,rfl,HF⟩
      ·skip;go_simp;obtain⟨BH,Dj⟩:=zn ((Pp v1).size);obtain⟨v2,CN⟩:=zn ((Po v1 (.cells #[.int .i64 0,.string ⟨#[]⟩,.slice none 0 0,.slice none 0 0,.slice none 0 0] 42)));have bJ:Af v1 v2:=by rw[<- CN];exact DL _ _ _
       have j2:=Af.kept (F:=λ j=>j=X\/j=Y) bJ;have bT:Ao v2 BH 42 #[i64 0,.string ⟨#[]⟩,.slice none 0 0,.slice none 0 0,.slice none 0 0]:=by rw[<- CN,<-Dj];exact zv _ _ _
       have DQ:wd.heap.size<=BH:=by rw[<- Dj];exact((Iu.trans j1)).size
       have Kr:¬ (BH=X\/BH=Y):=by have:=uJ.out;omega
       rw[CN,Dj];clear CN Dj;refine Al (pt BH) _ (λ _=>j2) ?_;clear Al;simp only[sA];refine sG 16 109 (λ K Al=>?_);go_simp;refine(uG.out _).mono ?_;rintro e v3 ⟨rfl,oY⟩;have j3:=Af.kept (F:=λ j=>j=X\/j=Y) oY;have bT:=bT.grew oY;refine Al (str (dec x)) _ (λ _=>j3) ?_;clear Al;simp only[sA];refine pG 17 110 ?_;refine sG 18 111 (λ K Al=>?_);go_simp;refine(aY.out _ (((J0.trans jy).trans bJ).trans oY)).mono ?_;rintro e v4 ⟨G9,A9,n9,c9,rfl,IA,j4⟩;have jG4:=j4;have bT:=bT.kept j4 Kr;refine Al (CB (fF:Int) G9 A9 n9 c9 none 0 0) _ (λ _=>j4) ?_;clear Al;simp only[sA];refine Du 20 (λ K Al=>?_);have DV:=zh bT;have JF:=zh (show Kept (λ j=>j=X\/j=Y) wd v4/\AB v4 X Y B 3 20 1 N eN none/\wd.heap.size<=BH from ⟨((((Iu.trans j1).trans j2).trans j3).trans j4),IA,DQ⟩);clear bT IA DQ;refine wp_store_row 42 (.tmp 15) (.tmp 111) rfl BH #[i64 (fF:Int),str G9,.slice A9 n9 c9,.slice none 0 0,.slice none 0 0] rfl rfl 42 _ DV.out (by kernel_rfl) rfl (Ay (by simp[H_])) ?_;refine Al _ (λ h=>absurd (by simp) h) ?_;clear Al;refine dG ?_;have t7:=DV.out.setRow #[i64 (fF:Int),str G9,.slice A9 n9 c9,.slice none 0 0,.slice none 0 0];obtain⟨y5,M3⟩:=zn (v4.setRow BH #[i64 (fF:Int),str G9,.slice A9 n9 c9,.slice none 0 0,.slice none 0 0]);rw[M3]at t7;have kT:Kept (λ j=>j=BH) v4 y5:=by rw[<- M3];exact(zr (λ j=>j=BH) _).setRow (.inl rfl) _
       have Je:Kept (λ j=>j=X\/j=Y) wd y5:=by rw[<- M3];exact JF.out.1.setRow (.inr JF.out.2.2) _
       have HF:Hid (Ao y5 BH 42 #[i64 (fF:Int),str G9,.slice A9 n9 c9,.slice none 0 0,.slice none 0 0]/\AB y5 X Y B 3 20 1 N eN none/\Kept (λ j=>j=X\/j=Y) wd y5/\wd.heap.size<=BH):=⟨t7,JF.out.2.1.farT kT DV.out,Je,JF.out.2.2⟩;clear t7 kT Je JF DV Lp wW uG aY;rw[M3];go_wp2_with fail;go_meet;exact⟨BH,G9,A9,n9,c9,rfl,HF⟩
     ·skip;go_simp;obtain⟨BH,Dj⟩:=zn ((Pp wd).size);obtain⟨v1,Br⟩:=zn ((Po wd (.cells #[.int .i64 0,.string ⟨#[]⟩,.slice none 0 0,.slice none 0 0,.slice none 0 0] 42)).drew);have jy:Af wd.drew v1:=by rw[<- Br];exact Kept.newD _ _ _
      have j1:=Af.kept (F:=λ j=>j=X\/j=Y) jy;have bT:Ao v1 BH 42 #[i64 0,.string ⟨#[]⟩,.slice none 0 0,.slice none 0 0,.slice none 0 0]:=by rw[<- Br,<-Dj];exact zv _ _ _
      have DQ:wd.heap.size<=BH:=by rw[<- Dj];exact zl _
      have Kr:¬ (BH=X\/BH=Y):=by have:=uJ.out;omega
      rw[Br,Dj];clear Br Dj;refine Al (pt BH) _ (λ _=>j1) ?_;clear Al;simp only[sA];refine sG 7 100 (λ K Al=>?_);go_simp;refine(wW.out _).mono ?_;rintro e v2 ⟨rfl,bJ⟩;have j2:=Af.kept (F:=λ j=>j=X\/j=Y) bJ;have bT:=bT.grew bJ;refine Al (str (dec e')) _ (λ _=>j2) ?_;clear Al;simp only[sA];refine pG 8 101 ?_;refine pG 9 102 ?_;refine sG 16 109 (λ K Al=>?_);go_simp;refine(uG.out _).mono ?_;rintro e v3 ⟨rfl,oY⟩;have j3:=Af.kept (F:=λ j=>j=X\/j=Y) oY;have bT:=bT.grew oY;refine Al (str (dec x)) _ (λ _=>j3) ?_;clear Al;simp only[sA];refine pG 17 110 ?_;refine sG 18 111 (λ K Al=>?_);go_simp;refine(aY.out _ (((J0.trans jy).trans bJ).trans oY)).mono ?_;rintro e v4 ⟨G9,A9,n9,c9,rfl,IA,j4⟩;have jG4:=j4;have bT:=bT.kept j4 Kr;refine Al (CB (fF:Int) G9 A9 n9 c9 none 0 0) _ (λ _=>j4) ?_;clear Al;simp only[sA];refine Du 20 (λ K Al=>?_);have DV:=zh bT;have JF:=zh (show Kept (λ j=>j=X\/j=Y) wd v4/\AB v4 X Y B 3 20 1 N eN none/\wd.heap.size<=BH from ⟨((((Iu.trans j1).trans j2).trans j3).trans j4),IA,DQ⟩);clear bT IA DQ;refine wp_store_row 42 (.tmp 15) (.tmp 111) rfl BH #[i64 (fF:Int),str G9,.slice A9 n9 c9,.slice none 0 0,.slice none 0 0] rfl rfl 42 _ DV.out (by kernel_rfl) rfl (Ay (by simp[H_])) ?_;refine Al _ (λ h=>absurd (by simp) h) ?_;clear Al;refine dG ?_;have t7:=DV.out.setRow #[i64 (fF:Int),str G9,.slice A9 n9 c9,.slice none 0 0,.slice none 0 0];obtain⟨y5,M3⟩:=zn (v4.setRow BH #[i64 (fF:Int),str G9,.slice A9 n9 c9,.slice none 0 0,.slice none 0 0]);rw[M3]at t7;have kT:Kept (λ j=>j=BH) v4 y5:=by rw[<- M3];exact(zr (λ j=>j=BH) _).setRow (.inl rfl) _
      have Je:Kept (λ j=>j=X\/j=Y) wd y5:=by rw[<- M3];exact JF.out.1.setRow (.inr JF.out.2.2) _
      have HF:Hid (Ao y5 BH 42 #[i64 (fF:Int),str G9,.slice A9 n9 c9,.slice none 0 0,.slice none 0 0]/\AB y5 X Y B 3 20 1 N eN none/\Kept (λ j=>j=X\/j=Y) wd y5/\wd.heap.size<=BH):=⟨t7,JF.out.2.1.farT kT DV.out,Je,JF.out.2.2⟩;clear t7 kT Je JF DV Lp wW uG aY;rw[M3];go_wp2_with fail;go_meet;exact⟨BH,G9,A9,n9,c9,rfl,HF⟩
    case rest =>
     clear vT tP vU r1' r2' r3' wW uG aY Iu J0;obtain⟨s64',oL⟩:∃ s,s=u64:=⟨u64,rfl⟩;subst oL;obtain⟨wx,hwx⟩:∃ w,w=wc:=⟨wc,rfl⟩;subst hwx;obtain⟨BH,G9,A9,n9,c9,rfl,hD⟩:=hcut;obtain⟨p0,-,p2⟩:=Lp.out wx hD.out.2.2.1;have t0:=hD.out.1.cell 0;simp at t0;have h13:¬ (Dc=X\/Dc=Y):=by have:=hC.out.2.2.1;have:=hS.out.sess.lt;omega
     have xp:=hC.out.1.kept hD.out.2.2.1 h13;obtain⟨y0,y1⟩:=BP xp;have hBg:=hS.out.grew hC.out.2.1;have rP:Hid (∃ A c,Ao wx DN 24 #[i64 N,.slice A L c]):=by
      obtain⟨Ag2,cg2,h1,h2⟩:=hBg.gbox;have l6:=hBg.lt;rw[H8.out.2.2.2.2.1]at h1;exact⟨Ag2,cg2,h1.kept hD.out.2.2.1 (show ¬ (DN=X\/DN=Y) by omega)⟩
     have HKp:Hid (eN=D8->Hid (Mw w T DN X Y B N AE (some ⟨b,off,none⟩) AR L cE M cL R cR D8 wx)):=λ h0=>hBg.same hD.out.2.2.1 (by rw[<- h0];exact hD.out.2.1);have gN:=Fo H8.out.1 H8.out.2.1 H8.out.2.2.1 H8.out.2.2.2.1 H8.out.2.2.2.2.1;have xi:=Em hBg hD.out.2.2.1 hD.out.2.1 hC.out.2.2.2;clear hBg xp h13 hD hC H8 Lp hS hE0;rcases mQ D8 e' x with ⟨c1,c2,c3',c4,c5⟩ | ⟨c1,c2,c3',c4⟩ | ⟨c1,c2,c3'⟩
     ·obtain rfl:fF=0:=zW.out.1.symm.trans c1;obtain rfl:hF=0:=gN.out.2.1.symm.trans c2;obtain⟨rfl,rfl,B9,hE9⟩:=xi.out.2.2.2 rfl;have d1:decide ((x:Int)<1)=false:=zf (by omega);have d2:decide (4294967296<(x:Int))=false:=zf (by omega);have hEN:eN=cQ:=by
       rw[<- zW.out.2,<-gN.out.2.2.1];unfold uV;rw[if_pos c1];rfl
      obtain⟨Ag2,cg2,sn⟩:=rP.out;have f0:=sn.frozen 0;obtain⟨z0,z1⟩:=BP sn;obtain⟨wy,hwy⟩:=zn ((wx.setCell ⟨DN,0,none⟩ (.int .i64 N)).setCell ⟨DN,1,none⟩ (.slice A3 L3 c3));have f1:(wx.setCell ⟨DN,0,none⟩ (.int .i64 N)).frozen? ⟨DN,1,none⟩=false:=(sn.set 0 _).frozen 1;have kT:Kept (λ j=>j=DN) wx wy:=by rw[<- hwy];exact((zr (λ j=>j=DN) wx).setCell (p:=⟨DN,0,none⟩) (.inl rfl) _).setCell (p:=⟨DN,1,none⟩) (.inl rfl) _
      have b11y:Ao wy DN 24 #[i64 N,.slice A3 L3 c3]:=by
       rw[<- hwy];have:=(sn.set 0 (.int .i64 N)).set 1 (.slice A3 L3 c3);simpa using this
      have S':Hid (Mw w T DN X Y B N AE (some ⟨b,off,none⟩) AR L3 cE M cL R cR (Le es (cs.take (k+1))) wy):=by
       rw[gN.out.1,if_pos c2];rw[show Cl D8 (e':Int).toNat x=cQ from gN.out.2.2.1];exact xi.out.1.put xi.out.2.1 (by rw[<- hEN];exact xi.out.2.2.1) hE9 ⟨by rw[<- gN.out.2.2.1];exact dZ gN.out.2.2.2.1 (by simpa using c5) (by omega),by rw[<- gN.out.2.2.1,BF];exact gN.out.2.2.2.2⟩ sn kT b11y
      clear hE9 sn kT b11y xi HKp rP;go_wp2_with fail;go_roundw
      case rel=>exact⟨k+1,by omega,by go_num,S'⟩
      case measure=>simp[intOf];omega
     ·obtain rfl:fF=8:=zW.out.1.symm.trans c1;obtain rfl:hF=8:=gN.out.2.1.symm.trans c2;have d1:decide ((x:Int)<1)=false:=zf (by omega);have d2:decide (4294967296<(x:Int))=false:=zf (by omega);have S':Hid (Mw w T DN X Y B N AE (some ⟨b,off,none⟩) AR L cE M cL R cR (Le es (cs.take (k+1))) wx):=by
       rw[gN.out.1,if_neg (by rw[c2];decide)];exact(HKp.out (by rw[<- zW.out.2];unfold uV;rw[if_neg (by rw[c1];decide)])).out
      clear xi HKp rP;go_wp2_with fail;go_roundw
      case rel=>exact⟨k+1,by omega,by go_num,S'⟩
      case measure=>simp[intOf];omega
     ·obtain rfl:fF=2:=zW.out.1.symm.trans c1;have S':Hid (Mw w T DN X Y B N AE (some ⟨b,off,none⟩) AR L cE M cL R cR (Le es (cs.take (k+1))) wx):=by
       rw[gN.out.1,if_neg (by rcases c2 with c2 | c2<;>rw[c2]<;>decide)];exact(HKp.out (by rw[<- zW.out.2];unfold uV;rw[if_neg (by rw[c1];decide)])).out
      have hF2:hF=2\/hF=8:=by rw[<- gN.out.2.1];exact c2
      clear xi HKp rP gN;by_cases AZ:(x:Int)<1
      ·have d1:decide ((x:Int)<1)=true:=zt AZ;rcases hF2 with rfl | rfl;all_goals
        go_wp2_with fail
        go_roundw
        case rel=>exact⟨k+1,by omega,by go_num,S'⟩
        case measure=>simp[intOf];omega
      ·have d1:decide ((x:Int)<1)=false:=zf AZ;have d2:decide (4294967296<(x:Int))=true:=zt (by omega);rcases hF2 with rfl | rfl;all_goals
        go_wp2_with fail
        go_roundw
        case rel=>exact⟨k+1,by omega,by go_num,S'⟩
        case measure=>simp[intOf];omega
  ·obtain rfl:k=M:=(by omega);have E7:Le es cs=D8:=by rw[<- nS,List.take_of_length_le (by rw[be.out.2.1];exact zl _)]
   have r0:=hS.out.ask.cell 0;have r3:=hS.out.ask.cell 3;simp at r0 r3;have MA:=zh E7;have xg:=zh (λ W (g:Af wr W)=>H0.out.2.2.1.grew (hS.out.kept.trans g));clear E7 nS r1;go_upto_region 21 with fail;go_cut [148] from 137 to 148 (λ v148 wx=>∃ good:Bool,v148=.bool good/\wx=wr/\Hid (good=true->R=N/\Gz rk=true))
   case first =>
    by_cases xO:R=N
    ·have d1:((R:Int)==(N:Int))=true:=(by simp[xO]);obtain⟨bb,IU⟩:=zn (Gz rk);have HRi:=zh (FX AR cR rk wr (xg.out wr (zr _ _)) (by rw[be.out.2.2.1];omega));rw[IU,be.out.2.2.1]at HRi;have HX:=BO xO IU;clear xO IU;go_wp2_with fail;refine HRi.out.mono ?_;rintro e w9 ⟨rfl,rfl⟩;clear HRi;go_wp2_with fail;go_meet;exact⟨bb,rfl,rfl,λ h=>⟨HX.out.1,HX.out.2.trans h⟩⟩
    ·have d1:((R:Int)==(N:Int))=false:=by simp;omega
     clear xO;go_wp2_with fail;go_meet;exact⟨false,rfl,rfl,λ h=>by cases h⟩
   case rest =>
    obtain⟨good,rfl,hwc,zAo⟩:=hcut;obtain rfl:wr=wc:=hwc.symm;clear hwc;go_upto_if 148 with fail;go_cut [17] from 149 to 152 (λ v17 wx=>∃ (ln:List UInt8) (CC:List Int),v17=str ln/\Hid (Af wr wx/\Calls B_ 10 #[pt X,str ln] wx (λ e w'=>∃ v,e=.returned v/\bP N D8 none CC X Y B 3 20 w' v/\Kept (λ j=>j=X\/j=Y) wx w')))
    case first =>
     have DOB:=zh (λ W ln CC hp (g:Af wr W) h1 h2=>IP ln CC hp (hS.out.sess.grew g) (by omega) hS.out.right.1 (by have:=hS.out.right.2;omega) (by have:=be.out.2.2.2.1;omega) (A_ hS.out.lt.2.2.2.2.2.2 g.size) h1 h2);cases good
     ·go_wp2_with fail;go_meet;exact⟨Am 1,[],rfl,zr _ _,DOB.out _ _ [] Nd (zr _ _) dW (.inl rfl)⟩
     ·obtain⟨xO,IU⟩:=zAo.out rfl;have HRN:=zh xO;have Be:=pI IU;have hz:∀ x∈rk,0<=x/\x<64:=λ x hx=>by
       have:=Be.1 x hx;have:=be.out.2.2;omega
      have dq:=pJ (zs:=rk) λ x hx=>(hz x hx).1;obtain⟨zs,dB⟩:=zn (rk.map Int.toNat);rw[dB]at dq;have hzl:zs.length=R:=by rw[<- dB,Pj];exact be.out.2.2.1
      have hzz:∀ n∈zs,n<=64:=λ n hn=>by
       rw[<- dB]at hn;obtain⟨x,hx,rfl⟩:=O_.1 hn;have:=hz x hx;omega
      have Ox:=(right_zero H0.out.2.2.2.1).1;have Bn:zs≠[]:=λ h=>by rw[h]at hzl;have:=HRN.out;simp at hzl;omega
      have HTx:=zh (λ W (g:Af wr W)=>ay AR cR zs W (by rw[dq];exact xg.out W g) (by rw[dq];exact IU) (λ n hn=>by have:=hzz n hn;omega) (by have:=be.out.2.2;omega));rw[hzl]at HTx;have HP:=zh (λ W=>Ih zs Bn (λ n hn=>by have:=hzz n hn;omega) (by have:=be.out.2.2;omega) (by rw[dq];exact Be) W);have HK:Hid (Bu (Bc zs)/\(Bc zs=[]\/(Bc zs).length=N)):=⟨by rw[dq];exact Be,.inr (by rw[dq,be.out.2.2.1];exact HRN.out)⟩;have tj:=OP zs (λ n hn=>by have:=hzz n hn;omega);obtain⟨tx,dz⟩:=zn (Bm (zs.map dec));rw[dz]at tj HTx HP;have vT:¬ 9223372036854775807<6+(bs tx).size:=by rw[Bb];have:=be.out.2.2;omega
      obtain⟨ln,fw⟩:=zn (Am 1++32::tx);have r1':(⟨#[66,85,73,76,68,32]⟩:ByteArray)++bs tx=bs ln:=by rw[<- fw];exact By [66,85,73,76,68,32] _
      rw[fw]at HP;clear IU Be hz dq dB hzl hzz Ox Bn tj dz fw xO;go_wp2_with fail;refine(HTx.out _ (zr _ _)).mono ?_;rintro e w9 ⟨rfl,gv⟩;clear HTx;have GV:=zh gv;clear gv;go_wp2_with fail;go_meet;exact⟨ln,Bc zs,rfl,GV.out,DOB.out _ _ _ HP.out GV.out HK.out.1 HK.out.2⟩
    case rest =>
     obtain⟨ln,CC,rfl,hC⟩:=hcut;have GV:=zh hC.out.1;have aY:=zh hC.out.2;clear hC;go_wp2_with fail;refine aY.out.mono ?_;rintro e w5 ⟨v5,rfl,⟨g9,x9,rfl,_,hs9,M0,_⟩,k5⟩;clear aY;have hO:=yy hs9;have oJ:x9.rk.length=N:=hO.rlen;have lL:x9.ss.length<=1000:=tr hO be.out.2.2.2.1 (by rw[M0,hS.out.right.2];exact sQ);have l9:=hS.out.lt;obtain⟨Mv,MH,MU,NO⟩:=hS.out.gbox;rw[hS.out.right.2]at MU;have sn:=(MU.grew GV.out).kept k5 (show ¬ (DN=X\/DN=Y) by omega);have bO:=(hS.out.out.grew GV.out).kept k5 (show ¬ (T+1=X\/T+1=Y) by omega);have gg:=(NO.grew GV.out).sess (hS.out.sess.grew GV.out) k5 (by omega);have G5:Af w w5:=(hS.out.kept.trans GV.out).then k5 (λ i hi h=>by have:=q1.out;omega);have uI:=zh (λ W (k:Af w5 W)=>ez (hs9.grew k) (by rw[oJ];omega) (by omega));obtain⟨c0,c1⟩:=BP sn;have bQ:Hid (∀ w',Af w5 w'->w'.cell? ⟨DN,0,none⟩=some (i64 N)/\w'.cell? ⟨DN,1,none⟩=some (.slice Mv L MH)):=λ w' g=>⟨g.cell c0,g.cell c1⟩;have H5:=zh (show _/\_/\_/\_/\_/\B<=w5.heap.size from ⟨hs9,bO,gg,G5,M0,A_ (A_ l9.2.2.2.2.2.2 GV.out.size) k5.size⟩);have HR9:=zh oJ;have NK:Af w5 w5.drew:=(zr _ _).drew;clear hO lL l9 MU NO sn bO gg G5 c0 c1 k5 hs9 M0 oJ;go_upto_region 24 with fail;refine rG [12] (λ _=>False) ?_;refine pG 0 158 ?_;refine tF 1 159 bQ.out NK ?_;refine pG 2 160 ?_;refine pG 3 161 ?_;refine pG 4 162 ?_;refine pG 7 165 ?_;refine AO 5 163 8 166 rfl rfl (by kernel_rfl) rfl rfl (by rfl) (by rfl) (λ K Al=>?_) (λ K Al=>?_)
     ·skip;go_simp;refine(uI.out _ NK).mono ?_;rintro e i9 ⟨v9,rfl,oy,i1⟩;obtain⟨A9,c9,rfl⟩:=At oy;rw[HR9.out];refine Al (.slice A9 N c9) _ (λ _=>i1) ?_;clear Al;simp only[sA];refine pG 6 164 ?_;refine pG 11 2 ?_;refine aW 8 166 12 rfl rfl (by kernel_rfl) rfl rfl (by rfl) (by rfl) (λ K Al=>?_) (λ K Al=>?_)
      ·skip;obtain⟨qa1,-⟩:=bQ.out _ (NK.trans i1);go_simp;refine Al (i64 N) _ (λ _=>zr _ _) ?_;clear Al;simp only[sA];refine pG 9 167 ?_;refine pG 10 168 ?_;refine Du 12 (λ K Al=>?_);have NV:=zh ((H5.out.2.1.grew NK).grew i1);have jA:Kept (λ j=>j=T+1) i9 (i9.setRow (T+1) #[i64 N,.slice Mv L MH]):=(zr (λ j=>j=T+1) _).setRow (.inl rfl) _;refine wp_store_row 24 (.tmp 3) (.tmp 159) rfl (T+1) #[i64 N,.slice Mv L MH] rfl rfl 24 _ NV.out (by kernel_rfl) rfl (Ay (by simp[H_])) ?_;refine Al _ (λ h=>absurd (by simp) h) ?_;clear Al;refine pG 13 4 ?_;refine dG ?_;have t7:=NV.out.setRow #[i64 N,.slice Mv L MH];obtain⟨i8,bu⟩:=zn (i9.setRow (T+1) #[i64 N,.slice Mv L MH]);rw[bu]at t7;have kT:Kept (λ j=>j=T+1) i9 i8:=by rw[<- bu];exact(zr (λ j=>j=T+1) _).setRow (.inl rfl) _
       have vM:=((H5.out.1.grew NK).grew i1).far kT (Bl NV.out (by decide));have uZ:=((H5.out.2.2.1.grew NK).grew i1).kept kT (λ j hj=>⟨by omega,λ cu Gq=>AF (hj▸Gq) NV.out (by decide) rfl⟩);have GF:Af w i8:=((H5.out.2.2.2.1.trans NK).trans i1).then kT (λ i hi h=>by omega);have HF:=zh (show _/\_/\_/\B<=i8.heap.size from ⟨vM,uZ,GF,A_ H5.out.2.2.2.2.2 (A_ i1.size kT.size)⟩);obtain⟨z0,z1⟩:=BP t7;clear t7 kT jA vM uZ GF NV uI bQ;rw[bu];go_wp2_with fail;refine zy (v:=.tuple #[pt X,.agg #[i64 N,.slice Mv L MH],.bool true]) (by simp[results,E_,go_sem,z0,z1]) rfl ?_;rw[MA.out];exact⟨X,Y,B,Mv,MH,x9,rfl,HF.out.1,H5.out.2.2.2.2.1,HF.out.2.1.1,hS.out.right.1,hS.out.right.2,HF.out.2.2.2,q1.out.1,q1.out.2.1,HF.out.2.2.1,λ a ha Bn=>(HF.out.2.1.2 a ha Bn).imp (λ h=>by rw[hT];exact h) id⟩
      ·skip;have NV:=zh ((H5.out.2.1.grew NK).grew i1);have jA:Kept (λ j=>j=T+1) i9 (i9.setRow (T+1) #[i64 N,.slice Mv L MH]):=(zr (λ j=>j=T+1) _).setRow (.inl rfl) _;refine wp_store_row 24 (.tmp 3) (.tmp 159) rfl (T+1) #[i64 N,.slice Mv L MH] rfl rfl 24 _ NV.out (by kernel_rfl) rfl (Ay (by simp[H_])) ?_;refine Al _ (λ h=>absurd (by simp) h) ?_;clear Al;refine sG 8 166 (λ K Al=>?_);have qa1:=jA.cell (bQ.out _ (NK.trans i1)).1 (show ¬ DN=T+1 by have:=hS.out.lt;omega);go_simp;refine Al (i64 N) _ (λ _=>zr _ _) ?_;clear Al;simp only[sA];refine pG 9 167 ?_;refine pG 10 168 ?_;refine pG 13 4 ?_;refine dG ?_;have t7:=NV.out.setRow #[i64 N,.slice Mv L MH];obtain⟨i8,bu⟩:=zn (i9.setRow (T+1) #[i64 N,.slice Mv L MH]);rw[bu]at t7;have kT:Kept (λ j=>j=T+1) i9 i8:=by rw[<- bu];exact(zr (λ j=>j=T+1) _).setRow (.inl rfl) _
       have vM:=((H5.out.1.grew NK).grew i1).far kT (Bl NV.out (by decide));have uZ:=((H5.out.2.2.1.grew NK).grew i1).kept kT (λ j hj=>⟨by omega,λ cu Gq=>AF (hj▸Gq) NV.out (by decide) rfl⟩);have GF:Af w i8:=((H5.out.2.2.2.1.trans NK).trans i1).then kT (λ i hi h=>by omega);have HF:=zh (show _/\_/\_/\B<=i8.heap.size from ⟨vM,uZ,GF,A_ H5.out.2.2.2.2.2 (A_ i1.size kT.size)⟩);obtain⟨z0,z1⟩:=BP t7;clear t7 kT jA vM uZ GF NV uI bQ;rw[bu];go_wp2_with fail;refine zy (v:=.tuple #[pt X,.agg #[i64 N,.slice Mv L MH],.bool true]) (by simp[results,E_,go_sem,z0,z1]) rfl ?_;rw[MA.out];exact⟨X,Y,B,Mv,MH,x9,rfl,HF.out.1,H5.out.2.2.2.2.1,HF.out.2.1.1,hS.out.right.1,hS.out.right.2,HF.out.2.2.2,q1.out.1,q1.out.2.1,HF.out.2.2.1,λ a ha Bn=>(HF.out.2.1.2 a ha Bn).imp (λ h=>by rw[hT];exact h) id⟩
     ·skip;obtain⟨qa1,-⟩:=bQ.out _ NK;go_simp;refine Al (i64 N) _ (λ _=>zr _ _) ?_;clear Al;simp only[sA];refine sG 5 163 (λ K Al=>?_);go_simp;refine(uI.out _ NK).mono ?_;rintro e i9 ⟨v9,rfl,oy,i1⟩;obtain⟨A9,c9,rfl⟩:=At oy;rw[HR9.out];refine Al (.slice A9 N c9) _ (λ _=>i1) ?_;clear Al;simp only[sA];refine pG 6 164 ?_;refine pG 9 167 ?_;refine pG 10 168 ?_;refine pG 11 2 ?_;refine Du 12 (λ K Al=>?_);have NV:=zh ((H5.out.2.1.grew NK).grew i1);have jA:Kept (λ j=>j=T+1) i9 (i9.setRow (T+1) #[i64 N,.slice Mv L MH]):=(zr (λ j=>j=T+1) _).setRow (.inl rfl) _;refine wp_store_row 24 (.tmp 3) (.tmp 159) rfl (T+1) #[i64 N,.slice Mv L MH] rfl rfl 24 _ NV.out (by kernel_rfl) rfl (Ay (by simp[H_])) ?_;refine Al _ (λ h=>absurd (by simp) h) ?_;clear Al;refine pG 13 4 ?_;refine dG ?_;have t7:=NV.out.setRow #[i64 N,.slice Mv L MH];obtain⟨i8,bu⟩:=zn (i9.setRow (T+1) #[i64 N,.slice Mv L MH]);rw[bu]at t7;have kT:Kept (λ j=>j=T+1) i9 i8:=by rw[<- bu];exact(zr (λ j=>j=T+1) _).setRow (.inl rfl) _
      have vM:=((H5.out.1.grew NK).grew i1).far kT (Bl NV.out (by decide));have uZ:=((H5.out.2.2.1.grew NK).grew i1).kept kT (λ j hj=>⟨by omega,λ cu Gq=>AF (hj▸Gq) NV.out (by decide) rfl⟩);have GF:Af w i8:=((H5.out.2.2.2.1.trans NK).trans i1).then kT (λ i hi h=>by omega);have HF:=zh (show _/\_/\_/\B<=i8.heap.size from ⟨vM,uZ,GF,A_ H5.out.2.2.2.2.2 (A_ i1.size kT.size)⟩);obtain⟨z0,z1⟩:=BP t7;clear t7 kT jA vM uZ GF NV uI bQ;rw[bu];go_wp2_with fail;refine zy (v:=.tuple #[pt X,.agg #[i64 N,.slice Mv L MH],.bool true]) (by simp[results,E_,go_sem,z0,z1]) rfl ?_;rw[MA.out];exact⟨X,Y,B,Mv,MH,x9,rfl,HF.out.1,H5.out.2.2.2.2.1,HF.out.2.1.1,hS.out.right.1,hS.out.right.2,HF.out.2.2.2,q1.out.1,q1.out.2.1,HF.out.2.2.1,λ a ha Bn=>(HF.out.2.1.2 a ha Bn).imp (λ h=>by rw[hT];exact h) id⟩
end Go.Proofs.YtepelooebggliaaGreatDoor
namespace Go.Proofs.YtepelooebggliaaGreatDoor
open Go.ChangeShapes Go.WideShapes Go.ChangeAt Go.RowKit Go.Deep Go.Joins
theorem O7 {H:Type} {enc:TypeId×K_->H} {w:I_} {fuel:Nat} {v:K_} {x:DataW H×List L_} (h:Pn enc B_ w 0 (λ _=>true) true fuel 26 [v]=some x) :
  ∃ A c rk,v=.slice A (N_ rk) c/\RowI w A rk:=by
 rcases open_ints Tryz.underlying26 D_ (by kernel_rfl) h with ⟨DR,_⟩ | ⟨x,l,c,zs,DR,_,hl,hm,hz,_,BI,hwz⟩
 ·simp only[M_,and_true]at DR;exact⟨none,0,[],DR,λ i x hx=>by simp at hx⟩
 ·simp only[M_,and_true]at DR;have hz:zs.length=c:=(by simpa using hz);refine⟨some x,c,zs.take l,by rw[DR,Ph,Nat.min_eq_left (by omega)],λ i y hy=>?_⟩;have hi:=(Pd.1 hy).1;rw[Ph]at hi;rw[Pe,if_pos (by omega)]at hy;obtain⟨b,off,rfl⟩:=ED (BI 0 (by omega));have h1:=Hm (BI i (by omega));refine⟨b,off,rfl,Pq _ _ h1,?_⟩;rw[h1,Pa,hy];rfl
theorem Nc {H:Type} {enc:TypeId×K_->H} {w:I_} {fuel:Nat} {v:K_} {x:DataW H×List L_} (h:Pn enc B_ w 0 (λ _=>true) true fuel 25 [v]=some x) :
  ∃ A c cs,v=.slice A (N_ cs) c/\cd w A cs/\∀ c∈cs,c.2<18446744073709551616:=by
 have nU:∃ A len c,v=.slice A len c:=by
  rcases open_slice F_ h with ⟨DR,_⟩ | ⟨a,len,cap,m,n,D,Pl,DR,_⟩
  ·simp only[M_,and_true]at DR;exact⟨_,_,_,DR⟩
  ·simp only[M_,and_true]at DR;exact⟨_,_,_,DR⟩
 obtain⟨A,len,cap,rfl⟩:=nU
 obtain⟨h1,h2,_,h3⟩:=Ie F_ Tryz.underlying76 (by kernel_rfl) (by kernel_rfl) (by decide) h
 have key:∀ i,i<len->∃ b off,A=some ⟨b,off,none⟩/\b<w.heap.size/\w.cell? ⟨b,off+i*2,none⟩=some (i64 (fZ w A (i*2+0)))/\w.cell? ⟨b,off+i*2+1,none⟩=some (u64 (((fZ w A (i*2+1)).toNat:Nat):Int))/\(fZ w A (i*2+1)).toNat<18446744073709551616:=λ i hi=>by
  obtain⟨b,off,rfl,hb,hc⟩:=h3 i hi;obtain⟨v0,y0,n0,c0,t0⟩:=hc 0 _ rfl;obtain⟨v1,y1,n1,c1,t1⟩:=hc 1 _ rfl;have e0:=(Kg D_ c0 t0).1;obtain⟨e1,w1⟩:=Kg Tryz.underlying29 c1 t1;have hw:0<=fZ w (some ⟨b,off,none⟩) (i*2+1)/\fZ w (some ⟨b,off,none⟩) (i*2+1)<=18446744073709551615:=bounds_u64 w1;refine⟨b,off,rfl,hb,e0,?_,by omega⟩;rw[Int.toNat_of_nonneg hw.1];exact e1
 refine⟨A,cap,(List.range len).map λ i=>(fZ w A (i*2+0),(fZ w A (i*2+1)).toNat),by simp,λ i e he=>?_,λ c hc=>?_⟩
 ·have hi:i<len:=by
   have:=(Pd.1 he).1;simpa using this
  simp[List.getElem?_range hi]at he;subst he;obtain⟨b,off,hA,hb,c0,c1,_⟩:=key i hi;exact⟨b,off,hA,hb,c0,c1⟩
 ·simp only[O_,Pm]at hc;obtain⟨i,hi,rfl⟩:=hc;obtain⟨_,_,_,_,_,_,h⟩:=key i hi;exact h
theorem dS {H:Type} {enc:TypeId×K_->H} {w:I_} {base:Nat} {v:K_} {d:DataW H} {p:List L_} (o:Value.okWide B_ w .any base 40 v) (h:DataW.Trod enc B_ w 0 (λ _=>true) true 40 v d p) :
  ∃ A c ls,v=.slice A (N_ ls) c/\B8 w A ls:=by
 obtain⟨A,len,cap,rfl⟩:=okWide_slice C_ o
 obtain⟨fuel,hf⟩:=h
 rcases open_strings C_ Tryz.underlying9 (by kernel_rfl) hf with ⟨DR,_⟩ | ⟨x,l,c,ss,DR,_,hl,hm,hz,_,BI,_⟩
 ·simp[Value.cells]at DR;obtain⟨rfl,rfl,rfl⟩:=DR;exact⟨none,0,[],rfl,λ i x hx=>by simp at hx⟩
 ·simp[Value.cells]at DR;obtain⟨rfl,rfl,rfl⟩:=DR;have hz:ss.length=cap:=(by simpa using hz);refine⟨some x,cap,(ss.take len).map (λ s=>s.data.toList),by simp;omega,λ i y hy=>?_⟩;rw[Pf,Pe]at hy;have hi:i<len:=by
   by_cases hi:i<len
   ·exact hi
   ·rw[if_neg hi]at hy;simp at hy
  rw[if_pos hi]at hy;obtain⟨b,off,rfl⟩:=ED (BI 0 (by omega));have h1:=Hm (BI i (by omega));refine⟨b,off,rfl,Pq _ _ h1,?_⟩;rw[h1,Pa];rw[zq (show i<ss.length by omega)]at hy ⊢;simp at hy ⊢;rw[<- hy];rfl
theorem pB {H:Type} {enc:TypeId×K_->H} {w:I_} {base:Nat} {v:K_} {d:DataW H} {p:List L_} (o:Value.okWide B_ w .any base 28 v) (h:DataW.Trod enc B_ w 0 (λ _=>true) true 28 v d p) :
  ∃ n AE cE es AL cL cs AR cR rk,v=.agg #[i64 n,.slice AE (N_ es) cE,.slice AL (N_ cs) cL,.slice AR (N_ rk) cR]/\Bo w AE es/\cd w AL cs/\RowI w AR rk/\(N_ es)<=9223372036854775807/\∀ c∈cs,c.2<18446744073709551616:=by
 obtain⟨cs,rfl,Da⟩:=okWide_struct G_ o
 obtain⟨c0,c1,c2,c3,rfl⟩:=array4 (Da.trans (by kernel_rfl))
 obtain⟨fuel,hf⟩:=h
 obtain⟨y0,y1,y2,m,_,_,h0,h1,h2⟩:=trod_struct3 G_ hf
 have h0':Pn enc B_ w 0 (λ _=>true) true m 24 [c0,c1]=some y0:=h0
 have xJ:Pn enc B_ w 0 (λ _=>true) true m 25 [c2]=some y1:=h1
 have h2':Pn enc B_ w 0 (λ _=>true) true m 26 [c3]=some y2:=h2
 obtain⟨z0,z1,k,_,_,g0,g1⟩:=trod_struct2 Tryz.underlying24 h0'
 have g0':Pn enc B_ w 0 (λ _=>true) true k 3 [c0]=some z0:=g0
 have g1':Pn enc B_ w 0 (λ _=>true) true k 22 [c1]=some z1:=g1
 obtain⟨x,hx,_,_⟩:=DataW.trod_int D_ g0'
 simp only[M_,and_true]at hx
 subst hx
 obtain⟨AE,cE,es,rfl,hE,hl⟩:=dR g1'
 obtain⟨AL,cL,cs,rfl,hC,MV⟩:=Nc xJ
 obtain⟨AR,cR,rk,rfl,hR⟩:=O7 h2'
 exact⟨_,_,_,_,_,_,_,_,_,_,rfl,hE,hC,hR,hl,MV⟩
end Go.Proofs.YtepelooebggliaaGreatDoor
