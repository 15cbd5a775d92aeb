/- Walks of functions that the law reaches, and plain laws, part 19 of 21: lemmas for the proof in the last text; no condition. Shortened by program. -/
import Derived.SliceStrings
import Derived.ProofKit
import Derived.OpenShut
import Derived.Below
import Derived.Test.YtepelooebggliaaGreatDoorSu0
import Derived.Test.YtepelooebggliaaGreatDoorSu2
import Derived.Test.YtepelooebggliaaGreatDoorSu5
import Derived.Test.YtepelooebggliaaGreatDoorSu13
import Derived.Test.YtepelooebggliaaGreatDoorSu14
import Derived.Test.YtepelooebggliaaGreatDoorSu15
import Derived.Test.YtepelooebggliaaGreatDoorSu17
open Nat renaming le_trans->A_
open Go.Proofs.Tryz renaming prog->B_,underlying3->C_,results8->D_,underlying25->E_,underlying28->F_
open Go.Value renaming oneCell'->G_
open Go renaming World->H_,Addr->I_,Value->J_
open List.cons renaming injEq->K_
open List renaming mem_map->L_,length->M_,length_cons->N_,nodup_cons->O_,getD_eq_getElem?_getD->Pa,getElem?_eq_some_iff->Pb,nodup_range->Pc,length_take->Pd,length_map->Pe,nodup_nil->Pf,mem_range->Pg
open Go.DataW renaming trod->Ph
open Go.World renaming alloc->Pj,heap->Pk
set_option maxHeartbeats 16000000
set_option maxRecDepth 100000
set_option linter.unusedVariables false
set_option linter.unusedSimpArgs false
namespace Go.Proofs.YtepelooebggliaaGreatDoor
open Go.RowKit
theorem gM:∀ (S l:List Int),S.Nodup->(∀ x∈S,x∈l)->S.length=l.length->l.Perm S
 | [],l,_,_,h=>by
  have:l=[]:=List.eq_nil_of_length_eq_zero (by simpa using h.symm);rw[this]
 | s::S,l,hn,hs,h=>by
  obtain⟨h1,h2⟩:=O_.1 hn;have hsl:s∈l:=hs s (by simp);have hp:=List.perm_cons_erase hsl;refine hp.trans (.cons s (gM S (l.erase s) h2 (λ x hx=>?_) ?_))
  ·exact(List.mem_erase_of_ne (λ e:x=s=>h1 (by rw[<- e];exact hx))).2 (hs x (by simp[hx]))
  ·rw[List.length_erase_of_mem hsl];simp at h;omega
theorem KH:∀ l:List Nat,l.Nodup->(l.map λ (i:Nat)=>(i:Int)).Nodup:=λ l h=>by
 induction l with
 | nil=>exact Pf
 | cons a l ih =>
  obtain⟨h1,h2⟩:=O_.1 h;refine O_.2 ⟨λ hm=>?_,ih h2⟩;obtain⟨b,hb,e⟩:=L_.1 hm;have e':(b:Int)=(a:Int):=e;have:b=a:=(by omega);rw[this]at hb;exact h1 hb
theorem pT {zs:List Int} (h:Im zs=true):Bq zs:=by
 unfold Im at h;rw[List.all_eq_true]at h;have hp:=gM ((List.range zs.length).map λ (i:Nat)=>(i:Int)) zs (KH _ Pc) (λ x hx=>by
  obtain⟨i,hi,rfl⟩:=L_.1 hx;simpa using h i hi) (by simp)
 refine⟨λ x hx=>?_,hp.nodup_iff.2 (KH _ Pc)⟩;have:=hp.mem_iff.1 hx;obtain⟨i,hi,rfl⟩:=L_.1 this;have:=Pg.1 hi;omega
theorem pU {zs:List Int} (h:∀ x∈zs,0<=x):Be (zs.map Int.toNat)=zs:=by
 unfold Be;rw[List.map_map];refine(List.map_congr_left (g:=id) λ x hx=>?_).trans (List.map_id _);have:=h x hx;simp only[Function.comp,id];omega
theorem aR (n:Int) (A:Option I_) (c:Nat) (es:List AB) (E x:Int) (w:H_) (h:Bj w A es) (hl:es.length<=100000) (hr:Aq n es=0) :
  Calls B_ 16 #[.agg #[i64 n,.slice A es.length c],i64 E,u64 x] w λ r w'=>∃ gn A' L' c',r=.returned (.tuple #[.agg #[i64 gn,.slice A' L' c'],i64 (BW es E x)])/\(BW es E x=0->gn=n/\L'=es.length/\Bc w' w.heap.size (.slice A' L' c') (BX es E.toNat x))/\Ac w w':=by
 by_cases he:0<=E/\E<es.length
 ·by_cases hx:1<=x/\x<=4294967296
  ·have hf:BW es E x=0:=by unfold BW;rw[if_pos he,if_pos hx]
   obtain⟨e,rfl⟩:=Int.eq_ofNat_of_zero_le he.1;refine(Jg n A c es e x w h hl hr (by omega) hx).mono ?_;rintro r w' ⟨v,rfl,hE,g⟩;obtain⟨A',c',rfl⟩:=Ap hE;exact⟨n,A',_,c',by rw[hf];rfl,λ _=>⟨rfl,BO _ _ _,hE⟩,g⟩
  ·have hf:BW es E x=2:=by unfold BW;rw[if_pos he,if_neg hx]
   refine(KZ n A c es E x w h hl hr 2 (.inr ⟨he,hx,rfl⟩)).mono ?_;rintro r w' ⟨rfl,g⟩;exact⟨0,none,0,0,by rw[hf],λ h=>(by rw[hf]at h;cases h),g⟩
 ·have hf:BW es E x=8:=by unfold BW;rw[if_neg he]
  refine(KZ n A c es E x w h hl hr 8 (.inl ⟨he,rfl⟩)).mono ?_;rintro r w' ⟨rfl,g⟩;exact⟨0,none,0,0,by rw[hf],λ h=>(by rw[hf]at h;cases h),g⟩
def iX (es:List AB) (e x:Nat):Nat:=if 1<=x/\x<=4294967296 then BW es e x else 2
def vq (es:List AB) (e x:Nat):List AB:=if iX es e x=0 then BX es e x else es
theorem Na {w:H_} {X Y B:Nat} {hops settles:Int} {N:Nat} {es:List AB} (e x:Nat) (h:Au w X Y B hops settles 1 N es none) (hr:Aq N es=0) (hl:es.length<=800) (he:e<=16383) (hx:x<18446744073709551616) (hB:B<=w.heap.size) :
  Calls B_ 10 #[pt X,str (At [Af 7,dec e,dec x])] w λ r w'=>∃ nm A n c,r=.returned (Co (iX es e x:Nat) nm A n c none 0 0)/\Au w' X Y B hops settles 1 N (vq es e x) none/\Kept (λ j=>j=X\/j=Y) w w':=by
 by_cases lY:1<=x/\x<=4294967296
 ·by_cases hee:e<es.length
  ·have hf:iX es e x=0:=by unfold iX BW;rw[if_pos lY,if_pos (by omega),if_pos (by omega)]
   refine(GD e x h (by omega) hr hl hee lY hB).mono ?_;rintro r w' ⟨g,rfl,_,hs,k⟩;exact⟨_,_,_,_,by rw[hf];rfl,by unfold vq;rw[if_pos hf];exact hs,k⟩
  ·have hf:iX es e x=8:=by unfold iX BW;rw[if_pos lY,if_neg (by omega)]
   refine(dm e x h (by omega) hr hl hee he lY hB).mono ?_;rintro r w' ⟨rfl,hs,k⟩;exact⟨[],none,0,0,by rw[hf];rfl,by unfold vq;rw[if_neg (by omega)];exact hs,k⟩
 ·have hf:iX es e x=2:=by unfold iX;rw[if_neg lY]
  refine(OG e x h (by omega) he hx lY).mono ?_;rintro r w' ⟨rfl,hs,k⟩;exact⟨[],none,0,0,by rw[hf];rfl,by unfold vq;rw[if_neg (by omega)];exact hs,k.mono λ j _ h=>.inl h⟩
section
variable {P:Program} {ops:Array Oper} {Q:Exit->Act->H_->Prop} {md:Region.Mode} {E:List Nat} {F:Nat->Prop}
theorem bK (i d j:Nat) {oi oj:Oper} {fuel:Nat} {listed:Array Bool} {T:Array J_} {D:List Deferred} {w:H_} (hi:ops[i]? = some oi) (hj:ops[j]? = some oj)
  (hr:Region.ready md ops listed=[i,j]) (hd:(ops[i]?).bind (·.dst)=some d) (vL:(ops[j]?).bind (·.dst)=none) (hw:Region.wanted oi (yielded ops T)=true) (BM:Region.wanted oj (yielded ops T)=true)
  (h:∀ K:Act->H_->Prop,(∀ (v:J_) (w':H_),(i∉E->Kept F w w')->AK P md ops E F Q fuel (listed.setIfInBounds i true) ⟨T.setIfInBounds d v,D⟩ w'->K (Act.put ⟨T,D⟩ (some d) v) w')->({ oi with dst:=some d }).wp P ⟨T,D⟩ w K Q)
  (h2:∀ K:Act->H_->Prop,(∀ (w':H_),(j∉E->Kept F w w')->AK P md ops E F Q fuel (listed.setIfInBounds j true) ⟨T,D⟩ w'->K ⟨T,D⟩ w')->({ oj with dst:=none }).wp P ⟨T,D⟩ w K Q):AK P md ops E F Q (fuel+1) listed ⟨T,D⟩ w:=by
 refine⟨λ h0=>(by rw[hr]at h0;cases h0),λ k hk=>?_⟩
 rw[hr]at hk
 rcases List.mem_cons.1 hk with rfl | hk
 ·skip;unfold wpOp;simp only[hi,hw,if_true];have e:({ oi with dst:=some d }:Oper)=oi:=(by rw[<- FG hi hd]);rw[<- e];refine .inl (Oper.wp_mono ?_ (h (λ a' w'=>∃ v,a'=Act.put ⟨T,D⟩ (some d) v/\(k∉E->Kept F w w')/\AK P md ops E F Q fuel (listed.setIfInBounds k true) ⟨T.setIfInBounds d v,D⟩ w') λ v w' h1 h2=>⟨v,rfl,h1,h2⟩));rintro a' w' ⟨v,rfl,h1,h2⟩;exact⟨h1,h2⟩
 ·obtain rfl:=List.mem_singleton.1 hk;unfold wpOp;simp only[hj,BM,if_true];have hdn:oj.dst=none:=by rw[hj]at vL;exact vL
  have e:({ oj with dst:=none }:Oper)=oj:=(by rw[<- hdn]);rw[<- e];refine .inl (Oper.wp_mono ?_ (h2 (λ a' w'=>a'=⟨T,D⟩/\(k∉E->Kept F w w')/\AK P md ops E F Q fuel (listed.setIfInBounds k true) ⟨T,D⟩ w') λ w' h1 h2=>⟨rfl,h1,h2⟩));rintro a' w' ⟨rfl,h1,h2⟩;exact⟨h1,h2⟩
end
abbrev uS:=Int×Nat
def cO (w:H_) (A:Option I_) (cs:List uS):Prop:=∀ (i:Nat) (x:uS),cs[i]? = some x->∃ b off,A=some ⟨b,off,none⟩/\b<w.heap.size/\w.cell? ⟨b,off+i*2,none⟩=some (i64 x.1)/\w.cell? ⟨b,off+i*2+1,none⟩=some (u64 (x.2:Int))
theorem cO.grew {w w':H_} {A:Option I_} {cs:List uS} (h:cO w A cs) (k:Ac w w'):cO w' A cs:=λ i x hx=>by
 obtain⟨b,off,hA,hb,h1,h2⟩:=h i x hx;exact⟨b,off,hA,Nat.lt_of_lt_of_le hb k.size,k.cell h1,k.cell h2⟩
def Lu (es:List AB):List uS->List AB
 | []=>es
 | (e,x)::cs=>Lu (if BW es e x=0 then BX es e.toNat x else es) cs
theorem nK (cs:List uS):∀ (es:List AB) (c:uS),Lu es (cs++[c])=(if BW (Lu es cs) c.1 c.2=0 then BX (Lu es cs) c.1.toNat c.2 else Lu es cs):=by
 induction cs with
 | nil=>intro es c;obtain⟨e,x⟩:=c;rfl
 | cons d cs ih=>intro es c;obtain⟨e,x⟩:=d;exact ih _ c
theorem zAY {α:Type} {l:List α} {k:Nat} {x:α} (h:l[k]? = some x):l.take (k+1)=l.take k++[x]:=by rw[List.take_add_one,h];rfl
def NZ (w:H_) (T:Nat) (A:Option I_) (es:List AB):Prop:=Bj w A es/\∀ a,A=some a->es≠[]->a.block<T\/∃ cur,Am w a.block 65 cur
theorem NZ.kept {F:Nat->Prop} {w w':H_} {T:Nat} {A:Option I_} {es:List AB} (h:NZ w T A es) (k:Kept F w w') (hF:∀ j,F j->T<=j/\∀ cur,¬ Am w j 65 cur):NZ w' T A es:=by
 by_cases he:es=[]
 ·subst he;exact⟨Bj.nil _ _,λ a _ h=>absurd rfl h⟩
 ·have no:∀ a,A=some a->¬ F a.block:=λ a ha hf=>by
   obtain⟨h1,h2⟩:=hF _ hf;rcases h.2 a ha he with h3 | ⟨cur,h3⟩
   ·omega
   ·exact h2 cur h3
  exact⟨h.1.kept k no,λ a ha _=>(h.2 a ha he).imp id λ ⟨cur,hc⟩=>⟨cur,hc.kept k (no a ha)⟩⟩
theorem NZ.grew {w w':H_} {T:Nat} {A:Option I_} {es:List AB} (h:NZ w T A es) (k:Ac w w'):NZ w' T A es:=h.kept k (λ _ h=>h.elim)
theorem NZ.own {w:H_} {B T:Nat} {A:Option I_} {n c:Nat} {es:List AB} (h:Bc w B (.slice A n c) es):NZ w T A es:=by
 obtain⟨A',c',hv,hr⟩:=h.row;injection hv with e1 _ _;subst e1;exact⟨hr,λ a ha _=>.inr (Ao h (k:=a.block) (by rw[ha];rfl)).2⟩
theorem Nl {w:H_} {X Y B:Nat} {hops settles:Int} {N:Nat} {es:List AB} {x:Hx} (h:Au w X Y B hops settles 2 N es (some x)):lJ N x.es x.rk x.ss x.out:=by
 obtain⟨left,done,_,⟨Ak,ck,ev,hv,c0,c1,c2,q⟩,_⟩:=h;obtain⟨H,_,_,hO,_⟩:=q.hier;exact hO
theorem Mk (f:Int) (nm:List UInt8) (A:Option I_) (n c:Nat) (A2:Option I_) (n2 c2:Nat) (W:H_):(Instr.field 42 (Co f nm A n c A2 n2 c2) 0).run B_ W=.ok (i64 f) W:=by kernel_rfl
structure MQ (w:H_) (T DL X Y B N:Nat) (AE AL AR:Option I_) (L cE M cL R cR:Nat) (es:List AB) (wr:H_):Prop where
 sess:Au wr X Y B 3 20 1 N es none
 gbox:∃ A c,Am wr DL 24 #[i64 N,.slice A es.length c]/\NZ wr T A es
 right:Aq N es=0/\es.length=L
 ask:Am wr T 28 #[i64 N,.slice AE L cE,.slice AL M cL,.slice AR R cR]
 out:Am wr (T+1) 24 #[i64 0,.slice none 0 0]
 kept:Ac w wr
 lt:w.heap.size=T/\T+1<X/\T+1<Y/\T+1<DL/\DL≠X/\DL≠Y/\B<=wr.heap.size
theorem MQ.move {w wr wx:H_} {T DL X Y B N:Nat} {AE AL AR:Option I_} {L cE M cL R cR:Nat} {es es2:List AB} {F:Nat->Prop} (h:MQ w T DL X Y B N AE AL AR L cE M cL R cR es wr) (k:Kept F wr wx) (hF:∀ j,F j->j=X\/j=Y\/j=DL) (hs:Au wx X Y B 3 20 1 N es2 none) (hg:∃ A c,Am wx DL 24 #[i64 N,.slice A es2.length c]/\NZ wx T A es2) (hr:Aq N es2=0/\es2.length=L) (hXY:w.heap.size<=X/\w.heap.size<=Y/\w.heap.size<=DL):MQ w T DL X Y B N AE AL AR L cE M cL R cR es2 wx:=by
 obtain⟨l1,l2,l3,l4,l5,l6,l7⟩:=h.lt;have n1:¬ F T:=λ hf=>by rcases hF _ hf with e | e | e<;>omega
 have n2:¬ F (T+1):=λ hf=>by rcases hF _ hf with e | e | e<;>omega
 exact⟨hs,hg,hr,h.ask.kept k n1,h.out.kept k n2,h.kept.then k λ i hi hf=>by rcases hF _ hf with e | e | e<;>omega,l1,l2,l3,l4,l5,l6,A_ l7 k.size⟩
theorem MQ.grew {w wr wx:H_} {T DL X Y B N:Nat} {AE AL AR:Option I_} {L cE M cL R cR:Nat} {es:List AB} (h:MQ w T DL X Y B N AE AL AR L cE M cL R cR es wr) (k:Ac wr wx):MQ w T DL X Y B N AE AL AR L cE M cL R cR es wx:=by
 obtain⟨l1,l2,l3,l4,l5,l6,l7⟩:=h.lt;exact h.move k (λ _ h=>h.elim) (h.sess.grew k) (h.gbox.imp λ A h=>h.imp λ c h=>⟨h.1.grew k,h.2.grew k⟩) h.right (by omega)
theorem nj (es:List AB) (e x:Nat):(iX es e x=0/\BW es e x=0/\1<=x/\x<=4294967296/\e<es.length)\/(iX es e x=8/\BW es e x=8/\1<=x/\x<=4294967296)\/(iX es e x=2/\(BW es e x=2\/BW es e x=8)/\¬ (1<=x/\x<=4294967296)):=by
 unfold iX BW;by_cases h1:1<=x/\x<=4294967296
 ·have yh:1<=(x:Int)/\(x:Int)<=4294967296:=(by omega);by_cases h2:e<es.length
  ·left;rw[if_pos h1,if_pos (by omega),if_pos yh];exact⟨rfl,rfl,h1.1,h1.2,h2⟩
  ·right;left;rw[if_pos h1,if_neg (by omega)];exact⟨rfl,rfl,h1.1,h1.2⟩
 ·right;right;have yh:¬ (1<=(x:Int)/\(x:Int)<=4294967296):=(by omega);rw[if_neg h1];refine⟨rfl,?_,h1⟩;by_cases h2:e<es.length
  ·left;rw[if_pos (by omega),if_neg yh]
  ·right;rw[if_neg (by omega)]
theorem K7 {n:Int} {es:List AB} {k:Nat} {x:Int} (h:Aq n es=0) (hk:k<es.length) (hx:1<=x/\x<=4294967296):Aq n (BX es k x)=0:=by
 obtain⟨h1,h2,h3,_⟩:=right_zero h;refine pZ h1 h2 (by rw[BO];exact h3) λ e he=>?_;unfold BX at he;rcases List.mem_or_eq_of_mem_set he with he | rfl
 ·exact Ch h he
 ·have hm:es.getD k (0,0,0)∈es:=by
   rw[Pa,zq hk];exact List.getElem_mem hk
  have:=Ch h hm;unfold Mb at this ⊢;simp only at this ⊢;omega
theorem NZ.sess {w w':H_} {X Y B:Nat} {hops settles:Int} {ph N:Nat} {es D8:List AB} {hx:Option Hx} {T:Nat} {A:Option I_} (h:NZ w T A D8) (hs:Au w X Y B hops settles ph N es hx) (k:Kept (λ j=>j=X\/j=Y) w w') (hT:T<=X/\T<=Y):NZ w' T A D8:=h.kept k λ j hj=>⟨by omega,λ cur hb=>by
 obtain⟨left,done,h1,⟨Ak,ck,ev,hv,c0,c1,c2,h2⟩,h3⟩:=hs;rcases hj with e | e
 ·subst e;exact Ay hb h1 (by decide) rfl
 ·subst e;exact Ay hb h2.blk (by decide) rfl⟩
theorem MQ.same {w wd wx:H_} {T DL X Y B N:Nat} {AE AL AR:Option I_} {L cE M cL R cR:Nat} {es:List AB} (h:MQ w T DL X Y B N AE AL AR L cE M cL R cR es wd) (k:Kept (λ j=>j=X\/j=Y) wd wx) (hs:Au wx X Y B 3 20 1 N es none):MQ w T DL X Y B N AE AL AR L cE M cL R cR es wx:=by
 obtain⟨l1,l2,l3,l4,l5,l6,l7⟩:=h.lt;obtain⟨A,c,hb,hg⟩:=h.gbox;exact h.move k (λ j hj=>hj.elim .inl λ h=>.inr (.inl h)) hs ⟨A,c,hb.kept k (show ¬ (DL=X\/DL=Y) by omega),hg.sess h.sess k (by omega)⟩ h.right (by omega)
theorem MQ.put {w wd wx wy:H_} {T DL X Y B N:Nat} {AE AL AR:Option I_} {L cE M cL R cR:Nat} {es fz:List AB} {A3:Option I_} {c3 B9:Nat} {cur:Array J_} (h:MQ w T DL X Y B N AE AL AR L cE M cL R cR es wd) (k:Kept (λ j=>j=X\/j=Y) wd wx) (hs:Au wx X Y B 3 20 1 N fz none) (hE:Bc wd B9 (.slice A3 L c3) fz) (hr:Aq N fz=0/\fz.length=L) (hx:Am wx DL 24 cur) (kT:Kept (λ j=>j=DL) wx wy) (hb:Am wy DL 24 #[i64 N,.slice A3 L c3]):MQ w T DL X Y B N AE AL AR L cE M cL R cR fz wy:=by
 obtain⟨l1,l2,l3,l4,l5,l6,l7⟩:=h.lt;have g1:NZ wx T A3 fz:=(NZ.own hE).sess h.sess k (by omega);have g2:NZ wy T A3 fz:=g1.kept kT λ j hj=>⟨by omega,λ cu FY=>Ay (hj▸FY) hx (by decide) rfl⟩;refine h.move (F:=λ j=>j=X\/j=Y\/j=DL) ((k.mono λ j _ hj=>hj.elim .inl λ h=>.inr (.inl h)).then kT λ j _ hj=>.inr (.inr hj)) (λ j hj=>hj) (hs.far kT (A8 hx (by decide))) ⟨A3,c3,by rw[hr.2];exact hb,g2⟩ hr (by omega)
theorem Nk {N:Nat} {es:List AB} {rk:List Int} {ss:List Sc} {out:List Int} (h:lJ N es rk ss out) (hN:N<=7) (hm:es.length<=22):ss.length<=1000:=by
 obtain⟨g,st⟩:=h.st;have h1:=st.len;rw[h.len]at h1;have h2:N*N*N<=7*7*7:=Nat.mul_le_mul (Nat.mul_le_mul hN hN) hN;omega
theorem KU:Bq []:=⟨λ x hx=>by simp at hx,Pf⟩
theorem cV (w:H_) (N:Nat) (AE AL AR:Option I_) (cE cL cR:Nat) (es:List AB) (cs:List uS) (rk:List Int) (hE:Bj w AE es) (hC:cO w AL cs) (hR:RowI w AR rk) (hr:Aq N es=0) (hN:N<=7) (hm:es.length<=22) (Et:cs.length<=20) (IK:rk.length<=60) (hx:∀ c∈cs,c.2<18446744073709551616) :
  Calls B_ 8 #[.agg #[i64 N,.slice AE es.length cE,.slice AL cs.length cL,.slice AR rk.length cR]] w λ e w'=>∃ X Y B A c x,e=.returned (.tuple #[pt X,.agg #[i64 N,.slice A es.length c],.bool true])/\Au w' X Y B 3 20 2 N (Lu es cs) (some x)/\x.es=Lu es cs/\Bj w' A (Lu es cs)/\Aq N (Lu es cs)=0/\(Lu es cs).length=es.length/\B<=w'.heap.size/\w.heap.size<=X/\w.heap.size<=Y/\Ac w w'/\(∀ a,A=some a->Lu es cs≠[]->a.block<w.heap.size\/∃ cur,Am w' a.block 65 cur):=by
 obtain⟨i0,hi,Cu,BV,Cj⟩:=info_parts C6
 obtain⟨T,hT⟩:=zn (w.heap.size)
 obtain⟨L,hL⟩:=zn (es.length)
 obtain⟨M,hM⟩:=zn (cs.length)
 obtain⟨R,jo⟩:=zn (rk.length)
 obtain⟨w1,AQ⟩:=zn ((w.alloc (.cells #[i64 N,.slice AE L cE,.slice AL M cL,.slice AR R cR] 28)).alloc (.cells #[i64 0,.slice none 0 0] 24))
 have g1:Ac w w1:=by rw[<- AQ];exact((zr _ _).alloc _).alloc _
 have b0:Am w1 T 28 #[i64 N,.slice AE L cE,.slice AL M cL,.slice AR R cR]:=by rw[<- AQ,<-hT];exact(zv w _ _).alloc _
 have b1:Am w1 (T+1) 24 #[i64 0,.slice none 0 0]:=by
  rw[<- AQ,<-hT];have h:=zv (w.alloc (.cells #[i64 N,.slice AE L cE,.slice AL M cL,.slice AR R cR] 28)) 24 #[i64 0,.slice none 0 0];rw[World.size_alloc]at h;exact h
 have LV:w1.heap.size=T+2:=by rw[<- AQ,<-hT];simp
 have HN:=zh (ML 3 20 w1 (by omega) (by omega))
 have xF:=zh (λ W (k:Ac w W)=>NH AE cE N es W (hE.grew k) hr (by omega))
 have HJo:=zh (λ A c W (h:CU W A (Af 0::AJ N es))=>aM A c (Af 0::AJ N es) W h (λ x hx=>by
  rcases List.mem_cons.1 hx with rfl | hx
  ·exact(Ev (by omega)).1
  ·exact MO N es x hx) (by rw[N_,CX];omega) (by
  have h1:=EO (Af 0) (AJ N es) 10 (MN N es hr (by omega));have h2:(Af 0).length=4:=rfl;rw[CX]at h1;omega))
 have hWl:(AJ N es).length=2+3*L:=by rw[CX,hL]
 rw[N_,hWl]at HJo
 have rM:=Mk
 have tf:L<=22:=by omega
 have H0:=JQ hE hC hR hr hx g1
 have bP:=JQ hL hM jo hN Et IK
 have lH:=BP b0 b1
 rw[hL]at xF
 rw[hL,hM,jo]
 rw[hM]at Et
 rw[jo]at IK
 have x0:=b0.cell 0
 have x1:=b0.cell 1
 simp at x0 x1
 clear hE hC hR hr hm hx g1 b0 b1 hL hM jo
 go_enter Tryz.func8,Tryz.ntmps8
 go_wp2_with fail
 have e0:(w.alloc (.cells #[.int .i64 N,.slice AE L cE,.slice AL M cL,.slice AR R cR] 28)).alloc (.cells #[.int .i64 0,.slice none 0 0] 24)=w1:=AQ
 try rw [e0]
 try rw [hT]
 clear e0 AQ
 refine HN.out.mono ?_
 rintro e w2 ⟨X,Y,rfl,hX,hY,F9,g2⟩
 obtain⟨B,hB⟩:=zn (w2.heap.size)
 rw[hB]at F9
 have x0:=g2.cell x0
 have x1:=g2.cell x1
 have G2:=Gt F9 hX hY g2 hB
 clear HN F9 hX hY g2 hB
 go_wp2_with fail
 refine(xF.out _ (H0.out.2.2.2.2.2.trans G2.out.2.2.2.1)).mono ?_
 rintro e w3 ⟨v,rfl,ho,g3⟩
 obtain⟨Av,cv,rfl⟩:=Ap ho
 have G3:=BP ho g3
 have x0:=g3.cell x0
 have x1:=g3.cell x1
 rw[CX,bP.out.1]
 obtain⟨w4,D6,g4⟩:=zg w3 (.cells #[str (Af 0)] 9)
 have o4:BD w4 w3.heap.size (.slice (some ⟨w3.heap.size,0,none⟩) 1 1) [Af 0]:=by
  rw[<- D6];exact⟨rfl,.inr ⟨w3.heap.size,1,#[str (Af 0)],rfl,zl _,heap_alloc_new _ _,zl _,by unfold maxLen;omega,rfl,rfl⟩⟩
 obtain⟨A5,c5,hv5,Ia⟩:=(ho.grew g4).row
 have e5:Av=A5:=by injection hv5
 subst e5
 obtain⟨b5,o5,JG⟩:∃ b5 o5,Av=some ⟨b5,o5,none⟩:=by
  obtain⟨x,hx⟩:=zx (l:=(AJ N es)) (i:=0) (by omega);obtain⟨b,off,h1,_⟩:=Ia 0 x hx;exact⟨b,off,h1⟩
 subst JG
 have wm:Jm w4 (some ⟨b5,o5,none⟩) ((AJ N es).map str):=λ j u hu=>by
  rw[List.getElem?_map]at hu;obtain⟨x,hx,rfl⟩:=Option.map_eq_some_iff.1 hu;exact Ia j x hx
 have hN5:=wm.news
 have EI:∀ u∈(AJ N es).map str,u.oneCell'=true:=λ u hu=>by
  obtain⟨x,_,rfl⟩:=L_.1 hu;rfl
 have O4:=DK o4 hN5 g4
 have e4:w3.alloc (.cells #[.string ⟨#[76,79,65,68]⟩] 9)=w4:=D6
 have DY:((AJ N es).map str).length=(2+3*L)*1:=by rw[Pe,hWl];omega
 have Ni:w3.heap.size<=w4.heap.size:=g4.size
 clear xF ho g3 o4 Ia hN5 g4 D6 wm
 go_wp2_with (at_builtin;refine wpList_append_own _ rfl (.tmp 31) (.tmp 32) 40 (by rfl) w3.heap.size 9 i0 (.string ⟨#[]⟩) 1 16 Tryz.underlying40 hi Cu BV Cj (by rfl) (by omega) (.slice (some ⟨w3.heap.size,0,none⟩) 1 1) 1 [str (Af 0)] rfl O4.out.1 ⟨b5,o5,none⟩ (2+3*L) cv ((AJ N es).map str) rfl DY O4.out.2.1 EI (by unfold maxLen;omega) (by omega) (by omega) ?_;intro v' w5 AV hg _;have HO:=zh (show _/\_ from ⟨AV,hg⟩);obtain⟨A6,c6,hv6⟩:=Ap AV;clear AV hg EI DY e4;subst hv6)
 have lV:CU w5 A6 (Af 0::AJ N es):=by
  have ho:BD w5 w3.heap.size (.slice A6 (1+(2+3*L)) c6) (Af 0::AJ N es):=by
   unfold BD;rw[N_,hWl,Nat.add_comm (2+3*L) 1];exact HO.out.1
  obtain⟨A7,c7,hv7,hr7⟩:=ho.row;injection hv7 with e1 _ _;rw[e1];exact hr7
 have g5:Ac w3 w5:=Kept.grown O4.out.2.2 HO.out.2 (λ k hk=>.inr (by cases hk;exact zl _))
 have g15:Ac w1 w5:=G2.out.2.2.2.1.trans (G3.out.2.trans g5)
 have hs:=G2.out.1.grew (G3.out.2.trans g5)
 have hB5:B<=w5.heap.size:=by have:=(G3.out.2.trans g5).size;have:=G2.out.2.2.2.2;omega
 have x0:=g5.cell x0
 have x1:=g5.cell x1
 have MU:=zh (Kd N es hs (by omega) H0.out.2.2.2.1 (by have:=bP.out.1;omega) hB5)
 have G5:=DK g15 hB5 hs.lt
 rw[show 1+(2+3*L)=2+3*L+1 from by omega]
 refine(HJo.out A6 c6 w5 lV).mono ?_
 rintro e w9 ⟨rfl,rfl⟩
 have K5:=zh (show Ac w1 w5 from g15)
 clear HO lV g5 g15 hs hB5 O4 G3 HJo Ni hWl
 go_wp2_with fail
 refine MU.out.mono ?_
 rintro e w6 ⟨gq,rfl,_,wo,k6⟩
 clear MU
 have q1:=zh (show w.heap.size<=X/\w.heap.size<=Y/\T+1<X/\T+1<Y from by
  have h1:=G2.out.2.1;have h2:=G2.out.2.2.1;omega)
 have nT:¬ (T=X\/T=Y):=by have:=q1.out;omega
 have x0:=k6.cell x0 nT
 have x1:=k6.cell x1 nT
 have x0':w6.cell? ⟨T,0,none⟩=some (i64 N):=x0
 have g6:Ac w w6:=(H0.out.2.2.2.2.2.trans K5.out).then k6 λ i hi h=>by have:=q1.out;omega
 have b06:=((lH.out.1.grew K5.out).kept k6 nT)
 have LM:=((lH.out.2.grew K5.out).kept k6 (show ¬ (T+1=X\/T+1=Y) from by have:=q1.out;omega))
 have hB6:B<=w6.heap.size:=A_ G5.out.2.1 k6.size
 obtain⟨DL,hT11⟩:=zn (w6.heap.size)
 obtain⟨w7,hw7,vA⟩:=zg w6 (.cells #[.int .i64 N,.slice AE L cE] 24)
 have bg7:Am w7 DL 24 #[i64 N,.slice AE L cE]:=by rw[<- hw7,<-hT11];exact zv _ _ _
 have lt6:=wo.lt
 have szT:T+1<w6.heap.size:=LM.lt
 have zAB:Lu es (cs.take 0)=es:=by rw[List.take_zero];rfl
 have S7:Hid (MQ w T DL X Y B N AE AL AR L cE M cL R cR (Lu es (cs.take 0)) w7):=by
  rw[zAB];refine⟨wo.grew vA,⟨AE,cE,by rw[bP.out.1];exact bg7,H0.out.1.grew (g6.trans vA),λ a ha Bm=>.inl ?_⟩,⟨H0.out.2.2.2.1,bP.out.1⟩,b06.grew vA,LM.grew vA,g6.trans vA,⟨hT,by have:=q1.out;omega,by have:=q1.out;omega,by omega,by omega,by omega,A_ hB6 vA.size⟩⟩;obtain⟨x,hx⟩:∃ x,es[0]? = some x:=⟨_,zq (List.length_pos_iff.2 Bm)⟩;obtain⟨b,off,h1,h2,_⟩:=H0.out.1 0 x hx;rw[h1]at ha;cases ha;rw[<- hT];exact h2
 have G67:=zh vA
 clear wo k6 b06 LM g6 hB6 vA bg7 lt6 szT K5 G5 G2 lH
 go_wp2_with fail
 clear hw7 hT11 x0 x0' x1
 go_loopw [12,13,14,15,16] (λ i v13 v14 v15 v16 wr=>∃ k:Nat,k<=M/\i=.int .i64 k/\Hid (MQ w T DL X Y B N AE AL AR L cE M cL R cR (Lu es (cs.take k)) wr)) (λ i _ _ _ _ _=>M-(intOf i).toNat)
 case atStart=>exact⟨0,by omega,rfl,S7⟩
 case round =>
  clear S7;obtain⟨s64,No⟩:∃ s,s=u64:=⟨u64,rfl⟩;subst No;obtain⟨k,hk,rfl,hS⟩:=hrel;obtain⟨D8,oh⟩:∃ e,Lu es (cs.take k)=e:=⟨_,rfl⟩;rw[oh]at hS;have r1:=hS.out.ask.cell 1;have r2:=hS.out.ask.cell 2;simp at r1 r2;by_cases AH:k<M
  ·have k0:(0:Int)<=(k:Int):=(by omega);have k1':(k:Int)<(M:Int):=(by omega);obtain⟨⟨E,x⟩,hx⟩:∃ x,cs[k]? = some x:=⟨_,zq (by rw[bP.out.2.1];exact AH)⟩;have hxl:x<18446744073709551616:=H0.out.2.2.2.2.1 _ (zm hx);have yI:Lu es (cs.take (k+1))=if BW D8 E x=0 then BX D8 E.toNat x else D8:=(by rw[zAY hx,nK,oh]);obtain⟨b,off,hA,hb,c0,c1⟩:=(H0.out.2.1.grew hS.out.kept) k _ hx;have Mo:=zh hA;subst hA;obtain⟨Ag,cg,hbg,hga⟩:=hS.out.gbox;obtain⟨oV,LA⟩:=hS.out.right;obtain⟨hF,hhF⟩:=zn (BW D8 E x);obtain⟨fz,yF⟩:=zn (BX D8 E.toNat x);have HW:Hid (∀ W,Ac wr W->Calls B_ 16 #[.agg #[i64 N,.slice Ag L cg],i64 E,u64 x] W λ r w'=>∃ gn A' L' c',r=.returned (.tuple #[.agg #[i64 gn,.slice A' L' c'],i64 (hF:Int)])/\(hF=0->gn=N/\L'=L/\∃ B9,Bc w' B9 (.slice A' L' c') fz)/\Ac W w'):=λ W k=>by
    have h:=aR (N:Int) Ag cg D8 E x W (hga.1.grew k) (by omega) oV;rw[LA,hhF,yF]at h;refine h.mono ?_;rintro r w' ⟨gn,A',L',c',rfl,hh,g⟩;exact⟨gn,A',L',c',rfl,λ h0=>(hh h0).imp id λ h=>h.imp id λ h=>⟨_,h⟩,g⟩
   rw[LA]at hbg;obtain⟨y0,y1⟩:=CE hbg;have MS:Hid (∀ w',Ac wr w'->w'.cell? ⟨T,2,none⟩=some (.slice (some ⟨b,off,none⟩) M cL)/\w'.cell? ⟨b,off+k*2,none⟩=some (i64 E)/\w'.cell? ⟨b,off+k*2+1,none⟩=some (u64 x)/\w'.cell? ⟨DL,0,none⟩=some (i64 N)/\w'.cell? ⟨DL,1,none⟩=some (.slice Ag L cg)):=λ w' g=>⟨g.cell r2,g.cell c0,g.cell c1,g.cell y0,g.cell y1⟩;have gz:Ac wr wr.drew:=(zr _ _).drew;have H8:=zh (show _/\_/\_/\_/\_/\_/\_ from ⟨yI,hhF,yF,oV,LA,hga,hx⟩);have iu:=zh MS.out;clear hx yI c0 c1 hbg hga y0 y1 oV LA oh hhF yF r1 hb;go_upto_region 10 with fail;clear r2;go_cut [13,14] from 53 to 136 (λ v13 v14 wx=>∃ It gn A3 L3 c3,v13=pt It/\v14=i64 (hF:Int)/\Hid (Am wx It 24 #[i64 gn,.slice A3 L3 c3]/\Ac wr wx/\wr.heap.size<=It/\(hF=0->gn=N/\L3=L/\∃ B9,Bc wx B9 (.slice A3 L3 c3) fz)))
   case first =>
    refine rG [18] (λ _=>False) ?_;refine tF 0 61 MS.out gz ?_;refine pG 1 62 ?_;refine tF 2 63 MS.out gz ?_;refine pG 3 64 ?_;refine pG 4 65 ?_;refine pG 5 66 ?_;refine tF 6 67 MS.out gz ?_;refine pG 7 68 ?_;refine tF 8 69 MS.out gz ?_;refine pG 9 70 ?_;refine pG 10 71 ?_;refine pG 11 72 ?_;refine tF 12 73 MS.out gz ?_;refine AP 13 74 17 13 rfl rfl (by kernel_rfl) rfl rfl (by rfl) (by rfl) (λ K Aj=>?_) (λ K Aj=>?_)
    ·skip;go_simp;refine(HW.out _ (gz)).mono ?_;rintro e y1 ⟨gn,A3,L3,c3,rfl,Dj,k1⟩;refine Aj (.tuple #[.agg #[i64 gn,.slice A3 L3 c3],i64 (hF:Int)]) _ (λ _=>k1) ?_;clear Aj;simp only[sA];refine pG 14 60 ?_;refine pG 15 75 ?_;refine pG 16 76 ?_;refine sG 17 13 (λ K Aj=>?_);go_simp;obtain⟨It,Nh⟩:=zn ((Pk y1).size);obtain⟨y2,DC⟩:=zn ((Pj y1 (.cells #[.int .i64 0,.slice none 0 0] 24)));have k2:Ac y1 y2:=by rw[<- DC];exact Ha _ _ _
     have bT:Am y2 It 24 #[i64 0,.slice none 0 0]:=by rw[<- DC,<-Nh];exact zv _ _ _
     have hTg:wr.heap.size<=It:=by rw[<- Nh];exact k1.size
     rw[DC,Nh];clear DC Nh;have Dj:=λ h=>(Dj h).imp id λ h=>h.imp id λ h=>h.imp λ _ h=>Ac.own k2 h;refine Aj (pt It) _ (λ _=>k2) ?_;clear Aj;simp only[sA];refine DH 18 (λ K Aj=>?_);have MR:=zh bT;have mx:=DK (gz.trans (k1.trans k2)) hTg Dj;clear hTg bT;refine wp_store_row 24 (.tmp 13) (.tmp 75) rfl It #[i64 gn,.slice A3 L3 c3] rfl rfl 24 _ MR.out (by kernel_rfl) rfl (AF (by simp[G_])) ?_;refine Aj _ (λ h=>absurd (by simp) h) ?_;clear Aj;refine pG 19 14 ?_;refine dG ?_;have t7:=MR.out.setRow #[i64 gn,.slice A3 L3 c3];obtain⟨y3,DQ⟩:=zn (y2.setRow It #[i64 gn,.slice A3 L3 c3]);rw[DQ]at t7;have kT:Kept (λ j=>j=It) y2 y3:=by rw[<- DQ];exact(zr (λ j=>j=It) _).setRow (.inl rfl) _
     have Jr:Ac wr y3:=by rw[<- DQ];exact mx.out.1.setRow (.inr mx.out.2.1) _
     have HF:Hid (Am y3 It 24 #[i64 gn,.slice A3 L3 c3]/\Ac wr y3/\wr.heap.size<=It/\(hF=0->gn=N/\L3=L/\∃ B9,Bc y3 B9 (.slice A3 L3 c3) fz)):=by
      refine⟨t7,Jr,mx.out.2.1,λ h0=>?_⟩;obtain⟨h1,h2,B9,h3⟩:=mx.out.2.2 h0;refine⟨h1,h2,B9,Kept.own kT h3 λ j hj e=>?_⟩;obtain⟨_,cur,hc⟩:=Ao h3 hj;exact Ay (show Am y2 j 65 cur from hc) MR.out (by decide) e
     clear t7 kT Jr mx MR MS iu H8 HW;rw[DQ];go_wp2_with fail;go_meet;exact⟨It,gn,A3,L3,c3,rfl,rfl,HF⟩
    ·skip;go_simp;obtain⟨It,Nh⟩:=zn ((Pk wr).size);obtain⟨y1,Br⟩:=zn ((Pj wr (.cells #[.int .i64 0,.slice none 0 0] 24)).drew);have k1:Ac wr.drew y1:=by rw[<- Br];exact Kept.newD _ _ _
     have bT:Am y1 It 24 #[i64 0,.slice none 0 0]:=by rw[<- Br,<-Nh];exact zv _ _ _
     have hTg:wr.heap.size<=It:=by rw[<- Nh];exact zl _
     rw[Br,Nh];clear Br Nh;refine Aj (pt It) _ (λ _=>k1) ?_;clear Aj;simp only[sA];refine sG 13 74 (λ K Aj=>?_);go_simp;refine(HW.out _ ((gz.trans k1))).mono ?_;rintro e y2 ⟨gn,A3,L3,c3,rfl,Dj,k2⟩;have bT:=bT.grew k2;refine Aj (.tuple #[.agg #[i64 gn,.slice A3 L3 c3],i64 (hF:Int)]) _ (λ _=>k2) ?_;clear Aj;simp only[sA];refine pG 14 60 ?_;refine pG 15 75 ?_;refine pG 16 76 ?_;refine DH 18 (λ K Aj=>?_);have MR:=zh bT;have mx:=DK (gz.trans (k1.trans k2)) hTg Dj;clear hTg bT;refine wp_store_row 24 (.tmp 13) (.tmp 75) rfl It #[i64 gn,.slice A3 L3 c3] rfl rfl 24 _ MR.out (by kernel_rfl) rfl (AF (by simp[G_])) ?_;refine Aj _ (λ h=>absurd (by simp) h) ?_;clear Aj;refine pG 19 14 ?_;refine dG ?_;have t7:=MR.out.setRow #[i64 gn,.slice A3 L3 c3];obtain⟨y3,DQ⟩:=zn (y2.setRow It #[i64 gn,.slice A3 L3 c3]);rw[DQ]at t7;have kT:Kept (λ j=>j=It) y2 y3:=by rw[<- DQ];exact(zr (λ j=>j=It) _).setRow (.inl rfl) _
     have Jr:Ac wr y3:=by rw[<- DQ];exact mx.out.1.setRow (.inr mx.out.2.1) _
     have HF:Hid (Am y3 It 24 #[i64 gn,.slice A3 L3 c3]/\Ac wr y3/\wr.heap.size<=It/\(hF=0->gn=N/\L3=L/\∃ B9,Bc y3 B9 (.slice A3 L3 c3) fz)):=by
      refine⟨t7,Jr,mx.out.2.1,λ h0=>?_⟩;obtain⟨h1,h2,B9,h3⟩:=mx.out.2.2 h0;refine⟨h1,h2,B9,Kept.own kT h3 λ j hj e=>?_⟩;obtain⟨_,cur,hc⟩:=Ao h3 hj;exact Ay (show Am y2 j 65 cur from hc) MR.out (by decide) e
     clear t7 kT Jr mx MR MS iu H8 HW;rw[DQ];go_wp2_with fail;go_meet;exact⟨It,gn,A3,L3,c3,rfl,rfl,HF⟩
   case rest =>
    obtain⟨s64,No⟩:∃ s,s=u64:=⟨u64,rfl⟩;subst No;obtain⟨wd,zB⟩:∃ w,w=wc:=⟨wc,rfl⟩;subst zB;obtain⟨It,gn,A3,L3,c3,rfl,rfl,hC⟩:=hcut;clear HW MS gz;obtain⟨p0,p1,p2,-,-⟩:=iu.out wd hC.out.2.1;have skip:BW D8 E x≠0->Hid (MQ w T DL X Y B N AE (some ⟨b,off,none⟩) AR L cE M cL R cR (Lu es (cs.take (k+1))) wd):=λ h0=>by
     rw[H8.out.1,if_neg h0];exact hS.out.grew hC.out.2.1
    have HSk:=zh skip;clear skip;by_cases hE0:E<0
    ·have d1:decide (E<0)=true:=zt hE0;have S':=HSk.out (by unfold BW;rw[if_neg (by omega)];decide);clear HSk hC H8 iu;go_wp2_with fail;go_roundw
     case rel=>exact⟨k+1,by omega,by go_num,S'⟩
     case measure=>simp[intOf];omega
    have d1:decide (E<0)=false:=zf hE0;by_cases cl:16384<=E
    ·have d2:decide (16384<=E)=true:=zt cl;have S':=HSk.out (by have:=H8.out.2.2.2.2.1;unfold BW;rw[if_neg (by omega)];decide);clear HSk hC H8 iu;go_wp2_with fail;go_roundw
     case rel=>exact⟨k+1,by omega,by go_num,S'⟩
     case measure=>simp[intOf];omega
    have d2:decide (16384<=E)=false:=zf cl;obtain⟨e',rfl⟩:=Int.eq_ofNat_of_zero_le (show 0<=E by omega);clear HSk iu;have hb0:b<w.heap.size:=by
     obtain⟨b',uv,N7,FY,_⟩:=H0.out.2.1 k _ H8.out.2.2.2.2.2.2;cases N7;exact FY
    obtain⟨l1,l2,l3,l4,l5,l6,l7⟩:=hS.out.lt;have hlt2:=hS.out.sess.lt;have Df:=hC.out.2.1.size;have q1':=q1.out;have rD:=zh (show X<wd.heap.size/\Y<wd.heap.size from ⟨by omega,by omega⟩);have LG:Hid (∀ w',Kept (λ j=>j=X\/j=Y) wd w'->w'.cell? ⟨T,2,none⟩=some (.slice (some ⟨b,off,none⟩) M cL)/\w'.cell? ⟨b,off+k*2,none⟩=some (i64 e')/\w'.cell? ⟨b,off+k*2+1,none⟩=some (u64 x)):=λ w' g=>⟨g.cell p0 (show ¬ (T=X\/T=Y) by omega),g.cell p1 (show ¬ (b=X\/b=Y) by omega),g.cell p2 (show ¬ (b=X\/b=Y) by omega)⟩;obtain⟨fF,hfF⟩:=zn (iX D8 e' x);obtain⟨eN,heN⟩:=zn (vq D8 e' x);have xr:=zh (λ W=>Fa e' (by omega) W);have uY:=zh (λ W=>CG x hxl W);have MU:Hid (∀ W,Ac wd W->Calls B_ 10 #[pt X,str (At [Af 7,dec e',dec x])] W λ r w'=>∃ nm A n c,r=.returned (Co (fF:Int) nm A n c none 0 0)/\Au w' X Y B 3 20 1 N eN none/\Kept (λ j=>j=X\/j=Y) W w'):=λ W g=>by
     have h:=Na e' x ((hS.out.sess.grew hC.out.2.1).grew g) H8.out.2.2.2.1 (by have:=H8.out.2.2.2.2.1;omega) (by omega) hxl (A_ l7 (A_ Df g.size));rw[hfF,heN]at h;exact h
    have HF8:=BP hfF heN;obtain⟨l1',tH⟩:∃ l,[83,69,84,87,32]++dec e'=l:=⟨_,rfl⟩;obtain⟨l2',tI⟩:∃ l,l1'++[32]=l:=⟨_,rfl⟩;obtain⟨l3',yN⟩:∃ l,l2'++dec x=l:=⟨_,rfl⟩;have oD:At [Af 7,dec e',dec x]=l3':=by
     rw[<- yN,<-tI,<-tH];show [83,69,84,87]++C7 [dec e',dec x]=_;rw[Fh,Fh];simp[C7]
    have hz1':(dec e').length<=20:=BL (by omega);have hz2':(dec x).length<=20:=BL hxl;have hz3':l1'.length<=25:=by rw[<- tH];simp;omega
    have hz4':l2'.length<=26:=by rw[<- tI];simp;omega
    have wJ:¬ 9223372036854775807<5+(bs (dec e')).size:=by rw[AT];omega
    have um:¬ 9223372036854775807<(bs l1').size+1:=by rw[AT];omega
    have wK:¬ 9223372036854775807<(bs l2').size+(bs (dec x)).size:=by rw[AT,AT];omega
    have r1':(⟨#[83,69,84,87,32]⟩:ByteArray)++bs (dec e')=bs l1':=by rw[<- tH];exact AI [83,69,84,87,32] _
    have r2':bs l1'++(⟨#[32]⟩:ByteArray)=bs l2':=by rw[<- tI];exact AI _ [32]
    have r3':bs l2'++bs (dec x)=bs l3':=by rw[<- yN];exact AI _ _
    rw[oD]at MU;clear tH tI yN oD hz1' hz2' hz3' hz4';have FX:Kept (λ j=>j=X\/j=Y) wd wd.drew:=(zr _ _).drew;have LO:Ac wd wd.drew:=(zr _ _).drew;clear hfF heN hb0 l1 l2 l3 l4 l5 l6 l7 hlt2 Df q1';go_upto_region 12 with fail;clear d1 d2 p0 p1 p2;go_cut [15] from 53 to 136 (λ v15 wx=>∃ Cv G8 A9 n9 c9,v15=pt Cv/\Hid (Am wx Cv 42 #[i64 (fF:Int),str G8,.slice A9 n9 c9,.slice none 0 0,.slice none 0 0]/\Au wx X Y B 3 20 1 N eN none/\Kept (λ j=>j=X\/j=Y) wd wx/\wd.heap.size<=Cv))
    case first =>
     refine rG [20] (λ j=>j=X\/j=Y) ?_;refine pG 0 93 ?_;refine pG 1 94 ?_;refine tF 2 95 LG.out FX ?_;refine pG 3 96 ?_;refine pG 4 97 ?_;refine pG 5 98 ?_;refine tF 6 99 LG.out FX ?_;refine pG 10 103 ?_;refine tF 11 104 LG.out FX ?_;refine pG 12 105 ?_;refine pG 13 106 ?_;refine pG 14 107 ?_;refine tF 15 108 LG.out FX ?_;refine AP 7 100 19 15 rfl rfl (by kernel_rfl) rfl rfl (by rfl) (by rfl) (λ K Aj=>?_) (λ K Aj=>?_)
     ·skip;go_simp;refine(xr.out _).mono ?_;rintro e v1 ⟨rfl,zQ⟩;have j1:=Ac.kept (F:=λ j=>j=X\/j=Y) zQ;refine Aj (str (dec e')) _ (λ _=>j1) ?_;clear Aj;simp only[sA];refine pG 8 101 ?_;refine pG 9 102 ?_;refine AP 16 109 19 15 rfl rfl (by kernel_rfl) rfl rfl (by rfl) (by rfl) (λ K Aj=>?_) (λ K Aj=>?_)
      ·skip;go_simp;refine(uY.out _).mono ?_;rintro e v2 ⟨rfl,rV⟩;have j2:=Ac.kept (F:=λ j=>j=X\/j=Y) rV;refine Aj (str (dec x)) _ (λ _=>j2) ?_;clear Aj;simp only[sA];refine pG 17 110 ?_;refine AP 18 111 19 15 rfl rfl (by kernel_rfl) rfl rfl (by rfl) (by rfl) (λ K Aj=>?_) (λ K Aj=>?_)
       ·skip;go_simp;refine(MU.out _ ((LO.trans zQ).trans rV)).mono ?_;rintro e v3 ⟨G8,A9,n9,c9,rfl,IM,j3⟩;have pg:=j3;refine Aj (Co (fF:Int) G8 A9 n9 c9 none 0 0) _ (λ _=>j3) ?_;clear Aj;simp only[sA];refine sG 19 15 (λ K Aj=>?_);go_simp;obtain⟨Cv,Eg⟩:=zn ((Pk v3).size);obtain⟨v4,Fs⟩:=zn ((Pj v3 (.cells #[.int .i64 0,.string ⟨#[]⟩,.slice none 0 0,.slice none 0 0,.slice none 0 0] 42)));have jG4:Ac v3 v4:=by rw[<- Fs];exact Ha _ _ _
        have j4:=Ac.kept (F:=λ j=>j=X\/j=Y) jG4;have bT:Am v4 Cv 42 #[i64 0,.string ⟨#[]⟩,.slice none 0 0,.slice none 0 0,.slice none 0 0]:=by rw[<- Fs,<-Eg];exact zv _ _ _
        have FI:wd.heap.size<=Cv:=by rw[<- Eg];exact((((FX.trans j1).trans j2).trans j3)).size
        have km:¬ (Cv=X\/Cv=Y):=by have:=rD.out;omega
        rw[Fs,Eg];clear Fs Eg;have IM:=IM.grew jG4;refine Aj (pt Cv) _ (λ _=>j4) ?_;clear Aj;simp only[sA];refine DH 20 (λ K Aj=>?_);have EU:=zh bT;have JT:=zh (show Kept (λ j=>j=X\/j=Y) wd v4/\Au v4 X Y B 3 20 1 N eN none/\wd.heap.size<=Cv from ⟨((((FX.trans j1).trans j2).trans j3).trans j4),IM,FI⟩);clear bT IM FI;refine wp_store_row 42 (.tmp 15) (.tmp 111) rfl Cv #[i64 (fF:Int),str G8,.slice A9 n9 c9,.slice none 0 0,.slice none 0 0] rfl rfl 42 _ EU.out (by kernel_rfl) rfl (AF (by simp[G_])) ?_;refine Aj _ (λ h=>absurd (by simp) h) ?_;clear Aj;refine dG ?_;have t7:=EU.out.setRow #[i64 (fF:Int),str G8,.slice A9 n9 c9,.slice none 0 0,.slice none 0 0];obtain⟨y5,Ns⟩:=zn (v4.setRow Cv #[i64 (fF:Int),str G8,.slice A9 n9 c9,.slice none 0 0,.slice none 0 0]);rw[Ns]at t7;have kT:Kept (λ j=>j=Cv) v4 y5:=by rw[<- Ns];exact(zr (λ j=>j=Cv) _).setRow (.inl rfl) _
        have Jr:Kept (λ j=>j=X\/j=Y) wd y5:=by rw[<- Ns];exact JT.out.1.setRow (.inr JT.out.2.2) _
        have HF:Hid (Am y5 Cv 42 #[i64 (fF:Int),str G8,.slice A9 n9 c9,.slice none 0 0,.slice none 0 0]/\Au y5 X Y B 3 20 1 N eN none/\Kept (λ j=>j=X\/j=Y) wd y5/\wd.heap.size<=Cv):=⟨t7,JT.out.2.1.farT kT EU.out,Jr,JT.out.2.2⟩;clear t7 kT Jr JT EU LG xr uY MU;rw[Ns];go_wp2_with fail;go_meet;exact⟨Cv,G8,A9,n9,c9,rfl,HF⟩
       ·skip;go_simp;obtain⟨Cv,Eg⟩:=zn ((Pk v2).size);obtain⟨v3,DQ⟩:=zn ((Pj v2 (.cells #[.int .i64 0,.string ⟨#[]⟩,.slice none 0 0,.slice none 0 0,.slice none 0 0] 42)));have pg:Ac v2 v3:=by rw[<- DQ];exact Ha _ _ _
        have j3:=Ac.kept (F:=λ j=>j=X\/j=Y) pg;have bT:Am v3 Cv 42 #[i64 0,.string ⟨#[]⟩,.slice none 0 0,.slice none 0 0,.slice none 0 0]:=by rw[<- DQ,<-Eg];exact zv _ _ _
        have FI:wd.heap.size<=Cv:=by rw[<- Eg];exact(((FX.trans j1).trans j2)).size
        have km:¬ (Cv=X\/Cv=Y):=by have:=rD.out;omega
        rw[DQ,Eg];clear DQ Eg;refine Aj (pt Cv) _ (λ _=>j3) ?_;clear Aj;simp only[sA];refine sG 18 111 (λ K Aj=>?_);go_simp;refine(MU.out _ (((LO.trans zQ).trans rV).trans pg)).mono ?_;rintro e v4 ⟨G8,A9,n9,c9,rfl,IM,j4⟩;have jG4:=j4;have bT:=bT.kept j4 km;refine Aj (Co (fF:Int) G8 A9 n9 c9 none 0 0) _ (λ _=>j4) ?_;clear Aj;simp only[sA];refine DH 20 (λ K Aj=>?_);have EU:=zh bT;have JT:=zh (show Kept (λ j=>j=X\/j=Y) wd v4/\Au v4 X Y B 3 20 1 N eN none/\wd.heap.size<=Cv from ⟨((((FX.trans j1).trans j2).trans j3).trans j4),IM,FI⟩);clear bT IM FI;refine wp_store_row 42 (.tmp 15) (.tmp 111) rfl Cv #[i64 (fF:Int),str G8,.slice A9 n9 c9,.slice none 0 0,.slice none 0 0] rfl rfl 42 _ EU.out (by kernel_rfl) rfl (AF (by simp[G_])) ?_;refine Aj _ (λ h=>absurd (by simp) h) ?_;clear Aj;refine dG ?_;have t7:=EU.out.setRow #[i64 (fF:Int),str G8,.slice A9 n9 c9,.slice none 0 0,.slice none 0 0];obtain⟨y5,Ns⟩:=zn (v4.setRow Cv #[i64 (fF:Int),str G8,.slice A9 n9 c9,.slice none 0 0,.slice none 0 0]);rw[Ns]at t7;have kT:Kept (λ j=>j=Cv) v4 y5:=by rw[<- Ns];exact(zr (λ j=>j=Cv) _).setRow (.inl rfl) _
        have Jr:Kept (λ j=>j=X\/j=Y) wd y5:=by rw[<- Ns];exact JT.out.1.setRow (.inr JT.out.2.2) _
        have HF:Hid (Am y5 Cv 42 #[i64 (fF:Int),str G8,.slice A9 n9 c9,.slice none 0 0,.slice none 0 0]/\Au y5 X Y B 3 20 1 N eN none/\Kept (λ j=>j=X\/j=Y) wd y5/\wd.heap.size<=Cv):=⟨t7,JT.out.2.1.farT kT EU.out,Jr,JT.out.2.2⟩;clear t7 kT Jr JT EU LG xr uY MU;rw[Ns];go_wp2_with fail;go_meet;exact⟨Cv,G8,A9,n9,c9,rfl,HF⟩
      ·skip;go_simp;obtain⟨Cv,Eg⟩:=zn ((Pk v1).size);obtain⟨v2,DC⟩:=zn ((Pj v1 (.cells #[.int .i64 0,.string ⟨#[]⟩,.slice none 0 0,.slice none 0 0,.slice none 0 0] 42)));have rV:Ac v1 v2:=by rw[<- DC];exact Ha _ _ _
       have j2:=Ac.kept (F:=λ j=>j=X\/j=Y) rV;have bT:Am v2 Cv 42 #[i64 0,.string ⟨#[]⟩,.slice none 0 0,.slice none 0 0,.slice none 0 0]:=by rw[<- DC,<-Eg];exact zv _ _ _
       have FI:wd.heap.size<=Cv:=by rw[<- Eg];exact((FX.trans j1)).size
       have km:¬ (Cv=X\/Cv=Y):=by have:=rD.out;omega
       rw[DC,Eg];clear DC Eg;refine Aj (pt Cv) _ (λ _=>j2) ?_;clear Aj;simp only[sA];refine sG 16 109 (λ K Aj=>?_);go_simp;refine(uY.out _).mono ?_;rintro e v3 ⟨rfl,pg⟩;have j3:=Ac.kept (F:=λ j=>j=X\/j=Y) pg;have bT:=bT.grew pg;refine Aj (str (dec x)) _ (λ _=>j3) ?_;clear Aj;simp only[sA];refine pG 17 110 ?_;refine sG 18 111 (λ K Aj=>?_);go_simp;refine(MU.out _ (((LO.trans zQ).trans rV).trans pg)).mono ?_;rintro e v4 ⟨G8,A9,n9,c9,rfl,IM,j4⟩;have jG4:=j4;have bT:=bT.kept j4 km;refine Aj (Co (fF:Int) G8 A9 n9 c9 none 0 0) _ (λ _=>j4) ?_;clear Aj;simp only[sA];refine DH 20 (λ K Aj=>?_);have EU:=zh bT;have JT:=zh (show Kept (λ j=>j=X\/j=Y) wd v4/\Au v4 X Y B 3 20 1 N eN none/\wd.heap.size<=Cv from ⟨((((FX.trans j1).trans j2).trans j3).trans j4),IM,FI⟩);clear bT IM FI;refine wp_store_row 42 (.tmp 15) (.tmp 111) rfl Cv #[i64 (fF:Int),str G8,.slice A9 n9 c9,.slice none 0 0,.slice none 0 0] rfl rfl 42 _ EU.out (by kernel_rfl) rfl (AF (by simp[G_])) ?_;refine Aj _ (λ h=>absurd (by simp) h) ?_;clear Aj;refine dG ?_;have t7:=EU.out.setRow #[i64 (fF:Int),str G8,.slice A9 n9 c9,.slice none 0 0,.slice none 0 0];obtain⟨y5,Ns⟩:=zn (v4.setRow Cv #[i64 (fF:Int),str G8,.slice A9 n9 c9,.slice none 0 0,.slice none 0 0]);rw[Ns]at t7;have kT:Kept (λ j=>j=Cv) v4 y5:=by rw[<- Ns];exact(zr (λ j=>j=Cv) _).setRow (.inl rfl) _
       have Jr:Kept (λ j=>j=X\/j=Y) wd y5:=by rw[<- Ns];exact JT.out.1.setRow (.inr JT.out.2.2) _
       have HF:Hid (Am y5 Cv 42 #[i64 (fF:Int),str G8,.slice A9 n9 c9,.slice none 0 0,.slice none 0 0]/\Au y5 X Y B 3 20 1 N eN none/\Kept (λ j=>j=X\/j=Y) wd y5/\wd.heap.size<=Cv):=⟨t7,JT.out.2.1.farT kT EU.out,Jr,JT.out.2.2⟩;clear t7 kT Jr JT EU LG xr uY MU;rw[Ns];go_wp2_with fail;go_meet;exact⟨Cv,G8,A9,n9,c9,rfl,HF⟩
     ·skip;go_simp;obtain⟨Cv,Eg⟩:=zn ((Pk wd).size);obtain⟨v1,Br⟩:=zn ((Pj wd (.cells #[.int .i64 0,.string ⟨#[]⟩,.slice none 0 0,.slice none 0 0,.slice none 0 0] 42)).drew);have zQ:Ac wd.drew v1:=by rw[<- Br];exact Kept.newD _ _ _
      have j1:=Ac.kept (F:=λ j=>j=X\/j=Y) zQ;have bT:Am v1 Cv 42 #[i64 0,.string ⟨#[]⟩,.slice none 0 0,.slice none 0 0,.slice none 0 0]:=by rw[<- Br,<-Eg];exact zv _ _ _
      have FI:wd.heap.size<=Cv:=by rw[<- Eg];exact zl _
      have km:¬ (Cv=X\/Cv=Y):=by have:=rD.out;omega
      rw[Br,Eg];clear Br Eg;refine Aj (pt Cv) _ (λ _=>j1) ?_;clear Aj;simp only[sA];refine sG 7 100 (λ K Aj=>?_);go_simp;refine(xr.out _).mono ?_;rintro e v2 ⟨rfl,rV⟩;have j2:=Ac.kept (F:=λ j=>j=X\/j=Y) rV;have bT:=bT.grew rV;refine Aj (str (dec e')) _ (λ _=>j2) ?_;clear Aj;simp only[sA];refine pG 8 101 ?_;refine pG 9 102 ?_;refine sG 16 109 (λ K Aj=>?_);go_simp;refine(uY.out _).mono ?_;rintro e v3 ⟨rfl,pg⟩;have j3:=Ac.kept (F:=λ j=>j=X\/j=Y) pg;have bT:=bT.grew pg;refine Aj (str (dec x)) _ (λ _=>j3) ?_;clear Aj;simp only[sA];refine pG 17 110 ?_;refine sG 18 111 (λ K Aj=>?_);go_simp;refine(MU.out _ (((LO.trans zQ).trans rV).trans pg)).mono ?_;rintro e v4 ⟨G8,A9,n9,c9,rfl,IM,j4⟩;have jG4:=j4;have bT:=bT.kept j4 km;refine Aj (Co (fF:Int) G8 A9 n9 c9 none 0 0) _ (λ _=>j4) ?_;clear Aj;simp only[sA];refine DH 20 (λ K Aj=>?_);have EU:=zh bT;have JT:=zh (show Kept (λ j=>j=X\/j=Y) wd v4/\Au v4 X Y B 3 20 1 N eN none/\wd.heap.size<=Cv from ⟨((((FX.trans j1).trans j2).trans j3).trans j4),IM,FI⟩);clear bT IM FI;refine wp_store_row 42 (.tmp 15) (.tmp 111) rfl Cv #[i64 (fF:Int),str G8,.slice A9 n9 c9,.slice none 0 0,.slice none 0 0] rfl rfl 42 _ EU.out (by kernel_rfl) rfl (AF (by simp[G_])) ?_;refine Aj _ (λ h=>absurd (by simp) h) ?_;clear Aj;refine dG ?_;have t7:=EU.out.setRow #[i64 (fF:Int),str G8,.slice A9 n9 c9,.slice none 0 0,.slice none 0 0];obtain⟨y5,Ns⟩:=zn (v4.setRow Cv #[i64 (fF:Int),str G8,.slice A9 n9 c9,.slice none 0 0,.slice none 0 0]);rw[Ns]at t7;have kT:Kept (λ j=>j=Cv) v4 y5:=by rw[<- Ns];exact(zr (λ j=>j=Cv) _).setRow (.inl rfl) _
      have Jr:Kept (λ j=>j=X\/j=Y) wd y5:=by rw[<- Ns];exact JT.out.1.setRow (.inr JT.out.2.2) _
      have HF:Hid (Am y5 Cv 42 #[i64 (fF:Int),str G8,.slice A9 n9 c9,.slice none 0 0,.slice none 0 0]/\Au y5 X Y B 3 20 1 N eN none/\Kept (λ j=>j=X\/j=Y) wd y5/\wd.heap.size<=Cv):=⟨t7,JT.out.2.1.farT kT EU.out,Jr,JT.out.2.2⟩;clear t7 kT Jr JT EU LG xr uY MU;rw[Ns];go_wp2_with fail;go_meet;exact⟨Cv,G8,A9,n9,c9,rfl,HF⟩
    case rest =>
     clear wJ um wK r1' r2' r3' xr uY MU FX LO;obtain⟨s64',No⟩:∃ s,s=u64:=⟨u64,rfl⟩;subst No;obtain⟨wx,hwx⟩:∃ w,w=wc:=⟨wc,rfl⟩;subst hwx;obtain⟨Cv,G8,A9,n9,c9,rfl,hD⟩:=hcut;obtain⟨p0,-,p2⟩:=LG.out wx hD.out.2.2.1;have t0:=hD.out.1.cell 0;simp at t0;have h13:¬ (It=X\/It=Y):=by have:=hC.out.2.2.1;have:=hS.out.sess.lt;omega
     have xN:=hC.out.1.kept hD.out.2.2.1 h13;obtain⟨y0,y1⟩:=CE xN;have hBg:=hS.out.grew hC.out.2.1;have sh:Hid (∃ A c,Am wx DL 24 #[i64 N,.slice A L c]):=by
      obtain⟨Ag2,cg2,h1,h2⟩:=hBg.gbox;have l6:=hBg.lt;rw[H8.out.2.2.2.2.1]at h1;exact⟨Ag2,cg2,h1.kept hD.out.2.2.1 (show ¬ (DL=X\/DL=Y) by omega)⟩
     have HKp:Hid (eN=D8->Hid (MQ w T DL X Y B N AE (some ⟨b,off,none⟩) AR L cE M cL R cR D8 wx)):=λ h0=>hBg.same hD.out.2.2.1 (by rw[<- h0];exact hD.out.2.1);have ir:=Gt H8.out.1 H8.out.2.1 H8.out.2.2.1 H8.out.2.2.2.1 H8.out.2.2.2.2.1;have xD:=DS hBg hD.out.2.2.1 hD.out.2.1 hC.out.2.2.2;clear hBg xN h13 hD hC H8 LG hS hE0;rcases nj D8 e' x with ⟨c1,c2,c3',c4,c5⟩ | ⟨c1,c2,c3',c4⟩ | ⟨c1,c2,c3'⟩
     ·obtain rfl:fF=0:=HF8.out.1.symm.trans c1;obtain rfl:hF=0:=ir.out.2.1.symm.trans c2;obtain⟨rfl,rfl,B9,hE9⟩:=xD.out.2.2.2 rfl;have d1:decide ((x:Int)<1)=false:=zf (by omega);have d2:decide (4294967296<(x:Int))=false:=zf (by omega);have hEN:eN=fz:=by
       rw[<- HF8.out.2,<-ir.out.2.2.1];unfold vq;rw[if_pos c1];rfl
      obtain⟨Ag2,cg2,sC⟩:=sh.out;have f0:=sC.frozen 0;obtain⟨z0,z1⟩:=CE sC;obtain⟨wy,hwy⟩:=zn ((wx.setCell ⟨DL,0,none⟩ (.int .i64 N)).setCell ⟨DL,1,none⟩ (.slice A3 L3 c3));have f1:(wx.setCell ⟨DL,0,none⟩ (.int .i64 N)).frozen? ⟨DL,1,none⟩=false:=(sC.set 0 _).frozen 1;have kT:Kept (λ j=>j=DL) wx wy:=by rw[<- hwy];exact((zr (λ j=>j=DL) wx).setCell (p:=⟨DL,0,none⟩) (.inl rfl) _).setCell (p:=⟨DL,1,none⟩) (.inl rfl) _
      have b11y:Am wy DL 24 #[i64 N,.slice A3 L3 c3]:=by
       rw[<- hwy];have:=(sC.set 0 (.int .i64 N)).set 1 (.slice A3 L3 c3);simpa using this
      have S':Hid (MQ w T DL X Y B N AE (some ⟨b,off,none⟩) AR L3 cE M cL R cR (Lu es (cs.take (k+1))) wy):=by
       rw[ir.out.1,if_pos c2];rw[show BX D8 (e':Int).toNat x=fz from ir.out.2.2.1];exact xD.out.1.put xD.out.2.1 (by rw[<- hEN];exact xD.out.2.2.1) hE9 ⟨by rw[<- ir.out.2.2.1];exact K7 ir.out.2.2.2.1 (by simpa using c5) (by omega),by rw[<- ir.out.2.2.1,BO];exact ir.out.2.2.2.2⟩ sC kT b11y
      clear hE9 sC kT b11y xD HKp sh;go_wp2_with fail;go_roundw
      case rel=>exact⟨k+1,by omega,by go_num,S'⟩
      case measure=>simp[intOf];omega
     ·obtain rfl:fF=8:=HF8.out.1.symm.trans c1;obtain rfl:hF=8:=ir.out.2.1.symm.trans c2;have d1:decide ((x:Int)<1)=false:=zf (by omega);have d2:decide (4294967296<(x:Int))=false:=zf (by omega);have S':Hid (MQ w T DL X Y B N AE (some ⟨b,off,none⟩) AR L cE M cL R cR (Lu es (cs.take (k+1))) wx):=by
       rw[ir.out.1,if_neg (by rw[c2];decide)];exact(HKp.out (by rw[<- HF8.out.2];unfold vq;rw[if_neg (by rw[c1];decide)])).out
      clear xD HKp sh;go_wp2_with fail;go_roundw
      case rel=>exact⟨k+1,by omega,by go_num,S'⟩
      case measure=>simp[intOf];omega
     ·obtain rfl:fF=2:=HF8.out.1.symm.trans c1;have S':Hid (MQ w T DL X Y B N AE (some ⟨b,off,none⟩) AR L cE M cL R cR (Lu es (cs.take (k+1))) wx):=by
       rw[ir.out.1,if_neg (by rcases c2 with c2 | c2<;>rw[c2]<;>decide)];exact(HKp.out (by rw[<- HF8.out.2];unfold vq;rw[if_neg (by rw[c1];decide)])).out
      have hF2:hF=2\/hF=8:=by rw[<- ir.out.2.1];exact c2
      clear xD HKp sh ir;by_cases AX:(x:Int)<1
      ·have d1:decide ((x:Int)<1)=true:=zt AX;rcases hF2 with rfl | rfl;all_goals
        go_wp2_with fail
        go_roundw
        case rel=>exact⟨k+1,by omega,by go_num,S'⟩
        case measure=>simp[intOf];omega
      ·have d1:decide ((x:Int)<1)=false:=zf AX;have d2:decide (4294967296<(x:Int))=true:=zt (by omega);rcases hF2 with rfl | rfl;all_goals
        go_wp2_with fail
        go_roundw
        case rel=>exact⟨k+1,by omega,by go_num,S'⟩
        case measure=>simp[intOf];omega
  ·obtain rfl:k=M:=(by omega);have F7:Lu es cs=D8:=by rw[<- oh,List.take_of_length_le (by rw[bP.out.2.1];exact zl _)]
   have r0:=hS.out.ask.cell 0;have r3:=hS.out.ask.cell 3;simp at r0 r3;have xm:=zh F7;have xB:=zh (λ W (g:Ac wr W)=>H0.out.2.2.1.grew (hS.out.kept.trans g));clear F7 oh r1;go_upto_region 21 with fail;go_cut [148] from 137 to 148 (λ v148 wx=>∃ good:Bool,v148=.bool good/\wx=wr/\Hid (good=true->R=N/\Im rk=true))
   case first =>
    by_cases ym:R=N
    ·have d1:((R:Int)==(N:Int))=true:=(by simp[ym]);obtain⟨bb,I5⟩:=zn (Im rk);have HRi:=zh (Jf AR cR rk wr (xB.out wr (zr _ _)) (by rw[bP.out.2.2.1];omega));rw[I5,bP.out.2.2.1]at HRi;have HX:=BP ym I5;clear ym I5;go_wp2_with fail;refine HRi.out.mono ?_;rintro e w9 ⟨rfl,rfl⟩;clear HRi;go_wp2_with fail;go_meet;exact⟨bb,rfl,rfl,λ h=>⟨HX.out.1,HX.out.2.trans h⟩⟩
    ·have d1:((R:Int)==(N:Int))=false:=by simp;omega
     clear ym;go_wp2_with fail;go_meet;exact⟨false,rfl,rfl,λ h=>by cases h⟩
   case rest =>
    obtain⟨good,rfl,hwc,zAE⟩:=hcut;obtain rfl:wr=wc:=hwc.symm;clear hwc;go_upto_if 148 with fail;go_cut [17] from 149 to 152 (λ v17 wx=>∃ (ln:List UInt8) (CB:List Int),v17=str ln/\Hid (Ac wr wx/\Calls B_ 10 #[pt X,str ln] wx (λ e w'=>∃ v,e=.returned v/\cI N D8 none CB X Y B 3 20 w' v/\Kept (λ j=>j=X\/j=Y) wx w')))
    case first =>
     have DOB:=zh (λ W ln CB hp (g:Ac wr W) h1 h2=>FD ln CB hp (hS.out.sess.grew g) (by omega) hS.out.right.1 (by have:=hS.out.right.2;omega) (by have:=bP.out.2.2.2.1;omega) (A_ hS.out.lt.2.2.2.2.2.2 g.size) h1 h2);cases good
     ·go_wp2_with fail;go_meet;exact⟨Af 1,[],rfl,zr _ _,DOB.out _ _ [] Ik (zr _ _) KU (.inl rfl)⟩
     ·obtain⟨ym,I5⟩:=zAE.out rfl;have HRN:=zh ym;have Ba:=pT I5;have hz:∀ x∈rk,0<=x/\x<64:=λ x hx=>by
       have:=Ba.1 x hx;have:=bP.out.2.2;omega
      have dQ:=pU (zs:=rk) λ x hx=>(hz x hx).1;obtain⟨zs,dX⟩:=zn (rk.map Int.toNat);rw[dX]at dQ;have hzl:zs.length=R:=by rw[<- dX,Pe];exact bP.out.2.2.1
      have hzz:∀ n∈zs,n<=64:=λ n hn=>by
       rw[<- dX]at hn;obtain⟨x,hx,rfl⟩:=L_.1 hn;have:=hz x hx;omega
      have Nd:=(right_zero H0.out.2.2.2.1).1;have Bm:zs≠[]:=λ h=>by rw[h]at hzl;have:=HRN.out;simp at hzl;omega
      have HTx:=zh (λ W (g:Ac wr W)=>aP AR cR zs W (by rw[dQ];exact xB.out W g) (by rw[dQ];exact I5) (λ n hn=>by have:=hzz n hn;omega) (by have:=bP.out.2.2;omega));rw[hzl]at HTx;have HP:=zh (λ W=>Il zs Bm (λ n hn=>by have:=hzz n hn;omega) (by have:=bP.out.2.2;omega) (by rw[dQ];exact Ba) W);have HK:Hid (Bq (Be zs)/\(Be zs=[]\/(Be zs).length=N)):=⟨by rw[dQ];exact Ba,.inr (by rw[dQ,bP.out.2.2.1];exact HRN.out)⟩;have rN:=aa zs (λ n hn=>by have:=hzz n hn;omega);obtain⟨tx,Nq⟩:=zn (Bl (zs.map dec));rw[Nq]at rN HTx HP;have wJ:¬ 9223372036854775807<6+(bs tx).size:=by rw[AT];have:=bP.out.2.2;omega
      obtain⟨ln,oD⟩:=zn (Af 1++32::tx);have r1':(⟨#[66,85,73,76,68,32]⟩:ByteArray)++bs tx=bs ln:=by rw[<- oD];exact AI [66,85,73,76,68,32] _
      rw[oD]at HP;clear I5 Ba hz dQ dX hzl hzz Nd Bm rN Nq oD ym;go_wp2_with fail;refine(HTx.out _ (zr _ _)).mono ?_;rintro e w9 ⟨rfl,gv⟩;clear HTx;have GV:=zh gv;clear gv;go_wp2_with fail;go_meet;exact⟨ln,Be zs,rfl,GV.out,DOB.out _ _ _ HP.out GV.out HK.out.1 HK.out.2⟩
    case rest =>
     obtain⟨ln,CB,rfl,hC⟩:=hcut;have GV:=zh hC.out.1;have MU:=zh hC.out.2;clear hC;go_wp2_with fail;refine MU.out.mono ?_;rintro e w5 ⟨v5,rfl,⟨g9,x9,rfl,_,hs9,Iw,_⟩,k5⟩;clear MU;have hO:=Nl hs9;have dV:x9.rk.length=N:=hO.rlen;have Od:x9.ss.length<=1000:=Nk hO bP.out.2.2.2.1 (by rw[Iw,hS.out.right.2];exact tf);have l9:=hS.out.lt;obtain⟨MP,M4,Nj,hg6⟩:=hS.out.gbox;rw[hS.out.right.2]at Nj;have sC:=(Nj.grew GV.out).kept k5 (show ¬ (DL=X\/DL=Y) by omega);have bO:=(hS.out.out.grew GV.out).kept k5 (show ¬ (T+1=X\/T+1=Y) by omega);have gg:=(hg6.grew GV.out).sess (hS.out.sess.grew GV.out) k5 (by omega);have G5:Ac w w5:=(hS.out.kept.trans GV.out).then k5 (λ i hi h=>by have:=q1.out;omega);have cN:=zh (λ W (k:Ac w5 W)=>GX (hs9.grew k) (by rw[dV];omega) (by omega));obtain⟨c0,c1⟩:=CE sC;have cK:Hid (∀ w',Ac w5 w'->w'.cell? ⟨DL,0,none⟩=some (i64 N)/\w'.cell? ⟨DL,1,none⟩=some (.slice MP L M4)):=λ w' g=>⟨g.cell c0,g.cell c1⟩;have H5:=zh (show _/\_/\_/\_/\_/\B<=w5.heap.size from ⟨hs9,bO,gg,G5,Iw,A_ (A_ l9.2.2.2.2.2.2 GV.out.size) k5.size⟩);have HR9:=zh dV;have N6:Ac w5 w5.drew:=(zr _ _).drew;clear hO Od l9 Nj hg6 sC bO gg G5 c0 c1 k5 hs9 Iw dV;go_upto_region 24 with fail;refine rG [12] (λ _=>False) ?_;refine pG 0 158 ?_;refine tF 1 159 cK.out N6 ?_;refine pG 2 160 ?_;refine pG 3 161 ?_;refine pG 4 162 ?_;refine pG 7 165 ?_;refine AP 5 163 8 166 rfl rfl (by kernel_rfl) rfl rfl (by rfl) (by rfl) (λ K Aj=>?_) (λ K Aj=>?_)
     ·skip;go_simp;refine(cN.out _ N6).mono ?_;rintro e i9 ⟨v9,rfl,oM,i1⟩;obtain⟨A9,c9,rfl⟩:=Ap oM;rw[HR9.out];refine Aj (.slice A9 N c9) _ (λ _=>i1) ?_;clear Aj;simp only[sA];refine pG 6 164 ?_;refine pG 11 2 ?_;refine bK 8 166 12 rfl rfl (by kernel_rfl) rfl rfl (by rfl) (by rfl) (λ K Aj=>?_) (λ K Aj=>?_)
      ·skip;obtain⟨qa1,-⟩:=cK.out _ (N6.trans i1);go_simp;refine Aj (i64 N) _ (λ _=>zr _ _) ?_;clear Aj;simp only[sA];refine pG 9 167 ?_;refine pG 10 168 ?_;refine DH 12 (λ K Aj=>?_);have Oi:=zh ((H5.out.2.1.grew N6).grew i1);have jU:Kept (λ j=>j=T+1) i9 (i9.setRow (T+1) #[i64 N,.slice MP L M4]):=(zr (λ j=>j=T+1) _).setRow (.inl rfl) _;refine wp_store_row 24 (.tmp 3) (.tmp 159) rfl (T+1) #[i64 N,.slice MP L M4] rfl rfl 24 _ Oi.out (by kernel_rfl) rfl (AF (by simp[G_])) ?_;refine Aj _ (λ h=>absurd (by simp) h) ?_;clear Aj;refine pG 13 4 ?_;refine dG ?_;have t7:=Oi.out.setRow #[i64 N,.slice MP L M4];obtain⟨i8,cC⟩:=zn (i9.setRow (T+1) #[i64 N,.slice MP L M4]);rw[cC]at t7;have kT:Kept (λ j=>j=T+1) i9 i8:=by rw[<- cC];exact(zr (λ j=>j=T+1) _).setRow (.inl rfl) _
       have wu:=((H5.out.1.grew N6).grew i1).far kT (A8 Oi.out (by decide));have vB:=((H5.out.2.2.1.grew N6).grew i1).kept kT (λ j hj=>⟨by omega,λ cu FY=>Ay (hj▸FY) Oi.out (by decide) rfl⟩);have GF:Ac w i8:=((H5.out.2.2.2.1.trans N6).trans i1).then kT (λ i hi h=>by omega);have HF:=zh (show _/\_/\_/\B<=i8.heap.size from ⟨wu,vB,GF,A_ H5.out.2.2.2.2.2 (A_ i1.size kT.size)⟩);obtain⟨z0,z1⟩:=CE t7;clear t7 kT jU wu vB GF Oi cN cK;rw[cC];go_wp2_with fail;refine zy (v:=.tuple #[pt X,.agg #[i64 N,.slice MP L M4],.bool true]) (by simp[results,D_,go_sem,z0,z1]) rfl ?_;rw[xm.out];exact⟨X,Y,B,MP,M4,x9,rfl,HF.out.1,H5.out.2.2.2.2.1,HF.out.2.1.1,hS.out.right.1,hS.out.right.2,HF.out.2.2.2,q1.out.1,q1.out.2.1,HF.out.2.2.1,λ a ha Bm=>(HF.out.2.1.2 a ha Bm).imp (λ h=>by rw[hT];exact h) id⟩
      ·skip;have Oi:=zh ((H5.out.2.1.grew N6).grew i1);have jU:Kept (λ j=>j=T+1) i9 (i9.setRow (T+1) #[i64 N,.slice MP L M4]):=(zr (λ j=>j=T+1) _).setRow (.inl rfl) _;refine wp_store_row 24 (.tmp 3) (.tmp 159) rfl (T+1) #[i64 N,.slice MP L M4] rfl rfl 24 _ Oi.out (by kernel_rfl) rfl (AF (by simp[G_])) ?_;refine Aj _ (λ h=>absurd (by simp) h) ?_;clear Aj;refine sG 8 166 (λ K Aj=>?_);have qa1:=jU.cell (cK.out _ (N6.trans i1)).1 (show ¬ DL=T+1 by have:=hS.out.lt;omega);go_simp;refine Aj (i64 N) _ (λ _=>zr _ _) ?_;clear Aj;simp only[sA];refine pG 9 167 ?_;refine pG 10 168 ?_;refine pG 13 4 ?_;refine dG ?_;have t7:=Oi.out.setRow #[i64 N,.slice MP L M4];obtain⟨i8,cC⟩:=zn (i9.setRow (T+1) #[i64 N,.slice MP L M4]);rw[cC]at t7;have kT:Kept (λ j=>j=T+1) i9 i8:=by rw[<- cC];exact(zr (λ j=>j=T+1) _).setRow (.inl rfl) _
       have wu:=((H5.out.1.grew N6).grew i1).far kT (A8 Oi.out (by decide));have vB:=((H5.out.2.2.1.grew N6).grew i1).kept kT (λ j hj=>⟨by omega,λ cu FY=>Ay (hj▸FY) Oi.out (by decide) rfl⟩);have GF:Ac w i8:=((H5.out.2.2.2.1.trans N6).trans i1).then kT (λ i hi h=>by omega);have HF:=zh (show _/\_/\_/\B<=i8.heap.size from ⟨wu,vB,GF,A_ H5.out.2.2.2.2.2 (A_ i1.size kT.size)⟩);obtain⟨z0,z1⟩:=CE t7;clear t7 kT jU wu vB GF Oi cN cK;rw[cC];go_wp2_with fail;refine zy (v:=.tuple #[pt X,.agg #[i64 N,.slice MP L M4],.bool true]) (by simp[results,D_,go_sem,z0,z1]) rfl ?_;rw[xm.out];exact⟨X,Y,B,MP,M4,x9,rfl,HF.out.1,H5.out.2.2.2.2.1,HF.out.2.1.1,hS.out.right.1,hS.out.right.2,HF.out.2.2.2,q1.out.1,q1.out.2.1,HF.out.2.2.1,λ a ha Bm=>(HF.out.2.1.2 a ha Bm).imp (λ h=>by rw[hT];exact h) id⟩
     ·skip;obtain⟨qa1,-⟩:=cK.out _ N6;go_simp;refine Aj (i64 N) _ (λ _=>zr _ _) ?_;clear Aj;simp only[sA];refine sG 5 163 (λ K Aj=>?_);go_simp;refine(cN.out _ N6).mono ?_;rintro e i9 ⟨v9,rfl,oM,i1⟩;obtain⟨A9,c9,rfl⟩:=Ap oM;rw[HR9.out];refine Aj (.slice A9 N c9) _ (λ _=>i1) ?_;clear Aj;simp only[sA];refine pG 6 164 ?_;refine pG 9 167 ?_;refine pG 10 168 ?_;refine pG 11 2 ?_;refine DH 12 (λ K Aj=>?_);have Oi:=zh ((H5.out.2.1.grew N6).grew i1);have jU:Kept (λ j=>j=T+1) i9 (i9.setRow (T+1) #[i64 N,.slice MP L M4]):=(zr (λ j=>j=T+1) _).setRow (.inl rfl) _;refine wp_store_row 24 (.tmp 3) (.tmp 159) rfl (T+1) #[i64 N,.slice MP L M4] rfl rfl 24 _ Oi.out (by kernel_rfl) rfl (AF (by simp[G_])) ?_;refine Aj _ (λ h=>absurd (by simp) h) ?_;clear Aj;refine pG 13 4 ?_;refine dG ?_;have t7:=Oi.out.setRow #[i64 N,.slice MP L M4];obtain⟨i8,cC⟩:=zn (i9.setRow (T+1) #[i64 N,.slice MP L M4]);rw[cC]at t7;have kT:Kept (λ j=>j=T+1) i9 i8:=by rw[<- cC];exact(zr (λ j=>j=T+1) _).setRow (.inl rfl) _
      have wu:=((H5.out.1.grew N6).grew i1).far kT (A8 Oi.out (by decide));have vB:=((H5.out.2.2.1.grew N6).grew i1).kept kT (λ j hj=>⟨by omega,λ cu FY=>Ay (hj▸FY) Oi.out (by decide) rfl⟩);have GF:Ac w i8:=((H5.out.2.2.2.1.trans N6).trans i1).then kT (λ i hi h=>by omega);have HF:=zh (show _/\_/\_/\B<=i8.heap.size from ⟨wu,vB,GF,A_ H5.out.2.2.2.2.2 (A_ i1.size kT.size)⟩);obtain⟨z0,z1⟩:=CE t7;clear t7 kT jU wu vB GF Oi cN cK;rw[cC];go_wp2_with fail;refine zy (v:=.tuple #[pt X,.agg #[i64 N,.slice MP L M4],.bool true]) (by simp[results,D_,go_sem,z0,z1]) rfl ?_;rw[xm.out];exact⟨X,Y,B,MP,M4,x9,rfl,HF.out.1,H5.out.2.2.2.2.1,HF.out.2.1.1,hS.out.right.1,hS.out.right.2,HF.out.2.2.2,q1.out.1,q1.out.2.1,HF.out.2.2.1,λ a ha Bm=>(HF.out.2.1.2 a ha Bm).imp (λ h=>by rw[hT];exact h) id⟩
end Go.Proofs.YtepelooebggliaaGreatDoor
namespace Go.Proofs.YtepelooebggliaaGreatDoor
open Go.ChangeShapes Go.WideShapes Go.ChangeAt Go.RowKit Go.Deep Go.Joins
theorem aD {H:Type} {enc:TypeId×J_->H} {w:H_} {fuel:Nat} {v:J_} {x:DataW H×List MemPlace} (h:Ph enc B_ w 0 (λ _=>true) true fuel 26 [v]=some x) :
  ∃ A c rk,v=.slice A (M_ rk) c/\RowI w A rk:=by
 rcases open_ints Tryz.underlying26 C_ (by kernel_rfl) h with ⟨Et,_⟩ | ⟨x,l,c,zs,Et,_,hl,hm,hz,_,BS,O5⟩
 ·simp only[K_,and_true]at Et;exact⟨none,0,[],Et,λ i x hx=>by simp at hx⟩
 ·simp only[K_,and_true]at Et;have hz:zs.length=c:=(by simpa using hz);refine⟨some x,c,zs.take l,by rw[Et,Pd,Nat.min_eq_left (by omega)],λ i y hy=>?_⟩;have hi:=(Pb.1 hy).1;rw[Pd]at hi;rw[List.getElem?_take,if_pos (by omega)]at hy;obtain⟨b,off,rfl⟩:=Gn (BS 0 (by omega));have h1:=J1 (BS i (by omega));refine⟨b,off,rfl,World.block_lt_of_cell? _ _ h1,?_⟩;rw[h1,Pa,hy];rfl
theorem Nz {H:Type} {enc:TypeId×J_->H} {w:H_} {fuel:Nat} {v:J_} {x:DataW H×List MemPlace} (h:Ph enc B_ w 0 (λ _=>true) true fuel 25 [v]=some x) :
  ∃ A c cs,v=.slice A (M_ cs) c/\cO w A cs/\∀ c∈cs,c.2<18446744073709551616:=by
 have oo:∃ A len c,v=.slice A len c:=by
  rcases open_slice E_ h with ⟨Et,_⟩ | ⟨a,len,cap,m,n,D,Pl,Et,_⟩
  ·simp only[K_,and_true]at Et;exact⟨_,_,_,Et⟩
  ·simp only[K_,and_true]at Et;exact⟨_,_,_,Et⟩
 obtain⟨A,len,cap,rfl⟩:=oo
 obtain⟨h1,h2,_,h3⟩:=Ih E_ Tryz.underlying76 (by kernel_rfl) (by kernel_rfl) (by decide) h
 have key:∀ i,i<len->∃ b off,A=some ⟨b,off,none⟩/\b<w.heap.size/\w.cell? ⟨b,off+i*2,none⟩=some (i64 (gO w A (i*2+0)))/\w.cell? ⟨b,off+i*2+1,none⟩=some (u64 (((gO w A (i*2+1)).toNat:Nat):Int))/\(gO w A (i*2+1)).toNat<18446744073709551616:=λ i hi=>by
  obtain⟨b,off,rfl,hb,hc⟩:=h3 i hi;obtain⟨v0,y0,n0,c0,t0⟩:=hc 0 _ rfl;obtain⟨v1,y1,n1,c1,t1⟩:=hc 1 _ rfl;have e0:=(Kw C_ c0 t0).1;obtain⟨e1,w1⟩:=Kw Tryz.underlying29 c1 t1;have hw:0<=gO w (some ⟨b,off,none⟩) (i*2+1)/\gO w (some ⟨b,off,none⟩) (i*2+1)<=18446744073709551615:=bounds_u64 w1;refine⟨b,off,rfl,hb,e0,?_,by omega⟩;rw[Int.toNat_of_nonneg hw.1];exact e1
 refine⟨A,cap,(List.range len).map λ i=>(gO w A (i*2+0),(gO w A (i*2+1)).toNat),by simp,λ i e he=>?_,λ c hc=>?_⟩
 ·have hi:i<len:=by
   have:=(Pb.1 he).1;simpa using this
  simp[List.getElem?_range hi]at he;subst he;obtain⟨b,off,hA,hb,c0,c1,_⟩:=key i hi;exact⟨b,off,hA,hb,c0,c1⟩
 ·simp only[L_,Pg]at hc;obtain⟨i,hi,rfl⟩:=hc;obtain⟨_,_,_,_,_,_,h⟩:=key i hi;exact h
theorem pL {H:Type} {enc:TypeId×J_->H} {w:H_} {base:Nat} {v:J_} {d:DataW H} {p:List MemPlace} (o:Value.okWide B_ w .any base 28 v) (h:DataW.Trod enc B_ w 0 (λ _=>true) true 28 v d p) :
  ∃ n AE cE es AL cL cs AR cR rk,v=.agg #[i64 n,.slice AE (M_ es) cE,.slice AL (M_ cs) cL,.slice AR (M_ rk) cR]/\Bj w AE es/\cO w AL cs/\RowI w AR rk/\(M_ es)<=9223372036854775807/\∀ c∈cs,c.2<18446744073709551616:=by
 obtain⟨cs,rfl,Df⟩:=okWide_struct F_ o
 obtain⟨c0,c1,c2,c3,rfl⟩:=array4 (Df.trans (by kernel_rfl))
 obtain⟨fuel,hf⟩:=h
 obtain⟨y0,y1,y2,m,_,_,h0,h1,h2⟩:=trod_struct3 F_ hf
 have h0':Ph enc B_ w 0 (λ _=>true) true m 24 [c0,c1]=some y0:=h0
 have yh:Ph enc B_ w 0 (λ _=>true) true m 25 [c2]=some y1:=h1
 have h2':Ph enc B_ w 0 (λ _=>true) true m 26 [c3]=some y2:=h2
 obtain⟨z0,z1,k,_,_,g0,g1⟩:=trod_struct2 Tryz.underlying24 h0'
 have g0':Ph enc B_ w 0 (λ _=>true) true k 3 [c0]=some z0:=g0
 have g1':Ph enc B_ w 0 (λ _=>true) true k 22 [c1]=some z1:=g1
 obtain⟨x,hx,_,_⟩:=DataW.trod_int C_ g0'
 simp only[K_,and_true]at hx
 subst hx
 obtain⟨AE,cE,es,rfl,hE,hl⟩:=eD g1'
 obtain⟨AL,cL,cs,rfl,hC,Jp⟩:=Nz yh
 obtain⟨AR,cR,rk,rfl,hR⟩:=aD h2'
 exact⟨_,_,_,_,_,_,_,_,_,_,rfl,hE,hC,hR,hl,Jp⟩
end Go.Proofs.YtepelooebggliaaGreatDoor
