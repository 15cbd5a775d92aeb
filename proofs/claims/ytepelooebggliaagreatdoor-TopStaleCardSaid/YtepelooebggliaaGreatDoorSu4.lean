/- Walks of functions that the law reaches, and plain laws, part 5 of 21: lemmas for the proof in the last text; no condition. Shortened by program. -/
import Derived.Deep.AppendLies
import Derived.Deep.QuietTactic
import Derived.BigQuiet
import Derived.Outline
import Derived.Lib.SliceRun
import Derived.BigFrame
import Derived.Test.YtepelooebggliaaGreatDoorSu0
import Derived.Test.YtepelooebggliaaGreatDoorSu2
import Derived.Test.YtepelooebggliaaGreatDoorSu3
open List renaming getElem?_eq_some_iff->A_,getElem?_append_left->B_,mem_append->C_,mem_singleton->D_,getD_eq_getElem?_getD->E_,length_append->F_,getElem?_take_of_lt->G_,nodup_append->H_,take_of_length_le->I_,getElem?_eq_none->J_,nodup_nil->K_,getElem?_append_right->L_,prefix_append->M_,prefix_refl->N_,foldl_cons->O_,mem_cons->Pa,flatMap_cons->Pb,take_append_of_le_length->Pc,getElem?_set_self->Pd,reverse_reverse->Pe,getElem?_set_ne->Pf,reverse_append->Pg,getElem_of_mem->Ph,reverse_cons->Pj,ext_getElem?->Pk,nodup_cons->Pm,map_append->Pn
open Array renaming getElem?_setIfInBounds_ne->Po,getElem?_setIfInBounds_self_of_lt->Pp,getElem?_eq_some_iff->Pq
open Classical renaming byContradiction->Pr
open Option.some renaming injEq->Ps
open Int renaming le_refl->Pt,mul_le_mul_of_nonneg_left->Pu,add_assoc->Pv,zero_add->Pw,toNat_natCast->Px,natCast_inj->Py
open Prod.mk renaming injEq->Pz,inj->PA
open Go.Builtin renaming zeroCells->PB,clear_->PC
open Go renaming World->PD,Value->PE
open Go.Proofs.Tryz renaming prog->PF
open Nat renaming lt_of_lt_of_le->PG,zero_add->PH,lt_or_ge->PI
set_option maxHeartbeats 16000000
set_option maxRecDepth 100000
set_option linter.unusedVariables false
set_option linter.unusedSimpArgs false
namespace Go.Proofs.YtepelooebggliaaGreatDoor
abbrev Rel:=Int->Int->Int->Prop
inductive Wk (A:Rel):Int->Int->Int->Prop
 | nil (s:Int):Wk A s s 0
 | cons {s u t a x:Int}:A s u a->Wk A u t x->Wk A s t (a+x)
section
variable {A B G S:Rel} {s t u v x y:Int}
theorem Wk.one (h:A s t x):Wk A s t x:=by have:=Wk.cons h (.nil t);rwa [Int.add_zero]at this
theorem Wk.trans (h:Wk A s u x) (k:Wk A u t y):Wk A s t (x+y):=by
 induction h with
 | nil s=>rwa [Pw]
 | cons h1 h2 ih=>rw[Pv];exact .cons h1 (ih k)
theorem Wk.snoc (h:Wk A s u x) (k:A u t y):Wk A s t (x+y):=h.trans (.one k)
theorem Wk.pos (hA:∀ p q a,A p q a->1<=a) (h:Wk A s t x):0<=x/\(s≠t->1<=x):=by
 induction h with
 | nil s=>exact⟨Pt _,λ h=>absurd rfl h⟩
 | cons h1 h2 ih=>have:=hA _ _ _ h1;exact⟨by omega,λ _=>by omega⟩
theorem Wk.flat (hA:∀ p q a,A p q a->Wk B p q a) (h:Wk A s t x):Wk B s t x:=by
 induction h with
 | nil s=>exact .nil s
 | cons h1 h2 ih=>exact(hA _ _ _ h1).trans ih
theorem Wk.imp (hA:∀ p q a,A p q a->B p q a) (h:Wk A s t x):Wk B s t x:=h.flat λ _ _ _ k=>.one (hA _ _ _ k)
theorem Wk.light (hA:∀ p q a,A p q a->∃ b,b<=a/\Wk B p q b) (h:Wk A s t x):∃ y,y<=x/\Wk B s t y:=by
 induction h with
 | nil s=>exact⟨0,Pt _,.nil s⟩
 | cons h1 h2 ih =>
  obtain⟨b,hb,h3⟩:=hA _ _ _ h1;obtain⟨y,hy,h4⟩:=ih;exact⟨b+y,by omega,h3.trans h4⟩
theorem Wk.last (h:Wk A s t x):(s=t/\x=0)\/∃ u y a,Wk A s u y/\A u t a/\x=y+a:=by
 induction h with
 | nil s=>exact .inl ⟨rfl,rfl⟩
 | @cons s u t a x h1 h2 ih =>
  rcases ih with ⟨rfl,rfl⟩ | ⟨q,y,b,h3,h4,rfl⟩
  ·exact .inr ⟨s,0,a,.nil s,h1,by omega⟩
  ·exact .inr ⟨q,a+y,b,.cons h1 h3,h4,by omega⟩
def Live (A:Rel) (g:Int->Bool):Rel:=λ p q a=>A p q a/\g p=false/\g q=false
theorem goes {g g':Int->Bool} {v:Int} {A':Rel} (hv:g' v=true) (hg:∀ p,p≠v->g' p=g p) (Gg:∀ p a,¬ A p p a) (BH:∀ p q a,A p q a->1<=a)
  (oz:∀ p q a,Live A g p q a->p≠v->q≠v->∃ b,b<=a/\A' p q b)
  (hcut:∀ p q a b,Live A g p v a->Live A g v q b->p≠q->(∃ c,c<=a+b/\A' p q c)\/∃ c,c<=a+b/\Wk (Live A g') p q c) :
  ∀ {s t x},Wk (Live A g) s t x->t≠v->(s≠v->∃ y,y<=x/\Wk (Live A' g') s t y) /\
   (s=v->∀ p a,Live A g p v a->∃ y,y<=a+x/\Wk (Live A' g') p t y):=by
 have live:∀ p q,p≠v->q≠v->g p=false->g q=false->∀ b,A' p q b->Live A' g' p q b:=λ p q hp hq h1 h2 b hb=>⟨hb,by rw[hg p hp];exact h1,by rw[hg q hq];exact h2⟩
 have arc:∀ p q a,Live A g p q a->p≠v->q≠v->∃ b,b<=a/\Wk (Live A' g') p q b:=λ p q a h hp hq=>by
  obtain⟨b,hb,h1⟩:=oz p q a h hp hq;exact⟨b,hb,.one (live p q hp hq h.2.1 h.2.2 b h1)⟩
 have side:∀ p q c,Wk (Live A g') p q c->∃ y,y<=c/\Wk (Live A' g') p q y:=λ p q c h=>h.light λ p q a h1=>by
  have hp:p≠v:=λ e=>by have:=h1.2.1;rw[e,hv]at this;cases this
  have hq:q≠v:=λ e=>by have:=h1.2.2;rw[e,hv]at this;cases this
  exact arc p q a ⟨h1.1,by rw[<- hg p hp];exact h1.2.1,by rw[<- hg q hq];exact h1.2.2⟩ hp hq
 intro s t x h
 induction h with
 | nil s=>exact λ ht=>⟨λ _=>⟨0,Pt _,.nil s⟩,λ e=>absurd e ht⟩
 | @cons s u t a x h1 h2 ih =>
  intro ht;obtain⟨ih1,ih2⟩:=ih ht;have hsu:s≠u:=λ e=>Gg s a (by have:=h1.1;rwa [<- e]at this);refine⟨λ hs=>?_,λ hs p b hp=>?_⟩
  ·by_cases hu:u=v
   ·subst hu;exact ih2 rfl s a h1
   ·obtain⟨y,hy,h3⟩:=ih1 hu;obtain⟨b,hb,h4⟩:=arc s u a h1 hs hu;exact⟨b+y,by omega,h4.trans h3⟩
  ·subst hs;have hu:u≠s:=λ e=>hsu e.symm;obtain⟨y,hy,h3⟩:=ih1 hu;have p1:=BH _ _ _ hp.1;have p2:=BH _ _ _ h1.1;by_cases hpu:p=u
   ·subst hpu;exact⟨y,by omega,h3⟩
   ·rcases hcut p u b a hp h1 hpu with ⟨c,hc,h4⟩ | ⟨c,hc,h4⟩
    ·have hps:p≠s:=λ e=>Gg p b (by have:=hp.1;rwa [<- e]at this);exact⟨c+y,by omega,(Wk.one (live p u hps hu hp.2.1 h1.2.2 c h4)).trans h3⟩
    ·obtain⟨z,hz,h5⟩:=side p u c h4;exact⟨z+y,by omega,h5.trans h3⟩
def xI (S:Rel) (rk:Int->Int):Rel:=λ p q a=>S p q a/\rk p<rk q
def JR (S:Rel) (rk:Int->Int):Rel:=λ p q a=>S p q a/\rk q<rk p
def UD (S:Rel) (rk:Int->Int) (s t x:Int):Prop:=∃ p y z,Wk (xI S rk) s p y/\Wk (JR S rk) p t z/\x=y+z
theorem UD.mono {S S':Rel} {rk:Int->Int} (hS:∀ p q a,S p q a->S' p q a) (h:UD S rk s t x):UD S' rk s t x:=by
 obtain⟨p,y,z,h1,h2,rfl⟩:=h;exact⟨p,y,z,h1.imp λ p q a h=>⟨hS p q a h.1,h.2⟩,h2.imp λ p q a h=>⟨hS p q a h.1,h.2⟩,rfl⟩
structure Hd (G S A:Rel) (g:Int->Bool) (out:List Int):Prop where
 sound:∀ p q a,S p q a->Wk G p q a
 sub:∀ p q a,A p q a->S p q a
 gone:∀ p,g p=true↔p∈out
 nodup:out.Nodup
 ways:∀ rk:Int->Int,(∀ (i:Nat) p,out[i]? = some p->rk p=i)->(∀ p,p∉out->(out.length:Int)<=rk p)->∀ s t x,Wk G s t x ->
  (∃ y,y<=x/\UD S rk s t y)\/∃ s' t' a b c,g s'=false/\g t'=false/\Wk (xI S rk) s s' a/\Wk (Live A g) s' t' b/\Wk (JR S rk) t' t c/\a+b+c<=x
theorem Hd.start {g:Int->Bool} (hS:∀ p q a,S p q a->G p q a) (hA:∀ p q a,A p q a->S p q a) (hl:∀ p q a,G p q a->∃ b,b<=a/\A p q b) (hg:∀ p,g p=false):Hd G S A g [] where
 sound:=λ p q a h=>.one (hS p q a h)
 sub:=hA
 gone:=λ p=>by rw[hg p];simp
 nodup:=K_
 ways:=λ rk _ _ s t x h=>by
  obtain⟨y,hy,h1⟩:=h.light (B:=Live A g) λ p q a h=>by
   obtain⟨b,hb,h1⟩:=hl p q a h;exact⟨b,hb,.one ⟨h1,hg p,hg q⟩⟩
  exact .inr ⟨s,t,0,y,0,hg s,hg t,.nil s,h1,.nil t,by omega⟩
theorem Hd.step {g g':Int->Bool} {v:Int} {out:List Int} {S' A':Rel} (h:Hd G S A g out) (hgv:g v=false) (hv:g' v=true) (hg:∀ p,p≠v->g' p=g p)
  (Gg:∀ p a,¬ A p p a) (BH:∀ p q a,A p q a->1<=a) (zp:∀ p q a,S' p q a->Wk G p q a) (hS:∀ p q a,S p q a->S' p q a) (Mo:∀ p q a,A' p q a->S' p q a)
  (oz:∀ p q a,Live A g p q a->p≠v->q≠v->∃ b,b<=a/\A' p q b)
  (hcut:∀ p q a b,Live A g p v a->Live A g v q b->p≠q->(∃ c,c<=a+b/\A' p q c)\/∃ c,c<=a+b/\Wk (Live A g') p q c):Hd G S' A' g' (out++[v]) where
 sound:=zp
 sub:=Mo
 gone:=λ p=>by
  by_cases hp:p=v
  ·subst hp;simp[hv]
  ·rw[hg p hp,h.gone p];simp[hp]
 nodup:=by
  have hn:v∉out:=λ hm=>by have:=(h.gone v).2 hm;rw[hgv]at this;cases this
  rw[H_];exact⟨h.nodup,by simp,λ a ha b hb e=>by simp at hb;subst hb;subst e;exact hn ha⟩
 ways:=λ rk h1 h2 s t x hw=>by
  have hn:v∉out:=λ hm=>by have:=(h.gone v).2 hm;rw[hgv]at this;cases this
  have e1:∀ (i:Nat) p,out[i]? = some p->rk p=i:=λ i p hi=>h1 i p (by
   rw[B_ (A_.1 hi).1];exact hi)
  have ev:rk v=out.length:=h1 out.length v (by simp);have e2:∀ p,p∉out->(out.length:Int)<=rk p:=λ p hp=>by
   by_cases Gi:p=v
   ·subst Gi;omega
   ·have:=h2 p (by simp[hp,Gi]);simp at this;omega
  have vj:∀ p,p≠v->g p=false->rk v<rk p:=λ p hp hgp=>by
   have hpo:p∉out:=λ hm=>by have:=(h.gone p).2 hm;rw[hgp]at this;cases this
   have:=h2 p (by simp[hpo,hp]);simp at this;omega
  have G1:=@goes A g g' v A' hv hg Gg BH oz hcut;have up:∀ {s t x},Wk (xI S rk) s t x->Wk (xI S' rk) s t x:=λ h=>h.imp λ p q a h=>⟨hS p q a h.1,h.2⟩;have down:∀ {s t x},Wk (JR S rk) s t x->Wk (JR S' rk) s t x:=λ h=>h.imp λ p q a h=>⟨hS p q a h.1,h.2⟩;have off:∀ p,p≠v->g p=false->g' p=false:=λ p hp h=>by rw[hg p hp];exact h
  rcases h.ways rk e1 e2 s t x hw with ⟨y,hy,zw⟩ | ⟨s',t',a,b,c,gs,gt,w1,w2,w3,hle⟩
  ·exact .inl ⟨y,hy,zw.mono hS⟩
  ·by_cases hs:s'=v
   ·by_cases ht:t'=v
    ·subst hs;subst ht;have:=w2.pos (λ p q a h=>BH p q a h.1);exact .inl ⟨a+c,by omega,_,a,c,up w1,down w3,rfl⟩
    ·cases w2 with
     | nil=>exact absurd hs ht
     | @cons _ u _ d e k1 k2 =>
      have hu:u≠v:=λ e=>Gg v d (by have:=k1.1;rwa [hs,e]at this);obtain⟨y,hy,k3⟩:=(G1 k2 ht).1 hu;subst hs;exact .inr ⟨u,t',a+d,y,c,off u hu k1.2.2,off t' ht gt,(up w1).snoc ⟨hS _ _ _ (h.sub _ _ _ k1.1),vj u hu k1.2.2⟩,k3,down w3,by omega⟩
   ·by_cases ht:t'=v
    ·rcases w2.last with ⟨e,_⟩ | ⟨u,d,e,k1,k2,rfl⟩
     ·exact absurd (e.trans ht) hs
     ·have hu:u≠v:=λ e'=>Gg v e (by have:=k2.1;rwa [ht,e']at this);obtain⟨y,hy,k3⟩:=(G1 k1 hu).1 hs;subst ht;exact .inr ⟨s',u,a,y,e+c,off s' hs gs,off u hu k2.2.1,up w1,k3,.cons ⟨hS _ _ _ (h.sub _ _ _ k2.1),vj u hu k2.2.1⟩ (down w3),by omega⟩
    ·obtain⟨y,hy,k3⟩:=(G1 w2 ht).1 hs;exact .inr ⟨s',t',a,y,c,off s' hs gs,off t' ht gt,up w1,k3,down w3,by omega⟩
theorem Hd.over {n:Int} {g:Int->Bool} {out:List Int} (h:Hd G S A g out) (hall:∀ p,0<=p->p<n->g p=true) (hG:∀ p q a,G p q a->0<=p/\p<n/\0<=q/\q<n) (rk:Int->Int)
  (h1:∀ (i:Nat) p,out[i]? = some p->rk p=i) (h2:∀ p,p∉out->(out.length:Int)<=rk p) {s t x:Int} (hs:0<=s/\s<n) (hw:Wk G s t x):∃ y,y<=x/\UD S rk s t y:=by
 rcases h.ways rk h1 h2 s t x hw with h | ⟨s',t',a,b,c,gs,gt,w1,w2,w3,hle⟩
 ·exact h
 ·have inn:∀ {p q z},Wk G p q z->(0<=p/\p<n)->0<=q/\q<n:=λ h=>by
   induction h with
   | nil=>exact id
   | cons k1 k2 ih=>exact λ _=>ih (hG _ _ _ k1).2.2
  have:=inn (w1.flat λ p q a k=>h.sound p q a k.1) hs;rw[hall s' this.1 this.2]at gs;cases gs
end
end Go.Proofs.YtepelooebggliaaGreatDoor
namespace Go.Proofs.YtepelooebggliaaGreatDoor
abbrev D1:=Int->List (Int×Int)
inductive Reach (arcs:D1) (gone:Int->Bool) (s:Int):Nat->Int->Int->Prop
 | start:Reach arcs gone s 0 s 0
 | arc {k:Nat} {v x u c:Int}:Reach arcs gone s k v x->(u,c)∈arcs v->gone u=false->Reach arcs gone s (k+1) u (x+c)
structure Mc (N:Nat) (arcs:D1):Prop where
 arc:∀ v u c,(u,c)∈arcs v->0<=u/\u<(N:Int)/\1<=c/\c<=1125899906842624
theorem Reach.bd {N:Nat} {arcs:D1} {gone:Int->Bool} {s:Int} (ok:Mc N arcs) {k:Nat} {u x:Int} (h:Reach arcs gone s k u x):0<=x/\x<=(k:Int)*1125899906842624:=by
 induction h with
 | start=>omega
 | arc h1 h2 h3 ih =>
  have:=(ok.arc _ _ _ h2).2.2;omega
theorem Reach.node {N:Nat} {arcs:D1} {gone:Int->Bool} {s:Int} (ok:Mc N arcs) (hs:0<=s/\s<(N:Int)) {k:Nat} {u x:Int} (h:Reach arcs gone s k u x):0<=u/\u<(N:Int):=by
 cases h with
 | start=>exact hs
 | arc h1 h2 h3=>have:=ok.arc _ _ _ h2;omega
structure CF (N:Nat) (arcs:D1) (gone:Int->Bool) (s t:Int) (Bp:Bool) (P:List Int) (seen:Int->List (Int×Int)) (far:Int->Option Int) (steps:Int->Int) (l:List (Int×Int)):Prop where
 nodup:P.Nodup
 inN:∀ p∈P,0<=p/\p<(N:Int)
 start:far s=some 0
 label:∀ u x,far u=some x->∃ k:Nat,steps u=(k:Int)/\k<=P.length/\Reach arcs gone s k u x
 keys:∀ u x,(u,x)∈l↔far u=some x/\u∉P
 done:∀ p∈P,∃ x,far p=some x/\∀ e∈l,x<=e.2
 relaxed:Bp=true->∀ p∈P,∀ x,far p=some x->∀ u c,(u,c)∈seen p->gone u=false->∃ y,far u=some y/\y<=x+c
 target:t∉P
section
variable {N:Nat} {arcs:D1} {gone:Int->Bool} {s t:Int} {Bp:Bool} {P:List Int} {far:Int->Option Int} {steps:Int->Int} {l:List (Int×Int)}
theorem CT:∀ (n:Nat) (P:List Int),P.Nodup->(∀ p∈P,0<=p/\p<(n:Int))->P.length<=n
 | 0,P,_,h=>by
  cases P with
  | nil=>simp
  | cons p P=>have:=h p (by simp);omega
 | n+1,P,hn,h=>by
  have h1:=CT n (P.erase (n:Int)) (hn.erase _) (λ p hp=>by
   have h2:=h p (List.mem_of_mem_erase hp);have h3:p≠(n:Int):=λ e=>by
    rw[e]at hp;exact(List.Nodup.not_mem_erase hn) hp
   omega)
  have h2:P.length<=(P.erase (n:Int)).length+1:=by
   by_cases hm:(n:Int)∈P
   ·rw[List.length_erase_of_mem hm];omega
   ·rw[List.erase_of_not_mem hm];omega
  omega
theorem CF.few (h:CF N arcs gone s t Bp P arcs far steps l) (ht:0<=t/\t<(N:Int)):P.length<N:=by
 have:=CT N (t::P) (Pm.2 ⟨h.target,h.nodup⟩) (λ p hp=>by
  rcases Pa.1 hp with rfl | hp
  ·exact ht
  ·exact h.inN p hp)
 simp at this;omega
theorem CF.cut (h:CF N arcs gone s t true P arcs far steps l) (d:Int) (hd:∀ e∈l,d<=e.2) (BH:∀ v u c,(u,c)∈arcs v->1<=c) {k:Nat} {u x:Int} (hr:Reach arcs gone s k u x):(u∈P/\∃ y,far u=some y/\y<=x)\/d<=x:=by
 induction hr with
 | start =>
  by_cases hs:s∈P
  ·exact .inl ⟨hs,0,h.start,by omega⟩
  ·exact .inr (hd (s,0) ((h.keys s 0).2 ⟨h.start,hs⟩))
 | @arc k v x u c h1 h2 h3 ih =>
  have hc:=BH _ _ _ h2;rcases ih with ⟨hv,y,hy,pb⟩ | ih
  ·obtain⟨z,hz,hzy⟩:=h.relaxed rfl v hv y hy u c h2 h3;by_cases hu:u∈P
   ·exact .inl ⟨hu,z,hz,by omega⟩
   ·have:=hd (u,z) ((h.keys u z).2 ⟨hz,hu⟩);simp only at this;exact .inr (by omega)
  ·exact .inr (by omega)
theorem CF.lower (h:CF N arcs gone s t true P arcs far steps l) (d:Int) (hd:∀ e∈l,d<=e.2) (BH:∀ v u c,(u,c)∈arcs v->1<=c) {k:Nat} {x:Int} (hr:Reach arcs gone s k t x):d<=x:=by
 rcases h.cut d hd BH hr with ⟨h1,_⟩ | h1
 ·exact absurd h1 h.target
 ·exact h1
theorem CF.empty (h:CF N arcs gone s t true P arcs far steps []) (BH:∀ v u c,(u,c)∈arcs v->1<=c) {k:Nat} {x:Int} (hr:Reach arcs gone s k t x):False:=by
 have:=h.lower (x+1) (λ e he=>by simp at he) BH hr;omega
def upd {β:Type} (f:Int->β) (i:Int) (v:β):Int->β:=λ j=>if j=i then v else f j
theorem AZ {β:Type} (f:Int->β) (i:Int) (v:β):upd f i v i=v:=if_pos rfl
theorem AA {β:Type} (f:Int->β) {i j:Int} (v:β) (h:j≠i):upd f i v j=f j:=if_neg h
theorem CF.init (N:Nat) (arcs:D1) (gone:Int->Bool) (s t:Int) (Bp:Bool):CF N arcs gone s t Bp [] arcs (upd (λ _=>none) s (some 0)) (λ _=>0) [(s,0)] where
 nodup:=K_
 inN:=λ p hp=>by simp at hp
 start:=AZ _ _ _
 label:=λ u x hx=>by
  by_cases h:u=s
  ·subst h;rw[AZ]at hx;cases hx;exact⟨0,rfl,zl _,.start⟩
  ·rw[AA _ _ h]at hx;cases hx
 keys:=λ u x=>by
  by_cases h:u=s
  ·subst h;rw[AZ];simp[eq_comm]
  ·rw[AA _ _ h];simp[h]
 done:=λ p hp=>by simp at hp
 relaxed:=λ _ p hp=>by simp at hp
 target:=by simp
theorem CF.pop {v d:Int} {l':List (Int×Int)} (h:CF N arcs gone s t Bp P arcs far steps l) (hm:(v,d)∈l) (oG:∀ e∈l,d<=e.2) (LA:∀ e,e∈l'↔e∈l/\e≠(v,d)) (F8:∀ e∈l,e.1=v->e=(v,d)) (hv:0<=v/\v<(N:Int)) (ht:v≠t) :
  CF N arcs gone s t Bp (P++[v]) (upd arcs v []) far steps l':=by
 have wF:=(h.keys v d).1 hm
 refine⟨?_,?_,h.start,?_,?_,?_,?_,?_⟩
 ·rw[H_];refine⟨h.nodup,by simp,λ a ha b hb=>?_⟩;rw[D_]at hb;subst hb;exact λ e=>wF.2 (e▸ha)
 ·intro p hp;rcases C_.1 hp with hp | hp
  ·exact h.inN p hp
  ·rw[D_]at hp;subst hp;exact hv
 ·intro u x hx;obtain⟨k,h1,h2,h3⟩:=h.label u x hx;exact⟨k,h1,by simp;omega,h3⟩
 ·intro u x;rw[LA,h.keys];simp only[C_,D_,not_or,ne_eq,Pz];constructor
  ·rintro ⟨⟨h1,h2⟩,h3⟩;refine⟨h1,h2,λ e=>?_⟩;subst e;have:=F8 (u,x) ((h.keys u x).2 ⟨h1,h2⟩) rfl;exact h3 ⟨rfl,(PA this).2⟩
  ·rintro ⟨h1,h2,h3⟩;exact⟨⟨h1,h2⟩,λ e=>h3 e.1⟩
 ·intro p hp;rcases C_.1 hp with hp | hp
  ·obtain⟨x,hx,hk⟩:=h.done p hp;exact⟨x,hx,λ e he=>hk e ((LA e).1 he).1⟩
  ·rw[D_]at hp;subst hp;exact⟨d,wF.1,λ e he=>oG e ((LA e).1 he).1⟩
 ·intro hg p hp x hx u c Gj;by_cases Gi:p=v
  ·subst Gi;rw[AZ]at Gj;simp at Gj
  ·rw[AA _ _ Gi]at Gj;rcases C_.1 hp with hp | hp
   ·exact h.relaxed hg p hp x hx u c Gj
   ·rw[D_]at hp;exact absurd hp Gi
 ·intro hp;rcases C_.1 hp with hp | hp
  ·exact h.target hp
  ·rw[D_]at hp;exact ht hp.symm
theorem CF.skip {v d u c:Int} {done:List (Int×Int)} (h:CF N arcs gone s t Bp (P++[v]) (upd arcs v done) far steps l) (hv:far v=some d) (hx:gone u=true\/∃ y,far u=some y/\y<=d+c) :
  CF N arcs gone s t Bp (P++[v]) (upd arcs v (done++[(u,c)])) far steps l:=by
 refine { h with relaxed:=λ hg p hp x Fv u' c' Gj Km=>?_ }
 by_cases Gi:p=v
 ·subst Gi;rw[AZ]at Gj;rcases C_.1 Gj with h1 | h1
  ·exact h.relaxed hg p hp x Fv u' c' (by rw[AZ];exact h1) Km
  ·rw[D_]at h1;cases h1;rw[hv]at Fv;cases Fv;rcases hx with hx | hx
   ·rw[hx]at Km;cases Km
   ·exact hx
 ·rw[AA _ _ Gi]at Gj;exact h.relaxed hg p hp x Fv u' c' (by rw[AA _ _ Gi];exact Gj) Km
theorem CF.fresh {v d u c:Int} {done:List (Int×Int)} (h:CF N arcs gone s t Bp (P++[v]) (upd arcs v done) far steps l) (hP:∀ p∈P++[v],∃ x,far p=some x/\x<=d) (hc:1<=c) (hx:∀ y,far u=some y->d+c<y):u∉P++[v]:=λ hu=>by
 obtain⟨x,AX,CN⟩:=hP u hu;have:=hx x AX;omega
theorem CF.take {v d u c:Int} {k:Int} {done l':List (Int×Int)} (h:CF N arcs gone s t Bp (P++[v]) (upd arcs v done) far steps l) (hP:∀ p∈P++[v],∃ x,far p=some x/\x<=d) (hd:0<=d) (hv:far v=some d) (hk:steps v=k)
  (Kn:k<=P.length) (ha:(u,c)∈arcs v) (hc:1<=c) (hg:gone u=false) (hx:∀ y,far u=some y->d+c<y) (LA:∀ e,e∈l'↔(e∈l/\e.1≠u)\/e=(u,d+c)) :
  CF N arcs gone s t Bp (P++[v]) (upd arcs v (done++[(u,c)])) (upd far u (some (d+c))) (upd steps u (k+1)) l':=by
 have hu:=h.fresh hP hc hx
 have Bm:∀ p∈P++[v],p≠u:=λ p hp e=>hu (e▸hp)
 have tT:s≠u:=λ e=>by
  subst e;have h0:=hx 0 h.start;omega
 refine⟨h.nodup,h.inN,?_,?_,?_,?_,?_,h.target⟩
 ·rw[AA _ _ tT];exact h.start
 ·intro u' x Fk;by_cases hu':u'=u
  ·subst hu';rw[AZ]at Fk ⊢;cases Fk;obtain⟨k',h1,h2,h3⟩:=h.label v d hv;refine⟨k'+1,by omega,?_,.arc h3 ha hg⟩;simp;omega
  ·rw[AA _ _ hu']at Fk ⊢;exact h.label u' x Fk
 ·intro u' x;rw[LA];by_cases hu':u'=u
  ·subst hu';rw[AZ];simp only[ne_eq,not_true_eq_false,and_false,false_or,Pz,true_and,Ps];exact⟨λ e=>⟨e.symm,hu⟩,λ e=>e.1.symm⟩
  ·rw[AA _ _ hu',h.keys];simp only[ne_eq,hu',not_false_eq_true,and_true,Pz,false_and,or_false]
 ·intro p hp;rw[AA _ _ (Bm p hp)];obtain⟨x,AX,CN⟩:=h.done p hp;obtain⟨x',o9,hx2'⟩:=hP p hp;rw[AX]at o9;cases o9;refine⟨x,AX,λ e he=>?_⟩;rcases(LA e).1 he with ⟨h1,_⟩ | rfl
  ·exact CN e h1
  ·show x<=d+c;omega
 ·intro jy p hp x Fv u' c' Gj Km;rw[AA _ _ (Bm p hp)]at Fv;have key:∀ y,far u'=some y->y<=x+c'->∃ y',upd far u (some (d+c)) u'=some y'/\y'<=x+c':=λ y h1 h2=>by
   by_cases hu':u'=u
   ·subst hu';rw[AZ];have:=hx y h1;exact⟨_,rfl,by omega⟩
   ·rw[AA _ _ hu'];exact⟨y,h1,h2⟩
  by_cases Gi:p=v
  ·subst Gi;rw[AZ]at Gj;rcases C_.1 Gj with h1 | h1
   ·obtain⟨y,h2,h3⟩:=h.relaxed jy p hp x Fv u' c' (by rw[AZ];exact h1) Km;exact key y h2 h3
   ·rw[D_]at h1;cases h1;rw[hv]at Fv;cases Fv;rw[AZ];exact⟨_,rfl,Pt _⟩
  ·rw[AA _ _ Gi]at Gj;obtain⟨y,h2,h3⟩:=h.relaxed jy p hp x Fv u' c' (by rw[AA _ _ Gi];exact Gj) Km;exact key y h2 h3
theorem CF.all {v:Int} (h:CF N arcs gone s t Bp (P++[v]) (upd arcs v (arcs v)) far steps l):CF N arcs gone s t Bp (P++[v]) arcs far steps l:=by
 have e:upd arcs v (arcs v)=arcs:=by
  funext j;unfold upd;split
  ·rename_i hj;rw[hj]
  ·rfl
 rwa [e]at h
theorem CF.stop {v:Int} (h:CF N arcs gone s t Bp (P++[v]) (upd arcs v []) far steps l) (hg:Bp=false):CF N arcs gone s t Bp (P++[v]) arcs far steps l :=
 { h with relaxed:=λ jy=>by rw[hg]at jy;cases jy }
end
end Go.Proofs.YtepelooebggliaaGreatDoor
namespace Go.Proofs.YtepelooebggliaaGreatDoor
open Go.RowKit
abbrev Ar:=Int×Int
def Cq (e:Ar):List PE:=[i64 e.1,u64 e.2]
def DV (l:List Ar):List PE:=l.flatMap Cq
theorem Gc (l:List Ar):(DV l).length=l.length*2:=by
 induction l with
 | nil=>rfl
 | cons e es ih=>simp only[DV,Pb,F_,List.length_cons]at ih ⊢;rw[ih];simp[Cq];omega
theorem Gb (a b:List Ar):DV (a++b)=DV a++DV b:=List.flatMap_append
theorem Gx:∀ (l:List Ar) (i j:Nat) (e:Ar),l[i]? = some e->j<2->(DV l)[i*2+j]? = (Cq e)[j]?
 | [],i,j,e,h,_=>by simp at h
 | x::l,0,j,e,h,hj=>by
  simp only[List.getElem?_cons_zero,Ps]at h;subst h;rw[DV,Pb,Nat.zero_mul,PH,B_ (by simp[Cq];omega)]
 | x::l,i+1,j,e,h,hj=>by
  rw[List.getElem?_cons_succ]at h;have ih:=Gx l i j e h hj;have e2:(Cq x).length=2:=rfl;rw[DV,Pb,L_ (by omega),e2,show (i+1)*2+j-2=i*2+j by omega];exact ih
def Gv (w:PD) (A:Option Addr) (l:List Ar):Prop :=
 ∀ (i:Nat) (e:Ar),l[i]? = some e->∃ b off,A=some ⟨b,off,none⟩/\b<w.heap.size/\w.cell? ⟨b,off+i*2,none⟩=some (i64 e.1)/\w.cell? ⟨b,off+i*2+1,none⟩=some (u64 e.2)
theorem Gv.kept {F:Nat->Prop} {w w':PD} {A:Option Addr} {l:List Ar} (h:Gv w A l) (hK:Kept F w w') (hF:∀ a,A=some a->¬ F a.block):Gv w' A l:=by
 intro i e he;obtain⟨b,off,hA,hb,h0,h1⟩:=h i e he;have hn:=hF _ hA;exact⟨b,off,hA,PG hb hK.size,hK.cell h0 hn,hK.cell h1 hn⟩
theorem Gv.grew {w w':PD} {A:Option Addr} {l:List Ar} (h:Gv w A l) (hK:Ac w w'):Gv w' A l:=h.kept hK λ _ _ h=>h
theorem Gv.nil (w:PD) (A:Option Addr):Gv w A []:=by intro i e he;simp at he
def cP (w:PD) (A:Option Addr) (ls:List (List Ar)):Prop :=
 ∀ (i:Nat) (l:List Ar),ls[i]? = some l->∃ b off Ai c,A=some ⟨b,off,none⟩/\b<w.heap.size/\w.cell? ⟨b,off+i,none⟩=some (.slice Ai l.length c)/\Gv w Ai l
theorem cP.grew {w w':PD} {A:Option Addr} {ls:List (List Ar)} (h:cP w A ls) (hK:Ac w w'):cP w' A ls:=λ i l hl=>by
 obtain⟨b,off,Ai,c,h1,h2,h3,h4⟩:=h i l hl;exact⟨b,off,Ai,c,h1,PG h2 hK.size,hK.cell h3,h4.grew hK⟩
def LJ (w:PD) (A:Option Addr) (gs:List Bool):Prop :=
 ∀ (i:Nat) (g:Bool),gs[i]? = some g->∃ b off,A=some ⟨b,off,none⟩/\b<w.heap.size/\w.cell? ⟨b,off+i,none⟩=some (.bool g)
theorem LJ.grew {w w':PD} {A:Option Addr} {gs:List Bool} (h:LJ w A gs) (hK:Ac w w'):LJ w' A gs:=λ i l hl=>by
 obtain⟨b,off,h1,h2,h3⟩:=h i l hl;exact⟨b,off,h1,PG h2 hK.size,hK.cell h3⟩
end Go.Proofs.YtepelooebggliaaGreatDoor
namespace Go.Proofs.YtepelooebggliaaGreatDoor
def atR:List Sc->Int->Int->Option Nat
 | [],_,_=>none
 | x::r,u,t=>if x.from'=u/\x.to'=t then some r.length else atR r u t
def atF (ss:List Sc) (u t:Int):Option Nat:=atR ss.reverse u t
def ux:List Sc->Int->List Ar
 | [],_=>[]
 | x::r,u=>if x.from'=u then (ux r u).filter (λ a=>!decide (a.1=x.to'))++[(x.to',x.w)] else ux r u
def AS (ss:List Sc) (u:Int):List Ar:=ux ss.reverse u
def DM (ss:List Sc) (x:Sc):List Sc :=
 match atF ss x.from' x.to' with
 | some i=>if (ss.getD i x).w<=x.w then ss else ss++[x]
 | none=>ss++[x]
section
variable {ss:List Sc} {x s:Sc} {u t v p q a b y:Int} {i:Nat}
theorem sB (u t:Int):atF [] u t=none:=rfl
theorem KJ (u:Int):AS [] u=[]:=rfl
theorem Hj (ss:List Sc) (x:Sc) (u t:Int):atF (ss++[x]) u t=if x.from'=u/\x.to'=t then some ss.length else atF ss u t:=by
 unfold atF;rw[Pg];simp[atR]
theorem F4 (ss:List Sc) (x:Sc) (u:Int):AS (ss++[x]) u=if x.from'=u then (AS ss u).filter (λ a=>!decide (a.1=x.to'))++[(x.to',x.w)] else AS ss u:=by
 unfold AS;rw[Pg];simp[ux]
theorem Li {P:List Sc->Prop} (h0:P []) (h1:∀ l x,P l->P (l++[x])) (l:List Sc):P l:=by
 have:∀ r:List Sc,P r.reverse:=λ r=>by
  induction r with
  | nil=>exact h0
  | cons x r ih=>rw[Pj];exact h1 _ _ ih
 have h:=this l.reverse;rwa [Pe]at h
theorem FV:∀ {i:Nat},atF ss u t=some i->∃ s,ss[i]? = some s/\s.from'=u/\s.to'=t:=by
 refine Li (P:=λ ss=>∀ {i:Nat},atF ss u t=some i->∃ s,ss[i]? = some s/\s.from'=u/\s.to'=t) ?_ ?_ ss
 ·intro i h;cases h
 ·intro l x ih i h;rw[Hj]at h;split at h
  ·cases h;exact⟨x,by simp,by assumption⟩
  ·obtain⟨s,h1,h2⟩:=ih h;exact⟨s,by rw[B_ (A_.1 h1).1];exact h1,h2⟩
theorem I2 (h:atF ss u t=some i):i<ss.length:=by
 obtain⟨s,h1,_⟩:=FV h;exact(A_.1 h1).1
theorem DF (ss:List Sc) (u t y:Int):(t,y)∈AS ss u↔∃ i s,atF ss u t=some i/\ss[i]? = some s/\s.w=y:=by
 refine Li (P:=λ ss=>(t,y)∈AS ss u↔∃ i s,atF ss u t=some i/\ss[i]? = some s/\s.w=y) ?_ ?_ ss
 ·simp[KJ,sB]
 ·intro l x ih;rw[F4,Hj];by_cases h1:x.from'=u
  ·by_cases h2:x.to'=t
   ·rw[if_pos h1,if_pos ⟨h1,h2⟩];constructor
    ·intro h;rcases C_.1 h with h | h
     ·simp[h2]at h
     ·simp at h;exact⟨l.length,x,rfl,by simp,h.2.symm⟩
    ·rintro ⟨i,s,hi,hs,rfl⟩;cases hi;simp at hs;subst hs;simp[h2]
   ·rw[if_pos h1,if_neg (by simp[h2])];have:(t,y)∈(AS l u).filter (λ a=>!decide (a.1=x.to'))++[(x.to',x.w)]↔(t,y)∈AS l u:=by
     have h3:t≠x.to':=λ e=>h2 e.symm
     simp[h3]
    rw[this,ih];constructor
    ·rintro ⟨i,s,hi,hs,h⟩;exact⟨i,s,hi,by rw[B_ (A_.1 hs).1];exact hs,h⟩
    ·rintro ⟨i,s,hi,hs,h⟩;exact⟨i,s,hi,by rw[B_ (I2 hi)]at hs;exact hs,h⟩
  ·rw[if_neg h1,if_neg (by simp[h1]),ih];constructor
   ·rintro ⟨i,s,hi,hs,h⟩;exact⟨i,s,hi,by rw[B_ (A_.1 hs).1];exact hs,h⟩
   ·rintro ⟨i,s,hi,hs,h⟩;exact⟨i,s,hi,by rw[B_ (I2 hi)]at hs;exact hs,h⟩
theorem Ij (h:(t,a)∈AS ss u) (k:(t,b)∈AS ss u):a=b:=by
 obtain⟨i,s,h1,h2,rfl⟩:=(DF ss u t a).1 h;obtain⟨j,r,h3,h4,rfl⟩:=(DF ss u t b).1 k;rw[h1]at h3;cases h3;rw[h2]at h4;cases h4;rfl
theorem Fb (h:(t,a)∈AS ss u):∃ s∈ss,s.from'=u/\s.to'=t/\s.w=a:=by
 obtain⟨i,s,h1,h2,h3⟩:=(DF ss u t a).1 h;obtain⟨r,h4,h5,h6⟩:=FV h1;rw[h2]at h4;cases h4;exact⟨s,zm h2,h5,h6,h3⟩
theorem CZ (ss:List Sc) (x:Sc):(DM ss x=ss/\∃ b,b<=x.w/\(x.to',b)∈AS ss x.from')\/(DM ss x=ss++[x]/\∀ b,(x.to',b)∈AS ss x.from'->x.w<b):=by
 unfold DM;cases h:atF ss x.from' x.to' with
 | none =>
  refine .inr ⟨rfl,λ b hb=>?_⟩;obtain⟨i,s,h1,_⟩:=(DF ss _ _ _).1 hb;rw[h]at h1;cases h1
 | some i =>
  obtain⟨s,hs,_⟩:=FV h;have e:ss.getD i x=s:=by rw[E_,hs];rfl
  simp only[e];by_cases hw:s.w<=x.w
  ·rw[if_pos hw];exact .inl ⟨rfl,s.w,hw,(DF ss _ _ _).2 ⟨i,s,h,hs,rfl⟩⟩
  ·rw[if_neg hw];refine .inr ⟨rfl,λ b hb=>?_⟩;obtain⟨j,r,h1,h2,rfl⟩:=(DF ss _ _ _).1 hb;rw[h]at h1;cases h1;rw[hs]at h2;cases h2;omega
theorem su (ss:List Sc) (x:Sc):ss <+: DM ss x:=by
 rcases CZ ss x with ⟨h,_⟩ | ⟨h,_⟩
 ·rw[h];exact N_ _
 ·rw[h];exact M_ _ _
theorem FU (h:s∈DM ss x):s∈ss\/s=x:=by
 rcases CZ ss x with ⟨e,_⟩ | ⟨e,_⟩
 ·rw[e]at h;exact .inl h
 ·rw[e]at h;simpa using h
theorem MY (ss:List Sc) (x:Sc):(DM ss x).length<=ss.length+1:=by
 rcases CZ ss x with ⟨e,_⟩ | ⟨e,_⟩<;>rw[e]<;>simp
theorem Hh (h:¬ (x.from'=u/\x.to'=t)):atF (DM ss x) u t=atF ss u t:=by
 rcases CZ ss x with ⟨e,_⟩ | ⟨e,_⟩
 ·rw[e]
 ·rw[e,Hj,if_neg h]
theorem Lj:(t,y)∈AS (ss++[x]) u↔(x.from'=u/\x.to'=t/\y=x.w)\/(¬ (x.from'=u/\x.to'=t)/\(t,y)∈AS ss u):=by
 rw[F4];by_cases h1:x.from'=u
 ·by_cases h2:x.to'=t
  ·simp[h1,h2]
  ·have h3:t≠x.to':=λ e=>h2 e.symm;simp[h1,h2,h3]
 ·simp[h1]
theorem JW (h:(t,y)∈AS ss u):∃ b,b<=y/\(t,b)∈AS (DM ss x) u:=by
 rcases CZ ss x with ⟨e,_⟩ | ⟨e,AH⟩
 ·rw[e];exact⟨y,Pt _,h⟩
 ·rw[e];by_cases h1:x.from'=u/\x.to'=t
  ·refine⟨x.w,?_,Lj.2 (.inl ⟨h1.1,h1.2,rfl⟩)⟩;have:=AH y (by rw[h1.1,h1.2];exact h);omega
  ·exact⟨y,Pt _,Lj.2 (.inr ⟨h1,h⟩)⟩
theorem ft (ss:List Sc) (x:Sc):∃ b,b<=x.w/\(x.to',b)∈AS (DM ss x) x.from':=by
 rcases CZ ss x with ⟨e,h⟩ | ⟨e,_⟩
 ·rw[e];exact h
 ·rw[e];exact⟨x.w,Pt _,Lj.2 (.inl ⟨rfl,rfl,rfl⟩)⟩
def CM (es:List AB):Rel:=λ p q a=>∃ i:Nat,es[i]? = some (p,q,a)
def mS (ss:List Sc):Rel:=λ p q a=>∃ s∈ss,s.from'=p/\s.to'=q/\s.w=a
def MZ (ss:List Sc):Rel:=λ p q a=>(q,a)∈AS ss p
theorem mR (h:MZ ss p q a):mS ss p q a:=by
 obtain⟨s,h1,h2,h3,h4⟩:=Fb h;exact⟨s,h1,h2,h3,h4⟩
theorem iQ {ss Ju:List Sc} (h:ss <+: Ju) (k:mS ss p q a):mS Ju p q a:=by
 obtain⟨s,h1,h2⟩:=k;exact⟨s,h.subset h1,h2⟩
def JY (out:List Int) (ss:List Sc) (i:Nat) (s:Sc):Prop :=
 s.edge=-1/\∃ (j k:Nat) (x y:Sc),s.a=j/\s.b=k/\j<i/\k<i/\ss[j]? = some x/\ss[k]? = some y/\x.from'=s.from'/\x.to'=y.from'/\y.to'=s.to'/\x.w+y.w=s.w /\
  ∃ m:Nat,out[m]? = some x.to'/\s.from'∉out.take (m+1)/\s.to'∉out.take (m+1)
theorem JY.mono {out out':List Int} {ss Ju:List Sc} (h:JY out ss i s) (h1:out <+: out') (h2:ss <+: Ju):JY out' Ju i s:=by
 obtain⟨e,j,k,x,y,ea,eb,hj,hk,hx,hy,r1,r2,r3,r4,m,hm,n1,n2⟩:=h;obtain⟨o2,rfl⟩:=h1;obtain⟨s2,rfl⟩:=h2;have OW:=(A_.1 hm).1;refine⟨e,j,k,x,y,ea,eb,hj,hk,?_,?_,r1,r2,r3,r4,m,?_,?_,?_⟩
 ·rw[B_ (A_.1 hx).1];exact hx
 ·rw[B_ (A_.1 hy).1];exact hy
 ·rw[B_ OW];exact hm
 ·rw[Pc (by omega)];exact n1
 ·rw[Pc (by omega)];exact n2
structure BR (N:Nat) (es:List AB) (ss:List Sc) (g:Int->Bool) (out:List Int):Prop where
 going:Hd (CM es) (mS ss) (MZ ss) g out
 inn:∀ s∈ss,inN N s
 loop:∀ s∈ss,s.from'≠s.to'
 wt:∀ s∈ss,1<=s.w/\s.w<=4294967296*2 ^ out.length
 made:∀ i s,ss[i]? = some s->Ce es s\/JY out ss i s
 len:ss.length<=es.length+N*N*out.length
 rng:∀ p∈out,0<=p/\p<(N:Int)
structure EV (ss:List Sc) (g:Int->Bool) (v:Int) (N:Nat) (l:List Ar) (of:List Int):Prop where
 len:of.length=l.length
 few:l.length<=N*N
 is:∀ (i:Nat) u w x,of[i]? = some u->l[i]? = some (w,x)->u≠w/\u≠v/\w≠v/\g u=false/\g w=false/\∃ a b,(v,a)∈AS ss u/\(w,b)∈AS ss v/\x=a+b
 all:∀ u w a b,(v,a)∈AS ss u->(w,b)∈AS ss v->u≠w->u≠v->w≠v->g u=false->g w=false ->
  (∃ i:Nat,of[i]? = some u/\l[i]? = some (w,a+b))\/∃ (k:Nat) (x:Int),x<=a+b/\Reach (AS ss) (λ p=>decide (p=v)||g p) u k w x
def mkS (ss:List Sc) (v u:Int) (e:Ar):Sc:=⟨u,e.1,e.2,-1,((atF ss u v).getD 0:Nat),((atF ss v e.1).getD 0:Nat)⟩
def Bo (ss:List Sc) (v:Int) (of:List Int) (l:List Ar):Nat->List Sc
 | 0=>ss
 | k+1=>DM (Bo ss v of l k) (mkS (Bo ss v of l k) v (of.getD k 0) (l.getD k (0,0)))
theorem pW {g':Int->Bool} {k:Nat} {w:Int} (h:Reach (AS ss) g' u k w y) (hu:g' u=false):Wk (Live (MZ ss) g') u w y/\g' w=false:=by
 induction h with
 | start=>exact⟨.nil _,hu⟩
 | arc h1 h2 h3 ih=>exact⟨ih.1.snoc ⟨h2,ih.2,h3⟩,h3⟩
variable {N:Nat} {es:List AB} {g:Int->Bool} {out:List Int} {l:List Ar} {of:List Int}
structure fl (N:Nat) (es:List AB) (Jv ss:List Sc) (g:Int->Bool) (out:List Int) (v:Int) (l:List Ar) (of:List Int) (k:Nat):Prop where
 pre:Jv <+: ss
 sound:∀ p q a,mS ss p q a->Wk (CM es) p q a
 inn:∀ s∈ss,inN N s
 loop:∀ s∈ss,s.from'≠s.to'
 wt:∀ s∈ss,1<=s.w/\s.w<=4294967296*2 ^ (out.length+1)
 made:∀ i s,ss[i]? = some s->Ce es s\/JY (out++[v]) ss i s
 len:ss.length<=Jv.length+k
 keep:∀ p q a,MZ Jv p q a->∃ b,b<=a/\MZ ss p q b
 tox:∀ u,atF ss u v=atF Jv u v
 fro:∀ w,atF ss v w=atF Jv v w
 had:∀ i,i<k->∀ u w x,of[i]? = some u->l[i]? = some (w,x)->∃ b,b<=x/\MZ ss u w b
theorem BR.some0 (h:BR N es ss g out) (v:Int) (l:List Ar) (of:List Int):fl N es ss ss g out v l of 0 where
 pre:=N_ _
 sound:=h.going.sound
 inn:=h.inn
 loop:=h.loop
 wt:=λ s hs=>by
  have:=h.wt s hs;rw[Int.pow_succ];have hp:(0:Int)<2 ^ out.length:=Int.pow_pos (by decide);omega
 made:=λ i s hs=>(h.made i s hs).imp id λ h=>h.mono (M_ _ _) (N_ _)
 len:=zl _
 keep:=λ p q a h=>⟨a,Pt _,h⟩
 tox:=λ _=>rfl
 fro:=λ _=>rfl
 had:=λ i hi=>by omega
theorem BR.some_next {Jv:List Sc} {k:Nat} (h:BR N es Jv g out) (hg:g v=false) (hk:EV Jv g v N l of) (s:fl N es Jv ss g out v l of k) {u w x:Int} (hu:of[k]? = some u) (hw:l[k]? = some (w,x)) :
  fl N es Jv (DM ss (mkS ss v u (w,x))) g out v l of (k+1):=by
 obtain⟨huw,dW,rU,gu,gw,a,b,ha,hb,rfl⟩:=hk.is k u w x hu hw
 obtain⟨i,si,hi,lW,rfl⟩:=(DF Jv u v _).1 ha
 obtain⟨j,sj,hj,hsj,rfl⟩:=(DF Jv v w _).1 hb
 obtain⟨si',h1,h2,h3⟩:=FV hi
 rw[lW]at h1
 cases h1
 obtain⟨sj',h1,h4,h5⟩:=FV hj
 rw[hsj]at h1
 cases h1
 have mi:=zm lW
 have mj:=zm hsj
 have hm:mkS ss v u (w,si.w+sj.w)=⟨u,w,si.w+sj.w,-1,(i:Int),(j:Int)⟩:=by
  unfold mkS;simp only[s.tox,s.fro,hi,hj,Option.getD_some]
 rw[hm]
 have hnv:v∉out:=λ hm=>by have:=(h.going.gone v).2 hm;rw[hg]at this;cases this
 have hnu:u∉out:=λ hm=>by have:=(h.going.gone u).2 hm;rw[gu]at this;cases this
 have hnw:w∉out:=λ hm=>by have:=(h.going.gone w).2 hm;rw[gw]at this;cases this
 have hp:(0:Int)<2 ^ out.length:=Int.pow_pos (by decide)
 have pre:Jv <+: DM ss ⟨u,w,si.w+sj.w,-1,(i:Int),(j:Int)⟩:=s.pre.trans (su _ _)
 have hsi2:∀ {Ju},Jv <+: Ju->Ju[i]? = some si/\Ju[j]? = some sj:=λ h=>by
  obtain⟨r,rfl⟩:=h;exact⟨by rw[B_ (I2 hi)];exact lW,by rw[B_ (I2 hj)];exact hsj⟩
 refine⟨pre,?_,?_,?_,?_,?_,?_,?_,?_,?_,?_⟩
 ·rintro p q c ⟨r,hr,rfl,rfl,rfl⟩;rcases FU hr with hr | rfl
  ·exact s.sound _ _ _ ⟨r,hr,rfl,rfl,rfl⟩
  ·refine(h.going.sound u v si.w ⟨si,mi,h2,h3,rfl⟩).trans (h.going.sound v w sj.w ⟨sj,mj,h4,h5,rfl⟩)
 ·intro r hr;rcases FU hr with hr | rfl
  ·exact s.inn r hr
  ·have a1:=h.inn si mi;have a2:=h.inn sj mj;unfold inN at a1 a2 ⊢;simp only;omega
 ·intro r hr;rcases FU hr with hr | rfl
  ·exact s.loop r hr
  ·exact huw
 ·intro r hr;rcases FU hr with hr | rfl
  ·exact s.wt r hr
  ·have a1:=h.wt si mi;have a2:=h.wt sj mj;rw[Int.pow_succ];simp only;omega
 ·intro m r hr;rcases CZ ss ⟨u,w,si.w+sj.w,-1,(i:Int),(j:Int)⟩ with ⟨e,_⟩ | ⟨e,_⟩
  ·rw[e]at hr ⊢;exact s.made m r hr
  ·rw[e]at hr ⊢;rcases PI m ss.length with OW | OW
   ·rw[B_ OW]at hr;exact(s.made m r hr).imp id λ h=>h.mono (N_ _) (M_ _ _)
   ·have hmlt:=(A_.1 hr).1;simp at hmlt;obtain rfl:m=ss.length:=(by omega);simp at hr;subst hr;have hlen:=s.pre.length_le;have b1:=I2 hi;have b2:=I2 hj;obtain⟨c1,c2⟩:=hsi2 (s.pre.trans (M_ ss [⟨u,w,si.w+sj.w,-1,(i:Int),(j:Int)⟩]));refine .inr ⟨rfl,i,j,si,sj,rfl,rfl,by omega,by omega,c1,c2,h2,h3.trans h4.symm,h5,rfl,out.length,?_,?_,?_⟩
    ·rw[h3];simp
    ·rw[I_ (by simp)];simp[hnu,dW]
    ·rw[I_ (by simp)];simp[hnw,rU]
 ·have:=MY ss ⟨u,w,si.w+sj.w,-1,(i:Int),(j:Int)⟩;have:=s.len;omega
 ·intro p q c hc;obtain⟨d,hd,h6⟩:=s.keep p q c hc;obtain⟨e,he,h7⟩:=JW (x:=⟨u,w,si.w+sj.w,-1,(i:Int),(j:Int)⟩) h6;exact⟨e,by omega,h7⟩
 ·intro p;rw[Hh (by simp[rU])];exact s.tox p
 ·intro p;rw[Hh (by simp[dW])];exact s.fro p
 ·intro m hm p q c rQ hq;by_cases Hu:m=k
  ·subst Hu;rw[hu]at rQ;cases rQ;rw[hw]at hq;cases hq;exact ft ss ⟨u,w,si.w+sj.w,-1,(i:Int),(j:Int)⟩
  ·obtain⟨d,hd,h6⟩:=s.had m (by omega) p q c rQ hq;obtain⟨e,he,h7⟩:=JW (x:=⟨u,w,si.w+sj.w,-1,(i:Int),(j:Int)⟩) h6;exact⟨e,by omega,h7⟩
theorem BR.somes {Jv:List Sc} (h:BR N es Jv g out) (hg:g v=false) (hk:EV Jv g v N l of):∀ k,k<=l.length->fl N es Jv (Bo Jv v of l k) g out v l of k:=by
 intro k;induction k with
 | zero=>exact λ _=>h.some0 v l of
 | succ k ih =>
  intro hle;have s:=ih (by omega);have hl:=hk.len;obtain⟨u,hu⟩:=zx (l:=of) (i:=k) (by omega);obtain⟨e,he⟩:=zx (l:=l) (i:=k) (by omega);have:=h.some_next hg hk s hu he;unfold Bo;rw[E_,hu,E_,he];exact this
theorem BR.next {Jv:List Sc} {g':Int->Bool} (h:BR N es Jv g out) (hvN:0<=v/\v<(N:Int)) (hg:g v=false) (hk:EV Jv g v N l of) (jy:∀ p,g' p=(decide (p=v)||g p)) :
  BR N es (Bo Jv v of l l.length) g' (out++[v]):=by
 have s:=h.somes hg hk l.length (zl _)
 have hv:g' v=true:=by rw[jy];simp
 have ho:∀ p,p≠v->g' p=g p:=λ p hp=>by rw[jy];simp[hp]
 have Gg:∀ p a,¬ MZ Jv p p a:=λ p a h1=>by
  obtain⟨r,h2,h3,h4,_⟩:=Fb h1;exact h.loop r h2 (h3.trans h4.symm)
 have BH:∀ p q a,MZ Jv p q a->1<=a:=λ p q a h1=>by
  obtain⟨r,h2,_,_,rfl⟩:=Fb h1;exact(h.wt r h2).1
 refine⟨h.going.step hg hv ho Gg BH s.sound (λ p q a=>iQ s.pre) (λ p q a=>mR) (λ p q a h1 _ _=>s.keep p q a h1.1) (λ p q a b h1 h2 Gh=>?_),s.inn,s.loop,?_,s.made,?_,?_⟩
 ·have Gi:p≠v:=λ e=>Gg v a (by have:=h1.1;rwa [e]at this);have hqv:q≠v:=λ e=>Gg v b (by have:=h2.1;rwa [e]at this);rcases hk.all p q a b h1.1 h2.1 Gh Gi hqv h1.2.1 h2.2.2 with ⟨i,hi,hl⟩ | ⟨k,x,hx,hr⟩
  ·exact .inl (s.had i (A_.1 hl).1 p q _ hi hl)
  ·have e:(λ p=>decide (p=v)||g p)=g':=funext λ p=>(jy p).symm;rw[e]at hr;exact .inr ⟨x,hx,(pW hr (by rw[ho p Gi];exact h1.2.1)).1⟩
 ·intro r hr;have:=s.wt r hr;rw[F_];exact this
 ·have h1:=s.len;have h2:=h.len;have h3:=hk.few;have:N*N*(out++[v]).length=N*N*out.length+N*N:=by rw[F_];exact Nat.mul_succ _ _
  omega
 ·intro p hp;rcases C_.1 hp with hp | hp
  ·exact h.rng p hp
  ·simp at hp;subst hp;exact hvN
def EL (es:List AB):Nat->List Sc
 | 0=>[]
 | k+1=>let e:=es.getD k (0,0,0);DM (EL es k) ⟨e.1,e.2.1,e.2.2,k,-1,-1⟩
structure Beg (n:Int) (es:List AB) (ss:List Sc) (k:Nat):Prop where
 edge:∀ s∈ss,Ce es s
 len:ss.length<=k
 had:∀ i,i<k->∀ p q a,es[i]? = some (p,q,a)->∃ b,b<=a/\MZ ss p q b
theorem fw (n:Int) (es:List AB):∀ k,k<=es.length->Beg n es (EL es k) k:=by
 intro k;induction k with
 | zero=>exact λ _=>⟨λ s hs=>by simp[EL]at hs,zl _,λ i hi=>by omega⟩
 | succ k ih =>
  intro hle;have b:=ih (by omega);obtain⟨⟨p,q,a⟩,he⟩:∃ e,es[k]? = some e:=⟨_,zq (by omega)⟩;have e:es.getD k (0,0,0)=(p,q,a):=by rw[E_,he];rfl
  unfold EL;simp only[e];refine⟨λ s hs=>?_,?_,λ i hi p' q' a' h'=>?_⟩
  ·rcases FU hs with hs | rfl
   ·exact b.edge s hs
   ·exact⟨by simp,rfl,rfl,by simpa using he⟩
  ·have:=MY (EL es k) ⟨p,q,a,k,-1,-1⟩;have:=b.len;omega
  ·by_cases fS:i=k
   ·subst fS;rw[he]at h';cases h';exact ft (EL es i) ⟨p,q,a,i,-1,-1⟩
   ·obtain⟨d,hd,h6⟩:=b.had i (by omega) p' q' a' h';obtain⟨f,hf,h7⟩:=JW (x:=⟨p,q,a,k,-1,-1⟩) h6;exact⟨f,by omega,h7⟩
theorem BR.start {N:Nat} {es:List AB} {g:Int->Bool} (hr:Aq N es=0) (hg:∀ p,g p=false):BR N es (EL es es.length) g []:=by
 have b:=fw (N:Int) es es.length (zl _);have ok:∀ s∈EL es es.length,Mb N (s.from',s.to',s.w):=λ s hs=>Ch hr (zm (b.edge s hs).2.2.2);refine⟨Hd.start (λ p q a=>?_) (λ p q a=>mR) (λ p q a=>?_) hg,λ s hs=>JF hr (b.edge s hs),λ s hs=>?_,λ s hs=>?_,λ i s hs=>.inl (b.edge s (zm hs)),?_,λ p hp=>by simp at hp⟩
 ·rintro ⟨s,hs,rfl,rfl,rfl⟩;exact⟨_,(b.edge s hs).2.2.2⟩
 ·rintro ⟨i,hi⟩;exact b.had i (A_.1 hi).1 p q a hi
 ·have:=ok s hs;unfold Mb at this;exact this.2.2.2.2.1
 ·have:=ok s hs;unfold Mb at this;simp only at this;simp;omega
 ·have:=b.len;simp;omega
theorem BR.madeOf {rk:List Int} (h:BR N es ss g out) (hlen:rk.length=N) (Ba:Bq rk) (hout:out.length=N) (IK:∀ (i:Nat) p,out[i]? = some p->rk.getD p.toNat 0=i) (yi:out.length<=30):Go.Proofs.YtepelooebggliaaGreatDoor.made N es rk ss:=by
 refine⟨by omega,Ba,λ i s hs=>?_⟩;rcases h.made i s hs with h1 | ⟨e,j,k,x,y,ea,eb,hj,hk,hx,hy,r1,r2,r3,r4,m,hm,n1,n2⟩
 ·exact .inl h1
 ·have LU:=zm hs;have w1:=h.wt x (zm hx);have w2:=h.wt y (zm hy);have hp:(2:Int) ^ out.length<=2 ^ 30:=by
   have:=Nat.pow_le_pow_right (n:=2) (by decide) yi
   exact_mod_cast this
  have i1:=h.inn s LU;unfold inN at i1;have inO:∀ p,0<=p/\p<(N:Int)->p∉out.take (m+1)->(m:Int)<rk.getD p.toNat 0:=λ p hp hn=>by
   have hpo:p∈out:=by
    have hall:∀ q:Int,0<=q->q<(N:Int)->q∈out:=λ q h0 h1=>by
     apply Pr;intro hq;have hl:=CT N (q::out) (Pm.2 ⟨hq,h.going.nodup⟩) (λ z hz=>by
      rcases Pa.1 hz with rfl | hz
      ·exact⟨h0,h1⟩
      ·exact h.rng z hz)
     simp at hl;omega
    exact hall p hp.1 hp.2
   obtain⟨c,hc,hcp⟩:=Ph hpo
   have tq:m<c:=by
    apply Pr;intro hle;apply hn;rw[<- hcp];exact List.mem_take_iff_getElem.2 ⟨c,by omega,rfl⟩
   rw[IK c p (by rw[zq hc,hcp])]
   omega
  refine .inr ⟨e,by omega,by omega,h.loop s LU,x,y,?_,?_,r1,r2,r3,?_,?_⟩
  ·rw[ea,Px,G_ hj];exact hx
  ·rw[eb,Px,G_ hk];exact hy
  ·rw[r4];have:=h.wt s LU;unfold im;exact Go.IntWalk.u64_in _ (by omega)
  ·have a1:=inO s.from' ⟨i1.1,i1.2.1⟩ n1;have a2:=inO s.to' ⟨i1.2.2.1,i1.2.2.2⟩ n2;rw[IK m x.to' hm];omega
end
end Go.Proofs.YtepelooebggliaaGreatDoor
namespace Go.Proofs.YtepelooebggliaaGreatDoor
def Fg (v:Int) (acc:Option Int) (a:Ar):Option Int :=
 if a.1=v then (match acc with | none=>some a.2 | some w=>if a.2<w then some a.2 else some w) else acc
def CI (l:List Ar) (v:Int):Option Int:=l.foldl (Fg v) none
theorem KG (l:List Ar) (a:Ar) (v:Int):CI (l++[a]) v=Fg v (CI l v) a:=by simp[CI,List.foldl_append]
theorem GQ {l:List Ar} {k:Nat} {a:Ar} (h:l[k]? = some a) (v:Int):CI (l.take (k+1)) v=Fg v (CI (l.take k) v) a:=by
 rw[List.take_add_one,h];exact KG _ _ _
theorem FN {l:List Ar} {k:Nat} {a:Ar} (h:l[k]? = some a) {v:Int} (hv:a.1≠v):CI (l.take (k+1)) v=CI (l.take k) v:=by
 rw[GQ h];unfold Fg;rw[if_neg hv]
theorem ld {α:Type} {P:List α->Prop} (h0:P []) (h1:∀ l x,P l->P (l++[x])) (l:List α):P l:=by
 have:∀ r:List α,P r.reverse:=λ r=>by
  induction r with
  | nil=>exact h0
  | cons x r ih=>rw[Pj];exact h1 _ _ ih
 have h:=this l.reverse;rwa [Pe]at h
theorem MD {l:List Ar} (h:l.Pairwise λ a b=>a.1≠b.1) (v y:Int):CI l v=some y↔(v,y)∈l:=by
 revert h y;refine ld (P:=λ l=>l.Pairwise (λ a b=>a.1≠b.1)->∀ y,CI l v=some y↔(v,y)∈l) ?_ ?_ l
 ·intro _ y;simp[CI]
 ·intro l a ih h y;obtain⟨h1,_,h2⟩:=List.pairwise_append.1 h;have ih:=ih h1;rw[KG];unfold Fg;by_cases ha:a.1=v
  ·have hn:CI l v=none:=by
    cases hm:CI l v with
    | none=>rfl
    | some z=>exact absurd ha.symm (h2 _ ((ih z).1 hm) a (by simp))
   rw[if_pos ha,hn];simp only[C_,D_,Ps];constructor
   ·intro e;subst e;exact .inr (by rw[<- ha])
   ·rintro (e | e)
    ·exact absurd ha.symm (h2 _ e a (by simp))
    ·rw[<- e]
  ·rw[if_neg ha,ih];simp only[C_,D_];constructor
   ·exact .inl
   ·rintro (e | e)
    ·exact e
    ·exact absurd (by rw[<- e]) ha
def Fw (out:Int->List Ar) (g:Int->Bool) (v:Int) (u k:Nat):Int->Option Int:=λ x =>
 if x≠v/\g x=false/\0<=x then (if x<(u:Int) then CI (out x) v else if x=(u:Int) then CI ((out x).take k) v else none) else none
def By (out:Int->List Ar) (g:Int->Bool) (v:Int) (u k:Nat):Int->Option Int:=λ x =>
 if x≠v/\g x=false then (if v<(u:Int) then CI (out v) x else if v=(u:Int) then CI ((out v).take k) x else none) else none
noncomputable def Cz (m:Int->Option Int) (g:Int->Bool) (v x w:Int):Int->Option Int :=
 if x≠v/\g x=false then (match m x with | none=>EG m x w | some y=>if w<y then EG m x w else m) else m
section
variable {out:Int->List Ar} {g:Int->Bool} {v:Int} {u k:Nat} {a:Ar}
theorem kl (v:Int):CI [] v=none:=rfl
theorem qj:Fw out g v 0 0=λ _=>none:=by
 funext x;unfold Fw;split
 ·rw[if_neg (by omega)];split<;>rfl
 ·rfl
theorem dw (hv:0<=v):By out g v 0 0=λ _=>none:=by
 funext x;unfold By;split
 ·rw[if_neg (by omega)];split<;>rfl
 ·rfl
theorem uK (h:(out u).length<=k):Fw out g v u k=Fw out g v (u+1) 0:=by
 funext x;unfold Fw;by_cases hx:x≠v/\g x=false/\0<=x
 ·rw[if_pos hx,if_pos hx];by_cases h1:x<(u:Int)
  ·rw[if_pos h1,if_pos (by omega)]
  ·rw[if_neg h1];by_cases h2:x=(u:Int)
   ·rw[if_pos h2,if_pos (by omega),h2,I_ h]
   ·rw[if_neg h2,if_neg (by omega)];split<;>rfl
 ·rw[if_neg hx,if_neg hx]
theorem jj (h:(out u).length<=k):By out g v u k=By out g v (u+1) 0:=by
 funext x;unfold By;by_cases hx:x≠v/\g x=false
 ·rw[if_pos hx,if_pos hx];by_cases h1:v<(u:Int)
  ·rw[if_pos h1,if_pos (by omega)]
  ·rw[if_neg h1];by_cases h2:v=(u:Int)
   ·rw[if_pos h2,if_pos (by omega),h2,I_ h]
   ·rw[if_neg h2,if_neg (by omega)];split<;>rfl
 ·rw[if_neg hx,if_neg hx]
theorem uy (h:(out u)[k]? = some a) (hv:v=(u:Int)):Fw out g v u (k+1)=Fw out g v u k/\By out g v u (k+1)=Cz (By out g v u k) g v a.1 a.2:=by
 refine⟨?_,?_⟩
 ·funext x;unfold Fw;by_cases hx:x≠v/\g x=false/\0<=x
  ·rw[if_pos hx,if_pos hx];by_cases h1:x<(u:Int)
   ·rw[if_pos h1,if_pos h1]
   ·rw[if_neg h1,if_neg h1,if_neg (λ e=>hx.1 (e.trans hv.symm)),if_neg (λ e=>hx.1 (e.trans hv.symm))]
  ·rw[if_neg hx,if_neg hx]
 ·funext x;have e:∀ j y,By out g v u j y=if y≠v/\g y=false then CI ((out u).take j) y else none:=λ j y=>by
   unfold By
   by_cases hy:y≠v/\g y=false
   ·rw[if_pos hy,if_pos hy,if_neg (show ¬ v<(u:Int) by omega),if_pos hv,hv]
   ·rw[if_neg hy,if_neg hy]
  by_cases yu:a.1≠v/\g a.1=false
  ·have hval:By out g v u k a.1=CI ((out u).take k) a.1:=(by rw[e,if_pos yu]);by_cases zH:x=a.1
   ·subst zH;rw[e,if_pos yu,GQ h];unfold Cz Fg;rw[if_pos yu,if_pos rfl,hval];cases hm:CI ((out u).take k) a.1 with
    | none=>simp only;rw[C8]
    | some y =>
     simp only;split
     ·rw[C8]
     ·rw[hval,hm]
   ·have e2:Cz (By out g v u k) g v a.1 a.2 x=By out g v u k x:=by
     unfold Cz;rw[if_pos yu];cases hm:By out g v u k a.1 with
     | none=>exact CD _ _ zH
     | some y =>
      simp only;by_cases hl:a.2<y
      ·rw[if_pos hl];exact CD _ _ zH
      ·rw[if_neg hl]
    rw[e2,e,e];split
    ·rw[FN h (λ e=>zH e.symm)]
    ·rfl
  ·have e2:Cz (By out g v u k) g v a.1 a.2=By out g v u k:=by unfold Cz;rw[if_neg yu]
   rw[e2,e,e];split
   ·rename_i hx;rw[FN h (λ e=>yu (by rw[e];exact hx))]
   ·rfl
theorem zAm (h:(out u)[k]? = some a) (hv:v≠(u:Int)) (ha:v=a.1):By out g v u (k+1)=By out g v u k/\Fw out g v u (k+1)=Cz (Fw out g v u k) g v u a.2:=by
 refine⟨?_,?_⟩
 ·funext x;unfold By;rw[if_neg hv,if_neg hv]
 ·funext x;by_cases Km:g u=false
  ·have hval:∀ j,Fw out g v u j (u:Int)=CI ((out u).take j) v:=λ j=>by
    unfold Fw;rw[if_pos ⟨λ e=>hv e.symm,Km,by omega⟩,if_neg (by omega),if_pos rfl]
   by_cases hxu:x=(u:Int)
   ·subst hxu;rw[hval,GQ h];unfold Cz Fg;rw[if_pos ha.symm,if_pos ⟨λ e=>hv e.symm,Km⟩,hval];cases hm:CI ((out u).take k) v with
    | none=>simp only;rw[C8]
    | some y =>
     simp only;split
     ·rw[C8]
     ·rw[hval,hm]
   ·have e2:Cz (Fw out g v u k) g v u a.2 x=Fw out g v u k x:=by
     unfold Cz;rw[if_pos ⟨λ e=>hv e.symm,Km⟩];cases hm:Fw out g v u k (u:Int) with
     | none=>exact CD _ _ hxu
     | some y =>
      simp only;by_cases hl:a.2<y
      ·rw[if_pos hl];exact CD _ _ hxu
      ·rw[if_neg hl]
    rw[e2];unfold Fw;rw[if_neg hxu,if_neg hxu]
  ·have e2:Cz (Fw out g v u k) g v u a.2=Fw out g v u k:=by unfold Cz;rw[if_neg (λ h=>Km h.2)]
   rw[e2];unfold Fw;by_cases hx:x≠v/\g x=false/\0<=x
   ·rw[if_pos hx,if_pos hx];by_cases hxu:x=(u:Int)
    ·subst hxu;exact absurd hx.2.1 Km
    ·rw[if_neg hxu,if_neg hxu]
   ·rw[if_neg hx,if_neg hx]
theorem zX (h:(out u)[k]? = some a) (hv:v≠(u:Int)) (ha:v≠a.1):By out g v u (k+1)=By out g v u k/\Fw out g v u (k+1)=Fw out g v u k:=by
 refine⟨?_,?_⟩
 ·funext x;unfold By;rw[if_neg hv,if_neg hv]
 ·funext x;unfold Fw;by_cases hx:x≠v/\g x=false/\0<=x
  ·rw[if_pos hx,if_pos hx];by_cases hxu:x=(u:Int)
   ·subst hxu;rw[if_neg (Int.lt_irrefl _),if_neg (Int.lt_irrefl _),if_pos rfl,if_pos rfl,FN h (λ e=>ha e.symm)]
   ·rw[if_neg hxu,if_neg hxu]
  ·rw[if_neg hx,if_neg hx]
variable {N:Nat}
theorem ig (h1:∀ x,(out x).Pairwise λ a b=>a.1≠b.1) (hN:∀ x,¬ (0<=x/\x<(N:Int))->out x=[]) (x y:Int):Fw out g v N 0 x=some y↔x≠v/\g x=false/\(v,y)∈out x:=by
 unfold Fw;by_cases hx:x≠v/\g x=false/\0<=x
 ·rw[if_pos hx];by_cases hxN:x<(N:Int)
  ·rw[if_pos hxN,MD (h1 x)];exact⟨λ h=>⟨hx.1,hx.2.1,h⟩,λ h=>h.2.2⟩
  ·rw[if_neg hxN,hN x (by omega)];split<;>simp[kl]
 ·rw[if_neg hx];constructor
  ·intro h;cases h
  ·rintro ⟨a,b,c⟩;exfalso;apply hx;refine⟨a,b,Pr λ hn=>?_⟩;rw[hN x (by omega)]at c;simp at c
theorem Mm (h1:∀ x,(out x).Pairwise λ a b=>a.1≠b.1) (hv:v<(N:Int)) (x y:Int):By out g v N 0 x=some y↔x≠v/\g x=false/\(x,y)∈out v:=by
 unfold By;by_cases hx:x≠v/\g x=false
 ·rw[if_pos hx,if_pos hv,MD (h1 v)];exact⟨λ h=>⟨hx.1,hx.2,h⟩,λ h=>h.2.2⟩
 ·rw[if_neg hx];constructor
  ·intro h;cases h
  ·rintro ⟨a,b,c⟩;exact absurd ⟨a,b⟩ hx
end
structure Di (ss:List Sc) (g:Int->Bool) (v:Int) (N u k:Nat) (l:List Ar) (of:List Int):Prop where
 len:of.length=l.length
 few:l.length<=u*N+k
 is:∀ (i:Nat) p w x,of[i]? = some p->l[i]? = some (w,x)->p≠w/\p≠v/\w≠v/\g p=false/\g w=false/\∃ a b,(v,a)∈AS ss p/\(w,b)∈AS ss v/\x=a+b
 all:∀ p w a b,(v,a)∈AS ss p->(w,b)∈AS ss v->p≠w->p≠v->w≠v->g p=false->g w=false->(p<(u:Int)\/p=(u:Int)/\w<(k:Int)) ->
  (∃ i:Nat,of[i]? = some p/\l[i]? = some (w,a+b))\/∃ (j:Nat) (x:Int),x<=a+b/\Reach (AS ss) (λ q=>decide (q=v)||g q) p j w x
section
variable {ss:List Sc} {g:Int->Bool} {v:Int} {N u k:Nat} {l:List Ar} {of:List Int}
theorem Di.start (ss:List Sc) (g:Int->Bool) (v:Int) (N:Nat) (BF:∀ p q a,(q,a)∈AS ss p->(0<=p/\p<(N:Int))/\0<=q/\q<(N:Int)):Di ss g v N 0 0 [] [] :=
 ⟨rfl,by simp,λ i p w x h=>by simp at h,λ p w a b h1 h2 _ _ _ _ _ h=>by
  have a1:=BF _ _ _ h1;have a2:=BF _ _ _ h2;omega⟩
theorem Di.skip (h:Di ss g v N u k l of) (Cx:∀ a b,(v,a)∈AS ss u->((k:Int),b)∈AS ss v->(u:Int)≠(k:Int)->(u:Int)≠v->(k:Int)≠v->g u=false->g k=false ->
  ∃ (j:Nat) (x:Int),x<=a+b/\Reach (AS ss) (λ q=>decide (q=v)||g q) u j k x):Di ss g v N u (k+1) l of:=by
 refine⟨h.len,by have:=h.few;omega,h.is,λ p w a b h1 h2 h3 h4 h5 h6 h7 h8=>?_⟩
 by_cases hc:p=(u:Int)/\w=(k:Int)
 ·obtain⟨rfl,rfl⟩:=hc;exact .inr (Cx a b h1 h2 h3 h4 h5 h6 h7)
 ·exact h.all p w a b h1 h2 h3 h4 h5 h6 h7 (by omega)
theorem Di.keep (h:Di ss g v N u k l of) {a b:Int} (ha:(v,a)∈AS ss u) (hb:((k:Int),b)∈AS ss v) (h1:(u:Int)≠(k:Int)) (h2:(u:Int)≠v) (h3:(k:Int)≠v) (h4:g u=false) (h5:g k=false) :
  Di ss g v N u (k+1) (l++[((k:Int),a+b)]) (of++[(u:Int)]):=by
 have hl:=h.len
 refine⟨by simp[hl],by have:=h.few;simp;omega,λ i p w x hp hw=>?_,λ p w c d g1 g2 g3 g4 g5 g6 g7 g8=>?_⟩
 ·by_cases hi:i<l.length
  ·rw[B_ (by omega)]at hp;rw[B_ hi]at hw;exact h.is i p w x hp hw
  ·have h6:=(A_.1 hw).1;simp at h6;obtain rfl:i=l.length:=(by omega);simp at hw;rw[<- hl]at hp;simp at hp;obtain⟨rfl,rfl⟩:=hw;subst hp;exact⟨h1,h2,h3,h4,h5,a,b,ha,hb,rfl⟩
 ·by_cases hc:p=(u:Int)/\w=(k:Int)
  ·obtain⟨rfl,rfl⟩:=hc;obtain rfl:=Ij ha g1;obtain rfl:=Ij hb g2;exact .inl ⟨l.length,by rw[<- hl];simp,by simp⟩
  ·rcases h.all p w c d g1 g2 g3 g4 g5 g6 g7 (by omega) with ⟨i,hi,hj⟩ | hr
   ·exact .inl ⟨i,by rw[B_ (A_.1 hi).1];exact hi,by rw[B_ (A_.1 hj).1];exact hj⟩
   ·exact .inr hr
theorem Di.row (h:Di ss g v N u k l of) (BF:∀ p q a,(q,a)∈AS ss p->(0<=p/\p<(N:Int))/\0<=q/\q<(N:Int)) (hk:k=N):Di ss g v N (u+1) 0 l of:=by
 subst hk;have e:(u+1)*k=u*k+k:=Nat.succ_mul u k;refine⟨h.len,by have:=h.few;omega,h.is,λ p w a b h1 h2 h3 h4 h5 h6 h7 h8=>h.all p w a b h1 h2 h3 h4 h5 h6 h7 ?_⟩;have:=BF _ _ _ h2;omega
theorem Di.none (h:Di ss g v N u 0 l of) (BF:∀ p q a,(q,a)∈AS ss p->(0<=p/\p<(N:Int))/\0<=q/\q<(N:Int)) (Cx:∀ a,(v,a)∈AS ss u->(u:Int)≠v->g u=false->False):Di ss g v N (u+1) 0 l of:=by
 have e:(u+1)*N=u*N+N:=Nat.succ_mul u N;refine⟨h.len,by have:=h.few;omega,h.is,λ p w a b h1 h2 h3 h4 h5 h6 h7 h8=>?_⟩;by_cases hp:p=(u:Int)
 ·subst hp;exact(Cx a h1 h4 h6).elim
 ·have:=BF _ _ _ h2;exact h.all p w a b h1 h2 h3 h4 h5 h6 h7 (by omega)
theorem Di.over (h:Di ss g v N N 0 l of) (BF:∀ p q a,(q,a)∈AS ss p->(0<=p/\p<(N:Int))/\0<=q/\q<(N:Int)):EV ss g v N l of :=
 ⟨h.len,by have:=h.few;omega,h.is,λ p w a b h1 h2 h3 h4 h5 h6 h7=>h.all p w a b h1 h2 h3 h4 h5 h6 h7 (.inl (BF _ _ _ h1).1.2)⟩
end
end Go.Proofs.YtepelooebggliaaGreatDoor
namespace Go.Proofs.YtepelooebggliaaGreatDoor
def Bw (G:Rel) (s u x:Int):Prop:=Wk G s u x/\∀ y,Wk G s u y->x<=y
structure FT (N:Nat) (G:Rel) (s:Int) (P:List Int) (out:List (Int×Int)) (seen:D1) (far:Int->Option Int) (l:List (Int×Int)):Prop where
 nodup:P.Nodup
 inN:∀ p∈P,0<=p/\p<(N:Int)
 start:far s=some 0
 label:∀ u x,far u=some x->Wk G s u x
 keys:∀ u x,(u,x)∈l↔far u=some x/\u∉P
 done:∀ p∈P,∃ x,far p=some x/\∀ e∈l,x<=e.2
 outP:∀ e∈out,e.1∈P/\far e.1=some e.2
 outN:(out.map (·.1)).Nodup
 exact':∀ p∈P,∀ x,far p=some x->Bw G s p x->(p,x)∈out/\∀ u c,(u,c)∈seen p->∃ y,far u=some y/\y<=x+c
section
variable {N:Nat} {G:Rel} {arcs:D1} {s v d u c:Int} {P:List Int} {out l l':List (Int×Int)} {far:Int->Option Int} {seen:D1}
theorem FT.init (N:Nat) (G:Rel) (arcs:D1) (s:Int):FT N G s [] [] arcs (upd (λ _=>none) s (some 0)) [(s,0)] where
 nodup:=K_
 inN:=λ p hp=>by simp at hp
 start:=AZ _ _ _
 label:=λ u x hx=>by
  by_cases h:u=s
  ·subst h;rw[AZ]at hx;cases hx;exact .nil _
  ·rw[AA _ _ h]at hx;cases hx
 keys:=λ u x=>by
  by_cases h:u=s
  ·subst h;rw[AZ];simp[eq_comm]
  ·rw[AA _ _ h];simp[h]
 done:=λ p hp=>by simp at hp
 outP:=λ e he=>by simp at he
 outN:=by simp
 exact':=λ p hp=>by simp at hp
theorem FT.pop (h:FT N G s P out arcs far l) (hm:(v,d)∈l) (oG:∀ e∈l,d<=e.2) (LA:∀ e,e∈l'↔e∈l/\e≠(v,d)) (F8:∀ e∈l,e.1=v->e=(v,d)) (hv:0<=v/\v<(N:Int))
  {out':List (Int×Int)} (ho:out'=out/\(∃ y,Wk G s v y/\y<d)\/out'=out++[(v,d)]):FT N G s (P++[v]) out' (upd arcs v []) far l':=by
 have wF:=(h.keys v d).1 hm
 refine⟨?_,?_,h.start,h.label,?_,?_,?_,?_,?_⟩
 ·rw[H_];refine⟨h.nodup,by simp,λ a ha b hb=>?_⟩;rw[D_]at hb;subst hb;exact λ e=>wF.2 (e▸ha)
 ·intro p hp;rcases C_.1 hp with hp | hp
  ·exact h.inN p hp
  ·rw[D_]at hp;subst hp;exact hv
 ·intro u x;rw[LA,h.keys];simp only[C_,D_,not_or,ne_eq,Pz];constructor
  ·rintro ⟨⟨h1,h2⟩,h3⟩;refine⟨h1,h2,λ e=>?_⟩;subst e;have:=F8 (u,x) ((h.keys u x).2 ⟨h1,h2⟩) rfl;exact h3 ⟨rfl,(PA this).2⟩
  ·rintro ⟨h1,h2,h3⟩;exact⟨⟨h1,h2⟩,λ e=>h3 e.1⟩
 ·intro p hp;rcases C_.1 hp with hp | hp
  ·obtain⟨x,hx,hk⟩:=h.done p hp;exact⟨x,hx,λ e he=>hk e ((LA e).1 he).1⟩
  ·rw[D_]at hp;subst hp;exact⟨d,wF.1,λ e he=>oG e ((LA e).1 he).1⟩
 ·intro e he;rcases ho with ⟨rfl,_⟩ | rfl
  ·exact⟨C_.2 (.inl (h.outP e he).1),(h.outP e he).2⟩
  ·rcases C_.1 he with he | he
   ·exact⟨C_.2 (.inl (h.outP e he).1),(h.outP e he).2⟩
   ·rw[D_]at he;subst he;exact⟨by simp,wF.1⟩
 ·rcases ho with ⟨rfl,_⟩ | rfl
  ·exact h.outN
  ·rw[Pn,H_];refine⟨h.outN,by simp,λ a ha b hb e=>?_⟩;simp at hb;subst hb;subst e;obtain⟨r,hr,rfl⟩:=List.mem_map.1 ha;exact wF.2 (h.outP r hr).1
 ·intro p hp x hx hl;by_cases Gi:p=v
  ·subst Gi;rw[wF.1]at hx;cases hx;rcases ho with ⟨_,y,hy,AH⟩ | rfl
   ·have:=hl.2 y hy;omega
   ·exact⟨by simp,λ u c Gj=>by rw[AZ]at Gj;simp at Gj⟩
  ·rcases C_.1 hp with hp | hp
   ·obtain⟨a,b⟩:=h.exact' p hp x hx hl;refine⟨?_,λ u c Gj=>b u c (by rw[AA _ _ Gi]at Gj;exact Gj)⟩;rcases ho with ⟨rfl,_⟩ | rfl
    ·exact a
    ·exact C_.2 (.inl a)
   ·rw[D_]at hp;exact absurd hp Gi
theorem FT.skip {done:List (Int×Int)} (h:FT N G s (P++[v]) out (upd arcs v done) far l) (hv:far v=some d) (hx:∃ y,far u=some y/\y<=d+c):FT N G s (P++[v]) out (upd arcs v (done++[(u,c)])) far l:=by
 refine { h with exact':=λ p hp x Fv hl=>?_ };obtain⟨a,b⟩:=h.exact' p hp x Fv hl;refine⟨a,λ u' c' Gj=>?_⟩;by_cases Gi:p=v
 ·subst Gi;rw[AZ]at Gj;rcases C_.1 Gj with h1 | h1
  ·exact b u' c' (by rw[AZ];exact h1)
  ·rw[D_]at h1;cases h1;rw[hv]at Fv;cases Fv;exact hx
 ·rw[AA _ _ Gi]at Gj;exact b u' c' (by rw[AA _ _ Gi];exact Gj)
theorem FT.take {done:List (Int×Int)} (h:FT N G s (P++[v]) out (upd arcs v done) far l) (hP:∀ p∈P++[v],∃ x,far p=some x/\x<=d) (hd:0<=d) (hv:far v=some d)
  (ha:Wk G v u c) (hc:1<=c) (hx:∀ y,far u=some y->d+c<y) (LA:∀ e,e∈l'↔(e∈l/\e.1≠u)\/e=(u,d+c)) :
  FT N G s (P++[v]) out (upd arcs v (done++[(u,c)])) (upd far u (some (d+c))) l':=by
 have hu:u∉P++[v]:=λ hu=>by
  obtain⟨x,AX,CN⟩:=hP u hu;have:=hx x AX;omega
 have Bm:∀ p∈P++[v],p≠u:=λ p hp e=>hu (e▸hp)
 have tT:s≠u:=λ e=>by
  subst e;have h0:=hx 0 h.start;omega
 refine⟨h.nodup,h.inN,?_,?_,?_,?_,?_,h.outN,?_⟩
 ·rw[AA _ _ tT];exact h.start
 ·intro u' x Fk;by_cases hu':u'=u
  ·subst hu';rw[AZ]at Fk;cases Fk;exact(h.label v d hv).trans ha
  ·rw[AA _ _ hu']at Fk;exact h.label u' x Fk
 ·intro u' x;rw[LA];by_cases hu':u'=u
  ·subst hu';rw[AZ];simp only[ne_eq,not_true_eq_false,and_false,false_or,Pz,true_and,Ps];exact⟨λ e=>⟨e.symm,hu⟩,λ e=>e.1.symm⟩
  ·rw[AA _ _ hu',h.keys];simp only[ne_eq,hu',not_false_eq_true,and_true,Pz,false_and,or_false]
 ·intro p hp;rw[AA _ _ (Bm p hp)];obtain⟨x,AX,CN⟩:=h.done p hp;obtain⟨x',o9,hx2'⟩:=hP p hp;rw[AX]at o9;cases o9;refine⟨x,AX,λ e he=>?_⟩;rcases(LA e).1 he with ⟨h1,_⟩ | rfl
  ·exact CN e h1
  ·show x<=d+c;omega
 ·intro e he;obtain⟨a,b⟩:=h.outP e he;exact⟨a,by rw[AA _ _ (Bm _ a)];exact b⟩
 ·intro p hp x Fv hl;rw[AA _ _ (Bm p hp)]at Fv;obtain⟨a,b⟩:=h.exact' p hp x Fv hl;refine⟨a,λ u' c' Gj=>?_⟩;have key:∀ y,far u'=some y->y<=x+c'->∃ y',upd far u (some (d+c)) u'=some y'/\y'<=x+c':=λ y h1 h2=>by
   by_cases hu':u'=u
   ·subst hu';rw[AZ];have:=hx y h1;exact⟨_,rfl,by omega⟩
   ·rw[AA _ _ hu'];exact⟨y,h1,h2⟩
  by_cases Gi:p=v
  ·subst Gi;rw[AZ]at Gj;rcases C_.1 Gj with h1 | h1
   ·obtain⟨y,h2,h3⟩:=b u' c' (by rw[AZ];exact h1);exact key y h2 h3
   ·rw[D_]at h1;cases h1;rw[hv]at Fv;cases Fv;rw[AZ];exact⟨_,rfl,Pt _⟩
  ·rw[AA _ _ Gi]at Gj;obtain⟨y,h2,h3⟩:=b u' c' (by rw[AA _ _ Gi];exact Gj);exact key y h2 h3
theorem FT.all (h:FT N G s (P++[v]) out (upd arcs v (arcs v)) far l):FT N G s (P++[v]) out arcs far l:=by
 have e:upd arcs v (arcs v)=arcs:=by
  funext j;unfold upd;split
  ·rename_i hj;rw[hj]
  ·rfl
 rwa [e]at h
theorem FT.stall (h:FT N G s (P++[v]) out (upd arcs v []) far l) (hv:far v=some d) (hy:∃ y,Wk G s v y/\y<d):FT N G s (P++[v]) out arcs far l:=by
 refine { h with exact':=λ p hp x Fv hl=>?_ };by_cases Gi:p=v
 ·subst Gi;rw[hv]at Fv;cases Fv;obtain⟨y,hy,AH⟩:=hy;have:=hl.2 y hy;omega
 ·obtain⟨a,b⟩:=h.exact' p hp x Fv hl;exact⟨a,λ u c Gj=>b u c (by rw[AA _ _ Gi];exact Gj)⟩
theorem FT.few (h:FT N G s P out arcs far l):P.length<=N:=CT N P h.nodup h.inN
theorem FT.over (h:FT N G s P out arcs far []) (BH:∀ p q a,G p q a->1<=a) {U:Rel} (hU:∀ p q a,U p q a->(q,a)∈arcs p) (hUG:∀ p q a,U p q a->Wk G p q a) {p y:Int} (hw:Wk U s p y) (hl:Bw G s p y):(p,y)∈out:=by
 have inP:∀ u x,far u=some x->u∈P:=λ u x hx=>Pr λ hu=>by
  have:=(h.keys u x).2 ⟨hx,hu⟩;simp at this
 have main:∀ {q t x},Wk U q t x->∀ {a},far q=some a/\Bw G s q a->Bw G s t (a+x)->(t,a+x)∈out:=by
  intro q t x hw;induction hw with
  | nil q =>
   intro a hf hl;rw[Int.add_zero];exact(h.exact' q (inP q a hf.1) a hf.1 hf.2).1
  | @cons q r t b x h1 h2 ih =>
   intro a hf hl;have lr:Bw G s r (a+b):=by
    refine⟨(hf.2.1).trans (hUG _ _ _ h1),λ y hy=>?_⟩;have:=hl.2 (y+x) (hy.trans (h2.flat hUG));omega
   obtain⟨y,hy,hle⟩:=(h.exact' q (inP q a hf.1) a hf.1 hf.2).2 r b (hU _ _ _ h1);have:=lr.2 y (h.label r y hy);obtain rfl:y=a+b:=(by omega);have:=ih ⟨hy,lr⟩ (by rw[Pv];exact hl);rw[Pv]at this;exact this
 have:=main hw ⟨h.start,.nil s,λ y hy=>(hy.pos BH).1⟩ (by rw[Pw];exact hl);rw[Pw]at this;exact this
end
def Bi (l:List (Int×Int)) (m:Int->Option Int) (DN:Int):Int:=l.foldl (λ b e=>match m e.1 with | some d=>min b (e.2+d) | none=>b) DN
theorem IQ (m:Int->Option Int):∀ (l:List (Int×Int)) (DN:Int),Bi l m DN<=DN/\∀ e∈l,∀ d,m e.1=some d->Bi l m DN<=e.2+d
 | [],DN=>⟨Pt _,λ e he=>by simp at he⟩
 | x::l,DN=>by
  cases hm:m x.1 with
  | none =>
   have e:Bi (x::l) m DN=Bi l m DN:=by unfold Bi;rw[O_,hm]
   rw[e];have ih:=IQ m l DN;refine⟨ih.1,λ e he d hd=>?_⟩;rcases Pa.1 he with rfl | he
   ·rw[hm]at hd;cases hd
   ·exact ih.2 e he d hd
  | some b =>
   have e:Bi (x::l) m DN=Bi l m (min DN (x.2+b)):=by unfold Bi;rw[O_,hm]
   rw[e];have ih:=IQ m l (min DN (x.2+b));refine⟨by have:=ih.1;omega,λ e he d hd=>?_⟩;rcases Pa.1 he with rfl | he
   ·rw[hm]at hd;cases hd;have:=ih.1;omega
   ·exact ih.2 e he d hd
theorem F0 (m:Int->Option Int):∀ (l:List (Int×Int)) (DN:Int),Bi l m DN=DN\/∃ e∈l,∃ d,m e.1=some d/\Bi l m DN=e.2+d
 | [],DN=>.inl rfl
 | x::l,DN=>by
  cases hm:m x.1 with
  | none =>
   have e:Bi (x::l) m DN=Bi l m DN:=by unfold Bi;rw[O_,hm]
   rw[e];exact(F0 m l DN).imp id λ ⟨r,hr,h⟩=>⟨r,by simp[hr],h⟩
  | some b =>
   have e:Bi (x::l) m DN=Bi l m (min DN (x.2+b)):=by unfold Bi;rw[O_,hm]
   rw[e];rcases F0 m l (min DN (x.2+b)) with h | ⟨r,hr,h⟩
   ·rcases Int.le_total DN (x.2+b) with h1 | h1
    ·rw[Int.min_eq_left h1]at h ⊢;exact .inl h
    ·rw[Int.min_eq_right h1]at h ⊢;exact .inr ⟨x,by simp,b,hm,h⟩
   ·exact .inr ⟨r,by simp[hr],h⟩
theorem zAZ {S:Rel} {rk:Int->Int} {M:Int} (h0:0<=M) (hM:∀ p q a,S p q a->a<=M) {s p y:Int} (h:Wk (xI S rk) s p y):y<=M*(rk p-rk s)/\rk s<=rk p:=by
 induction h with
 | nil s=>simp
 | @cons s u t a x h1 h2 ih =>
  have:=hM _ _ _ h1.1;have h3:=h1.2;have e:M*(rk t-rk s)=M*(rk t-rk u)+M*(rk u-rk s):=by rw[<- Int.mul_add];congr 1;omega
  have e2:M*1<=M*(rk u-rk s):=Pu (by omega) h0;omega
theorem sR {S:Rel} {rk:Int->Int} {M:Int} (h0:0<=M) (hM:∀ p q a,S p q a->a<=M) {s p y:Int} (h:Wk (JR S rk) s p y):y<=M*(rk s-rk p)/\rk p<=rk s:=by
 induction h with
 | nil s=>simp
 | @cons s u t a x h1 h2 ih =>
  have:=hM _ _ _ h1.1;have h3:=h1.2;have e:M*(rk s-rk t)=M*(rk u-rk t)+M*(rk s-rk u):=by rw[<- Int.mul_add];congr 1;omega
  have e2:M*1<=M*(rk s-rk u):=Pu (by omega) h0;omega
def iG (G:Rel):Rel:=λ p q a=>G q p a
theorem Wk.rev {G:Rel} {s t x:Int} (h:Wk G s t x):Wk (iG G) t s x:=by
 induction h with
 | nil s=>exact .nil s
 | cons h1 h2 ih=>rw[Int.add_comm];exact ih.snoc h1
structure fm (G U:Rel) (s:Int) (out:List (Int×Int)):Prop where
 once:(out.map (·.1)).Nodup
 way:∀ e∈out,Wk G s e.1 e.2
 all:∀ p y,Wk U s p y->Bw G s p y->(p,y)∈out
theorem Ic {G:Rel} (BH:∀ p q a,G p q a->1<=a) {s t:Int}:∀ (n:Nat) (x:Int),x.toNat<=n->Wk G s t x->∃ y,Bw G s t y:=by
 intro n;induction n with
 | zero =>
  intro x hx hw;have:=hw.pos BH;exact⟨x,hw,λ y hy=>by have:=hy.pos BH;omega⟩
 | succ n ih =>
  intro x hx hw;by_cases h:∃ y,y<x/\Wk G s t y
  ·obtain⟨y,hy,h1⟩:=h;have:=h1.pos BH;exact ih y (by omega) h1
  ·exact⟨x,hw,λ y hy=>Pr λ AH=>h ⟨y,by omega,hy⟩⟩
theorem Ji {G S:Rel} {rk:Int->Int} {s t N M:Int} (BH:∀ p q a,G p q a->1<=a) (hS:∀ p q a,S p q a->Wk G p q a) (zw:∀ x,Wk G s t x->∃ y,y<=x/\UD S rk s t y)
  (hM:∀ p q a,S p q a->a<=M) (h0:0<=M) (IK:∀ p,0<=rk p/\rk p<=N) {a b:List (Int×Int)} (ha:fm G (xI S rk) s a) (hb:fm (iG G) (iG (JR S rk)) t b) {m:Int->Option Int} (hm:∀ v d,m v=some d↔(v,d)∈b) {far:Int} (DO:M*N+M*N<far) :
  (∃ x,Bw G s t x/\x<far/\Bi a m far=x)\/(∀ x,¬ Wk G s t x)/\Bi a m far=far:=by
 have sound:∀ e∈a,∀ d,m e.1=some d->Wk G s t (e.2+d):=λ e he d hd=>(ha.way e he).trans (hb.way _ ((hm _ _).1 hd)).rev
 by_cases hw:∃ x,Wk G s t x
 ·obtain⟨x0,AM⟩:=hw;obtain⟨x,hx⟩:=Ic BH x0.toNat x0 (zl _) AM;obtain⟨y,hy,p,c,d,h1,h2,rfl⟩:=zw x hx.1;have w1:=h1.flat λ p q a h=>hS p q a h.1;have w2:=h2.flat λ p q a h=>hS p q a h.1;have e:=hx.2 _ (w1.trans w2);have l1:Bw G s p c:=⟨w1,λ z hz=>by have:=hx.2 _ (hz.trans w2);omega⟩;have l2:Bw (iG G) t p d:=⟨w2.rev,λ z hz=>by
   have:=hx.2 _ (w1.trans (show Wk G p t z from hz.rev))
   omega⟩
  have m1:=ha.all p c h1 l1;have m2:=hb.all p d h2.rev l2;have b1:=zAZ h0 hM h1;have b2:=sR h0 hM h2;have r1:=IK p;have r2:=IK s;have r3:=IK t;have c1:M*(rk p-rk s)<=M*N:=Pu (by omega) h0;have c2:M*(rk p-rk t)<=M*N:=Pu (by omega) h0;refine .inl ⟨x,hx,by omega,?_⟩;have hle:=(IQ m a far).2 (p,c) m1 d ((hm _ _).2 m2);simp only at hle;rcases F0 m a far with h | ⟨r,hr,k,hk,h⟩
  ·omega
  ·have:=hx.2 _ (sound r hr k hk);omega
 ·refine .inr ⟨λ x hx=>hw ⟨x,hx⟩,?_⟩;rcases F0 m a far with h | ⟨r,hr,k,hk,h⟩
  ·exact h
  ·exact absurd ⟨_,sound r hr k hk⟩ hw
end Go.Proofs.YtepelooebggliaaGreatDoor
namespace Go.Proofs.YtepelooebggliaaGreatDoor
open Go.RowKit
def CO (w:PD) (B:Nat) (v:PE) (l:List Ar):Prop:=w.ownsRow B 419 2 v l.length (DV l)
theorem CO.kept {F:Nat->Prop} {w w':PD} {B:Nat} {v:PE} {l:List Ar} (h:CO w B v l) (k:Kept F w w') (hF:∀ j,v.ownBlock=some j->¬ F j):CO w' B v l:=Kept.own k h hF
theorem CO.grew {w w':PD} {B:Nat} {v:PE} {l:List Ar} (h:CO w B v l) (k:Ac w w'):CO w' B v l:=Ac.own k h
theorem CO.nil (w:PD) (B:Nat):CO w B (.slice none 0 0) []:=⟨rfl,.inl ⟨rfl,rfl⟩⟩
def D3 (w:PD) (g cap n:Nat) (f:Nat->Ar):Prop:=∃ cur,Am w g 419 cur/\cur.size=cap*2/\∀ i:Nat,i<n->cur[i*2]? = some (i64 (f i).1)/\cur[i*2+1]? = some (u64 (f i).2)
section
variable {w w':PD} {g cap n B:Nat} {f:Nat->Ar} {l:List Ar} {v:PE}
theorem D3.c0 {i:Nat} (h:D3 w g cap n f) (hi:i<n):w.cell? ⟨g,i*2,none⟩=some (i64 (f i).1):=by
 obtain⟨cur,hb,_,hc⟩:=h;rw[hb.cell];exact(hc i hi).1
theorem D3.c1 {i:Nat} (h:D3 w g cap n f) (hi:i<n):w.cell? ⟨g,i*2+1,none⟩=some (u64 (f i).2):=by
 obtain⟨cur,hb,_,hc⟩:=h;rw[hb.cell];exact(hc i hi).2
theorem D3.frozen (h:D3 w g cap n f) (i:Nat):w.frozen? ⟨g,i,none⟩=false:=h.elim λ _ h=>h.1.frozen i
theorem D3.lt (h:D3 w g cap n f):g<w.heap.size:=h.elim λ _ h=>h.1.lt
theorem D3.grew (h:D3 w g cap n f) (k:Ac w w'):D3 w' g cap n f:=h.imp λ _ h=>⟨h.1.grew k,h.2⟩
def bo (f:Nat->Ar) (i:Nat) (e:Ar):Nat->Ar:=λ k=>if k=i then e else f k
theorem D3.set {i:Nat} (h:D3 w g cap n f) (hi:i<n) (a b:Int):D3 ((w.setCell ⟨g,i*2,none⟩ (i64 a)).setCell ⟨g,i*2+1,none⟩ (u64 b)) g cap n (bo f i (a,b)):=by
 obtain⟨cur,hb,hs,hc⟩:=h;refine⟨_,(hb.set (i*2) (i64 a)).set (i*2+1) (u64 b),by simp[hs],λ k hk=>?_⟩;have h1:=(Pq.1 (hc i hi).1).1;have h2:=(Pq.1 (hc i hi).2).1;unfold bo;by_cases e:k=i
 ·subst e;rw[if_pos rfl];refine⟨?_,?_⟩
  ·rw[Po (by omega),Pp h1]
  ·rw[Pp (by simpa using h2)]
 ·rw[if_neg e,Po (by omega),Po (by omega),Po (by omega),Po (by omega)];exact hc k hk
theorem CO.rowF (h:CO w B v l) (h0:l≠[]):∃ g cap,v=.slice (some ⟨g,0,none⟩) l.length cap/\B<=g/\l.length<=cap/\cap<=maxLen/\D3 w g cap l.length (λ i=>l.getD i (0,0)):=by
 rcases h.2 with ⟨_,hn⟩ | ⟨g,cap,cur,rfl,hB,hg,Bg,hm,Df,LW⟩
 ·exact absurd (List.eq_nil_of_length_eq_zero hn) h0
 ·refine⟨g,cap,rfl,hB,Bg,hm,cur,hg,Df,λ i hi=>?_⟩;have hl:l[i]? = some (l.getD i (0,0)):=by rw[E_,zq hi];rfl
  have key:∀ j,j<2->cur[i*2+j]? = (Cq (l.getD i (0,0)))[j]? := λ j hj=>by
   have h1:=Gx l i j _ hl hj;rw[<- LW,G_ (by omega)]at h1;rw[<- h1];simp
  exact⟨key 0 (by omega),key 1 (by omega)⟩
theorem D3.own {k:Nat} (h:D3 w g cap n f) (hB:B<=g) (Bg:cap<=maxLen) (hk:l.length=k) (hkc:k<=cap) (hkn:k<=n) (hl:∀ i,i<k->l[i]? = some (f i)):CO w B (.slice (some ⟨g,0,none⟩) k cap) l:=by
 obtain⟨cur,hb,hs,hc⟩:=h;unfold CO;rw[hk];refine⟨by rw[Gc,hk],.inr ⟨g,cap,cur,rfl,hB,hb,hkc,Bg,hs,?_⟩⟩;apply Pk;intro j;by_cases hj:j<k*2
 ·rw[G_ hj];obtain⟨i,r,rfl,hr⟩:∃ i r,j=i*2+r/\r<2:=⟨j/2,j%2,by omega,by omega⟩;rw[Gx l i r _ (hl i (by omega)) hr];have h1:=hc i (by omega);rcases(show r=0\/r=1 by omega) with rfl | rfl
  ·simpa [Cq] using h1.1
  ·simpa [Cq] using h1.2
 ·rw[J_ (by simp;omega),J_ (by rw[Gc,hk];omega)]
theorem CO.row (h:CO w B v l):∃ A c,v=.slice A l.length c/\Gv w A l/\l.length<=c:=by
 by_cases h0:l=[]
 ·subst h0;rcases h.2 with ⟨hv,_⟩ | ⟨g,cap,cur,rfl,hB,hg,Bg,hm,Df,LW⟩
  ·exact⟨none,0,hv,Gv.nil _ _,zl _⟩
  ·exact⟨_,cap,rfl,Gv.nil _ _,Bg⟩
 ·obtain⟨g,cap,rfl,_,hc,_,hF⟩:=h.rowF h0;refine⟨_,cap,rfl,λ i e he=>?_,hc⟩;have hi:=(A_.1 he).1;have hl:e=l.getD i (0,0):=by rw[E_,he];rfl
  refine⟨g,0,rfl,hF.lt,?_,?_⟩
  ·rw[PH,hF.c0 hi,hl]
  ·rw[PH,hF.c1 hi,hl]
end
theorem Kept.setCells {F:Nat->Prop} {a:PD} {g:Nat} (hp:F g\/a.heap.size<=g):∀ (vs:List PE) (o:Nat) (w:PD),Kept F a w->Kept F a (w.setCells g o vs)
 | [],_,_,h=>h
 | v::vs,o,w,h=>Kept.setCells hp vs (o+1) _ (h.setCell (p:=⟨g,o,none⟩) hp v)
theorem Hk {g:Nat} {t:TypeId}:∀ (vs:List PE) (o:Nat) (w:PD) (cur:Array PE),Am w g t cur->∃ GC,Am (w.setCells g o vs) g t GC/\GC.size=cur.size/\∀ i,i<o->GC[i]? = cur[i]?
 | [],_,_,cur,h=>⟨cur,h,rfl,λ _ _=>rfl⟩
 | v::vs,o,w,cur,h=>by
  obtain⟨GC,h1,h2,h3⟩:=Hk vs (o+1) _ _ (h.set o v);refine⟨GC,h1,by rw[h2];simp,λ i hi=>?_⟩;rw[h3 i (by omega),Po (by omega)]
theorem D3.clear {w:PD} {g cap n k:Nat} {f:Nat->Ar} (h:D3 w g cap n f) (hk:k<=n) (L:List PE):D3 (w.setCells g (k*2) L) g cap k f:=by
 obtain⟨cur,hb,hs,hc⟩:=h;obtain⟨GC,h1,h2,h3⟩:=Hk L (k*2) w cur hb;refine⟨GC,h1,h2.trans hs,λ i hi=>?_⟩;rw[h3 _ (by omega),h3 _ (by omega)];exact hc i (by omega)
theorem mT (w:PD):(zeroValue 419).run PF w=.ok (.agg #[i64 0,u64 0]) w:=by kernel_rfl
theorem Le (w:PD) (g o n c:Nat) (hn:0<n) (hc:∀ j,j<n*2->(w.cell? ⟨g,o+j,none⟩).isSome=true) (hf:∀ j,j<n*2->w.frozen? ⟨g,o+j,none⟩=false) :
  ∃ L,∀ ty,(PC #[413] ty #[.slice (some ⟨g,o,none⟩) n c]).run PF w=.ok (.tuple #[]) (w.setCells g o L):=by
 have hlen:(PB (Value.agg #[i64 0,u64 0]).cells n).toList.length=n*2:=by simp[PB,Value.cells]
 have F8:∀ v∈(PB (Value.agg #[i64 0,u64 0]).cells n).toList,v.oneCell'=true:=by
  intro v hv;simp[PB,Value.cells]at hv;obtain⟨i,hi,rfl⟩:=hv;rcases(show i%2=0\/i%2=1 by omega) with e | e<;>simp[e]<;>rfl
 have CW:=run_storeCells_cells (P:=PF) g o (PB (Value.agg #[i64 0,u64 0]).cells n).toList 0 w (by rw[hlen];simpa using hc) (by rw[hlen];simpa using hf) F8
 simp only[Nat.add_zero]at CW
 obtain⟨m,rfl⟩:∃ m,n=m+1:=⟨n-1,by omega⟩
 refine⟨(PB (Value.agg #[i64 0,u64 0]).cells (m+1)).toList,λ ty=>?_⟩
 simp[PC,run_underlying Tryz.underlying413,mT,CW]
def Fl (f:Nat->Ar) (t:Int) (m:Nat):List Ar:=((List.range m).map f).filter (λ a=>!decide (a.1=t))
theorem Jy (f:Nat->Ar) (t:Int) (m:Nat):Fl f t (m+1)=if (f m).1=t then Fl f t m else Fl f t m++[f m]:=by
 unfold Fl;rw[List.range_succ,Pn,List.filter_append];by_cases h:(f m).1=t<;>simp[h]
theorem fe (f:Nat->Ar) (t:Int):∀ k,(∀ i,i<k->(f i).1≠t)->(Fl f t k).length=k/\∀ i,i<k->(Fl f t k)[i]? = some (f i)
 | 0,_=>⟨rfl,λ i h=>by omega⟩
 | k+1,h=>by
  obtain⟨h1,h2⟩:=fe f t k (λ i a=>h i (by omega));rw[Jy,if_neg (h k (by omega))];refine⟨by rw[F_,h1];rfl,λ i hi=>?_⟩;by_cases e:i<k
  ·rw[B_ (by rw[h1];exact e)];exact h2 i e
  ·obtain rfl:i=k:=(by omega);rw[L_ (by rw[h1];exact zl _),h1,Nat.sub_self];rfl
theorem sg (l:List Ar) (t:Int):Fl (λ i=>l.getD i (0,0)) t l.length=l.filter (λ a=>!decide (a.1=t)):=by
 unfold Fl;congr 1;apply Pk;intro i;by_cases h:i<l.length
 ·rw[List.getElem?_map,List.getElem?_range h,Option.map_some,E_,zq h];rfl
 ·rw[J_ (by simp;omega),J_ (by omega)]
structure DI (f g:Nat->Ar) (t:Int) (kk m:Nat):Prop where
 len:(Fl f t m).length=kk
 get:∀ i,i<kk->(Fl f t m)[i]? = some (g i)
 rest:∀ i,kk<=i->g i=f i
 lt:kk<m
theorem DI.start {f:Nat->Ar} {t:Int} {k:Nat} (h:∀ i,i<k->(f i).1≠t) (e:(f k).1=t):DI f f t k (k+1):=by
 obtain⟨h1,h2⟩:=fe f t k h;have hk:Fl f t (k+1)=Fl f t k:=(by rw[Jy,if_pos e]);exact⟨by rw[hk];exact h1,by rw[hk];exact h2,λ _ _=>rfl,by omega⟩
theorem DI.drop {f g:Nat->Ar} {t:Int} {kk m:Nat} (h:DI f g t kk m) (e:(f m).1=t):DI f g t kk (m+1):=by
 have:=h.lt;have hk:Fl f t (m+1)=Fl f t m:=(by rw[Jy,if_pos e]);exact⟨by rw[hk];exact h.len,by rw[hk];exact h.get,h.rest,by omega⟩
theorem DI.keep {f g:Nat->Ar} {t:Int} {kk m:Nat} (h:DI f g t kk m) (e:(f m).1≠t):DI f (bo g kk (f m)) t (kk+1) (m+1):=by
 have:=h.lt;have hk:Fl f t (m+1)=Fl f t m++[f m]:=(by rw[Jy,if_neg e]);refine⟨by rw[hk,F_,h.len];rfl,λ i hi=>?_,λ i hi=>?_,by omega⟩
 ·rw[hk];unfold bo;by_cases e':i<kk
  ·rw[B_ (by rw[h.len];exact e'),if_neg (by omega)];exact h.get i e'
  ·obtain rfl:i=kk:=(by omega);rw[L_ (by rw[h.len];exact zl _),h.len,Nat.sub_self,if_pos rfl];rfl
 ·unfold bo;rw[if_neg (by omega)];exact h.rest i (by omega)
theorem F1 (p q:Int) (s:Sc) (t:Bool) (Y:Nat) (w:PD) (hY:Am w Y 150 (CC s)) (ht:decide (p=s.to')=t) :
  Calls PF 382 #[.agg #[i64 p,u64 q],pt Y] w λ e w'=>e=.returned (.bool t)/\Ac w w':=by
 have k1:Ac w (w.alloc (.cells #[i64 p,u64 q] 419)):=(zr _ _).alloc _
 have c1:=(hY.grew k1).cell 1
 simp[CC]at c1
 clear hY
 cases t with
 | true =>
  have e:p=s.to':=of_decide_eq_true ht;rw[<- e]at c1;clear ht e;go_enter Tryz.func382,Tryz.ntmps382;go_wp2_with fail;go_ret;exact⟨by simp,k1⟩
 | false =>
  have e:¬ p=s.to':=of_decide_eq_false ht;clear ht;go_enter Tryz.func382,Tryz.ntmps382;go_wp2_with fail;go_ret;exact⟨by simp[e],k1⟩
def wZ (l:List Ar) (t:Int) (e:Ending):Prop:=((∀ a∈l,a.1≠t)/\e=.returned (i64 (-1)))\/∃ k:Nat,k<l.length/\(l.getD k (0,0)).1=t/\(∀ i,i<k->(l.getD i (0,0)).1≠t)/\e=.returned (i64 k)
theorem jM (A:Option Addr) (c Y:Nat) (l:List Ar) (s:Sc) (w:PD) (h:Gv w A l) (hY:Am w Y 150 (CC s)) (hl:l.length<=100000) (hc:l.length<=c) :
  Calls PF 440 #[.slice A l.length c,.func (.func 382) #[] #[pt Y]] w λ e w'=>wZ l s.to' e/\Ac w w':=by
 obtain⟨L,hL⟩:=zn (l.length)
 have HL:=zh hL
 rw[hL]at hl hc ⊢
 clear hL
 have HE:=BP h hY
 clear h hY
 go_enter Tryz.func440,Tryz.ntmps440
 go_wp2_with fail
 go_loopw [8] (λ j wr=>∃ k:Nat,k<=L/\j=.int .i64 k/\Hid ((∀ i,i<k->(l.getD i (0,0)).1≠s.to')/\Ac w wr)) (λ j _=>L-(intOf j).toNat)
 case atStart=>exact⟨0,by omega,rfl,λ i hi=>by omega,zr _ _⟩
 case round =>
  obtain⟨k,hk,rfl,hS⟩:=hrel;by_cases AH:k<L
  ·have l1:(k:Int)<(L:Int):=(by omega);have k0:(0:Int)<=(k:Int):=(by omega);have Kn:k<l.length:=by rw[HL.out];exact AH
   obtain⟨⟨p,q⟩,hx⟩:∃ x,l[k]? = some x:=⟨_,zq Kn⟩;have hgd:l.getD k (0,0)=(p,q):=by rw[E_,hx];rfl
   obtain⟨b,off,rfl,_,e0,e1⟩:=(HE.out.1.grew hS.out.2) k _ hx;have HGD:=zh hgd;simp only at e0 e1;clear hx hgd Kn;by_cases hp:p=s.to'
   ·have HC:=zh (F1 p q s true Y wr (HE.out.2.grew hS.out.2) (zt hp));have HP:=zh hp;clear hp;go_wp2_with fail;refine HC.out.mono ?_;rintro e w1 ⟨rfl,k1⟩;have HR:=zh (show Ac w w1 from hS.out.2.trans k1);clear k1 HC;go_wp2_with fail;go_ret;exact⟨.inr ⟨k,by rw[HL.out];omega,by rw[HGD.out];exact HP.out,hS.out.1,rfl⟩,HR.out⟩
   ·have HC:=zh (F1 p q s false Y wr (HE.out.2.grew hS.out.2) (zf hp));have HP:=zh hp;clear hp;go_wp2_with fail;refine HC.out.mono ?_;rintro e w1 ⟨rfl,k1⟩;have HR:Hid ((∀ i,i<k+1->(l.getD i (0,0)).1≠s.to')/\Ac w w1):=⟨λ i hi=>by
     by_cases fS:i=k
     ·rw[fS,HGD.out];exact HP.out
     ·exact hS.out.1 i (by omega),hS.out.2.trans k1⟩
    clear k1 HC;go_wp2_with fail;go_roundw
    case rel=>exact⟨k+1,by omega,by go_num,HR⟩
    case measure=>simp[intOf];omega
  ·obtain rfl:k=L:=(by omega);go_wp2_with fail;go_ret;refine⟨.inl ⟨λ a ha=>?_,rfl⟩,hS.out.2⟩;obtain⟨i,hi,rfl⟩:=Ph ha;have:=hS.out.1 i (by rw[<- HL.out];exact hi);rw[E_,zq hi]at this;exact this
theorem df (B Y:Nat) (v:PE) (l:List Ar) (s:Sc) (w:PD) (h:CO w B v l) (hY:Am w Y 150 (CC s)) (hl:l.length<=1000) :
  Calls PF 381 #[v,.func (.func 382) #[] #[pt Y]] w λ e w'=>∃ v',e=.returned v'/\CO w' B v' (l.filter (λ a=>!decide (a.1=s.to')))/\(∀ j,v'.ownBlock=some j->v.ownBlock=some j)/\Kept (λ j=>v.ownBlock=some j) w w':=by
 obtain⟨A,c,rfl,hr,Mu⟩:=h.row
 have HI:=zh (jM A c Y l s w hr hY (by omega) Mu)
 obtain⟨n,hn⟩:=zn (l.length)
 have HD:=DK h hY hn
 rw[hn]at HI hl Mu ⊢
 clear h hY hn hr
 go_enter Tryz.func381,Tryz.ntmps381
 go_wp2_with fail
 refine HI.out.mono ?_
 rintro e w1 ⟨he,k1⟩
 have K1:=zh k1
 clear k1 HI
 rcases he with ⟨Cx,rfl⟩ | ⟨k,hk,hkt,tC,rfl⟩
 ·have hf:l.filter (λ a=>!decide (a.1=s.to'))=l:=List.filter_eq_self.2 λ a ha=>by simp[Cx a ha]
  have HF:=zh hf;clear Cx hf;go_wp2_with fail;go_ret;refine⟨_,rfl,?_,λ j h=>h,K1.out.kept⟩;rw[HF.out];have:=HD.out.1.grew K1.out;rwa [HD.out.2.2]at this
 ·have h0:l≠[]:=λ e=>by rw[e]at hk;simp at hk
  obtain⟨g,cap,hv,hB,Bg,OW,hF⟩:=(HD.out.1.grew K1.out).rowF h0;rw[HD.out.2.2]at hv Bg hF;cases hv;obtain⟨f,rM⟩:=zn ((λ i=>l.getD i (0,0)));have yH:∀ i,l.getD i (0,0)=f i:=λ i=>by rw[<- rM]
  have HFL:Hid (Fl f s.to' n=l.filter (λ a=>!decide (a.1=s.to'))):=by
   show _=_;rw[<- rM,<-HD.out.2.2];exact sg l s.to'
  rw[yH]at hkt;have hkb2:∀ i,i<k->(f i).1≠s.to':=λ i hi=>by rw[<- yH];exact tC i hi
  rw[HD.out.2.2]at hk;rw[rM]at hF;have S0:Hid (D3 w1 g c n f/\Kept (·=g) w w1/\DI f f s.to' k (k+1)):=⟨hF,K1.out.kept,DI.start hkb2 hkt⟩;have HBB:=BP hB OW;have NE:Hid (¬ Y=g):=λ e=>by
   obtain⟨cur,hb,_⟩:=hF
   exact Ay (HD.out.2.1.grew K1.out) hb (by decide) e
  have kn:(k:Int)<(n:Int):=(by omega);have k0:(0:Int)<=(k:Int):=(by omega);have Mv:¬ ((k:Int)=-1):=(by omega);clear hF hkt tC hkb2 yH rM hB OW h0;go_wp2_with fail;go_loopw [5,6,7] (λ i j _ wr=>∃ (kk m:Nat) (gg:Nat->Ar),(kk<n/\kk<m/\m<=n)/\i=.int .i64 kk/\j=.int .i64 m/\Hid (D3 wr g c n gg/\Kept (·=g) w wr/\DI f gg s.to' kk m)) (λ i j _ _=>n-(intOf j).toNat)
  case atStart=>exact⟨k,k+1,f,⟨by omega,by omega,by omega⟩,rfl,by go_num,S0⟩
  case round =>
   clear S0;obtain⟨kk,m,gg,⟨JI,hkm,hm⟩,rfl,rfl,hI⟩:=hrel;by_cases AH:m<n
   ·have m1:(m:Int)<(n:Int):=(by omega);have m0:(0:Int)<=(m:Int):=(by omega);have q1:(kk:Int)<(n:Int):=(by omega);have q0:(0:Int)<=(kk:Int):=(by omega);have x0:=hI.out.1.c0 AH;have x1:=hI.out.1.c1 AH;rw[hI.out.2.2.rest m (by omega)]at x0 x1;obtain⟨⟨p,q⟩,Gh⟩:∃ x,f m=x:=⟨_,rfl⟩;rw[Gh]at x0 x1;simp only at x0 x1;have vc:=zh Gh;clear Gh;have kA:Ac wr (wr.alloc (.cells #[i64 p,u64 q] 419)):=(zr _ _).alloc _;have hYw:=(HD.out.2.1.kept hI.out.2.1 NE.out).grew kA;have HX:Am (wr.alloc (.cells #[i64 p,u64 q] 419)) wr.heap.size 419 #[i64 p,u64 q]:=zv _ _ _;obtain⟨wa,rT⟩:=zn (wr.alloc (.cells #[i64 p,u64 q] 419));rw[rT]at hYw HX kA;obtain⟨a0,a1⟩:=CE HX;have Jz:=DK hI.out kA HX;by_cases hp:p=s.to'
    ·have HC:=zh (F1 p q s true Y wa hYw (zt hp));have HP:=zh hp;clear hI kA HX hYw hp;go_wp2_with fail;refine HC.out.mono ?_;rintro e w2 ⟨rfl,k2⟩;have hS:Hid (D3 w2 g c n gg/\Kept (·=g) w w2/\DI f gg s.to' kk (m+1)):=⟨Jz.out.1.1.grew (Jz.out.2.1.trans k2),Jz.out.1.2.1.trans (Ac.kept (Jz.out.2.1.trans k2)),Jz.out.1.2.2.drop (by rw[vc.out];exact HP.out)⟩;clear Jz k2 HC;go_wp2_with fail;go_roundw
     case rel=>(repeat apply Exists.intro);exact⟨⟨kk,m+1,gg,⟨by omega,by omega,by omega⟩,rfl,by go_num,hS⟩,rfl⟩
     case measure=>simp[intOf];omega
    ·have HC:=zh (F1 p q s false Y wa hYw (zf hp));have HP:=zh hp;clear hI kA HX hYw hp;go_wp2_with fail;refine HC.out.mono ?_;rintro e w2 ⟨rfl,k2⟩;have hR:=Jz.out.1.1.grew (Jz.out.2.1.trans k2);have y0:=hR.c0 JI;have y1:=hR.c1 JI;have z0:=hR.frozen (kk*2);have z1:=hR.frozen (kk*2+1);obtain⟨b0,b1⟩:=CE ((Jz.out.2.2.grew k2));have hS:Hid (D3 ((w2.setCell ⟨g,kk*2,none⟩ (i64 p)).setCell ⟨g,kk*2+1,none⟩ (u64 q)) g c n (bo gg kk (f m))/\Kept (·=g) w ((w2.setCell ⟨g,kk*2,none⟩ (i64 p)).setCell ⟨g,kk*2+1,none⟩ (u64 q))/\DI f (bo gg kk (f m)) s.to' (kk+1) (m+1)):=by
      refine⟨?_,((Jz.out.1.2.1.trans (Ac.kept (Jz.out.2.1.trans k2))).setCell (p:=⟨g,kk*2,none⟩) (.inl rfl) _).setCell (p:=⟨g,kk*2+1,none⟩) (.inl rfl) _,Jz.out.1.2.2.keep (by rw[vc.out];exact HP.out)⟩
      rw[vc.out]
      exact hR.set JI p q
     obtain⟨g3,hg3⟩:=zn (bo gg kk (f m));rw[hg3]at hS;clear Jz k2 HC hR hg3 a0 a1 x0 x1;go_wp2_with fail;go_roundw
     case rel=>(repeat apply Exists.intro);exact⟨⟨kk+1,m+1,g3,⟨by omega,by omega,by omega⟩,by go_num,by go_num,hS⟩,rfl⟩
     case measure=>simp[intOf];omega
   ·obtain rfl:m=n:=(by omega);have q1:(kk:Int)<(m:Int):=(by omega);have q0:(0:Int)<=(kk:Int):=(by omega);have q2:(kk:Int)<=(m:Int):=(by omega);have q3:(kk:Int)<=(c:Int):=(by omega);have jv:∀ q:Nat,q<(m-kk)*2->(wr.cell? ⟨g,kk*2+q,none⟩).isSome=true:=λ q hq=>by
     have e:kk*2+q=(kk+q/2)*2\/kk*2+q=(kk+q/2)*2+1:=by omega
     rcases e with e | e
     ·rw[e,hI.out.1.c0 (show kk+q/2<m by omega)];rfl
     ·rw[e,hI.out.1.c1 (show kk+q/2<m by omega)];rfl
    obtain⟨LL,jn⟩:=Le wr g (kk*2) (m-kk) (c-kk) (by omega) jv (λ q _=>hI.out.1.frozen _);have hr:Hid (CO (wr.setCells g (kk*2) LL) B (.slice (some ⟨g,0,none⟩) kk c) (l.filter (λ a=>!decide (a.1=s.to')))/\Kept (·=g) w (wr.setCells g (kk*2) LL)):=by
     have hF:=hI.out.1.clear (k:=kk) (by omega) LL
     refine⟨hF.own HBB.out.1 HBB.out.2 (by rw[<- HFL.out];exact hI.out.2.2.len) (by omega) (zl _) (by rw[<- HFL.out];exact hI.out.2.2.get),Kept.setCells (F:=(·=g)) (.inl rfl) LL _ _ hI.out.2.1⟩
    clear hI jv;go_wp2_with fail;refine zy (v:=.slice (some ⟨g,0,none⟩) kk c) (by simp[results,Tryz.results381]) rfl ?_;exact⟨_,rfl,hr.out.1,λ j h=>h,hr.out.2.mono λ i _ h=>by rw[h];rfl⟩
end Go.Proofs.YtepelooebggliaaGreatDoor
namespace Go.Proofs.YtepelooebggliaaGreatDoor
def CL (es:List (Int×Int×Int)):Rel:=λ p q a=>∃ i:Nat,es[i]? = some (p,q,a)
inductive lL (A:Rel) (s:Int):Nat->Int->Int->Prop
 | nil:lL A s 0 s 0
 | snoc {k:Nat} {u t x a:Int}:lL A s k u x->A u t a->lL A s (k+1) t (x+a)
section
variable {G:Rel} {s t u x a:Int} {k n N:Nat}
theorem lL.wk (h:lL G s k t x):Wk G s t x:=by
 induction h with
 | nil=>exact .nil s
 | snoc h1 h2 ih=>exact ih.snoc h2
theorem jY (BH:∀ p q a,G p q a->1<=a) (hN:∀ p q a,G p q a->(0<=p/\p<(N:Int))/\0<=q/\q<(N:Int)) :
  ∀ (n:Nat) (t x:Int),x.toNat<=n->Bw G s t x->∃ (P:List Int),lL G s P.length t x/\P.Nodup/\(∀ p∈P,(0<=p/\p<(N:Int))/\∃ y,y<x/\Bw G s p y):=by
 intro n
 induction n with
 | zero =>
  intro t x hx hl;have h1:=hl.1.pos BH;have:s=t:=Pr λ e=>by have:=h1.2 e;omega
  subst this;obtain rfl:x=0:=(by omega);exact⟨[],.nil,K_,λ p hp=>by simp at hp⟩
 | succ n ih =>
  intro t x hx hl;rcases hl.1.last with ⟨rfl,rfl⟩ | ⟨u,y,a,h1,h2,rfl⟩
  ·exact⟨[],.nil,K_,λ p hp=>by simp at hp⟩
  ·have ha:=BH _ _ _ h2;have hy:=(h1.pos BH).1;have lu:Bw G s u y:=⟨h1,λ z hz=>by have:=hl.2 _ (hz.snoc h2);omega⟩;obtain⟨P,w,nd,hP⟩:=ih u y (by omega) lu;refine⟨P++[u],by rw[F_];exact w.snoc h2,?_,λ p hp=>?_⟩
   ·rw[H_];refine⟨nd,by simp,λ b hb c hc e=>?_⟩;simp at hc;subst hc;subst e;obtain⟨_,z,hz,lz⟩:=hP b hb;have:=lu.2 z lz.1;omega
   ·rcases C_.1 hp with hp | hp
    ·obtain⟨r,z,hz,lz⟩:=hP p hp;exact⟨r,z,by omega,lz⟩
    ·simp at hp;subst hp;exact⟨(hN _ _ _ h2).1,y,by omega,lu⟩
theorem Jb (BH:∀ p q a,G p q a->1<=a) (hN:∀ p q a,G p q a->(0<=p/\p<(N:Int))/\0<=q/\q<(N:Int)) (hl:Bw G s t x):∃ k,k<=N/\lL G s k t x:=by
 obtain⟨P,w,nd,hP⟩:=jY BH hN x.toNat t x (zl _) hl;exact⟨P.length,CT N P nd λ p hp=>(hP p hp).1,w⟩
theorem eu (h:lL G s (k+1) t x) (hl:Bw G s t x):∃ u y a,lL G s k u y/\G u t a/\x=y+a/\Bw G s u y:=by
 cases h with
 | snoc h1 h2=>exact⟨_,_,_,h1,h2,rfl,h1.wk,λ z hz=>by have:=hl.2 _ (hz.snoc h2);omega⟩
structure Ep (G:Rel) (s:Int) (far:Int) (N:Nat) (d:List Int) (k:Nat):Prop where
 len:d.length=N
 way:∀ (v:Nat) x,d[v]? = some x->x<far->Wk G s v x
 le:∀ (v:Nat) x,d[v]? = some x->0<=x/\x<=far
 start:d[s.toNat]? = some 0
 all:∀ j (v:Nat) x y,j<=k->lL G s j v x->Bw G s v x->d[v]? = some y->y<=x
structure CY (es:List (Int×Int×Int)) (s:Int) (far:Int) (N:Nat) (d0 d:List Int) (k i:Nat) (IY:Bool):Prop where
 bell:Ep (CL es) s far N d k
 le0:∀ (v:Nat) x y,d0[v]? = some x->d[v]? = some y->y<=x
 some':∀ j (p q:Nat) (a x y:Int),j<i->es[j]? = some ((p:Int),(q:Int),a)->d0[p]? = some x->x<far->d[q]? = some y->y<=x+a
 same:IY=false->d=d0
variable {es:List (Int×Int×Int)} {far:Int} {d d0:List Int} {i:Nat} {IY:Bool}
theorem CY.start (h:Ep (CL es) s far N d k):CY es s far N d d k 0 false:=⟨h,λ v x y h1 h2=>by rw[h1]at h2;cases h2;omega,λ j p q a x y hj=>by omega,λ _=>rfl⟩
theorem CY.skip {p q:Nat} {a x y:Int} (h:CY es s far N d0 d k i IY) (he:es[i]? = some ((p:Int),(q:Int),a)) (hp:d[p]? = some x) (hq:d[q]? = some y) (Cx:¬ (x<far/\x+a<y)):CY es s far N d0 d k (i+1) IY:=by
 refine⟨h.bell,h.le0,λ j p' q' a' x' y' hj tr rQ Fk tQ=>?_,h.same⟩;by_cases hji:j=i
 ·subst hji;rw[he]at tr;simp only[Ps,Pz,Py]at tr;obtain⟨rfl,rfl,rfl⟩:=tr;rw[hq]at tQ;cases tQ;have:=h.le0 p x' x rQ hp;omega
 ·exact h.some' j p' q' a' x' y' (by omega) tr rQ Fk tQ
theorem CY.take {p q:Nat} {a x y:Int} (h:CY es s far N d0 d k i IY) (he:es[i]? = some ((p:Int),(q:Int),a)) (ha:1<=a) (hp:d[p]? = some x) (hq:d[q]? = some y) (hx:x<far) (AH:x+a<y):CY es s far N d0 (d.set q (x+a)) k (i+1) true:=by
 have hql:q<d.length:=(A_.1 hq).1;have key:∀ (v:Nat) z,(d.set q (x+a))[v]? = some z->(v=q/\z=x+a)\/(v≠q/\d[v]? = some z):=λ v z hz=>by
  by_cases hv:v=q
  ·subst hv;rw[Pd hql]at hz;cases hz;exact .inl ⟨rfl,rfl⟩
  ·rw[Pf (λ e=>hv e.symm)]at hz;exact .inr ⟨hv,hz⟩
 have low:∀ (v:Nat) z z',d[v]? = some z->(d.set q (x+a))[v]? = some z'->z'<=z:=λ v z z' h1 h2=>by
  rcases key v z' h2 with ⟨rfl,rfl⟩ | ⟨_,h3⟩
  ·rw[hq]at h1;cases h1;omega
  ·rw[h1]at h3;cases h3;omega
 have AM:=h.bell.le p x hp;have Dq:=h.bell.le q y hq;refine⟨⟨by simp[h.bell.len],λ v z hz hzf=>?_,λ v z hz=>?_,?_,λ j v z y' hj hw hl hy'=>?_⟩,λ v z z' h1 h2=>?_,λ j p' q' a' x' y' hj tr rQ Fk tQ=>?_,λ h=>by cases h⟩
 ·rcases key v z hz with ⟨rfl,rfl⟩ | ⟨_,h3⟩
  ·exact(h.bell.way p x hp hx).snoc ⟨i,he⟩
  ·exact h.bell.way v z h3 hzf
 ·rcases key v z hz with ⟨rfl,rfl⟩ | ⟨_,h3⟩
  ·omega
  ·exact h.bell.le v z h3
 ·by_cases hv:s.toNat=q
  ·have:=h.bell.start;rw[hv,hq]at this;cases this;omega
  ·rw[Pf (λ e=>hv e.symm)];exact h.bell.start
 ·obtain⟨z',hz'⟩:∃ z',d[v]? = some z':=⟨_,zq (by have:=(A_.1 hy').1;simpa using this)⟩;have:=h.bell.all j v z z' hj hw hl hz';have:=low v z' y' hz' hy';omega
 ·obtain⟨w,hw⟩:=zx (l:=d) (i:=v) (by have:=(A_.1 h2).1;simpa using this);have:=h.le0 v z w h1 hw;have:=low v w z' hw h2;omega
 ·obtain⟨w,hw⟩:=zx (l:=d) (i:=q') (by have:=(A_.1 tQ).1;simpa using this);have hlow:=low q' w y' hw tQ;by_cases hji:j=i
  ·subst hji;rw[he]at tr;simp only[Ps,Pz,Py]at tr;obtain⟨rfl,rfl,rfl⟩:=tr;rw[Pd hql]at tQ;cases tQ;have:=h.le0 p x' x rQ hp;omega
  ·have:=h.some' j p' q' a' x' w (by omega) tr rQ Fk hw;omega
theorem CY.round (h:CY es s far N d0 d k es.length IY) (h0:Ep (CL es) s far N d0 k) (hN:∀ p q a,CL es p q a->(0<=p/\p<(N:Int))/\0<=q/\q<(N:Int)) (DO:∀ v x,Bw (CL es) s v x->x<far):Ep (CL es) s far N d (k+1):=by
 refine⟨h.bell.len,h.bell.way,h.bell.le,h.bell.start,λ j v x y hj hw hl hy=>?_⟩;rcases PI j (k+1) with AH | Oa
 ·exact h.bell.all j v x y (by omega) hw hl hy
 ·obtain rfl:j=k+1:=(by omega);obtain⟨u,z,a,w1,⟨m,hm⟩,rfl,lu⟩:=eu hw hl;have hn:=hN u v a ⟨m,hm⟩;obtain⟨p,rfl⟩:=Int.eq_ofNat_of_zero_le hn.1.1;obtain⟨x',Fk⟩:∃ x',d0[p]? = some x':=⟨_,zq (by rw[h0.len];omega)⟩;have h1:=h0.all k p z x' (zl _) w1 lu Fk;have h2:=DO _ _ lu;have h3:=h.some' m p v a x' y (A_.1 hm).1 hm Fk (by omega) hy;omega
theorem CY.still (h:CY es s far N d0 d k es.length false) (h0:Ep (CL es) s far N d0 k) (hN:∀ p q a,CL es p q a->(0<=p/\p<(N:Int))/\0<=q/\q<(N:Int)) (DO:∀ v x,Bw (CL es) s v x->x<far):∀ m,k<=m->Ep (CL es) s far N d m:=by
 intro m hm;induction m with
 | zero=>exact(by simpa using (show k=0 by omega):k=0)▸h.bell
 | succ m ih =>
  rcases PI k (m+1) with AH | Oa
  ·have b:=ih (by omega);have e:=h.same rfl;have hI:CY es s far N d d m es.length false:=⟨b,λ v x y h1 h2=>by rw[h1]at h2;cases h2;omega,λ j p q a x y hj he hp hx hq=>h.some' j p q a x y hj he (by rw[<- e];exact hp) hx hq,λ _=>rfl⟩;exact hI.round b hN DO
  ·obtain rfl:k=m+1:=(by omega);exact h.bell
theorem Ep.over (h:Ep (CL es) s far N d N) (hN:∀ p q a,CL es p q a->(0<=p/\p<(N:Int))/\0<=q/\q<(N:Int)) (DO:∀ v x,Bw (CL es) s v x->x<far) (BH:∀ p q a,CL es p q a->1<=a) {v:Nat} {x:Int} (hx:d[v]? = some x) :
  Bw (CL es) s v x/\x<far\/(∀ y,¬ Wk (CL es) s v y)/\x=far:=by
 have hle:=h.le v x hx
 by_cases hw:∃ y,Wk (CL es) s v y
 ·obtain⟨y,hy⟩:=hw;obtain⟨z,hz⟩:=Ic BH y.toNat y (zl _) hy;obtain⟨k,hk,hc⟩:=Jb BH hN hz;have h1:=h.all k v z x hk hc hz hx;have h2:=DO _ _ hz;have h3:=hz.2 x (h.way v x hx (by omega));obtain rfl:x=z:=(by omega);exact .inl ⟨hz,h2⟩
 ·refine .inr ⟨λ y hy=>hw ⟨y,hy⟩,?_⟩;apply Pr;intro Bm;exact hw ⟨x,h.way v x hx (by omega)⟩
end
end Go.Proofs.YtepelooebggliaaGreatDoor
namespace Go.Proofs.YtepelooebggliaaGreatDoor
abbrev D9:List AB:=[(0,1,4),(1,2,5)]
theorem arcX {p q a:Int} (h:CM D9 p q a):(p=0/\q=1/\a=4)\/(p=1/\q=2/\a=5):=by
 obtain⟨i,hi⟩:=h;match i,hi with
 | 0,hi=>simp at hi;omega
 | 1,hi=>simp at hi;omega
theorem tu {A:Rel} (f:Int->Int) (hf:∀ p q a,A p q a->f p<=a+f q) {s t x:Int} (h:Wk A s t x):f s<=x+f t:=by
 induction h with
 | nil s=>omega
 | cons h1 h2 ih=>have:=hf _ _ _ h1;omega
def Fp (p:Int):Int:=if p=0 then 9 else if p=1 then 5 else 0
theorem et (p:Int) (hp:p=0\/p=1\/p=2):Bw (CM D9) p 2 (Fp p):=by
 have h1:CM D9 0 1 4:=⟨0,rfl⟩;have h2:CM D9 1 2 5:=⟨1,rfl⟩;refine⟨?_,λ y hy=>?_⟩
 ·rcases hp with rfl | rfl | rfl
  ·exact .cons h1 (.cons h2 (.nil 2))
  ·exact .cons h2 (.nil 2)
  ·exact .nil 2
 ·have:=tu Fp (λ p q a h=>by rcases arcX h with ⟨rfl,rfl,rfl⟩ | ⟨rfl,rfl,rfl⟩<;>decide) hy;have:Fp 2=0:=rfl;omega
theorem jZ {A:Rel} {s t x y:Int} (h:Bw A s t x) (k:Bw A s t y):x=y:=by
 have:=h.2 _ k.1;have:=k.2 _ h.1;omega
end Go.Proofs.YtepelooebggliaaGreatDoor
