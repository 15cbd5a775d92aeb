/- Walks of functions that the law reaches, and plain laws, part 15 of 21: lemmas for the proof in the last text; no condition. Shortened by program. -/
import Derived.RangeFuncNested
import Derived.Test.YtepelooebggliaaGreatDoorSu0
import Derived.Test.YtepelooebggliaaGreatDoorSu3
import Derived.Test.YtepelooebggliaaGreatDoorSu4
import Derived.Test.YtepelooebggliaaGreatDoorSu6
import Derived.Test.YtepelooebggliaaGreatDoorSu8
import Derived.Test.YtepelooebggliaaGreatDoorSu10
import Derived.Test.YtepelooebggliaaGreatDoorSu11
import Derived.Test.YtepelooebggliaaGreatDoorSu12
open Go.World renaming size_alloc->A_,size_drew->B_
open Go.Proofs.Tryz renaming prog->C_,results102->D_,results150->E_
open Array renaming getElem?_eq_some_iff->F_,replicate_succ->G_,replicate_zero->H_
open Int renaming toNat_natCast->I_,le_refl->J_,eq_ofNat_of_zero_le->K_
open Go renaming World->L_,Calls->M_,Value->N_
open List renaming getD_eq_getElem?_getD->O_,mem_map->Pa,mem_map_of_mem->Pb,mem_singleton->Pc,length_cons->Pd,getElem_mem->Pe,map_map->Pf,mem_filter->Pg,mem_range->Ph,eq_nil_of_length_eq_zero->Pj,mem_append->Pk,map_append->Pm,dropLast_concat_getLast->Pn,take_of_length_le->Po,mem_iff_getElem->Pp,append_toArray->Pq,length_attach->Pr,take_add_one->Ps,size_toArray->Pt,push_toArray->Pu,nodup_append->Pv,cons_append->Pw,length_nil->Px,nil_append->Py,length_map->Pz,nodup_cons->PA
open Nat renaming mul_le_mul->PB,le_trans->PC
open Go.CallsIn renaming inRound->PD
open Go.Value renaming slice->PE
open Classical renaming byContradiction->PF
open Option renaming isSome->PG,getD->PH,toList_some->PI,getD_some->PJ
open Bool renaming false_eq_true->PK,and_eq_true->PL
set_option maxHeartbeats 16000000
set_option maxRecDepth 100000
set_option linter.unusedVariables false
set_option linter.unusedSimpArgs false
namespace Go.Proofs.YtepelooebggliaaGreatDoor
open Go.RowKit
noncomputable def Jn (ls:List Lb):Int->Option Int:=ls.foldl (λ m x=>EG m x.1 x.2.1) (λ _=>none)
theorem JZ (ls:List Lb) (x:Lb):Jn (ls++[x])=EG (Jn ls) x.1 x.2.1:=by simp[Jn]
theorem Md.grew {w w':L_} {A:Option Addr} {ls:List Lb} (h:Md w A ls) (k:Ac w w'):Md w' A ls:=λ i x hx=>by
 obtain⟨b,off,hA,hb,h0,h1,h2⟩:=h i x hx;exact⟨b,off,hA,Nat.lt_of_lt_of_le hb k.size,k.cell h0,k.cell h1,k.cell h2⟩
theorem J0 (A:Option Addr) (c:Nat) (ls:List Lb) (w:L_) (h:Md w A ls) (hl:ls.length<=60000) (hr:∀ x∈ls,0<=x.1/\x.1<=1000000) :
  M_ C_ 155 #[.slice A ls.length c] w λ e w'=>∃ M n,e=.returned (.map (some M))/\w.heap.size<=M/\Cl w' M n (Jn ls)/\Ac w w':=by
 obtain⟨L,hL⟩:=zn (ls.length)
 obtain⟨M,hM⟩:=zn (w.heap.size)
 have jE:Cl (w.alloc (.map #[] 0)) M 0 (Jn []):=by rw[<- hM];exact BG.new w
 have HS:Hid (Cl (w.alloc (.map #[] 0)) M 0 (Jn (ls.take 0))/\Ac w (w.alloc (.map #[] 0))):=⟨by rw[List.take_zero];exact jE,(zr _ _).alloc _⟩
 have HM:=zh hM
 have HR:=DK h hr hL
 rw[hL]at hl ⊢
 rw[hM]
 have JJ:=@run_makeMap C_
 clear h hr hL jE
 go_enter Tryz.func155,Tryz.ntmps155
 go_wp2_with fail
 go_loopw [5,9] (λ _ i wr=>∃ k:Nat,k<=L/\i=.int .i64 k/\Hid (Cl wr M k (Jn (ls.take k))/\Ac w wr)) (λ _ i _=>L-(intOf i).toNat)
 case atStart=>exact⟨0,Nat.zero_le _,rfl,HS⟩
 case round =>
  clear HS hM;obtain⟨k,hk,rfl,hS⟩:=hrel;by_cases AH:k<L
  ·obtain⟨x,hx⟩:=zx (l:=ls) (i:=k) (by rw[HR.out.2.2];exact AH);obtain⟨b,off,rfl,hb,q0,q1,q2⟩:=(HR.out.1.grew hS.out.2) k x hx;rw[<- Nat.add_assoc]at q1 q2;have LC:=HR.out.2.1 x (zm hx);obtain⟨x1,x2,x3⟩:=x;have k0:(0:Int)<=(k:Int):=(by omega);have k1:(k:Int)<(L:Int):=(by omega);obtain⟨W1,N8,g1,b1⟩:=zb wr #[i64 x1,u64 x2,i64 x3] 311 rfl;have y0:=b1.cell 0;have y1:=b1.cell 1;simp at y0 y1;obtain⟨wM,CW,fJ,kM,szM⟩:=Cl.store (w:=W1) (M:=M) (n:=k) (m:=Jn (ls.take k)) (hS.out.1.grew g1) x1 x2 LC.1 (by have:=LC.2;simp at this;omega);have BZ:Hid (Cl wM M (k+1) (Jn (ls.take (k+1)))/\Ac w wM):=by
    refine⟨?_,(hS.out.2.trans g1).then kM (λ i hi e=>by have:=HM.out;subst e;omega)⟩;rw[Ps,hx];simp only[PI];rw[JZ];exact fJ
   clear hx LC fJ kM szM g1 b1 hS;go_wp2_with fail;go_roundw
   case rel=>exact⟨k+1,by omega,by go_num,BZ⟩
   case measure=>simp[intOf];omega
  ·obtain rfl:L=k:=(by omega);have BZ:Hid (Cl wr M L (Jn ls)/\Ac w wr):=by
    have h:=hS.out;rw[Po (by rw[HR.out.2.2];exact zl _)]at h;exact h
   clear hS;go_wp2_with fail;go_ret;exact⟨M,L,rfl,zl _,BZ.out.1,BZ.out.2⟩
end Go.Proofs.YtepelooebggliaaGreatDoor
namespace Go.Proofs.YtepelooebggliaaGreatDoor
open Go.RowKit Go.Shelf
attribute [local go_sem] Oper.semAt_some
theorem cT (LL:List Nr):LL.attach.map (λ x=>x.1.2)=LL.map (·.2):=by
 have:=congrArg (List.map (λ x:Nr=>x.2)) (List.attach_map_subtype_val LL);rw[Pf]at this;exact this
structure RunS (w W:L_) (R C N gS H A2 X T HH:Nat) (back:Bool) (G:Rel) (arcs:D1) (s:Int) (n:Nat) (Ds:List Nat) (vo v:N_) (ls:List Lb) (far:Int->Option Int) (st:Int->Int) (l:List (Int×Int)) (many:Int) (P:List Int):Prop where
 us:US w W R C N gS H A2 X v HH back far st l many
 box:Am W T 375 #[pt X]
 own:CJ W T vo ls
 ups:FT N G s P (ls.map FL) arcs far l
 marks:Marks W T Ds
 cnt:n+P.length=N
 few:many<=1+1001*(P.length:Int)
 small:∀ u a,far u=some a->0<=a/\a<=1099511627776*(P.length:Int)
 len:ls.length<=P.length
theorem uH (w wr:L_) (R C N gS H A2 X HH s B:Nat) (back:Bool) (es:List AB) (rk:List Int) (ss:List Sc) (G:Rel) (st0:Int->Int) (u0:US w wr R C N gS H A2 X (.slice none 0 0) HH back (λ _=>none) st0 [] 0)
  (hH:Ca w HH B N es rk ss) (hs:s<N) (hN:N<=12) (DY:ss.length<=1000) (BF:∀ x∈ss,inN N x/\0<=x.w/\x.w<=1099511627776)
  (hG:∀ p x,x∈Cg (back != false) rk ss p->Wk G p x.2.1 x.2.2/\1<=x.2.2/\x.2.2<=1099511627776/\0<=x.2.1/\x.2.1<(N:Int)) (hD:∀ p x,x∈Cg (back != true) rk ss p->Wk G x.2.1 p x.2.2)
  (lS:gS<wr.heap.size/\A2<wr.heap.size)
  (nZ:∀ W vo ls,CJ W wr.heap.size vo ls->ls.length<=N->M_ C_ 355 #[vo,.func (.func 356) #[] #[]] W λ e w'=>(∃ q,e=.returned q)/\∃ Er,Er.Perm ls/\CJ w' wr.heap.size vo Er/\Kept (λ j=>vo.ownBlock=some j) W w') :
  M_ C_ 276 #[pt X,i64 s] wr λ e w'=>∃ vo ls P far,e=.returned vo/\CJ w' wr.heap.size vo ls/\FT N G s P (ls.map FL) (BK back rk ss) far []/\(∀ u a,far u=some a->0<=a/\a<=1099511627776*12)/\Ac w w':=by
 obtain⟨T,hT⟩:=zn (wr.heap.size)
 have Of:w.heap.size<=T:=by rw[<- hT];exact u0.kept.size
 have hXT:X<T:=by rw[<- hT];exact u0.box.lt
 rw[hT]at nZ lS ⊢
 obtain⟨w1,AQ,g1,b1⟩:=zb wr #[pt X] 375 hT
 have u1:=u0.grew g1
 have LV:T<w1.heap.size:=b1.lt
 have HR:=zh (MF w w1 R C N gS H A2 X _ HH back _ st0 [] 0 (-1) 0 s [] u1 (λ u x=>by simp) (λ h=>by simp at h) hs (by omega))
 have HB1:=zh b1
 have HS:=zh nZ
 have HH0:=DS hH BF hG hD
 have HA:=zh (u1.apart b1 (by decide) (by decide) (by decide) (by decide) (by decide))
 clear hH BF hG hD nZ u0 u1 g1 b1
 refine(callsIn_wide (n:=9)).1 ?_
 refine callsIn_of_wp_marks Tryz.func276 rfl trivial ?_ rfl
 simp only[Tryz.ntmps276,Pt,Pd,Px,Nat.reduceAdd,Nat.reduceSub,G_,H_,Pu,Pq,Py,Pw]
 refine wpIn_wide.2 ?_
 have c1:=HB1.out.cell 0
 simp at c1
 go_wp2_with fail
 go_step3
 go_wp2_with fail
 refine HR.out.mono ?_
 rintro e w2 ⟨⟨q12,rfl⟩,Lz,zk⟩
 clear HR c1 AQ
 rcases zk with ⟨_,v,l,many,zAG,hl,_,us⟩ | ⟨⟨y,hy,_⟩,_⟩
 rotate_left
 ·cases hy
 have rJ:RunS w w2 R C N gS H A2 X T HH back G (BK back rk ss) s N [] (.slice none 0 0) v [] (upd (λ _=>none) (s:Int) (some 0)) (upd st0 (s:Int) (-1)) l many []:=by
  refine⟨us,HB1.out.kept Lz (λ h=>?_),World.ownsRow_nil _ _ _ _,(FT.init N G _ (s:Int)).congr (λ e=>by rw[hl];simp),Marks.nil _ _,by simp,by simp;omega,λ u a h=>?_,by simp⟩
  ·exact HA.out h
  ·unfold upd at h;split at h
   ·cases h;simp
   ·cases h
 clear Lz us hl
 have so:=zh rJ
 clear rJ
 go_wp2_with fail
 refine wp_label ?_
 go_wp2_with fail
 refine wp_loop_ghost_k (λ n a W=>∃ (u5 u6 u7 u8 u9 lA lB qu u16 qw qx qy qz qA qB qC qD qE qF qH qI qJ qK qL u32 qM qN qO qP qQ qR qS qT qU qV qW qX qY qZ re rh mb mc me mg mh mn mo mq mr:N_) (Ds:List Nat) (vo v:N_) (ls:List Lb) (far:Int->Option Int) (st:Int->Int) (l:List (Int×Int)) (many:Int) (P:List Int),a={ tmps:=#[pt X,i64 s,pt T,undef,vo,u5,u6,u7,u8,u9,pt X,i64 s,q12,lA,lB,qu,u16,qw,qx,qy,qz,qA,qB,qC,qD,qE,qF,qH,qI,qJ,qK,qL,u32,qM,qN,qO,qP,qQ,qR,qS,qT,qU,qV,qW,qX,qY,qZ,re,rh,mb,mc,me,mg,mh,mn,mo,mq,mr,undef,undef,undef],defers:=Ds.map pF }/\Hid (RunS w W R C N gS H A2 X T HH back G (BK back rk ss) s n Ds vo v ls far st l many P)) N ?_ ?_
 ·exact⟨undef,undef,undef,undef,undef,undef,undef,undef,undef,undef,undef,undef,undef,undef,undef,undef,undef,undef,undef,undef,undef,undef,undef,undef,undef,undef,undef,undef,undef,undef,undef,undef,undef,undef,undef,undef,undef,undef,undef,undef,undef,undef,undef,undef,undef,undef,undef,undef,undef,undef,[],.slice none 0 0,v,[],_,_,l,many,[],rfl,so⟩
 clear so HB1 HA
 rintro n _ W ⟨u5,u6,u7,u8,u9,lA,lB,qu,u16,qw,qx,qy,qz,qA,qB,qC,qD,qE,qF,qH,qI,qJ,qK,qL,u32,qM,qN,qO,qP,qQ,qR,qS,qT,qU,qV,qW,qX,qY,qZ,re,rh,mb,mc,me,mg,mh,mn,mo,mq,mr,Ds,vo,v,ls,far,st,l,many,P,rfl,hS⟩ J K hJ hK
 have HJ:=zh hJ
 have HKK:=zh hK
 clear hJ hK
 have x4:=hS.out.us.box.cell 4
 have t0:=hS.out.box.cell 0
 simp at x4 t0
 rcases l with _ | ⟨⟨p0,d0⟩,l0⟩
 ·have hP:=zh (Hp.pop_none W H A2 N v hS.out.us.heap);go_wp2_with fail;refine hP.out.mono ?_;rintro e wq ⟨rfl,rfl⟩;go_wp2_with fail;have g5:Ac W (W.alloc (.cells #[.int .u64 0] 29)):=(zr _ _).alloc _;have hsz5:T<=W.heap.size:=by have:=hS.out.box.lt;omega
  refine(HS.out _ _ _ (hS.out.own.grew g5) (by have:=hS.out.len;have:=hS.out.ups.few;omega)).mono ?_;rintro e w5 ⟨⟨q5,rfl⟩,Er,GN,ho,hk5⟩;go_wp2_with fail;rw[Exit.noGoto_ret];have hvo:∀ j,vo.ownBlock=some j->T<=j/\∃ cur,W.heap[j]? = some (.cells cur 311 (0,0)):=λ j hj=>Ao hS.out.own hj;have vU:Marks w5 T Ds:=(hS.out.marks.grew g5).kept hk5 (λ j hj o ho=>by
   obtain⟨_,cur,hc⟩:=hvo j hj;have yC:=(g5.block j (F_.1 hc).1 (λ h=>h)).trans hc;rw[yC]at ho;cases ho;rfl)
  refine E7 T Ds _ vU λ w6 k6=>?_;refine⟨_,results_tmp rfl _ _ _,vo,Er,P,far,rfl,ho.kept k6 (λ j hj hD=>?_),hS.out.ups.perm (GN.map _),λ u a h=>?_,?_⟩
  ·obtain⟨_,cur,hc⟩:=Ao ho hj;rw[(vU.2 j hD).2]at hc;cases hc
  ·have h1:=hS.out.small u a h;have h2:(P.length:Int)<=12:=by have:=hS.out.ups.few;omega
   omega
  ·refine((hS.out.us.kept.trans g5).then hk5 (λ i hi hj=>?_)).then k6 (λ i hi hj=>?_)
   ·have:=(hvo i hj).1;omega
   ·have:=(vU.2 i hj).1;omega
 ·have hle:=Hw hS.out.us.heap (e0:=(p0,d0)) rfl;have JM:=hS.out.us.heap.rng (p0,d0) (by simp);obtain⟨p,rfl⟩:=K_ JM.1;have pN:p<N:=by have:=JM.2;simp at this;omega
  have p0':(0:Int)<=(p:Int):=(by omega);have p1':(p:Int)<(N:Int):=(by omega);have hP:=zh (Hp.pop_some W H A2 N v (((p:Int),d0)::l0) hS.out.us.heap 0 ((p:Int),d0) rfl hle.1);have HM:=zh hle.2;clear hle JM;go_wp2_with fail;refine hP.out.mono ?_;rintro e wq ⟨rfl,v2,l2,Jq,tr2⟩;have BZ:=zh (hS.out.us.turn tr2);have OQ:=zh (gN hS.out.us.heap Jq);have HT2:=zh tr2;have k2:=HT2.out.kept;have hub:∀ j,UF R C gS H A2 v j->W.heap[j]? = W.heap[j]? := λ _ _=>rfl;have nT:¬ Hp.HB H A2 v T:=λ h=>hS.out.us.apart hS.out.box (by decide) (by decide) (by decide) (by decide) (by decide) (.inr h);have nO:∀ j,vo.ownBlock=some j->¬ Hp.HB H A2 v j:=λ j hj h=>by
   obtain⟨_,cur,hc⟩:=Ao hS.out.own hj;exact hS.out.us.apart (show Am W j _ cur from hc) (by decide) (by decide) (by decide) (by decide) (by decide) (.inr h)
  have Dp:=(hS.out.ups.keys (p:Int) d0).1 (by simp);have LU:=hS.out.small _ _ Dp.1;have hPl:P.length+1<=N:=by
   have h1:=Pv.2 (⟨hS.out.ups.nodup,by simp,λ a ha b hb=>by rw[Pc]at hb;subst hb;exact λ e=>Dp.2 (e▸ha)⟩:P.Nodup/\[(p:Int)].Nodup/\∀ a∈P,∀ b∈[(p:Int)],a≠b);have h2:=CT N (P++[(p:Int)]) h1 (λ q hq=>by
    rcases Pk.1 hq with hq | hq
    ·exact hS.out.ups.inN q hq
    ·rw[Pc]at hq;subst hq;exact⟨p0',p1'⟩)
   simpa using h2
  have lQ:(P.length:Int)+1<=12:=(by omega);obtain⟨W3,Ni⟩:=zn (wq.alloc (.cells #[.int .u64 d0] 29));obtain⟨T6,hT6⟩:=zn (wq.heap.size);have g3:Ac wq W3:=by rw[<- Ni];exact(zr _ _).alloc _
  have b6:Am W3 T6 29 #[u64 d0]:=by rw[<- Ni,<-hT6];exact zv _ _ _
  have bT:Am W3 T 375 #[pt X]:=(hS.out.box.kept k2 nT).grew g3;have us3:=BZ.out.grew g3;have own3:CJ W3 T vo ls:=(hS.out.own.kept k2 nO).grew g3;have mk3:Marks W3 T Ds:=(hS.out.marks.kept k2 (λ j hj=>hS.out.us.isCells j (.inr hj))).grew g3;have fj:=zh (eU X HH B N R C gS H p back es rk ss far 1 many d0 W3 us3.box (HH0.out.1.grew us3.kept) us3.stamp pN (by omega) (by omega) (λ x hx=>by have:=HH0.out.2.1 x hx;exact⟨this.1,this.2.1,by omega⟩) (λ u a h=>by have:=hS.out.small u a h;omega));have t0:=bT.cell 0;have t6:=b6.cell 0;simp at t0 t6;have H3:=Gt b6 bT us3 own3 mk3;have HK:=DK Dp LU hPl;clear hub nT nO Dp LU k2 g3 b6 bT us3 own3 mk3 hPl x4;go_wp2_with fail;refine fj.out.mono ?_;rintro e w4 ⟨bs,rfl,g4,hbs⟩;clear fj Ni hT6;cases bs with
  | true =>
   have HBS:=zh (hbs rfl);clear hbs;go_wp2_with fail;obtain⟨x,hx,y,Br,DC⟩:=HBS.out;have hyl:Wk G s (p:Int) (y+x.2.2):=(hS.out.ups.label _ _ Br).trans (HH0.out.2.2.2 _ x hx);have hn:=hS.out.cnt;refine HKK.out _ _ ⟨n-1,by have:=HK.out.2.2;omega,HJ.out _ _ _ ⟨_,_,_,_,_,_,_,_,_,_,_,_,_,_,_,_,_,_,_,_,_,_,_,_,_,_,_,_,_,_,_,_,_,_,_,_,_,_,_,_,_,_,_,_,_,_,_,_,_,_,Ds,vo,v2,ls,far,st,l2,many,P++[(p:Int)],rfl,?_⟩⟩;exact { us:=H3.out.2.2.1.grew g4,box:=H3.out.2.1.grew g4,own:=H3.out.2.2.2.1.grew g4,marks:=H3.out.2.2.2.2.grew g4,ups:=(hS.out.ups.pop (by simp) HM.out OQ.out.1 OQ.out.2 ⟨p0',p1'⟩ (.inl ⟨rfl,_,hyl,DC⟩)).stall HK.out.1.1 ⟨_,hyl,DC⟩,cnt:=by have:=HK.out.2.2;simp;omega,few:=by have:=hS.out.few;simp;omega,small:=λ u a h=>by have:=hS.out.small u a h;simp;omega,len:=by have:=hS.out.len;simp;omega }
  | false =>
   clear hbs;obtain⟨A,c,hvo⟩:=Ap hS.out.own;obtain⟨L,hL⟩:=zn (ls.length);have wU:=H3.out.2.2.1.grew g4;have kv:CJ w4 T vo ls:=H3.out.2.2.2.1.grew g4;have vt:∀ j,vo.ownBlock=some j->T<=j/\∃ cur,w4.heap[j]? = some (.cells cur 311 (0,0)):=λ j hj=>Ao kv hj;have nvo:∀ (g:Nat) (t:TypeId) (cs:Array N_),Am w4 g t cs->t≠311->¬ vo.ownBlock=some g:=λ g t cs hb ht hj=>by
    obtain⟨_,cur,hc⟩:=vt g hj;exact Ay hb (show Am w4 g _ cur from hc) ht rfl
   have CW:wU.steps=wU.steps:=rfl;have uX:=zh nvo;have HC:Hid (∀ w',Kept (λ j=>vo.ownBlock=some j) w4 w'->w'.cell? ⟨T,0,none⟩=some (pt X)/\w'.cell? ⟨T6,0,none⟩=some (u64 d0)/\w'.cell? ⟨X,3,none⟩=some (.slice (some ⟨gS,0,none⟩) N N)/\w'.cell? ⟨gS,p,none⟩=some (i64 (st p))):=λ w' k =>
    ⟨((H3.out.2.1.grew g4).kept k (uX.out _ _ _ (H3.out.2.1.grew g4) (by decide))).cell 0,((H3.out.1.grew g4).kept k (uX.out _ _ _ (H3.out.1.grew g4) (by decide))).cell 0,
     (wU.box.kept k (uX.out _ _ _ wU.box (by decide))).cell 3,by
      obtain⟨cur,hb,_⟩:=wU.steps
      exact(wU.steps.kept k (uX.out _ _ _ hb (by decide))).cell pN⟩
   have HVT:=zh vt;have hT4:T<=w4.heap.size:=by have:=(H3.out.2.1.grew g4).lt;omega
   have ry:=DK wU kv g4;clear CW nvo wU vt kv g4;subst hvo;rw[hL]at HC HVT uX ry;have HO:Hid (w4.ownsRow T 311 3 (.slice A L c) L (Ee ls)):=by have h:=ry.out.2.1;unfold CJ at h;rw[hL]at h;exact h
   have HL:=zh hL;have hL60:L<=60:=by have h1:=hS.out.len;have h2:=hS.out.ups.few;omega
   clear hL;rw[HL.out];obtain⟨il,D5,hlz0,hlz1,hlz2⟩:=info_parts gd;go_upto_region 5 with fail;refine rG [] (λ j=>(PE A L c).ownBlock=some j) ?_;refine pG 0 28 ?_;refine pG 1 29 ?_;refine tF 2 30 HC.out ((zr _ _).drew) ?_;refine tF 3 31 HC.out ((zr _ _).drew) ?_;refine pG 4 32 ?_;refine pG 5 33 ?_;refine tF 6 34 HC.out ((zr _ _).drew) ?_;refine pG 7 35 ?_;refine pG 8 36 ?_;refine tF 9 37 HC.out ((zr _ _).drew) ?_;refine pG 10 38 ?_;refine sG 11 39 (λ K Aj=>?_);refine zA0 #[(0,.tmp 38)] rfl (i64 p) (u64 d0) (i64 (st p)) (by as_aux_lemma=>kernel_rfl) ?_;refine Aj _ _ (λ _=>(zr _ _).alloc _) ?_;clear Aj;simp only[sA];refine sG 12 40 (λ K Aj=>?_);have Nd:Hid (∀ j u,(py ((p:Int),d0,st p))[j]? = some u->(w4.drew.alloc (.cells #[i64 p,u64 d0,i64 (st p)] 311)).cell? ((⟨w4.drew.heap.size,0,none⟩:Addr).add j)=some u):=World.news_of_block (heap_alloc_new w4.drew (.cells #[i64 p,u64 d0,i64 (st p)] 311));refine wp_append_lies _ (.tmp 28) (.tmp 39) 235 (by rfl) T 311 il (.agg #[i64 0,u64 0,i64 0]) 3 24 Tryz.underlying235 D5 hlz0 hlz1 hlz2 (by rfl) (by omega) (.slice A L c) L (Ee ls) (by rfl) (Ac.own ((zr (λ _=>False) w4).drew.alloc _) HO.out) ⟨w4.drew.heap.size,0,none⟩ 1 1 (py ((p:Int),d0,st p)) (by rfl) (by rfl) Nd.out ?_ (by omega) ?_ ?_ ?_ _ rfl ?_
   ·intro u hu;simp[py]at hu;rcases hu with rfl | rfl | rfl<;>rfl
   ·unfold maxLen;omega
   ·omega
   ·simp;omega
   intro g cp wa Bb AD Iv _;refine Aj _ _ (λ _=>(zr _ _).grown AD (λ k hk=>.inl (by exact hk))) ?_;clear Aj;simp only[sA];refine pG 13 4 ?_;refine dG ?_;have kA:Kept (λ j=>(PE A L c).ownBlock=some j) w4 wa:=((zr (λ j=>(PE A L c).ownBlock=some j) w4).drew.alloc _).grown AD (λ k hk=>.inl hk);have usA:=ry.out.1.beside kA (λ j hj hl=>?_);rotate_left
   ·obtain⟨h1,cur,hc⟩:=HVT.out j hj;refine⟨by omega,ry.out.1.apart (show Am w4 j _ cur from hc) (by decide) (by decide) (by decide) (by decide) (by decide),λ e=>?_⟩;subst e;exact uX.out _ _ _ ry.out.1.box (by decide) hj
   have bTA:=(H3.out.2.1.grew ry.out.2.2).kept kA (uX.out _ _ _ (H3.out.2.1.grew ry.out.2.2) (by decide));have b6A:=(H3.out.1.grew ry.out.2.2).kept kA (uX.out _ _ _ (H3.out.1.grew ry.out.2.2) (by decide));have t0:=bTA.cell 0;have x0:=usA.box.cell 0;have x1:=usA.box.cell 1;simp at t0 x0 x1;have HM1:=zh (OI HH back false p);have HA:=JQ usA bTA b6A Bb AD kA;have hN1':=Nd;clear usA bTA b6A Nd hN1' Bb AD kA Iv t6;go_wp2_with fail;refine(HM1.out _).mono ?_;rintro e w8 ⟨rfl,rfl⟩;clear HM1;go_wp2_with fail;obtain⟨Z,hZ⟩:=zn (wa.heap.size);obtain⟨W8,tj⟩:=zn (((wa.alloc (.cells #[pt HH,.bool back] 377)).alloc (.cells #[i64 p] 3)).alloc (.cells #[.bool false] 4));have g8:Ac wa W8:=by rw[<- tj];exact(((zr _ _).alloc _).alloc _).alloc _
   have hE:Ec W8 Z (Z+1) (Z+1+1) HH p back false:=by
    rw[<- tj,<-hZ];refine⟨((zv _ _ _).alloc _).alloc _,?_,?_⟩
    ·have h:=zv (wa.alloc (.cells #[pt HH,.bool back] 377)) 3 #[i64 p];rw[A_]at h;exact h.alloc _
    ·have h:=zv ((wa.alloc (.cells #[pt HH,.bool back] 377)).alloc (.cells #[i64 p] 3)) 4 #[.bool false];rw[A_,A_]at h;exact h
   have hz8:W8.heap.size=Z+3:=by rw[<- tj,<-hZ];simp
   have hTZ:T<Z:=by have:=HA.out.2.1.lt;omega
   rw[tj,hZ];have hnd:=hS.out.cnt;have hPl:=HK.out.2.2;have mk8:Marks W8 T Ds:=((H3.out.2.2.2.2.grew ry.out.2.2).kept HA.out.2.2.2.2.2 (λ j hj o ho=>by
    obtain⟨_,cur,hc⟩:=HVT.out j hj;rw[hc]at ho;cases ho;rfl)).grew g8
   have vD:∀ D∈Ds,D<W8.heap.size:=λ D hD=>(F_.1 (mk8.2 D hD).2).1;have own8:CJ W8 T (.slice (some ⟨g,0,none⟩) (L+1) cp) (ls++[((p:Int),d0,st p)]):=by
    have h:CJ wa T (.slice (some ⟨g,0,none⟩) (L+1) cp) (ls++[((p:Int),d0,st p)]):=by
     unfold CJ;rw[List.length_append,HL.out,OA];exact HA.out.2.2.2.1
    exact h.grew g8
   have hR8:Hid (Hf w W8 R C N gS H A2 X T T6 HH Z back G (BK back rk ss) s Ds (.slice (some ⟨g,0,none⟩) (L+1) cp) v2 (ls++[((p:Int),d0,st p)]) far st l2 many P p d0 []):=by
    refine⟨HA.out.1.grew g8,HA.out.2.1.grew g8,HA.out.2.2.1.grew g8,own8,mk8,hE,?_,λ q hq=>?_,HK.out.1.1,by have:=hS.out.few;simp;omega,λ u a h=>by have:=hS.out.small u a h;omega⟩
    ·have h:=hS.out.ups.pop (out':=ls.map FL++[((p:Int),d0)]) (by simp) HM.out OQ.out.1 OQ.out.2 ⟨p0',p1'⟩ (.inr rfl);rw[Pm];exact h
    ·rcases Pk.1 hq with hq | hq
     ·obtain⟨x,hx,hle⟩:=hS.out.ups.done q hq;exact⟨x,hx,hle ((p:Int),d0) (by simp)⟩
     ·rw[Pc]at hq;subst hq;exact⟨d0,HK.out.1.1,J_ _⟩
   have hw8:w.heap.size<=W8.heap.size:=PC HA.out.1.kept.size g8.size;have hT6Z:T6<Z:=by have:=HA.out.2.2.1.lt;omega
   have kw8:Ac w W8:=HA.out.1.kept.trans g8;clear tj t0 x0 x1 own8 mk8 hZ;refine(wpIn_wide (n:=9)).1 ?_;refine wpIn_rangeFunc_ownH rfl (by omega) (gf:=421) (lb:=#[pt Z,pt (Z+1),pt (Z+1+1)]) rfl trivial (enters_of Tryz.func421 (by kernel_rfl) rfl)
    (Ll _ Z (Z+1) (Z+1+1) HH B N p back false es rk ss _ rfl w W8 HH0.out.1 pN (by omega) (by omega) (λ s h=>(HH0.out.2.1 s h).1) (Kept.keptC kw8 (λ _ h=>h.elim)) hE)
    Bs.trans (λ W l o o' _ hl ho _=>Bs.put W l o o' hl ho) (Below.refl _ _) (λ _=>rfl)
    (λ pre W=>∃ v far LD l many,Hid (Hf w W R C N gS H A2 X T T6 HH Z back G (BK back rk ss) s Ds (.slice (some ⟨g,0,none⟩) (L+1) cp) v (ls++[((p:Int),d0,st p)]) far LD l many P p d0 (pre.map (·.1.2))))
    (λ _ _ _=>False)
    (λ pre A W row hs hg hr=>by
     obtain⟨v,far,LD,l,many,h⟩:=hs;exact⟨v,far,LD,l,many,h.out.beside hw8 vD ⟨hg.os,hg.tape,hg.output,hg.size,λ i hi hf=>hg.block i hi (λ e=>hf e.symm)⟩ hr⟩)
    (λ c s A W row hs hg hr=>hs)
    ⟨v2,far,st,l2,many,hR8⟩
    (λ (x:{x:Nr // x∈Cg (back != false) rk ss p}) a' W=>∃ T9,a'={ tmps:=#[pt X,i64 s,pt T,undef,.slice (some ⟨g,0,none⟩) (L+1) cp,i64 p,pt T6,.bool true,i64 x.1.1,pt T9,pt X,i64 s,q12,.tuple #[i64 p,u64 d0,.bool true],pt X,pt X,.pointer (some ⟨X,4,none⟩),pt H,.tuple #[i64 p,u64 d0,.bool true],i64 p,u64 d0,.bool true,.bool true,.bool false,pt X,i64 p,u64 d0,.bool false,.slice A L c,i64 p,u64 d0,pt X,pt X,.pointer (some ⟨X,3,none⟩),.slice (some ⟨gS,0,none⟩) N N,i64 p,.pointer (some ⟨gS,p,none⟩),i64 (st p),.agg #[i64 p,u64 d0,i64 (st p)],.slice (some ⟨w4.heap.size,0,none⟩) 1 1,.slice (some ⟨g,0,none⟩) (L+1) cp,pt X,pt X,pt X,.agg #[pt HH,.bool back],i64 p,.func (.func 421) #[] #[pt Z,pt (Z+1),pt (Z+1+1)],i64 x.1.1,.agg #[i64 0,i64 x.1.2.1,.int .u64 x.1.2.2,i64 0,i64 0,i64 0],mb,mc,me,mg,mh,mn,mo,mq,mr,undef,undef,undef],defers:=[] }/\Am W T9 150 #[i64 0,i64 x.1.2.1,.int .u64 x.1.2.2,i64 0,i64 0,i64 0])
    (λ x a' s A W row hs hg hr=>hs.imp λ T9 h=>⟨h.1,Ek _ _ _ (λ _=>#[i64 0,i64 x.1.2.1,.int .u64 x.1.2.2,i64 0,i64 0,i64 0]) s A W row h.2 hg hr⟩)
    ?assign ?body ?done ?stop
   case assign =>
    rintro l pre x W K ⟨v,far,LD,l',many,h⟩ hK;gi_wp2;exact hK _ _ ((KeepsOthers.alloc _ _).from _) (Kept.keptC (F:=λ _=>False) ((zr _ _).alloc _) (λ _ h=>h.elim)) ⟨v,far,LD,l',many,h.out.grew ((zr _ _).alloc _)⟩ ⟨W.heap.size,rfl,zv _ _ _⟩
   case stop =>
    rintro D c pre W _ _ h _;exact h.elim
   case body =>
    rintro l pre ⟨⟨i,u,c'⟩,hx⟩ a' W _ _ ⟨v,far,LD,l',Bn,h⟩ ⟨T9,rfl,hb⟩ hlen;have hg:=HH0.out.2.2.1 (p:Int) _ hx;dsimp only at hg hb ⊢;obtain⟨ha,Mr,Jp,hu0,jK⟩:=hg;obtain⟨un,rfl⟩:=K_ hu0;obtain⟨px,Fv⟩:=zn (pre++[⟨(i,(un:Int),c'),hx⟩]);have HPX:Hid (px.map (λ x:{x:Nr // x∈Cg (back != false) rk ss p}=>x.1.2)=pre.map (λ x:{x:Nr // x∈Cg (back != false) rk ss p}=>x.1.2)++[((un:Int),c')]):=by
     show _=_;rw[<- Fv];simp
    rw[Fv];have LU:=HK.out.2.1;have yE:d0<=1099511627776*12:=(by omega);have fP:0<=d0:=LU.1;have hunN:un<N:=(by omega);have Hz:pre.length<=1000:=(by omega);have HRe:=zh (MF w W R C N gS H A2 X v HH back far LD l' Bn i (d0+c') un (P++[(p:Int)]) h.out.us h.out.ups.keys (λ hq=>(h.out.near _ hq).imp λ x hx=>⟨hx.1,by have:=hx.2;omega⟩) hunN (by have:=h.out.few;rw[Pz]at this;omega));have HA2:=zh ha;have t0:=h.out.box.cell 0;have t6:=h.out.b6.cell 0;have z1:=hb.cell 1;have z2:=hb.cell 2;simp at t0 t6 z1 z2;clear Fv hx ha hb LU;gi_wp2;refine⟨trivial,?_⟩;refine(PD l (callsIn_wide.2 HRe.out)).mono ?_;rintro e w9 ⟨⟨q,rfl⟩,zk⟩;gi_wp2;obtain⟨h1,h2,v',Dc,st'',l'',zV,h3⟩:=h.out.reach (by omega) HK.out.2.1 ⟨hu0,jK⟩ HA2.out ⟨Mr,Jp⟩ zk;exact⟨h2 _,h1,v',Dc,st'',l'',zV,by rw[HPX.out];exact h3⟩
   case done =>
    rintro D ys W hD rfl ⟨v,far,LD,l',Bn,h⟩ fC;go_wp2_with fail;have hpd:(List.map (λ x:{x:Nr // x∈Cg (back != false) rk ss p}=>x.1.2) (Cg (back != false) rk ss p).attach)=BK back rk ss p:=cT _;have hlen:((BK back rk ss p).length:Int)<=1000:=by
     have:=aV (back != false) rk ss (p:Int);simp only[BK,Cg,Pz];omega
    rw[hpd]at h;refine HKK.out _ _ ⟨n-1,by omega,HJ.out _ _ _ ⟨_,_,_,_,_,_,_,_,_,_,_,_,_,_,_,_,_,_,_,_,_,_,_,_,_,_,_,_,_,_,_,_,_,_,_,_,_,_,_,_,_,_,_,_,_,_,_,_,_,_,D::Ds,.slice (some ⟨g,0,none⟩) (L+1) cp,v,ls++[((p:Int),d0,st p)],far,LD,l',Bn,P++[(p:Int)],rfl,?_⟩⟩;exact { us:=h.out.us,box:=h.out.box,own:=h.out.own,ups:=h.out.ups.all,marks:=h.out.marks.cons (by omega) fC (λ hD'=>by have:=vD D hD';omega),cnt:=by simp;omega,few:=by have:=h.out.few;simp;omega,small:=λ u a hu=>by have:=h.out.small u a hu;simp;omega,len:=by have:=hS.out.len;simp;omega }
end Go.Proofs.YtepelooebggliaaGreatDoor
namespace Go.Proofs.YtepelooebggliaaGreatDoor
open Go.RowKit
abbrev C9:Int:=4611686018427387904
theorem aj (A:Option Addr) (c M n:Nat) (ls:List Lb) (m:Int->Option Int) (w:L_) (h:Md w A ls) (hM:Cl w M n m) (hl:ls.length<=60000) (hr:∀ x∈ls,0<=x.1/\x.1<=1000000/\0<=x.2.1/\x.2.1<=1152921504606846976) (hm:∀ v d,m v=some d->0<=d/\d<=1152921504606846976) :
  M_ C_ 154 #[.slice A ls.length c,.map (some M)] w λ e w'=>e=.returned (u64 (Bi (ls.map FL) m C9))/\Ac w w':=by
 obtain⟨L,hL⟩:=zn (ls.length)
 have HS:Hid (Bi ((ls.take 0).map FL) m C9=C9/\Ac w w):=⟨rfl,zr _ _⟩
 have HR:=Gt h hr hL hM hm
 rw[hL]at hl ⊢
 clear h hr hL hM hm
 go_enter Tryz.func154,Tryz.ntmps154
 go_wp2_with fail
 go_loopw [5,7,8,9,12] (λ b _ _ _ i wr=>∃ (k:Nat) (z:Int),k<=L/\i=.int .i64 k/\b=.int .u64 z/\Hid (Bi ((ls.take k).map FL) m C9=z/\Ac w wr)) (λ _ _ _ _ i _=>L-(intOf i).toNat)
 case atStart=>exact⟨0,C9,Nat.zero_le _,rfl,rfl,HS⟩
 case round =>
  clear HS;obtain⟨k,z,hk,rfl,rfl,hS⟩:=hrel;by_cases AH:k<L
  ·obtain⟨x,hx⟩:=zx (l:=ls) (i:=k) (by rw[HR.out.2.2.1];exact AH);obtain⟨b,off,rfl,hb,q0,q1,q2⟩:=(HR.out.1.grew hS.out.2) k x hx;rw[<- Nat.add_assoc]at q1 q2;have LC:=HR.out.2.1 x (zm hx);obtain⟨x1,x2,x3⟩:=x;have k0:(0:Int)<=(k:Int):=(by omega);have k1:(k:Int)<(L:Int):=(by omega);obtain⟨W1,N8,g1,b1⟩:=zb wr #[i64 x1,u64 x2,i64 x3] 311 rfl;have y0:=b1.cell 0;have y1:=b1.cell 1;simp at y0 y1;have IH:=Cl.at (w:=W1) (M:=M) (n:=n) (m:=m) (HR.out.2.2.2.1.grew (hS.out.2.trans g1)) x1 LC.1 (by have:=LC.2.1;simp at this;omega);have Eu:Bi ((ls.take (k+1)).map FL) m C9=match m x1 with | some d=>min z (x2+d) | none=>z:=by
    rw[Ps,hx];simp only[PI,Pm,List.map_cons,List.map_nil];unfold Bi;rw[List.foldl_append];have h0:=hS.out.1;unfold Bi at h0;rw[h0];rfl
   have h2:=LC.2.2;simp only at h2;have HX:=zh (hS.out.2.trans g1);clear hx LC g1 b1 hS;cases hmv:m x1 with
   | none =>
    rw[hmv]at IH Eu;dsimp only [PH,PG]at IH Eu;have HT:Hid (Bi ((ls.take (k+1)).map FL) m C9=z/\Ac w W1):=⟨Eu,HX.out⟩;clear Eu hmv;go_wp2_with fail;go_roundw
    case rel=>exact⟨k+1,z,by omega,by go_num,rfl,HT⟩
    case measure=>simp[intOf];omega
   | some d =>
    have hd:=HR.out.2.2.2.2 x1 d hmv;rw[hmv]at IH Eu;dsimp only [PH,PG]at IH Eu;obtain⟨z2,Cj⟩:=zn (min z (x2+d));rw[Cj]at Eu;have HT:Hid (Bi ((ls.take (k+1)).map FL) m C9=z2/\Ac w W1):=⟨Eu,HX.out⟩;have HZ:=zh Cj;clear Eu hmv Cj;go_wp2_with fail;have e:(if x2+d<z then x2+d else z)=z2:=by rw[<- HZ.out];split<;>omega
    exact⟨⟨k+1,z2,by omega,by go_num,by first | rw[e] | rw[HZ.out],HT⟩,by simp[intOf];omega⟩
  ·obtain rfl:L=k:=(by omega);have hz:Bi (ls.map FL) m C9=z:=by
    have h:=hS.out.1;rw[Po (by rw[HR.out.2.2.1];exact zl _)]at h;exact h
   have HG:=zh hS.out.2;have HZ:=zh hz;clear hS hz;go_wp2_with fail;go_ret;exact⟨congrArg (λ t=>Ending.returned (u64 t)) HZ.out.symm,HG.out⟩
theorem JC (ls:List Lb) (v d:Int) (h:Jn ls v=some d):∃ x∈ls,x.1=v/\x.2.1=d:=by
 obtain⟨n,hn⟩:=zn (ls.length);induction n generalizing ls with
 | zero=>rw[Pj hn]at h;cases h
 | succ n ih =>
  have Bm:ls≠[]:=λ e=>by rw[e]at hn;cases hn
  have hs:=Pn Bm;rw[<- hs,JZ]at h;by_cases e:v=(ls.getLast Bm).1
  ·rw[e,C8]at h;cases h;exact⟨_,List.getLast_mem Bm,e.symm,rfl⟩
  ·rw[CD _ _ e]at h;obtain⟨x,hx,h1⟩:=ih _ h (by simp[hn]);exact⟨x,by have:=List.mem_append_left [ls.getLast Bm] hx;rwa [hs]at this,h1⟩
def Dy (HH s:Nat) (back:Bool) (w:L_) (S:List (Int×Int)->Prop):Prop:=∀ W,Ac w W->M_ C_ 211 #[pt HH,i64 s,.bool back] W λ e w'=>∃ vo ls,e=.returned (.tuple #[vo,i64 0])/\CJ w' W.heap.size vo ls/\S (ls.map FL)/\ls.length<=60000/\(∀ x∈ls,0<=x.1/\x.1<=1000000/\0<=x.2.1/\x.2.1<=1152921504606846976)/\Ac W w'
def Jk (ls:List Lb):Prop:=ls.length<=60000/\∀ x∈ls,0<=x.1/\x.1<=1000000/\0<=x.2.1/\x.2.1<=1152921504606846976
theorem na (HH s t:Nat) (w:L_) (SA SB:List (Int×Int)->Prop) (hA:Dy HH s false w SA) (hB:Dy HH t true w SB) :
  M_ C_ 153 #[pt HH,i64 s,i64 t] w λ e w'=>∃ va vb la lb,e=.returned (.tuple #[va,vb,i64 0])/\CJ w' w.heap.size va la/\CJ w' w.heap.size vb lb/\SA (la.map FL)/\SB (lb.map FL)/\Jk la/\Jk lb/\Ac w w':=by
 have HA:=zh hA
 have HB:=zh hB
 clear hA hB
 go_enter Tryz.func153,Tryz.ntmps153
 go_wp2_with fail
 refine(HA.out _ (zr _ _)).mono ?_
 rintro e w1 ⟨va,la,rfl,vW,ha,jD,tR,ga⟩
 have H1:=Gt vW ha jD tR ga
 clear vW ha jD tR ga HA
 go_wp2_with fail
 refine(HB.out _ H1.out.2.2.2.2).mono ?_
 rintro e w2 ⟨vb,lb,rfl,vX,hb,Ht,oW,gb⟩
 have H2:=Gt vX hb Ht oW gb
 clear vX hb Ht oW gb HB
 go_wp2_with fail
 exact zy (v:=.tuple #[va,vb,i64 0]) (by simp[results,Tryz.results153,go_sem]) rfl ⟨va,vb,la,lb,rfl,H1.out.1.grew H2.out.2.2.2.2,
  ⟨H2.out.1.1,H2.out.1.2.imp id λ ⟨g,cap,cur,hv,hb,hg⟩=>⟨g,cap,cur,hv,PC H1.out.2.2.2.2.size hb,hg⟩⟩,H1.out.2.1,H2.out.2.1,⟨H1.out.2.2.1,H1.out.2.2.2.1⟩,⟨H2.out.2.2.1,H2.out.2.2.2.1⟩,H1.out.2.2.2.2.trans H2.out.2.2.2.2⟩
def OF (d:Int):Ending:=.returned (.tuple (if d<C9 then #[u64 d,i64 0] else #[u64 0,i64 9]))
theorem sQ (HH s t:Nat) (w:L_) (SA SB:List (Int×Int)->Prop) (hA:Dy HH s false w SA) (hB:Dy HH t true w SB) :
  M_ C_ 102 #[pt HH,i64 s,i64 t] w λ e w'=>∃ la lb,SA (la.map FL)/\SB (lb.map FL)/\Jk la/\Jk lb/\Ac w w'/\e=OF (Bi (la.map FL) (Jn lb) C9):=by
 have HB:=zh (na HH s t w SA SB hA hB)
 clear hA hB
 go_enter Tryz.func102,Tryz.ntmps102
 go_wp2_with fail
 refine HB.out.mono ?_
 rintro e w1 ⟨va,vb,la,lb,rfl,vW,vX,hsa,rS,jD,Ht,g1⟩
 obtain⟨Aa,ca,rfl,tR,_⟩:=vW.row
 obtain⟨Ab,cb,rfl,oW,_⟩:=vX.row
 have HN:=zh (J0 Ab cb lb w1 oW Ht.1 (λ x hx=>⟨(Ht.2 x hx).1,(Ht.2 x hx).2.1⟩))
 have HR:=JQ tR hsa rS jD Ht g1
 obtain⟨La,hLa⟩:=zn (la.length)
 obtain⟨Lb',hLb⟩:∃ n,lb.length=n:=⟨_,rfl⟩
 rw[hLb]at HN
 rw[hLa,hLb]
 have HLa:=zh hLa
 clear vW vX hsa rS jD Ht g1 tR oW HB hLa hLb
 go_wp2_with fail
 refine HN.out.mono ?_
 rintro e w2 ⟨M,n,rfl,hMs,hM,g2⟩
 have HD:=zh (aj Aa ca M n la (Jn lb) w2 (HR.out.1.grew g2) hM HR.out.2.2.2.1.1 HR.out.2.2.2.1.2 (λ v d h=>by
  obtain⟨x,hx,_,h2⟩:=JC lb v d h;have:=HR.out.2.2.2.2.1.2 x hx;omega))
 rw[HLa.out]at HD
 have HG:=zh (HR.out.2.2.2.2.2.trans g2)
 obtain⟨d,hd⟩:=zn (Bi (la.map FL) (Jn lb) C9)
 rw[hd]at HD
 have xj:=zh hd
 clear hM g2 hMs HN hd
 go_wp2_with fail
 refine HD.out.mono ?_
 rintro e w3 ⟨rfl,g3⟩
 have xn:=zh (HG.out.trans g3)
 clear g3 HD
 rcases Int.lt_or_le d C9 with h | h
 ·have e1:decide (4611686018427387904<=d)=false:=zf (Int.not_le.2 h);go_wp2_with fail;exact zy (v:=.tuple #[u64 d,i64 0]) (by simp[results,D_,go_sem]) rfl ⟨la,lb,HR.out.2.1,HR.out.2.2.1,HR.out.2.2.2.1,HR.out.2.2.2.2.1,xn.out,by rw[xj.out,OF,if_pos h]⟩
 ·have e1:decide (4611686018427387904<=d)=true:=zt h;go_wp2_with fail;exact zy (v:=.tuple #[u64 0,i64 9]) (by simp[results,D_,go_sem]) rfl ⟨la,lb,HR.out.2.1,HR.out.2.2.1,HR.out.2.2.2.1,HR.out.2.2.2.2.1,xn.out,by rw[xj.out,OF,if_neg (Int.not_lt.2 h)]⟩
structure mH (w W:L_) (O HH M1 M2 n1 n2:Nat) (lb:List Lb) (known:Int->Option Int):Prop where
 box:Am W O 305 #[pt HH,.map (some M1),.map (some M2)]
 space:Cl W M1 n1 (Jn lb)
 knows:Cl W M2 n2 known
 kept:Ac w W
 new:w.heap.size<=O/\w.heap.size<=M1/\w.heap.size<=M2
 ne:M1≠M2
theorem mH.grew {w W W':L_} {O HH M1 M2 n1 n2:Nat} {lb:List Lb} {known:Int->Option Int} (h:mH w W O HH M1 M2 n1 n2 lb known) (k:Ac W W'):mH w W' O HH M1 M2 n1 n2 lb known :=
 ⟨h.box.grew k,h.space.grew k,h.knows.grew k,h.kept.trans k,h.new,h.ne⟩
theorem to_any (HH t:Nat) (w:L_) (SB:List (Int×Int)->Prop) (hB:Dy HH t true w SB) :
  M_ C_ 149 #[pt HH,i64 t] w λ e w'=>∃ O M1 M2 n1 lb,e=.returned (.tuple #[pt O,i64 0])/\SB (lb.map FL)/\Jk lb/\mH w w' O HH M1 M2 n1 0 lb (λ _=>none):=by
 have HB:=zh hB
 have JJ:=@run_makeMap C_
 clear hB
 go_enter Tryz.func149,Tryz.ntmps149
 go_wp2_with fail
 refine(HB.out _ (zr _ _)).mono ?_
 rintro e w1 ⟨vb,lb,rfl,vX,hb,Ht,oW,gb⟩
 obtain⟨Ab,cb,rfl,AY,_⟩:=vX.row
 have HN:=zh (J0 Ab cb lb w1 AY Ht (λ x hx=>⟨(oW x hx).1,(oW x hx).2.1⟩))
 have H1:=DS hb Ht oW gb
 obtain⟨L,hL⟩:=zn (lb.length)
 rw[hL]at HN
 rw[hL]
 clear vX hb Ht oW gb AY HB hL
 go_wp2_with fail
 refine HN.out.mono ?_
 rintro e w2 ⟨M1,n1,rfl,hMs,hM,g2⟩
 have H2:=DK hMs hM g2
 clear HN hMs hM g2
 go_wp2_with fail
 refine zy (v:=.tuple #[pt (w2.heap.size+1),i64 0]) (by simp[results,Tryz.results149,go_sem]) rfl ⟨_,M1,w2.heap.size,n1,lb,rfl,H1.out.1,⟨H1.out.2.1,H1.out.2.2.1⟩,?_⟩
 have k3:Ac w2 (w2.alloc (.map #[] 0)):=(zr _ _).alloc _
 have AH:=(H2.out.2.1:Cl w2 M1 n1 (Jn lb)).lt
 have hs:=H2.out.2.2.size
 have CR:=H1.out.2.2.2.size
 have hw:=H2.out.1
 refine⟨?_,(H2.out.2.1.grew k3).grew ((zr _ _).alloc _),BG.grew (BG.new w2) ((zr _ _).alloc _),((H1.out.2.2.2.trans H2.out.2.2).trans k3).alloc _,⟨by omega,by omega,by omega⟩,by omega⟩
 have h:=zv (w2.alloc (.map #[] 0)) 305 #[pt HH,.map (some M1),.map (some w2.heap.size)]
 rw[A_]at h
 exact h
theorem nF (w W:L_) (O HH M1 M2 n1 n2 s:Nat) (lb:List Lb) (known:Int->Option Int) (SA:List (Int×Int)->Prop) (h:mH w W O HH M1 M2 n1 n2 lb known) (hA:Dy HH s false w SA) (Ht:Jk lb) :
  M_ C_ 213 #[pt O,i64 s] W λ e w'=>∃ la,SA (la.map FL)/\Jk la/\e=.returned (u64 (Bi (la.map FL) (Jn lb) C9))/\Ac W w':=by
 have x0:=h.box.cell 0
 simp at x0
 have HA:=zh (hA W h.kept)
 have HO:=BP h Ht
 clear h hA Ht
 go_enter Tryz.func213,Tryz.ntmps213
 go_wp2_with fail
 refine HA.out.mono ?_
 rintro e w1 ⟨va,la,rfl,vW,ha,jD,tR,ga⟩
 obtain⟨Aa,ca,rfl,AY,_⟩:=vW.row
 have x1:=(HO.out.1.grew ga).box.cell 1
 simp at x1
 have HD:=zh (aj Aa ca M1 n1 la (Jn lb) w1 AY (HO.out.1.grew ga).space jD tR (λ v d h=>by
  obtain⟨x,hx,_,h2⟩:=JC lb v d h;have:=HO.out.2.2 x hx;omega))
 have H1:=DK ha ((⟨jD,tR⟩:Jk la)) ga
 obtain⟨L,hL⟩:=zn (la.length)
 rw[hL]at HD
 rw[hL]
 clear vW ha jD tR ga AY hL x0 HA
 go_wp2_with fail
 refine HD.out.mono ?_
 rintro e w2 ⟨rfl,g2⟩
 have HG:=zh (H1.out.2.2.trans g2)
 clear g2 HD
 go_wp2_with fail
 go_ret
 exact⟨la,H1.out.1,H1.out.2.1,rfl,HG.out⟩
theorem CJ.base {w:L_} {B B':Nat} {v:N_} {ls:List Lb} (h:CJ w B v ls) (hB:B'<=B):CJ w B' v ls :=
 ⟨h.1,h.2.imp id λ ⟨g,cap,cur,hv,hb,hg⟩=>⟨g,cap,cur,hv,PC hB hb,hg⟩⟩
theorem lf (w:L_) (HH B N s:Nat) (back:Bool) (es:List AB) (rk:List Int) (ss:List Sc) (G:Rel) (hH:Ca w HH B N es rk ss) (hs:s<N) (hN:N<=12) (DY:ss.length<=1000) (BF:∀ x∈ss,inN N x/\0<=x.w/\x.w<=1099511627776)
  (hG:∀ p x,x∈Cg (back != false) rk ss p->Wk G p x.2.1 x.2.2/\1<=x.2.2/\x.2.2<=1099511627776/\0<=x.2.1/\x.2.1<(N:Int)) (hD:∀ p x,x∈Cg (back != true) rk ss p->Wk G x.2.1 p x.2.2) :
  M_ C_ 211 #[pt HH,i64 s,.bool back] w λ e w'=>∃ vo ls P far,e=.returned (.tuple #[vo,i64 0])/\CJ w' w.heap.size vo ls/\FT N G s P (ls.map FL) (BK back rk ss) far []/\(∀ u a,far u=some a->0<=a/\a<=1099511627776*12)/\Ac w w':=by
 have HN:=zh (GG hH)
 have HK:=DS hH BF hG hD
 obtain⟨i0,hi,Cu,BV,Cj⟩:=info_parts info_int
 have Hu:=λ W=>run_make (P:=C_) W 26 3 i0 _ Tryz.underlying26 hi Cu .i64 .i64 (N:Int) (N:Int) (by omega) (J_ _) (by rw[Cj];omega) (by omega)
 simp only[I_,BV,Nat.mul_one]at Hu
 clear hi Cu BV Cj
 have yo:=zh (λ W=>Sm.new_yes N W (by omega))
 have te:Hid (∀ W n,W.heap.size=n->M_ C_ 275 #[i64 (N:Int)] W λ e w'=>e=.returned (pt (n+1))/\Hp.Hp w' (n+1) n N (.slice none 0 0) []/\Ac W w'):=by
  rintro W n rfl;exact Hp.new2 N W (by omega)
 have s0:(0:Int)<=(s:Int):=by omega
 have s1:(s:Int)<(N:Int):=by omega
 have n0:((N:Int)==0)=false:=by simp;omega
 have d1:decide ((N:Int)<=(s:Int))=false:=zf (by omega)
 have d2:decide (N<=s)=false:=zf (by omega)
 have d3:decide ((s:Int)<0)=false:=zf (by omega)
 clear hH BF hG hD
 go_enter Tryz.func211,Tryz.ntmps211
 go_wp2_with fail
 refine HN.out.mono ?_
 rintro e w ⟨rfl,rfl⟩
 clear HN
 go_upto_region 6 with fail
 go_cut [9] (λ s9 wx=>∃ X R C gS H A2:Nat,s9=pt X/\Hid ((gS<wx.heap.size/\A2<wx.heap.size)/\US w wx R C N gS H A2 X (.slice none 0 0) HH back (λ _=>none) (λ _=>0) [] 0))
 case first =>
  refine rG [] (λ _=>False) ?_;refine pG 0 23 ?_;refine pG 1 24 ?_;refine pG 2 25 ?_;refine pG 3 26 ?_;refine pG 5 28 ?_;refine pG 7 30 ?_;refine AP 4 27 6 29 rfl rfl (by kernel_rfl) rfl rfl (by rfl) (by rfl) (λ K Aj=>?_) (λ K Aj=>?_)
  ·skip;go_simp;refine(yo.out _).mono ?_;rintro e ws ⟨R,C,rfl,zR,zC,sS,ks⟩;refine Aj _ _ (λ _=>ks) ?_;clear Aj;simp only[sA];refine AP 6 29 8 31 rfl rfl (by kernel_rfl) rfl rfl (by rfl) (by rfl) (λ K Aj=>?_) (λ K Aj=>?_)
   ·skip;go_simp;refine Aj _ _ (λ _=>(zr _ _).alloc _) ?_;clear Aj;simp only[sA];refine sG 8 31 (λ K Aj=>?_);go_simp;refine(te.out _ (ws.heap.size+1) (by simp)).mono ?_;rintro e wh ⟨rfl,sH,kh⟩;refine Aj _ _ (λ _=>kh) ?_;clear Aj;simp only[sA];refine pG 9 32 ?_;refine sG 10 33 (λ K Aj=>?_);go_simp;refine Aj _ _ (λ _=>(zr _ _).alloc _) ?_;clear Aj;simp only[sA];refine pG 11 9 ?_;refine dG ?_;go_wp2_with fail;go_meet;have q1:=ks.size;have q2:=kh.size;have q3:=sH.elim λ a s'=>s'.1.box.lt;try simp only [A_]at q3
    simp only[A_,B_]at q1 q2 zR zC;exact⟨wh.heap.size,R,C,ws.heap.size,(ws.heap.size+1+1),(ws.heap.size+1),rfl,zh (show _/\_ from ⟨⟨by (try simp)<;>omega,by (try simp)<;>omega⟩,sS.kept (F:=λ _=>False) ((((zr _ _).alloc _).trans kh).alloc _) (λ h=>h) (λ h=>h),((made_of (zv ws _ _)).grew kh).grew ((zr _ _).alloc _),sH.grew ((zr _ _).alloc _),zv wh _ _,((((zr _ _).drew.trans ks).alloc _).trans kh).alloc _,⟨by omega,by omega,by omega,by (try simp)<;>omega,by (try simp)<;>omega,by (try simp)<;>omega⟩,by (try simp)<;>omega,λ j hj=>by cases hj⟩)⟩
   ·skip;go_simp;refine(te.out _ (ws.heap.size) (by simp)).mono ?_;rintro e wh ⟨rfl,sH,kh⟩;refine Aj _ _ (λ _=>kh) ?_;clear Aj;simp only[sA];refine sG 6 29 (λ K Aj=>?_);go_simp;refine Aj _ _ (λ _=>(zr _ _).alloc _) ?_;clear Aj;simp only[sA];refine pG 9 32 ?_;refine sG 10 33 (λ K Aj=>?_);go_simp;refine Aj _ _ (λ _=>(zr _ _).alloc _) ?_;clear Aj;simp only[sA];refine pG 11 9 ?_;refine dG ?_;go_wp2_with fail;go_meet;have q1:=ks.size;have q2:=kh.size;have q3:=sH.elim λ a s'=>s'.1.box.lt;try simp only [A_]at q3
    simp only[A_,B_]at q1 q2 zR zC;exact⟨(wh.heap.size+1),R,C,wh.heap.size,(ws.heap.size+1),ws.heap.size,rfl,zh (show _/\_ from ⟨⟨by (try simp)<;>omega,by (try simp)<;>omega⟩,sS.kept (F:=λ _=>False) ((kh.alloc _).alloc _) (λ h=>h) (λ h=>h),(made_of (zv wh _ _)).grew ((zr _ _).alloc _),sH.grew (((zr _ _).alloc _).alloc _),(by have h:=zv (wh.alloc (.cells (madeCells #[i64 0] N) 3)) 383 (upV HH R wh.heap.size (ws.heap.size+1) N back);rw[A_]at h;exact h),((((zr _ _).drew.trans ks).trans kh).alloc _).alloc _,⟨by omega,by omega,by omega,by (try simp)<;>omega,by (try simp)<;>omega,by (try simp)<;>omega⟩,by (try simp)<;>omega,λ j hj=>by cases hj⟩)⟩
  ·skip;go_simp;refine Aj _ _ (λ _=>(zr _ _).alloc _) ?_;clear Aj;simp only[sA];refine sG 4 27 (λ K Aj=>?_);go_simp;refine(yo.out _).mono ?_;rintro e ws ⟨R,C,rfl,zR,zC,sS,ks⟩;refine Aj _ _ (λ _=>ks) ?_;clear Aj;simp only[sA];refine sG 8 31 (λ K Aj=>?_);go_simp;refine(te.out _ (ws.heap.size) (by simp)).mono ?_;rintro e wh ⟨rfl,sH,kh⟩;refine Aj _ _ (λ _=>kh) ?_;clear Aj;simp only[sA];refine pG 9 32 ?_;refine sG 10 33 (λ K Aj=>?_);go_simp;refine Aj _ _ (λ _=>(zr _ _).alloc _) ?_;clear Aj;simp only[sA];refine pG 11 9 ?_;refine dG ?_;go_wp2_with fail;go_meet;have q1:=ks.size;have q2:=kh.size;have q3:=sH.elim λ a s'=>s'.1.box.lt;try simp only [A_]at q3
   simp only[A_,B_]at q1 q2 zR zC;exact⟨wh.heap.size,R,C,w.heap.size,(ws.heap.size+1),ws.heap.size,rfl,zh (show _/\_ from ⟨⟨by (try simp)<;>omega,by (try simp)<;>omega⟩,sS.kept (F:=λ _=>False) (kh.alloc _) (λ h=>h) (λ h=>h),(((made_of (show Am (w.drew.alloc (.cells (madeCells #[i64 0] N) 3)) w.heap.size _ _ from zv w.drew _ _)).grew ks).grew kh).grew ((zr _ _).alloc _),sH.grew ((zr _ _).alloc _),zv wh _ _,((((zr _ _).drew.alloc _).trans ks).trans kh).alloc _,⟨by omega,by omega,by omega,by (try simp)<;>omega,by (try simp)<;>omega,by (try simp)<;>omega⟩,by (try simp)<;>omega,λ j hj=>by cases hj⟩)⟩
 case rest =>
  obtain⟨X,R,C,gS,H,A2,rfl,hU⟩:=hcut;have hR:=zh (uH w wc R C N gS H A2 X HH s B back es rk ss G _ hU.out.2 HK.out.1 hs hN DY HK.out.2.1 HK.out.2.2.1 HK.out.2.2.2 hU.out.1 (λ W vo ls ho hl=>uJ _ vo ls W ho (by omega)));have Df:=hU.out.2.kept.size;clear hU yo te Hu;go_wp2_with fail;refine hR.out.mono ?_;rintro e w2 ⟨vo,ls,P,far,rfl,ho,hu,hf,hg⟩;go_wp2_with fail;exact zy (v:=.tuple #[vo,i64 0]) (by simp[results,Tryz.results211,go_sem]) rfl ⟨vo,ls,P,far,rfl,CJ.base ho Df,hu,hf,hg⟩
def EX (N:Nat) (G:Rel) (arcs:D1) (s:Int) (l:List (Int×Int)):Prop:=∃ P far,FT N G s P l arcs far []
theorem Ff (w:L_) (HH B N s:Nat) (back:Bool) (es:List AB) (rk:List Int) (ss:List Sc) (G:Rel) (hH:Ca w HH B N es rk ss) (hs:s<N) (hN:N<=12) (DY:ss.length<=1000) (BF:∀ x∈ss,inN N x/\0<=x.w/\x.w<=1099511627776)
  (hG:∀ p x,x∈Cg (back != false) rk ss p->Wk G p x.2.1 x.2.2/\1<=x.2.2/\x.2.2<=1099511627776/\0<=x.2.1/\x.2.1<(N:Int)) (hD:∀ p x,x∈Cg (back != true) rk ss p->Wk G x.2.1 p x.2.2) :
  Dy HH s back w (EX N G (BK back rk ss) s):=λ W k=>by
 refine(lf W HH B N s back es rk ss G (hH.grew k) hs hN DY BF hG hD).mono ?_
 rintro e w' ⟨vo,ls,P,far,rfl,ho,hu,hf,hg⟩
 have hin':∀ x∈ls,(0<=x.1/\x.1<(N:Int))/\far x.1=some x.2.1:=λ x hx=>by
  have h:=hu.outP (FL x) (Pb hx);exact⟨hu.inN _ h.1,h.2⟩
 have hlen:ls.length<=N:=by
  have h1:=hu.outN;have h2:=CT N _ h1 (λ q hq=>by
   obtain⟨e,he,rfl⟩:=Pa.1 hq;exact hu.inN _ (hu.outP e he).1)
  simpa using h2
 refine⟨vo,ls,rfl,ho,⟨P,far,hu⟩,by omega,λ x hx=>?_,hg⟩
 obtain⟨h1,h2⟩:=hin' x hx
 have:=hf _ _ h2
 omega
def N5 (ss:List Sc):Rel:=λ p q a=>∃ s∈ss,s.from'=p/\s.to'=q/\s.w=a
theorem aA {b:Bool} {rk:List Int} {ss:List Sc} {p:Int} {x:Nr} (h:x∈Cg b rk ss p):if b then N5 ss x.2.1 p x.2.2 else N5 ss p x.2.1 x.2.2:=by
 unfold Cg at h;obtain⟨i,hi,rfl⟩:=Pa.1 h;unfold Ld cH cd at hi;cases b with
 | false =>
  simp only[PK,if_false,Pa,Pg,Ph]at hi ⊢;obtain⟨k,⟨hk,hc⟩,rfl⟩:=hi;rw[zq hk]at hc;simp only[PL,decide_eq_true_eq]at hc;refine⟨ss[k],Pe hk,hc.1,?_,?_⟩
  ·rw[E9,I_,zq hk];simp only;rw[hc.1];omega
  ·rw[E9,I_,zq hk]
 | true =>
  simp only[if_true,Pa,Pg,Ph]at hi ⊢;obtain⟨k,⟨hk,hc⟩,rfl⟩:=hi;rw[zq hk]at hc;simp only[PL,decide_eq_true_eq]at hc;refine⟨ss[k],Pe hk,?_,hc.1,?_⟩
  ·rw[E9,I_,zq hk];simp only;rw[hc.1];omega
  ·rw[E9,I_,zq hk]
theorem uo {rk:List Int} {ss:List Sc} {s:Sc} (h:s∈ss) (hu:cF rk s=true):(s.to',s.w)∈BK false rk ss s.from':=by
 obtain⟨k,hk,rfl⟩:=Pp.1 h;unfold BK Cg Ld cH;simp only[bne_self_eq_false,PK,if_false,Pf,Pa,Pg,Ph];refine⟨k,⟨hk,by rw[zq hk];simp[hu]⟩,?_⟩;simp only[Function.comp,E9,I_,zq hk,Prod.mk.injEq,and_true];omega
theorem kp {rk:List Int} {ss:List Sc} {s:Sc} (h:s∈ss) (hu:cF rk s=false):(s.from',s.w)∈BK true rk ss s.to':=by
 obtain⟨k,hk,rfl⟩:=Pp.1 h;unfold BK Cg Ld cd;simp only[show (true != false)=true from rfl,if_true,Pf,Pa,Pg,Ph];refine⟨k,⟨hk,by rw[zq hk];simp[hu]⟩,?_⟩;simp only[Function.comp,E9,I_,zq hk,Prod.mk.injEq,and_true];omega
theorem nc (ls:List Lb) (hn:(ls.map (·.1)).Nodup) (x:Lb) (hx:x∈ls):Jn ls x.1=some x.2.1:=by
 obtain⟨n,hl⟩:=zn (ls.length);induction n generalizing ls with
 | zero=>rw[Pj hl]at hx;cases hx
 | succ n ih =>
  have Bm:ls≠[]:=λ e=>by rw[e]at hl;cases hl
  have hs:=Pn Bm;obtain⟨y,hy⟩:=zn (ls.getLast Bm);obtain⟨l0,h0⟩:=zn (ls.dropLast);rw[hy,h0]at hs;subst hs;rw[Pm,Pv]at hn;rw[JZ];rcases Pk.1 hx with h | h
  ·have Kt:x.1≠y.1:=hn.2.2 x.1 (Pb h) y.1 (by simp);rw[CD _ _ Kt];exact ih l0 hn.1 h (by simpa using hl)
  ·rw[Pc]at h;subst h;exact C8 _ _ _
def Og (N:Nat) (rk:List Int):Int->Int:=λ p=>if 0<=p/\p<(N:Int) then rk.getD p.toNat 0 else N
theorem a8 {N:Nat} {G:Rel} {rk:List Int} {ss:List Sc} {s:Int} {l:List (Int×Int)} (h:EX N G (BK false rk ss) s l) (BH:∀ p q a,G p q a->1<=a) (hS:∀ p q a,N5 ss p q a->Wk G p q a) (BF:∀ x∈ss,inN N x):fm G (xI (N5 ss) (Og N rk)) s l:=by
 obtain⟨P,far,h⟩:=h;refine⟨h.outN,λ e he=>h.label _ _ (h.outP e he).2,λ p y hw hl=>h.over BH (λ p q a hu=>?_) (λ p q a hu=>hS p q a hu.1) hw hl⟩;obtain⟨⟨x,hx,rfl,rfl,rfl⟩,AH⟩:=hu;refine uo hx ?_;have Fk:=BF x hx;unfold inN at Fk;unfold cF;unfold Og at AH;rw[if_pos ⟨Fk.1,Fk.2.1⟩,if_pos ⟨Fk.2.2.1,Fk.2.2.2⟩]at AH;rw[zf (by omega)];rfl
theorem Lk {N:Nat} {G:Rel} {rk:List Int} {ss:List Sc} {t:Int} {l:List (Int×Int)} (h:EX N (iG G) (BK true rk ss) t l) (BH:∀ p q a,G p q a->1<=a) (hS:∀ p q a,N5 ss p q a->Wk G p q a) (BF:∀ x∈ss,inN N x):fm (iG G) (iG (JR (N5 ss) (Og N rk))) t l:=by
 obtain⟨P,far,h⟩:=h;refine⟨h.outN,λ e he=>h.label _ _ (h.outP e he).2,λ p y hw hl=>h.over (λ p q a hg=>BH q p a hg) (λ p q a hu=>?_) (λ p q a hu=>(hS q p a hu.1).rev) hw hl⟩;obtain⟨⟨x,hx,rfl,rfl,rfl⟩,AH⟩:=hu;refine kp hx ?_;have Fk:=BF x hx;unfold inN at Fk;unfold cF;unfold Og at AH;rw[if_pos ⟨Fk.2.2.1,Fk.2.2.2⟩,if_pos ⟨Fk.1,Fk.2.1⟩]at AH;rw[zt (by omega)];rfl
theorem nu (w:L_) (HH B N s t:Nat) (es:List AB) (rk:List Int) (ss:List Sc) (G:Rel) (hH:Ca w HH B N es rk ss) (hs:s<N) (ht:t<N) (hN:N<=12) (DY:ss.length<=1000) (BF:∀ x∈ss,inN N x/\1<=x.w/\x.w<=1099511627776)
  (BH:∀ p q a,G p q a->1<=a) (hS:∀ p q a,N5 ss p q a->Wk G p q a) (zw:∀ x,Wk G s t x->∃ y,y<=x/\UD (N5 ss) (Og N rk) s t y) (IK:∀ p,0<=Og N rk p/\Og N rk p<=N) :
  M_ C_ 102 #[pt HH,i64 s,i64 t] w λ e w'=>Ac w w'/\((∃ x,Bw G s t x/\x<C9/\e=.returned (.tuple #[u64 x,i64 0]))\/(∀ x,¬ Wk G s t x)/\e=.returned (.tuple #[u64 0,i64 9])):=by
 have near:∀ (b:Bool) p x,x∈Cg b rk ss p->(if b then N5 ss x.2.1 p x.2.2 else N5 ss p x.2.1 x.2.2)/\1<=x.2.2/\x.2.2<=1099511627776/\0<=x.2.1/\x.2.1<(N:Int):=λ b p x hx=>by
  have h:=aA hx;refine⟨h,?_⟩;cases b with
  | false =>
   obtain⟨sc,Oc,h1,h2,h3⟩:=(show N5 ss p x.2.1 x.2.2 from h);have:=BF sc Oc;unfold inN at this;omega
  | true =>
   obtain⟨sc,Oc,h1,h2,h3⟩:=(show N5 ss x.2.1 p x.2.2 from h);have:=BF sc Oc;unfold inN at this;omega
 have hin2:∀ x∈ss,inN N x/\0<=x.w/\x.w<=1099511627776:=λ x hx=>by have:=BF x hx;exact⟨this.1,by omega,this.2.2⟩
 have hA:=Ff w HH B N s false es rk ss G hH hs hN DY hin2 (λ p x hx=>⟨hS _ _ _ (near false p x hx).1,(near false p x hx).2⟩) (λ p x hx=>hS _ _ _ (near true p x hx).1)
 have hB:=Ff w HH B N t true es rk ss (iG G) hH ht hN DY hin2 (λ p x hx=>⟨(hS _ _ _ (near true p x hx).1).rev,(near true p x hx).2⟩) (λ p x hx=>(hS _ _ _ (near false p x hx).1).rev)
 refine(sQ HH s t w _ _ hA hB).mono ?_
 rintro e w' ⟨la,lb,ha,hb,jD,Ht,hg,rfl⟩
 refine⟨hg,?_⟩
 have sa:=a8 ha BH hS (λ x hx=>(BF x hx).1)
 have sb:=Lk hb BH hS (λ x hx=>(BF x hx).1)
 have hnd:(lb.map (·.1)).Nodup:=by have:=sb.once;rw[Pf]at this;exact this
 rcases Ji (N:=N) (M:=1099511627776) BH hS zw (λ p q a h=>by obtain⟨x,hx,_,_,rfl⟩:=h;exact(BF x hx).2.2) (by omega) IK sa sb (m:=Jn lb) (λ v d=>⟨λ h=>by
   obtain⟨x,hx,rfl,rfl⟩:=JC lb v d h;exact Pb (f:=FL) hx,λ h=>by
   obtain⟨x,hx,he⟩:=Pa.1 h;have:=nc lb hnd x hx;cases he;exact this⟩) (far:=C9) (by show _<(4611686018427387904:Int);omega) with ⟨x,hl,AH,he⟩ | ⟨Cx,he⟩
 ·exact .inl ⟨x,hl,AH,by rw[he,OF,if_pos AH]⟩
 ·exact .inr ⟨Cx,by rw[he,OF,if_neg (Int.lt_irrefl _)]⟩
theorem Kb (w:L_) (HH B N s t:Nat) (es:List AB) (rk:List Int) (ss:List Sc) (out:List Int) (hH:Ca w HH B N es rk ss) (hO:lJ N es rk ss out) (hr:Aq N es=0) (hs:s<N) (ht:t<N) (hN:N<=7) (hle:es.length<=600) :
  M_ C_ 102 #[pt HH,i64 s,i64 t] w λ e w'=>Ac w w'/\((∃ x,Bw (CM es) s t x/\x<C9/\e=.returned (.tuple #[u64 x,i64 0]))\/(∀ x,¬ Wk (CM es) s t x)/\e=.returned (.tuple #[u64 0,i64 9])):=by
 obtain⟨g,st⟩:=hO.st
 have jH:=hO.len
 have hall:∀ p,0<=p->p<(N:Int)->p∈out:=λ p h0 h1=>PF λ hn=>by
  have h:=CT N (p::out) (PA.2 ⟨hn,st.going.nodup⟩) (λ q hq=>by
   rcases List.mem_cons.1 hq with rfl | hq
   ·exact⟨h0,h1⟩
   ·exact st.rng q hq)
  rw[Pd,jH]at h;omega
 have hpw:∀ n:Nat,n<=7->(4294967296:Int)*2 ^ n<=1099511627776:=by decide
 have zAC:N*N*N<=343:=PB (PB hN hN) hN
 have hlen:=st.len
 rw[jH]at hlen
 refine nu w HH B N s t es rk ss (CM es) hH hs ht (by omega) (by omega) (λ x hx=>⟨st.inn x hx,(st.wt x hx).1,?_⟩) (λ p q a h=>?_) st.going.sound (λ x hx=>?_) (λ p=>?_)
 ·have h1:=(st.wt x hx).2;rw[jH]at h1;have h2:=hpw N hN;omega
 ·obtain⟨i,hi⟩:=h;have:=Ch hr (zm hi);unfold Mb at this;simp only at this;omega
 ·refine st.going.over (n:=N) (λ p h0 h1=>(st.going.gone p).2 (hall p h0 h1)) (λ p q a h=>?_) (Og N rk) (λ i p hp=>?_) (λ p hp=>?_) ⟨by omega,by omega⟩ hx
  ·obtain⟨i,hi⟩:=h;have:=Ch hr (zm hi);unfold Mb at this;simp only at this;omega
  ·have h1:=hO.rk' i p hp;have h2:=st.rng p (zm hp);rw[Og,if_pos h2,O_,h1];rfl
  ·rw[jH,Og,if_neg (λ h=>hp (hall p h.1 h.2))];exact J_ _
 ·unfold Og;split
  ·rename_i h;have AH:p.toNat<rk.length:=by rw[hO.rlen];omega
   rw[O_,zq AH];have:=hO.rok.1 _ (Pe AH);rw[hO.rlen]at this;simp only[PJ];omega
  ·omega
def fA (d:Int):Ending:=.returned (.tuple (if d<C9 then #[u64 d,.bool true] else #[u64 0,.bool false]))
theorem nJ (w W:L_) (O HH B N M1 M2 n1 n2 s:Nat) (es:List AB) (rk:List Int) (ss:List Sc) (lb:List Lb) (known:Int->Option Int) (SA:List (Int×Int)->Prop) (h:mH w W O HH M1 M2 n1 n2 lb known) (hH:Ca w HH B N es rk ss) (hs:s<N) (hN:N<=60000) (hA:Dy HH s false w SA) (Ht:Jk lb) (hk:known s=none) :
  M_ C_ 150 #[pt O,i64 s] W λ e w'=>∃ la d,SA (la.map FL)/\Jk la/\Bi (la.map FL) (Jn lb) C9=d/\e=fA d/\mH w w' O HH M1 M2 n1 (n2+1) lb (EG known s d)/\Kept (·=M2) W w':=by
 have x0:=h.box.cell 0
 have x2:=h.box.cell 2
 simp at x0 x2
 have HN:=zh (GG (hH.grew h.kept))
 have HF:=zh (nF w W O HH M1 M2 n1 n2 s lb known SA h hA Ht)
 have IH:=Cl.at (w:=W) (M:=M2) (n:=n2) (m:=known) h.knows (s:Int) (by omega) (by omega)
 rw[hk]at IH
 dsimp only [PH,PG]at IH
 have HO:=zh h
 have s0:(0:Int)<=(s:Int):=by omega
 have s1:(s:Int)<(N:Int):=by omega
 have d1:decide ((s:Int)<0)=false:=zf (by omega)
 have d2:decide ((N:Int)<=(s:Int))=false:=zf (by omega)
 have d3:decide (N<=s)=false:=zf (by omega)
 clear h hH hA Ht hk
 go_enter Tryz.func150,Tryz.ntmps150
 go_wp2_with fail
 refine HN.out.mono ?_
 rintro e W ⟨rfl,rfl⟩
 clear HN
 go_wp2_with fail
 refine HF.out.mono ?_
 rintro e w2 ⟨la,hsa,jD,rfl,g2⟩
 obtain⟨d,hd⟩:=zn (Bi (la.map FL) (Jn lb) C9)
 rw[hd]
 have x2':=(HO.out.grew g2).box.cell 2
 simp at x2'
 obtain⟨w3,CW,hM3,k3,sz3⟩:=Cl.store (w:=w2) (M:=M2) (n:=n2) (m:=known) (HO.out.grew g2).knows (s:Int) d (by omega) (by omega)
 have HO2:=zh (HO.out.grew g2)
 have HL:=DK hsa jD hd
 have HW:Hid (mH w w3 O HH M1 M2 n1 (n2+1) lb (EG known s d)/\Kept (·=M2) W w3):=by
  have o:=HO2.out;have nO:¬ O=M2:=λ e=>BG.noBlk o.knows o.box e.symm;refine⟨⟨o.box.kept k3 nO,BG.kept o.space k3 o.ne,hM3,o.kept.then k3 (λ i hi e=>?_),o.new,o.ne⟩,(g2.kept (F:=(·=M2))).trans k3⟩;have e':i=M2:=e;have:=o.new.2.2;omega
 clear hsa jD hd hM3 k3 sz3 HO HO2 HF x0 x2 IH g2
 rcases Int.lt_or_le d C9 with h | h
 ·have e1:decide (4611686018427387904<=d)=false:=zf (Int.not_le.2 h);go_wp2_with fail;exact zy (v:=.tuple #[u64 d,.bool true]) (by simp[results,E_,go_sem]) rfl ⟨la,d,HL.out.1,HL.out.2.1,HL.out.2.2,by rw[fA,if_pos h],HW.out.1,HW.out.2⟩
 ·have e1:decide (4611686018427387904<=d)=true:=zt h;go_wp2_with fail;exact zy (v:=.tuple #[u64 0,.bool false]) (by simp[results,E_,go_sem]) rfl ⟨la,d,HL.out.1,HL.out.2.1,HL.out.2.2,by rw[fA,if_neg (Int.not_lt.2 h)],HW.out.1,HW.out.2⟩
structure Bt (N:Nat) (es:List AB) (rk:List Int) (ss:List Sc):Prop where
 few:N<=12
 cuts:ss.length<=1000
 inn:∀ x∈ss,inN N x/\1<=x.w/\x.w<=1099511627776
 pos:∀ p q a,CM es p q a->1<=a
 sound:∀ p q a,N5 ss p q a->Wk (CM es) p q a
 ud:∀ s t x:Int,0<=s->s<(N:Int)->Wk (CM es) s t x->∃ y,y<=x/\UD (N5 ss) (Og N rk) s t y
 rk:∀ p,0<=Og N rk p/\Og N rk p<=N
theorem zAq {N:Nat} {es:List AB} {rk:List Int} {ss:List Sc} {out:List Int} (hO:lJ N es rk ss out) (hr:Aq N es=0) (hN:N<=7) (hle:es.length<=600) (t0:Nat) (ht0:t0<N):Bt N es rk ss:=by
 obtain⟨g,st⟩:=hO.st;have jH:=hO.len;have hall:∀ p,0<=p->p<(N:Int)->p∈out:=λ p h0 h1=>PF λ hn=>by
  have h:=CT N (p::out) (PA.2 ⟨hn,st.going.nodup⟩) (λ q hq=>by
   rcases List.mem_cons.1 hq with rfl | hq
   ·exact⟨h0,h1⟩
   ·exact st.rng q hq)
  rw[Pd,jH]at h;omega
 have hpw:∀ n:Nat,n<=7->(4294967296:Int)*2 ^ n<=1099511627776:=(by decide);have zAC:N*N*N<=343:=PB (PB hN hN) hN;have hlen:=st.len;rw[jH]at hlen;have ein:∀ p q a,CM es p q a->Mb N (p,q,a):=λ p q a h=>by
  obtain⟨i,hi⟩:=h;exact Ch hr (zm hi)
 refine⟨by omega,by omega,λ x hx=>⟨st.inn x hx,(st.wt x hx).1,?_⟩,λ p q a h=>?_,st.going.sound,λ s t x IL CR hx=>?_,λ p=>?_⟩
 ·have h1:=(st.wt x hx).2;rw[jH]at h1;have h2:=hpw N hN;omega
 ·have:=ein p q a h;unfold Mb at this;simp only at this;omega
 ·have BF:∀ {s t x:Int},Wk (CM es) s t x->0<=s->s<(N:Int)->0<=t/\t<(N:Int):=λ h=>by
   induction h with
   | nil s=>exact λ a b=>⟨a,b⟩
   | cons h1 h2 ih =>
    intro _ _;have:=ein _ _ _ h1;unfold Mb at this;simp only at this;exact ih (by omega) (by omega)
  have ht:=BF hx IL CR;refine st.going.over (n:=N) (λ p h0 h1=>(st.going.gone p).2 (hall p h0 h1)) (λ p q a h=>?_) (Og N rk) (λ i p hp=>?_) (λ p hp=>?_) ⟨IL,CR⟩ hx
  ·have:=ein p q a h;unfold Mb at this;simp only at this;omega
  ·have h1:=hO.rk' i p hp;have h2:=st.rng p (zm hp);rw[Og,if_pos h2,O_,h1];rfl
  ·rw[jH,Og,if_neg (λ h=>hp (hall p h.1 h.2))];exact J_ _
 ·unfold Og;split
  ·rename_i h;have AH:p.toNat<rk.length:=by rw[hO.rlen];omega
   rw[O_,zq AH];have:=hO.rok.1 _ (Pe AH);rw[hO.rlen]at this;simp only[PJ];omega
  ·omega
section
variable {N:Nat} {es:List AB} {rk:List Int} {ss:List Sc}
theorem Bt.near (h:Bt N es rk ss) (b:Bool) (p:Int) (x:Nr) (hx:x∈Cg b rk ss p):(if b then N5 ss x.2.1 p x.2.2 else N5 ss p x.2.1 x.2.2)/\1<=x.2.2/\x.2.2<=1099511627776/\0<=x.2.1/\x.2.1<(N:Int):=by
 have h1:=aA hx;refine⟨h1,?_⟩;cases b with
 | false =>
  obtain⟨sc,Oc,h1,h2,h3⟩:=(show N5 ss p x.2.1 x.2.2 from h1);have:=h.inn sc Oc;unfold inN at this;omega
 | true =>
  obtain⟨sc,Oc,h1,h2,h3⟩:=(show N5 ss x.2.1 p x.2.2 from h1);have:=h.inn sc Oc;unfold inN at this;omega
theorem Bt.up (h:Bt N es rk ss) {w:L_} {HH B s:Nat} (hH:Ca w HH B N es rk ss) (hs:s<N):Dy HH s false w (EX N (CM es) (BK false rk ss) s) :=
 Ff w HH B N s false es rk ss (CM es) hH hs h.few h.cuts (λ x hx=>by have:=h.inn x hx;exact⟨this.1,by omega,this.2.2⟩) (λ p x hx=>⟨h.sound _ _ _ (h.near false p x hx).1,(h.near false p x hx).2⟩) (λ p x hx=>h.sound _ _ _ (h.near true p x hx).1)
theorem Bt.down (h:Bt N es rk ss) {w:L_} {HH B t:Nat} (hH:Ca w HH B N es rk ss) (ht:t<N):Dy HH t true w (EX N (iG (CM es)) (BK true rk ss) t) :=
 Ff w HH B N t true es rk ss (iG (CM es)) hH ht h.few h.cuts (λ x hx=>by have:=h.inn x hx;exact⟨this.1,by omega,this.2.2⟩) (λ p x hx=>⟨(h.sound _ _ _ (h.near true p x hx).1).rev,(h.near true p x hx).2⟩) (λ p x hx=>(h.sound _ _ _ (h.near false p x hx).1).rev)
theorem Bt.dist (h:Bt N es rk ss) {s t:Nat} {la lb:List Lb} (hs:s<N) (ha:EX N (CM es) (BK false rk ss) s (la.map FL)) (hb:EX N (iG (CM es)) (BK true rk ss) t (lb.map FL)) :
  (∃ x,Bw (CM es) s t x/\x<C9/\Bi (la.map FL) (Jn lb) C9=x)\/(∀ x,¬ Wk (CM es) s t x)/\Bi (la.map FL) (Jn lb) C9=C9:=by
 have sa:=a8 ha h.pos h.sound (λ x hx=>(h.inn x hx).1)
 have sb:=Lk hb h.pos h.sound (λ x hx=>(h.inn x hx).1)
 have hnd:(lb.map (·.1)).Nodup:=by have:=sb.once;rw[Pf]at this;exact this
 have hf:=h.few
 exact Ji (N:=N) (M:=1099511627776) h.pos h.sound (λ x hx=>h.ud s t x (by omega) (by omega) hx) (λ p q a h1=>by obtain⟨x,hx,_,_,rfl⟩:=h1;exact(h.inn x hx).2.2) (by omega) h.rk sa sb (m:=Jn lb) (λ v d=>⟨λ h=>by
   obtain⟨x,hx,rfl,rfl⟩:=JC lb v d h;exact Pb (f:=FL) hx,λ h=>by
   obtain⟨x,hx,he⟩:=Pa.1 h;have:=nc lb hnd x hx;cases he;exact this⟩) (far:=C9) (by show _<(4611686018427387904:Int);omega)
theorem dz (h:Bt N es rk ss) {w W:L_} {O HH B M1 M2 n1 n2 s t:Nat} {lb:List Lb} {known:Int->Option Int} (hO:mH w W O HH M1 M2 n1 n2 lb known) (hH:Ca w HH B N es rk ss) (hs:s<N) (hb:EX N (iG (CM es)) (BK true rk ss) t (lb.map FL)) (Ht:Jk lb) (hk:known s=none) (x:Int) (hx:Bw (CM es) s t x) :
  M_ C_ 150 #[pt O,i64 s] W λ e w'=>e=.returned (.tuple #[u64 x,.bool true])/\mH w w' O HH M1 M2 n1 (n2+1) lb (EG known s x)/\Kept (·=M2) W w':=by
 have hf:=h.few
 refine(nJ w W O HH B N M1 M2 n1 n2 s es rk ss lb known _ hO hH hs (by omega) (h.up hH hs) Ht hk).mono ?_
 rintro e w' ⟨la,d,ha,_,hd,rfl,ho,k⟩
 rcases h.dist (t:=t) hs ha hb with ⟨y,h1,h2,h3⟩ | ⟨h1,_⟩
 ·obtain rfl:d=x:=by
   have h4:=hx.2 _ h1.1;have h5:=h1.2 _ hx.1;rw[hd]at h3;omega
  exact⟨by rw[fA,if_pos (by rw[hd]at h3;omega)],ho,k⟩
 ·exact absurd hx.1 (h1 x)
end
end Go.Proofs.YtepelooebggliaaGreatDoor
namespace Go.Proofs.YtepelooebggliaaGreatDoor
open Go.RowKit Go.Shelf
attribute [local go_sem] Oper.semAt_some
theorem Lc (w:L_) (a:Addr) (f:Fn) (x y:Array N_) (m:Mode):(store a (.func f x y) m).run C_ w=stored C_ w a (.func f x y) m:=run_store C_ w a _ m rfl
attribute [local go_sem] Lc
def rX (k:Nat):List Int:=if k=0 then [] else if k=1 then [0] else [0,1]
def wtX (k:Nat):Int:=if k=0 then 0 else if k=1 then 4 else 9
structure xH (w:L_) (T HH O M1 M2 n1 n2 a BA Bd Oh Fx G4:Nat) (rk:List Int) (ss:List Sc) (lb:List Lb) (known:Int->Option Int) (rv:N_) (k:Nat) (W:L_):Prop where
 orc:mH w W O HH M1 M2 n1 n2 lb known
 lbs:EX 3 (iG (CM D9)) (BK true rk ss) (2:Nat) (lb.map FL)/\Jk lb
 fresh:∀ j:Nat,k<j->known (j:Int)=none
 adj:Ad.AdjB W BA a 3 D9
 t4:Am W T 3 #[i64 k]
 t6:Am W (T+1) 133 #[.slice none 0 0,u64 0]
 t15:Am W Oh 229 #[.func (.func 150) #[pt O] #[]]
 t16:Am W Fx 133 #[rv,u64 (wtX k)]
 t17:Am W G4 29 #[u64 (Fp k)]
 own:AO W Bd rv (rX k)
 lt:w.heap.size=T/\T+1<BA/\O<Bd/\M1<Bd/\M2<Bd/\BA<=Bd/\Oh<Bd/\Fx<Bd/\G4<Bd/\BA<=Fx/\BA<=G4/\BA<=Oh/\BA<=M2/\Bd<=W.heap.size
theorem xH.kept {w W W':L_} {T HH O M1 M2 n1 n2 a BA Bd Oh Fx G4:Nat} {rk:List Int} {ss:List Sc} {lb:List Lb} {known:Int->Option Int} {rv:N_} {k:Nat} {F:Nat->Prop} (h:xH w T HH O M1 M2 n1 n2 a BA Bd Oh Fx G4 rk ss lb known rv k W) (g:Kept F W W') (hF:∀ j,F j->Bd<=j/\rv.ownBlock≠some j):xH w T HH O M1 M2 n1 n2 a BA Bd Oh Fx G4 rk ss lb known rv k W':=by
 obtain⟨hw,l1,l2,l3,l4,l5,l6,l7,l8,l9,l10,l11,l12,l13⟩:=h.lt;have no:∀ j,j<Bd->¬ F j:=λ j hj hf=>by have:=(hF j hf).1;omega
 exact { orc:=⟨h.orc.box.kept g (no _ l2),BG.kept h.orc.space g (no _ l3),BG.kept h.orc.knows g (no _ l4),h.orc.kept.then g (λ i hi hf=>by have:=(hF i hf).1;omega),h.orc.new,h.orc.ne⟩,lbs:=h.lbs,fresh:=h.fresh,adj:=h.adj.kept g (λ j hj=>by have:=(hF j hj).1;omega),t4:=h.t4.kept g (no _ (by omega)),t6:=h.t6.kept g (no _ (by omega)),t15:=h.t15.kept g (no _ l6),t16:=h.t16.kept g (no _ l7),t17:=h.t17.kept g (no _ l8),own:=h.own.kept g (λ j hj hf=>(hF j hf).2 hj),lt:=⟨hw,l1,l2,l3,l4,l5,l6,l7,l8,l9,l10,l11,l12,PC l13 g.size⟩ }
theorem iK {F:Nat->Prop} {W W':L_} {BA a T:Nat} {v:N_} (h:Ad.AdjB W BA a 3 D9) (hT:Am W T 3 #[v]) (k:Kept F W W') (hF:∀ j,F j->j=T\/BA<=j):Ad.AdjB W' BA a 3 D9:=by
 obtain⟨AE,c,g1,b1,g2,b2,f1,f2,h1,h2,h3,h4,z1,z2,z3,z4,z5,z6⟩:=h.parts;have two:∀ {g n:Nat} {f:Nat->Int},Ad.IntsF W g n f->2<=n->g≠T:=fun {g n f} h hn e=>by
  obtain⟨cur,hb,hc⟩:=h;have:=hc 1 (by omega);rw[e]at hb;have hh:=hb.symm.trans hT;cases hh;simp at this
 have no:∀ j,j<BA->j≠T->¬ F j:=λ j hj Bm hf=>by have:=hF j hf;omega
 have hE:=h2;obtain⟨bE,oE,rfl,hbE,c0,c1,c2⟩:=h2 0 _ rfl;have nE:bE≠T:=λ e=>by
  rw[e,hT.cell]at c2;have hs:=(F_.1 c2).1;simp at hs
 have zE:bE<BA:=by
  rcases z6 _ rfl with h | h
  ·exact h
  ·cases h
 exact⟨_,c,g1,b1,g2,b2,f1,f2,h1.kept k (no _ z1 (Ay h1 hT (by decide))),hE.kept k (λ x hx=>by cases hx;exact no _ zE nE),h3.kept k (no _ z2 (two h3.edges (by decide))) (no _ z3 (two h3.begin (by decide))),h4.kept k (no _ z4 (two h4.edges (by decide))) (no _ z5 (two h4.begin (by decide))),z1,z2,z3,z4,z5,z6⟩
theorem outX {k:Nat} (hk:k<=2) (x:En) (hx:x∈Jt D9 k):k<2/\x=(k,((k:Int),(k:Int)+1,Fp k-Fp (k+1))):=by
 rcases(show k=0\/k=1\/k=2 by omega) with rfl | rfl | rfl
 ·have:Jt D9 0=[(0,(0,1,4))]:=(by decide);rw[this]at hx;simp at hx;subst hx;exact⟨by omega,by decide⟩
 ·have:Jt D9 1=[(1,(1,2,5))]:=(by decide);rw[this]at hx;simp at hx;subst hx;exact⟨by omega,by decide⟩
 ·have:Jt D9 2=[]:=(by decide);rw[this]at hx;simp at hx
theorem zAX {k:Nat} (hk:k<2):rX (k+1)=rX k++[(k:Int)]/\wtX (k+1)=wtX k+(Fp k-Fp (k+1))/\0<Fp k/\Fp k<=9/\0<=Fp ((k:Int)+1)/\Fp ((k:Int)+1)<=Fp k/\0<=wtX k/\wtX k<=9/\(rX k).length=k:=by
 rcases(show k=0\/k=1 by omega) with rfl | rfl<;>decide
theorem fa (w:L_) (HH B:Nat) (rk:List Int) (ss:List Sc) (out:List Int) (hH:Ca w HH B 3 D9 rk ss) (hO:lJ 3 D9 rk ss out) :
  M_ C_ 100 #[pt HH,i64 0,i64 2] w λ e w'=>∃ v,e=.returned (.tuple #[.agg #[v,u64 9],i64 0])/\AO w' w.heap.size v [0,1]/\Ac w w':=by
 have hr:Aq 3 D9=0:=by decide
 have hBt:=zAq hO hr (by omega) (by simp) 0 (by omega)
 obtain⟨T,hT⟩:=zn (w.heap.size)
 obtain⟨W0,EH⟩:=zn ((w.alloc (.cells #[i64 0] 3)).alloc (.cells #[.slice none 0 0,u64 0] 133))
 have k0:Ac w W0:=by rw[<- EH];exact((zr _ _).alloc _).alloc _
 have T4:Am W0 T 3 #[i64 0]:=by rw[<- EH,<-hT];exact(zv w _ _).alloc _
 have T6:Am W0 (T+1) 133 #[.slice none 0 0,u64 0]:=by
  rw[<- EH,<-hT];have h:=zv (w.alloc (.cells #[i64 0] 3)) 133 #[.slice none 0 0,u64 0];rw[A_]at h;exact h
 have x4:=T4.cell 0
 simp at x4
 have HD:Hid (∀ W,Ac w W->M_ C_ 102 #[pt HH,i64 0,i64 2] W λ e w'=>Ac W w'/\e=.returned (.tuple #[u64 9,i64 0])):=λ W k=>by
  refine(Kb W HH B 3 0 2 D9 rk ss out (hH.grew k) hO hr (by omega) (by omega) (by omega) (by simp)).mono ?_;rintro e w' ⟨g,⟨x,hx,_,rfl⟩ | ⟨Cx,_⟩⟩
  ·obtain rfl:=jZ hx (et 0 (by omega));exact⟨g,rfl⟩
  ·exact absurd (et 0 (by omega)).1 (Cx _)
 have HG:=zh (λ W (k:Ac w W)=>dD (hH.grew k) (by simp))
 have HN:=zh (λ A c W (h:Bj W A D9)=>Ad.new_yes 3 A c D9 W h hr)
 have HTo:=zh (λ W (k:Ac w W)=>to_any HH 2 W _ (hBt.down (hH.grew k) (by omega)))
 have H0:=Gt hH hBt k0 T4 T6
 clear hH hO hBt k0 T4 T6
 refine(callsIn_wide (n:=9)).1 ?_
 refine callsIn_of_wp_marks Tryz.func100 rfl trivial ?_ rfl
 simp only[Tryz.ntmps100,Pt,Pd,Px,Nat.reduceAdd,Nat.reduceSub,G_,H_,Pu,Pq,Py,Pw]
 refine wpIn_wide.2 ?_
 go_wp2_with fail
 have e0:(w.alloc (.cells #[.int .i64 0] 3)).alloc (.cells #[.slice none 0 0,.int .u64 0] 133)=W0:=EH
 try rw [e0]
 try rw [hT]
 clear e0 EH
 refine Gs (hf:=rfl) (λ n a' W=>∃ (z50 z51 z52:N_) (A10 cE:Nat) (AE:Option Addr) (O M1 M2 n1 n2 a BA Bd Oh Fx G4 k:Nat) (lb:List Lb) (known:Int->Option Int) (rv:N_) (Ds:List Nat),a'={ tmps:=#[pt HH,i64 0,i64 2,undef,pt T,undef,pt (T+1),i64 0,u64 9,i64 0,pt A10,pt a,i64 0,pt O,i64 0,pt Oh,pt Fx,pt G4,undef,undef,undef,undef,.tuple #[u64 9,i64 0],pt HH,i64 0,i64 2,.tuple #[u64 9,i64 0],u64 9,i64 0,i64 0,.bool false,undef,undef,pt HH,.agg #[i64 3,.slice AE 2 cE],.tuple #[pt a,i64 0],.agg #[i64 3,.slice AE 2 cE],.tuple #[pt a,i64 0],pt a,i64 0,.tuple #[pt O,i64 0],pt HH,i64 2,.tuple #[pt O,i64 0],pt O,i64 0,pt O,.func (.func 150) #[pt O] #[],.agg #[.slice none 0 0,u64 0],u64 9,z50,z51,z52,undef,undef,undef,undef,undef,undef,undef,undef,undef,undef,undef,undef,undef,undef,undef,undef,undef,undef,undef,undef,undef,undef,undef,undef,undef,undef,undef,undef,undef,undef,undef,undef,undef],defers:=Ds.map pF }/\k+n=2/\Hid (xH w T HH O M1 M2 n1 n2 a BA Bd Oh Fx G4 rk ss lb known rv k W/\Marks W Bd Ds)) ?hbody ?enter
 case enter =>
  intro HB;have HB:=zh HB;go_wp2_with fail;refine(HD.out _ H0.out.2.2.1).mono ?_;rintro e W1 ⟨g1,rfl⟩;have K1:=zh (H0.out.2.2.1.trans g1);have K1':=zh g1;clear g1 x4;go_wp2_with fail;refine(HG.out _ K1.out).mono ?_;rintro e W2 ⟨v,rfl,hE,g2⟩;obtain⟨AE,cE,rfl,AY⟩:=hE.row;have K2:=BP (K1.out.trans g2) (K1'.out.trans g2);have iy:=zh AY;clear hE g2 K1 K1' AY HD HG;go_wp2_with fail;obtain⟨W3,Ni,g3⟩:=zg W2 (.cells #[.int .i64 3,.slice AE 2 cE] 24);rw[Ni];refine(HN.out AE cE W3 (iy.out.grew g3)).mono ?_;rintro e W4 ⟨a,rfl,hadj,g4⟩;have K4:=DK hadj ((K2.out.1.trans g3).trans g4) ((K2.out.2.trans g3).trans g4);clear hadj g3 g4 Ni iy K2 HN;go_wp2_with fail;refine(HTo.out _ K4.out.2.1).mono ?_;rintro e W5 ⟨O,M1,M2,n1,lb,rfl,rS,Ht,Iv⟩;have K5:=DK rS Ht Iv;clear rS Ht Iv HTo;obtain⟨W6,N9⟩:=zn (((W5.alloc (.cells #[.func (.func 150) #[pt O] #[]] 229)).alloc (.cells #[.slice none 0 0,.int .u64 0] 133)).alloc (.cells #[.int .u64 9] 29));have g6:Ac W5 W6:=by rw[<- N9];exact(((zr _ _).alloc _).alloc _).alloc _
  have b15:Am W6 W5.heap.size 229 #[.func (.func 150) #[pt O] #[]]:=by rw[<- N9];exact((zv W5 _ _).alloc _).alloc _
  have LM:Am W6 (W5.heap.size+1) 133 #[.slice none 0 0,u64 0]:=by
   rw[<- N9];have h:=zv (W5.alloc (.cells #[.func (.func 150) #[pt O] #[]] 229)) 133 #[.slice none 0 0,u64 0];rw[A_]at h;exact h.alloc _
  have lM:Am W6 (W5.heap.size+1+1) 29 #[u64 9]:=by
   rw[<- N9];have h:=zv ((W5.alloc (.cells #[.func (.func 150) #[pt O] #[]] 229)).alloc (.cells #[.slice none 0 0,u64 0] 133)) 29 #[u64 9];rw[A_,A_]at h;exact h
  have HS0:Hid (xH w T HH O M1 M2 n1 0 a W4.heap.size W6.heap.size W5.heap.size (W5.heap.size+1) (W5.heap.size+1+1) rk ss lb (λ _=>none) (.slice none 0 0) 0 W6):=by
   have o:=K5.out.2.2;have k4:=K4.out.2.2;have kk:=(k4.trans o.kept).trans g6;have s4:=k4.size;have s5:=o.kept.size;have s6:W6.heap.size=W5.heap.size+3:=by rw[<- N9];simp
   have Cu:=H0.out.2.2.2.2.lt;have l1:=o.box.lt;have l2:=o.space.lt;have l3:=o.knows.lt;have nw:=o.new;have hTT:w.heap.size=T:=(by assumption);exact { orc:=⟨o.box.grew g6,o.space.grew g6,o.knows.grew g6,((K4.out.2.1.trans o.kept).trans g6),⟨by omega,by omega,by omega⟩,o.ne⟩,lbs:=⟨K5.out.1,K5.out.2.1⟩,fresh:=λ _ _=>rfl,adj:=K4.out.1.grew (o.kept.trans g6),t4:=H0.out.2.2.2.1.grew kk,t6:=H0.out.2.2.2.2.grew kk,t15:=b15,t16:=LM,t17:=lM,own:=⟨rfl,.inl ⟨rfl,rfl⟩⟩,lt:=⟨hTT,by omega,by omega,by omega,by omega,by omega,by omega,by omega,by omega,by omega,by omega,by omega,by omega,by omega⟩ }
  have e6:((W5.alloc (.cells #[.func (.func 150) #[.pointer (some ⟨O,0,none⟩)] #[]] 229)).alloc (.cells #[.slice none 0 0,.int .u64 0] 133)).alloc (.cells #[.int .u64 9] 29)=W6:=N9;clear b15 LM lM g6 N9;go_wp2_with fail;try rw [e6]
  clear e6;have hb:=HB.out;go_step3;simp only[Exit.then];apply_assumption;refine hb 2 _ _ ⟨_,_,_,W2.heap.size,cE,AE,O,M1,M2,n1,0,a,W4.heap.size,W6.heap.size,W5.heap.size,W5.heap.size+1,W5.heap.size+1+1,0,lb,_,.slice none 0 0,[],rfl,rfl,HS0.out,Marks.nil _ _⟩
 case hbody =>
  rintro n _ W ⟨z50,z51,z52,A10,cE,AE,O,M1,M2,n1,n2,a,BA,Bd,Oh,Fx,G4,k,lb,known,rv,Ds,rfl,hn,hS⟩;clear HD HG HN HTo x4;have x4:=hS.out.1.t4.cell 0;simp at x4;have HE:=zh (Oq a k W);obtain⟨b1,Fq⟩:=zn (W.heap.size);rw[Fq]at HE;go_wp2_with fail;refine HE.out.mono ?_;rintro e W1 ⟨rfl,hE,g1⟩;have Ci:Hid (xH w T HH O M1 M2 n1 n2 a BA Bd Oh Fx G4 rk ss lb known rv k W1/\Marks W1 Bd Ds):=⟨hS.out.1.kept g1 (λ _ h=>h.elim),hS.out.2.grew g1⟩;have hBdW:Bd<=W1.heap.size:=Ci.out.1.lt.2.2.2.2.2.2.2.2.2.2.2.2.2;have I5:=hE.back.lt;have vD:∀ D∈Ds,D<W1.heap.size:=λ D hD=>(F_.1 (Ci.out.2.2 D hD).2).1;have hBA:=Ci.out.1.lt.2.2.2.2.2.1;clear HE x4 g1 hS;go_wp2_with fail;refine(wpIn_wide (n:=9)).1 ?_;refine wpIn_rangeFunc_ownH rfl (by omega) (gf:=214) (lb:=#[pt b1,pt (b1+1),pt (b1+1+1)]) rfl trivial (enters_of Tryz.func214 (by kernel_rfl) rfl)
   (lk _ b1 (b1+1) (b1+1+1) BA a 3 k D9 (Jt D9 k) rfl W1 W1 Ci.out.1.adj (by omega) (by omega) (by omega) (by simp) (zr _ _) hE)
   Kept.trans (λ W l o o' hl _ _ _=>Kept.putObj (zr _ _) l o' (.inl ⟨hl,by omega,by omega,by omega⟩)) (Below.refl _ _) (λ _=>rfl)
   (λ pre W'=>pre=[]/\Ac W1 W')
   (λ c pre W'=>c=.goto 0/\k<2/\∃ Ky rv',xH w T HH O M1 M2 n1 (n2+1) a BA Bd Oh Fx G4 rk ss lb Ky rv' (k+1) W'/\Marks W' Bd Ds/\∀ j,rv'.ownBlock=some j->∃ cur,W'.heap[j]? = some (.cells cur 3 (0,0)))
   (OwnFrom.and (pO (λ pre=>pre=[])) (KN (zl _)))
   ?ix ⟨rfl,zr _ _⟩
   (λ (x:{x:En // x∈Jt D9 k}) a' W'=>∃ T8,a'={ tmps:=#[pt HH,i64 0,i64 2,undef,pt T,undef,pt (T+1),i64 0,u64 9,i64 0,pt A10,pt a,i64 0,pt O,i64 0,pt Oh,pt Fx,pt G4,i64 x.1.1,pt T8,undef,undef,.tuple #[u64 9,i64 0],pt HH,i64 0,i64 2,.tuple #[u64 9,i64 0],u64 9,i64 0,i64 0,.bool false,undef,undef,pt HH,.agg #[i64 3,.slice AE 2 cE],.tuple #[pt a,i64 0],.agg #[i64 3,.slice AE 2 cE],.tuple #[pt a,i64 0],pt a,i64 0,.tuple #[pt O,i64 0],pt HH,i64 2,.tuple #[pt O,i64 0],pt O,i64 0,pt O,.func (.func 150) #[pt O] #[],.agg #[.slice none 0 0,u64 0],u64 9,pt a,i64 k,.func (.func 214) #[] #[pt b1,pt (b1+1),pt (b1+1+1)],i64 x.1.1,.agg #[i64 x.1.2.1,i64 x.1.2.2.1,u64 x.1.2.2.2],undef,undef,undef,undef,undef,undef,undef,undef,undef,undef,undef,undef,undef,undef,undef,undef,undef,undef,undef,undef,undef,undef,undef,undef,undef,undef,undef,undef,undef,undef,undef],defers:=[] }/\Am W' T8 65 #[i64 x.1.2.1,i64 x.1.2.2.1,u64 x.1.2.2.2])
   (λ x a' s A W row hs hg hr=>hs.imp λ T8 h=>⟨h.1,Ek _ _ _ (λ _=>#[i64 x.1.2.1,i64 x.1.2.2.1,u64 x.1.2.2.2]) s A W row h.2 hg hr⟩)
   ?assign ?body ?done ?stop
  case ix =>
   rintro c s A A' row ⟨hc,hk,Ky,rv',h1,h2,h3⟩ hg hr;have kk:Kept (λ j=>row=some j) A A':=(zr _ _).grown hg (λ j hj=>.inl hj);have Bm:∀ j,row=some j->rv'.ownBlock≠some j:=λ j hj e=>by
    obtain⟨_,o,ho,hc⟩:=hr j hj;obtain⟨cur,LP⟩:=h3 j e;rw[LP]at ho;cases ho;cases hc
   refine⟨hc,hk,Ky,rv',h1.kept kk (λ j hj=>⟨by have:=(hr j hj).1;omega,Bm j hj⟩),⟨h2.1,λ D hD=>⟨(h2.2 D hD).1,?_⟩⟩,λ j hj=>?_⟩
   ·exact(kk.block D (F_.1 (h2.2 D hD).2).1 (λ e=>by have:=(hr D e).1;have:=vD D hD;omega)).trans (h2.2 D hD).2
   ·obtain⟨cur,LP⟩:=h3 j hj;exact⟨cur,(kk.block j (F_.1 LP).1 (λ e=>Bm j e hj)).trans LP⟩
  case assign =>
   rintro l pre x W' K hg hK;gi_wp2;exact hK _ _ ((KeepsOthers.alloc _ _).from _) (Ha _ _ _) ⟨hg.1,hg.2.alloc _⟩ ⟨W'.heap.size,rfl,zv _ _ _⟩
  case body =>
   rintro l pre ⟨x,hx⟩ a' W' _ _ ⟨_,hG⟩ ⟨T8,rfl,hb⟩ hlen;obtain⟨Lz,rfl⟩:=outX (by omega) x hx;dsimp only at hb ⊢;obtain⟨q1,q2,q3,q4,q5,q6,q7,q8,q9⟩:=zAX Lz;have BZ:=Ci.out.1.kept hG (λ _ h=>h.elim);have OP:=Ci.out.2.grew hG;have HF:=zh (dz (s:=k+1) (t:=2) H0.out.2.1 BZ.orc H0.out.1 (by omega) BZ.lbs.1 BZ.lbs.2 (BZ.fresh (k+1) (by omega)) (Fp ((k+1:Nat):Int)) (et _ (by omega)));rw[show ((k+1:Nat):Int)=(k:Int)+1 by omega]at HF;have y15:=BZ.t15.cell 0;have z1:=hb.cell 1;have z2:=hb.cell 2;simp at y15 z1 z2;have He:=DS BZ OP hG hb;obtain⟨px,Fv⟩:=zn (pre++[⟨(k,((k:Int),(k:Int)+1,Fp k-Fp (k+1))),hx⟩]);rw[Fv];obtain⟨f0,dL⟩:=zn (Fp (k:Int));obtain⟨f1,hf1⟩:=zn (Fp ((k:Int)+1));obtain⟨w0,Oe⟩:=zn (wtX k);have HFE:=DK dL hf1 Oe;rw[dL,hf1]at z2 q2;rw[Oe]at q2;obtain⟨d,hd⟩:=zn (f0-f1);rw[hd]at z2 q2;rw[dL]at q3 q4 q6;rw[hf1]at q5 q6 HF;rw[Oe]at q7 q8;have k0:(0:Int)<=(k:Int):=(by omega);have HQ:=DS q1 q2 q9 hd;have fP:0<=d:=(by omega);have hd9:d<=9:=(by omega);have u1:IntKind.u64.wrap (f1+d)=f0:=by rw[Go.IntWalk.u64_in _ (by omega)];omega
   have p1:decide ((0:Int)<f0)=true:=zt q3;clear Fv hx BZ OP hb q1 q2 q9 dL hf1 Oe hd;gi_wp2;refine⟨trivial,?_⟩;refine(PD l (callsIn_wide.2 HF.out)).mono ?_;rintro e W2 ⟨rfl,Iv,kM⟩;have noM:∀ {g:Nat} {t:TypeId} {cs:Array N_},Am W' g t cs->¬ g=M2:=λ hb e=>BG.noBlk He.out.1.orc.knows hb e.symm;have lM:=He.out.1.t17.kept kM (noM He.out.1.t17);have LM:=He.out.1.t16.kept kM (noM He.out.1.t16);have b4:=He.out.1.t4.kept kM (noM He.out.1.t4);have bT8:=He.out.2.2.2.kept kM (noM He.out.2.2.2);have Cr:AO W2 Bd rv (rX k):=He.out.1.own.kept kM (λ j hj e=>by
    obtain⟨_,cur,hc⟩:=Ao He.out.1.own hj;exact noM (show Am W' j 3 cur from hc) e)
   obtain⟨Ar,cr,rfl⟩:=Ap Cr;obtain⟨Lr,hLr⟩:=zn ((rX k).length);rw[HFE.out.1]at lM;rw[HFE.out.2.2]at LM;have x17:=lM.cell 0;have lE:=LM.cell 0;have rr:=LM.cell 1;have x81:=bT8.cell 1;have x82:=bT8.cell 2;simp at x17 lE rr x81 x82;rw[hLr]at lE;rw[HFE.out.1,HFE.out.2.1,HQ.out.2.2.2]at x82;obtain⟨W3,Ni,g3⟩:=zg W2 (.cells #[i64 k] 3);have nQ:AO W3 W2.heap.size (.slice (some ⟨W2.heap.size,0,none⟩) 1 1) [(k:Int)]:=by
    rw[<- Ni];exact⟨rfl,.inr ⟨W2.heap.size,1,#[i64 k],rfl,zl _,heap_alloc_new _ _,zl _,by unfold maxLen;omega,rfl,rfl⟩⟩
   have HJ:=zh (kH _ _ (rX k) [(k:Int)] w0 d W3 (Cr.grew g3).src nQ.src (by simp only[List.length_singleton,hLr];rw[<- hLr,HQ.out.2.2.1];omega) (by simp) (by omega));rw[hLr]at HJ;have K2:=JQ Iv kM lM LM b4 Cr;have x83:W3.cell? ⟨T8,2,none⟩=some (u64 d):=g3.cell x82;have x84:W3.cell? ⟨T8,1,none⟩=some (i64 ((k:Int)+1)):=g3.cell x81;have G3:=zh g3;clear Iv kM z1 z2 y15 lM LM b4 bT8 HF noM nQ Cr g3;gi_wp2;refine⟨trivial,?_⟩;refine(PD l (callsIn_wide.2 HJ.out)).mono ?_;rintro e W4 ⟨v,rfl,yZ,g4⟩;obtain⟨A4,c4,rfl⟩:=Ap yZ;obtain⟨L4,hL4⟩:=zn ((rX k++[(k:Int)]).length);have FF:=G3.out.trans g4;have Ov:=K2.out.2.2.2.1.grew FF;have xO:=K2.out.2.2.1.grew FF;have b44:=K2.out.2.2.2.2.1.grew FF;have xP:=((He.out.2.2.2.kept K2.out.2.1 (λ e=>BG.noBlk He.out.1.orc.knows He.out.2.2.2 e.symm)).grew G3.out).grew g4;have f0':=Ov.frozen 0;have c0':=Ov.cell 0;have Gw:=Ov.cell 1;simp at c0' Gw;rw[hL4]at yZ;rw[hL4];obtain⟨hw,l1,l2,l3,l4,l5,l6,l7,l8,l9,l10,l11,l12,l13⟩:=He.out.1.lt;have neT:T≠Fx/\G4≠Fx/\T8≠Fx/\G4≠T:=⟨by omega,Ay xO Ov (by decide),Ay xP Ov (by decide),by omega⟩;obtain⟨W5,hW5⟩:=zn ((W4.setCell ⟨Fx,0,none⟩ (.slice A4 L4 c4)).setCell ⟨Fx,1,none⟩ (.int .u64 (w0+d)));have f1':(W4.setCell ⟨Fx,0,none⟩ (.slice A4 L4 c4)).frozen? ⟨Fx,1,none⟩=false:=(Ov.set 0 _).frozen 1;have k5:Kept (λ j=>j=Fx) W4 W5:=by rw[<- hW5];exact((zr (λ j=>j=Fx) W4).setCell (p:=⟨Fx,0,none⟩) (.inl rfl) _).setCell (p:=⟨Fx,1,none⟩) (.inl rfl) _
   have sD:Am W5 Fx 133 #[.slice A4 L4 c4,u64 (w0+d)]:=by
    rw[<- hW5];have:=(Ov.set 0 (.slice A4 L4 c4)).set 1 (u64 (w0+d));simpa using this
   have b175:=xO.kept k5 neT.2.1;have b45:=b44.kept k5 neT.1;have x85:=(xP.kept k5 neT.2.2.1).cell 1;have x45:=b45.cell 0;have f45:=b45.frozen 0;simp at x85 x45;obtain⟨W6,N9⟩:=zn (W5.setCell ⟨T,0,none⟩ (.int .i64 ((k:Int)+1)));have k6:Kept (λ j=>j=T) W5 W6:=by rw[<- N9];exact(zr (λ j=>j=T) W5).setCell (p:=⟨T,0,none⟩) (.inl rfl) _
   have b46:Am W6 T 3 #[i64 ((k:Int)+1)]:=by rw[<- N9];have:=b45.set 0 (i64 ((k:Int)+1));simpa using this
   have iT:=b175.kept k6 neT.2.2.2;have x176:=iT.cell 0;have f176:=iT.frozen 0;simp at x176;have K4:=zh (show _/\_/\_/\_/\_/\_/\_/\_ from ⟨yZ,g4,sD,iT,b46,k5,k6,neT⟩);clear yZ g4 FF Ov xO b44 sD b175 b45 b46 iT k5 k6 xP neT x83 x84 x81 x82 x17 lE rr Ni HJ l1 l2 l3 l4 l5 l6 l7 l8 l9 l10 l11 l12 l13 hw;gi_wp2;obtain⟨W7,hW7⟩:=zn (W6.setCell ⟨G4,0,none⟩ (.int .u64 f1));rw[hW7];obtain⟨yZ,g4,sD,iT,b46,k5,k6,wJ,um,wK,n4'⟩:=K4.out;obtain⟨Iv,kM,lM,LM,b4,Cr⟩:=K2.out;obtain⟨hw,l1,l2,l3,l4,l5,l6,l7,l8,l9,l10,l11,l12,l13⟩:=He.out.1.lt;have k7:Kept (λ j=>j=G4) W6 W7:=by rw[<- hW7];exact(zr (λ j=>j=G4) W6).setCell (p:=⟨G4,0,none⟩) (.inl rfl) _
   have b177:Am W7 G4 29 #[u64 f1]:=by rw[<- hW7];have:=iT.set 0 (u64 f1);simpa using this
   have kA:Kept (λ j=>j=Fx\/j=T\/j=G4) W2 W7:=(((Ac.kept (G3.out.trans g4)).trans (k5.mono λ j _ h=>.inl h)).trans (k6.mono λ j _ h=>.inr (.inl h))).trans (k7.mono λ j _ h=>.inr (.inr h));have kB:Kept (λ j=>j=M2\/j=Fx\/j=T\/j=G4) W' W7:=(kM.mono λ j _ h=>.inl h).trans (kA.mono λ j _ h=>.inr h);have nm:∀ {g:Nat} {t:TypeId} {cs:Array N_},Am W2 g t cs->g≠M1/\g≠M2:=λ hb=>⟨λ e=>BG.noBlk Iv.space hb e.symm,λ e=>BG.noBlk Iv.knows hb e.symm⟩;have nT6:¬ (T+1=M2\/T+1=Fx\/T+1=T\/T+1=G4):=(by omega);have b15:=He.out.1.t15.kept kM (λ e=>BG.noBlk He.out.1.orc.knows He.out.1.t15 e.symm);have n15:¬ (Oh=Fx\/Oh=T\/Oh=G4):=by
    have h1:=Ay b15 LM (by decide);have h3:=Ay b15 lM (by decide);omega
   have nO:¬ (O=Fx\/O=T\/O=G4):=by
    have h1:=Ay Iv.box LM (by decide);have h2:=Ay Iv.box b4 (by decide);have h3:=Ay Iv.box lM (by decide);omega
   have nM1:¬ (M1=Fx\/M1=T\/M1=G4):=by
    have h1:=(nm LM).1;have h2:=(nm b4).1;have h3:=(nm lM).1;omega
   have nM2:¬ (M2=Fx\/M2=T\/M2=G4):=by
    have h1:=(nm LM).2;have h2:=(nm b4).2;have h3:=(nm lM).2;omega
   have F9:=kM.size;have hs3:=G3.out.size;have hs4:=g4.size;have hs7:=kB.size;have vY:AO W7 Bd (.slice A4 L4 c4) (rX (k+1)):=by
    rw[HQ.out.1];have far:∀ j,(PE A4 L4 c4).ownBlock=some j->W3.heap.size<=j:=λ j hj=>(Ao yZ hj).1;refine Az (((yZ.kept k5 λ j hj e=>?_).kept k6 λ j hj e=>?_).kept k7 λ j hj e=>?_) (by omega);all_goals (have:=far j hj;omega)
   refine wpIn_goto ?_;refine⟨kB.from _ (λ j hj=>.inl (by omega)),rfl,Lz,EG known ((k:Int)+1) f1,.slice A4 L4 c4,?_,⟨He.out.2.1.1,λ D hD=>⟨(He.out.2.1.2 D hD).1,?_⟩⟩,λ j hj=>(Ao vY hj).2⟩
   ·exact {
        orc:=⟨Iv.box.kept kA nO,BG.kept Iv.space kA nM1,BG.kept Iv.knows kA nM2,Iv.kept.then kA (λ i hi h=>by omega),Iv.new,Iv.ne⟩
        lbs:=He.out.1.lbs
        fresh:=λ j hj=>by
         have h1:=He.out.1.fresh j (by omega);unfold EG;rw[if_neg (by omega)];exact h1
        adj:=iK He.out.1.adj He.out.1.t4 kB (λ j hj=>by omega)
        t4:=by
         have:=b46.kept k7 (show ¬ T=G4 from λ e=>n4' e.symm);simpa using this
        t6:=He.out.1.t6.kept kB nT6
        t15:=b15.kept kA n15
        t16:=by
         rw[HQ.out.2.1];exact(sD.kept k6 (show ¬ Fx=T from λ e=>wJ e.symm)).kept k7 (show ¬ Fx=G4 from λ e=>um e.symm)
        t17:=by
         have h:=b177;rw[<- HFE.out.2.1]at h;simpa using h
        own:=vY
        lt:=⟨hw,l1,l2,l3,l4,l5,l6,l7,l8,l9,l10,l11,l12,by omega⟩ }
   ·have hD1:=(He.out.2.1.2 D hD);exact(kB.block D (F_.1 hD1.2).1 (λ h=>by omega)).trans hD1.2
  case done =>
   rintro D ys W' hD rfl ⟨yW,hG⟩ fC;have hk:k=2:=by
    rcases(show k=0\/k=1\/k=2 by omega) with rfl | rfl | rfl
    ·have:=congrArg List.length yW;rw[Pr,show Jt D9 0=[(0,(0,1,4))] by decide]at this;cases this
    ·have:=congrArg List.length yW;rw[Pr,show Jt D9 1=[(1,(1,2,5))] by decide]at this;cases this
    ·rfl
   subst hk;have BZ:=Ci.out.1.kept hG (λ _ h=>h.elim);have OP:=(Ci.out.2.grew hG).cons (by omega) fC (λ h=>by have:=vD D h;omega);obtain⟨Ar,cr,rfl⟩:=Ap BZ.own;have LM:=BZ.t16;have b6:=BZ.t6;have lE:=LM.cell 0;have rr:=LM.cell 1;have x60:=b6.cell 0;have x61:=b6.cell 1;have f60:=b6.frozen 0;have f61:=(b6.set 0 (.slice Ar 2 cr)).frozen 1;simp at lE rr x60 x61;rw[show (rX 2).length=2 from rfl]at lE;rw[show wtX 2=9 from rfl]at rr;have HS:=BP BZ OP;clear BZ OP LM b6 hG fC yW;go_wp2_with fail;obtain⟨hw,l1,l2,l3,l4,l5,l6,l7,l8,l9,l10,l11,l12,l13⟩:=HS.out.1.lt;obtain⟨W8,tj⟩:=zn ((W'.setCell ⟨T+1,0,none⟩ (.slice Ar 2 cr)).setCell ⟨T+1,1,none⟩ (.int .u64 9));rw[tj];have k8:Kept (λ j=>j=T+1) W' W8:=by rw[<- tj];exact((zr (λ j=>j=T+1) W').setCell (p:=⟨T+1,0,none⟩) (.inl rfl) _).setCell (p:=⟨T+1,1,none⟩) (.inl rfl) _
   have b68:Am W8 (T+1) 133 #[.slice Ar 2 cr,u64 9]:=by
    rw[<- tj];have:=(HS.out.1.t6.set 0 (.slice Ar 2 cr)).set 1 (u64 9);simpa using this
   have hm8:Marks W8 Bd (D::Ds):=HS.out.2.kept k8 (λ j hj o ho=>by
    subst hj;have:=HS.out.1.t6;rw[show W'.heap[T+1]? = some (.cells _ _ (0,0)) from this]at ho;cases ho;rfl)
   have ho8:AO W8 Bd (.slice Ar 2 cr) [0,1]:=HS.out.1.own.kept k8 (λ j hj e=>by have:=(Ao HS.out.1.own hj).1;omega);refine E7 Bd (D::Ds) _ hm8 λ w6 k6=>?_;have b66:=b68.kept k6 (λ h=>by have:=(hm8.2 _ h).1;omega);obtain⟨r0,r1⟩:=CE b66;refine⟨.tuple #[.agg #[.slice Ar 2 cr,u64 9],i64 0],by simp[results,Tryz.results100,go_sem,r0,r1],_,rfl,?_,?_⟩
   ·refine Az (ho8.kept k6 (λ j hj h=>?_)) (by omega);obtain⟨_,cur,hc⟩:=Ao ho8 hj;rw[(hm8.2 _ h).2]at hc;cases hc
   ·exact(HS.out.1.orc.kept.then k8 (λ i hi e=>by omega)).then k6 (λ i hi h=>by have:=(hm8.2 _ h).1;omega)
  case stop =>
   rintro D c pre W' hD _ ⟨rfl,Lz,Ky,rv',h1,h2,_⟩ fC;refine wpIn_goto ?_;refine⟨rfl,n-1,by omega,_,_,_,A10,cE,AE,O,M1,M2,n1,n2+1,a,BA,Bd,Oh,Fx,G4,k+1,lb,Ky,rv',D::Ds,rfl,by omega,⟨h1,h2.cons (by omega) fC (λ h=>by have:=vD D h;omega)⟩⟩
end Go.Proofs.YtepelooebggliaaGreatDoor
