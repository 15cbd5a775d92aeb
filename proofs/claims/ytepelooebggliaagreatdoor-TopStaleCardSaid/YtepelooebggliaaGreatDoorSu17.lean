/- Walks of functions that the law reaches, and plain laws, part 18 of 21: lemmas for the proof in the last text; no condition. Shortened by program. -/
import Derived.Test.YtepelooebggliaaGreatDoorSu0
import Derived.Test.YtepelooebggliaaGreatDoorSu5
import Derived.Test.YtepelooebggliaaGreatDoorSu12
import Derived.Test.YtepelooebggliaaGreatDoorSu14
import Derived.Test.YtepelooebggliaaGreatDoorSu15
open Go.Proofs.Tryz renaming prog->A_,results63->B_,results62->C_
open Go.Value renaming oneCell'->D_
open Go renaming Calls->E_,World->F_
open Nat renaming le_trans->G_
set_option maxHeartbeats 16000000
set_option maxRecDepth 100000
set_option linter.unusedVariables false
set_option linter.unusedSimpArgs false
namespace Go.Proofs.YtepelooebggliaaGreatDoor
open Go.RowKit
structure mw (w:F_) (c:Cm) (s t:Nat) (b off:Nat):Prop where
 ai:c.ai=some ⟨b,off,none⟩
 ni:c.ni=2
 lt:b<w.heap.size
 c0:w.cell? ⟨b,off,none⟩=some (i64 s)
 c1:w.cell? ⟨b,off+1,none⟩=some (i64 t)
theorem eV {w:F_} {X Y B:Nat} {hops settles:Int} {N:Nat} {es:List AB} (c:Cm) (x:Hx) (s t b off:Nat) (h:Au w X Y B hops settles 2 N es (some x)) (Iw:x.es=es) (hr:Aq N es=0) (hN:N<=7) (hle:es.length<=600) (hs:s<N) (ht:t<N) (he:mw w c s t b off) :
  E_ A_ 63 #[pt X,CV c] w λ e w'=>(Au w' X Y B hops settles 2 N es (some x)/\Ac w w')/\((∃ g d,Bw (CM es) s t d/\d<C9/\e=.returned (Co 0 c.nm (some ⟨g,0,none⟩) 1 1 none 0 0)/\Am w' g 29 #[u64 d])\/(∀ d,¬ Wk (CM es) s t d)/\e=.returned (Bx 9)):=by
 have h0:=zh h
 obtain⟨nm,ai,ni,ci,wv,aq,nq,cq,gn,ag,ng,cg,ar,nr,cr⟩:=c
 obtain⟨hai,tL,tp,Mq,Mr⟩:=he
 dsimp only at hai tL
 subst hai
 subst tL
 obtain⟨w1,AQ,g1,b1⟩:=zb w #[str nm,.slice (some ⟨b,off,none⟩) 2 ci,u64 wv,.slice aq nq cq,i64 gn,.slice ag ng cg,.slice ar nr cr] 92 rfl
 obtain⟨w2,BM,g2,b2⟩:=zb w1 #[i64 0,.string ⟨#[]⟩,.slice none 0 0,.slice none 0 0,.slice none 0 0] 42 rfl
 obtain⟨T,hT⟩:=zn (w1.heap.size)
 rw[hT]at b2
 obtain⟨T0,rK⟩:=zn (w.heap.size)
 rw[rK]at b1 tp
 have h2:=h.grew (g1.trans g2)
 have Of:w.heap.size<=T:=by rw[<- hT];exact g1.size
 have Bm:T0<T:=by rw[<- hT,<-rK,<-AQ];simp
 have x0:w2.cell? ⟨X,0,none⟩=some (pt Y):=by
  obtain⟨left,done,q1,_,q3⟩:=h2;have p:=Am.cell q1 0;simp at p;exact p
 obtain⟨H,HH,HQ⟩:∃ H,Hid (E_ A_ 31 #[pt Y] w2 λ e w'=>e=.returned (.tuple #[pt H,i64 0])/\Ac w2 w')/\Hid (∀ W,Ac w2 W->E_ A_ 102 #[pt H,i64 s,i64 t] W λ e w'=>Ac W w'/\((∃ x,Bw (CM es) s t x/\x<C9/\e=.returned (.tuple #[u64 x,i64 0]))\/(∀ x,¬ Wk (CM es) s t x)/\e=.returned (.tuple #[u64 0,i64 9]))):=by
  obtain⟨left,done,q1,q2,q3⟩:=h2;obtain⟨Ak,ck,ev,hv,c0,c1,c2,q⟩:=q2;obtain⟨H,rfl,hH,hO,_⟩:=q.hier;rw[Iw]at hH hO;exact⟨H,GU q.blk,λ W k=>Kb W H B N s t es x.rk x.ss x.out (hH.grew k) hO hr hs ht hN hle⟩
 have HC:Hid (∀ W',Ac w2 W'->W'.cell? ⟨T0,0,none⟩=some (str nm)/\W'.cell? ⟨T0,1,none⟩=some (.slice (some ⟨b,off,none⟩) 2 ci)/\W'.cell? ⟨T0,2,none⟩=some (u64 wv)/\W'.cell? ⟨T0,3,none⟩=some (.slice aq nq cq)/\W'.cell? ⟨T0,4,none⟩=some (i64 gn)/\W'.cell? ⟨T0,5,none⟩=some (.slice ag ng cg)/\W'.cell? ⟨T0,6,none⟩=some (.slice ar nr cr)/\W'.cell? ⟨b,off,none⟩=some (i64 s)/\W'.cell? ⟨b,off+1,none⟩=some (i64 t)):=λ W' k=>by
  have b:=(b1.grew g2).grew k;have p0:=b.cell 0;have p1:=b.cell 1;have p2:=b.cell 2;have p3:=b.cell 3;have p4:=b.cell 4;have p5:=b.cell 5;have p6:=b.cell 6;simp at p0 p1 p2 p3 p4 p5 p6;exact⟨p0,p1,p2,p3,p4,p5,p6,ze ((g1.trans g2).trans k) Mq,ze ((g1.trans g2).trans k) Mr⟩
 have HS:=DS h2 b2 (g1.trans g2) Of
 clear h h2 b1 b2 g1 g2 Of hr hN hle hs ht Iw Mq Mr tp
 go_enter Tryz.func63,Tryz.ntmps63
 go_wp2_with fail
 refine HH.out.mono ?_
 rintro e w3 ⟨rfl,g3⟩
 have xx:=zh (HQ.out)
 have MT:Hid (∀ W',Ac w3 W'->_):=λ W' k=>HC.out W' (g3.trans k)
 have G3:=zh g3
 have gz:Ac w3 w3.drew:=(zr _ _).drew
 clear HH x0 AQ BM hT HC HQ rK g3
 go_upto_region 4 with fail
 refine rG [] (λ _=>False) ?_
 refine pG 0 21 ?_
 refine pG 1 22 ?_
 refine tF 2 23 MT.out gz ?_
 refine pG 3 24 ?_
 refine tF 4 25 MT.out gz ?_
 refine pG 5 26 ?_
 refine tF 6 27 MT.out gz ?_
 refine pG 7 28 ?_
 refine tF 8 29 MT.out gz ?_
 refine sG 9 30 (λ K Aj=>?_)
 go_simp
 refine(xx.out _ (G3.out.trans gz)).mono ?_
 rintro e y1 ⟨k1,hres⟩
 obtain⟨d,f,rfl,hq⟩:∃ (d:Int) (f:Nat),e=.returned (.tuple #[u64 d,i64 f])/\((f=0/\Bw (CM es) s t d/\d<C9)\/(f=9/\∀ x,¬ Wk (CM es) s t x)):=by
  rcases hres with ⟨x,h1,h2,rfl⟩ | ⟨h1,rfl⟩
  ·exact⟨x,0,rfl,.inl ⟨rfl,h1,h2⟩⟩
  ·exact⟨0,9,rfl,.inr ⟨rfl,h1⟩⟩
 have HR:=zh hq
 have K1:=zh k1
 clear hres hq
 refine Aj (.tuple #[u64 d,i64 f]) _ (λ _=>k1) ?_
 clear Aj
 simp only[sA]
 refine pG 10 20 ?_
 refine pG 11 31 ?_
 refine pG 12 32 ?_
 refine pG 13 7 ?_
 refine pG 14 6 ?_
 refine dG ?_
 have HC4:=MT.out y1 (gz.trans K1.out)
 obtain⟨q0,q1,q2,q3,q4,q5,q6,q7,q8⟩:=HC4
 have G1:=zh ((G3.out.trans gz).trans K1.out)
 clear K1 MT xx G3 gz q7 q8
 go_wp2_with fail
 rcases HR.out with ⟨rfl,h1,h2⟩ | ⟨rfl,h1⟩
 ·obtain⟨g,hg⟩:=zn (y1.heap.size);have kA:Ac y1 (y1.alloc (.cells #[u64 d] 29)):=(zr _ _).alloc _;have bA:=zv y1 29 #[u64 d];rw[hg]at bA;rw[hg];refine(F5 ⟨nm,some ⟨b,off,none⟩,2,ci,wv,aq,nq,cq,gn,ag,ng,cg,ar,nr,cr⟩ _ 1 1 _).mono ?_;rintro e y2 ⟨rfl,k2⟩;have FF:=BP ((G1.out.trans kA).trans k2) (bA.grew k2);have HB:=zh (HS.out.2.1.grew FF.out.1);have t6:=HB.out.setRow #[i64 0,str nm,.slice (some ⟨g,0,none⟩) 1 1,.slice none 0 0,.slice none 0 0];have r0:=t6.cell 0;have r1:=t6.cell 1;have r2:=t6.cell 2;have r3:=t6.cell 3;have r4:=t6.cell 4;simp at r0 r1 r2 r3 r4;have HF:Hid ((Au (y2.setRow T #[i64 0,str nm,.slice (some ⟨g,0,none⟩) 1 1,.slice none 0 0,.slice none 0 0]) X Y B hops settles 2 N es (some x)/\Ac w (y2.setRow T #[i64 0,str nm,.slice (some ⟨g,0,none⟩) 1 1,.slice none 0 0,.slice none 0 0]))/\Am (y2.setRow T #[i64 0,str nm,.slice (some ⟨g,0,none⟩) 1 1,.slice none 0 0,.slice none 0 0]) g 29 #[u64 d]) :=
   ⟨⟨(HS.out.1.grew FF.out.1).far ((zr (λ j=>j=T) _).setRow (.inl rfl) _) (A8 HB.out (by simp)),(HS.out.2.2.1.trans FF.out.1).setRow (.inr HS.out.2.2.2) _⟩,FF.out.2.kept ((zr (λ j=>j=T) _).setRow (.inl rfl) _) (Am.ne FF.out.2 HB.out (by simp))⟩
  clear t6 k2 kA bA;go_wp2_with (refine wpList_store_rowTo rfl 42 (.tmp 4) (.tmp 37) rfl rfl T #[i64 0,str nm,.slice (some ⟨g,0,none⟩) 1 1,.slice none 0 0,.slice none 0 0] (by rfl) (by rfl) 42 _ HB.out (by kernel_rfl) rfl (AF (by simp[D_])) ?_);go_wp2_with fail;exact zy (v:=.agg #[i64 0,str nm,.slice (some ⟨g,0,none⟩) 1 1,.slice none 0 0,.slice none 0 0]) (by simp[results,B_,go_sem,r0,r1,r2,r3,r4]) rfl ⟨HF.out.1,.inl ⟨g,d,h1,h2,rfl,HF.out.2⟩⟩
 ·skip;have kA:Ac y1 (y1.alloc (.cells #[u64 d] 29)):=(zr _ _).alloc _;refine(Lm ⟨nm,some ⟨b,off,none⟩,2,ci,wv,aq,nq,cq,gn,ag,ng,cg,ar,nr,cr⟩ 9 (by omega) _ 1 1 _).mono ?_;rintro e y2 ⟨rfl,k2⟩;have FF:=BP ((G1.out.trans kA).trans k2) trivial;have HB:=zh (HS.out.2.1.grew FF.out.1);have t6:=HB.out.setRow #[i64 (9:Nat),.string ⟨#[]⟩,.slice none 0 0,.slice none 0 0,.slice none 0 0];have r0:=t6.cell 0;have r1:=t6.cell 1;have r2:=t6.cell 2;have r3:=t6.cell 3;have r4:=t6.cell 4;simp at r0 r1 r2 r3 r4;have HF:Hid ((Au (y2.setRow T #[i64 (9:Nat),.string ⟨#[]⟩,.slice none 0 0,.slice none 0 0,.slice none 0 0]) X Y B hops settles 2 N es (some x)/\Ac w (y2.setRow T #[i64 (9:Nat),.string ⟨#[]⟩,.slice none 0 0,.slice none 0 0,.slice none 0 0]))/\True) :=
   ⟨⟨(HS.out.1.grew FF.out.1).far ((zr (λ j=>j=T) _).setRow (.inl rfl) _) (A8 HB.out (by simp)),(HS.out.2.2.1.trans FF.out.1).setRow (.inr HS.out.2.2.2) _⟩,trivial⟩
  clear t6 k2 kA;unfold Bx;go_wp2_with (refine wpList_store_rowTo rfl 42 (.tmp 4) (.tmp 37) rfl rfl T #[i64 (9:Nat),.string ⟨#[]⟩,.slice none 0 0,.slice none 0 0,.slice none 0 0] (by rfl) (by rfl) 42 _ HB.out (by kernel_rfl) rfl (AF (by simp[D_])) ?_);go_wp2_with fail;exact zy (v:=.agg #[i64 (9:Nat),.string ⟨#[]⟩,.slice none 0 0,.slice none 0 0,.slice none 0 0]) (by simp[results,B_,go_sem,r0,r1,r2,r3,r4]) rfl ⟨HF.out.1,.inr ⟨h1,rfl⟩⟩
theorem FP (nm:List UInt8) (A:Option Addr) (n c:Nat) (w:F_):E_ A_ 101 #[str nm,.slice A n c,i64 0] w λ e w'=>e=.returned (Co 0 nm none 0 0 A n c)/\Ac w w':=by
 have HB:=zh (zv w 42 #[i64 0,.string ⟨#[]⟩,.slice none 0 0,.slice none 0 0,.slice none 0 0]);have t6:=HB.out.setRow #[i64 0,str nm,.slice none 0 0,.slice A n c,.slice none 0 0];obtain⟨r0,r1,r2,r3,r4⟩:=LF t6;have HF:Hid (Ac w ((w.alloc (.cells #[i64 0,.string ⟨#[]⟩,.slice none 0 0,.slice none 0 0,.slice none 0 0] 42)).setRow w.heap.size #[i64 0,str nm,.slice none 0 0,.slice A n c,.slice none 0 0])):=(Ha _ _ _).setRow (.inr (zl _)) _;clear t6;go_enter Tryz.func101,Tryz.ntmps101;go_wp2_with (refine wpList_store_rowTo rfl 42 (.tmp 6) (.tmp 13) rfl rfl w.heap.size #[i64 0,str nm,.slice none 0 0,.slice A n c,.slice none 0 0] (by rfl) (by rfl) 42 _ HB.out (by kernel_rfl) rfl (AF (by simp[D_])) ?_);go_wp2_with fail;exact zy (v:=.agg #[i64 0,str nm,.slice none 0 0,.slice A n c,.slice none 0 0]) (by simp[results,Tryz.results101,go_sem,r0,r1,r2,r3,r4]) rfl ⟨rfl,HF.out⟩
def mK (w:F_) (g:Nat):Prop:=∃ A c B,Am w g 133 #[.slice A 2 c,u64 9]/\AO w B (.slice A 2 c) [0,1]
theorem mK.row {w:F_} {g:Nat} (h:mK w g):Ga w (some ⟨g,0,none⟩) [([0,1],9)]:=by
 obtain⟨A,c,B,hb,ho⟩:=h;obtain⟨A1,c1,hv,hr⟩:=ho.row;injection hv with e1 _ _;subst e1;intro i r Kq;match i,Kq with
 | 0,Kq =>
  cases Kq;exact⟨g,0,A,c,rfl,hb.lt,by have:=hb.cell 0;simpa using this,by have:=hb.cell 1;simpa using this,hr,λ a ha=>(ho.lt a.block (by rw[ha];rfl)).2⟩
 | _+1,Kq=>simp at Kq
theorem mK.far {w w':F_} {g T:Nat} {t:TypeId} {cs:Array Value} (h:mK w g) (k:Kept (λ j=>j=T) w w') (hT:Am w T t cs) (h1:133≠t) (h2:3≠t):mK w' g:=by
 obtain⟨A,c,B,hb,ho⟩:=h;exact⟨A,c,B,hb.kept k (Ay hb hT h1),ho.kept k (λ j hj e=>by
  obtain⟨_,cur,hc⟩:=Ao ho hj;exact Ay (show Am w j 3 cur from hc) hT h2 e)⟩
theorem lq {w:F_} {X Y B:Nat} {hops settles:Int} (c:Cm) (x:Hx) (b off:Nat) (h:Au w X Y B hops settles 2 3 D9 (some x)) (Iw:x.es=D9) (he:mw w c 0 2 b off) :
  E_ A_ 62 #[pt X,CV c] w λ e w'=>(Au w' X Y B hops settles 2 3 D9 (some x)/\Ac w w')/\∃ g,e=.returned (Co 0 c.nm none 0 0 (some ⟨g,0,none⟩) 1 1)/\mK w' g:=by
 have h0:=zh h
 obtain⟨nm,ai,ni,ci,wv,aq,nq,cq,gn,ag,ng,cg,ar,nr,cr⟩:=c
 obtain⟨hai,tL,tp,Mq,Mr⟩:=he
 dsimp only at hai tL
 subst hai
 subst tL
 obtain⟨w1,AQ,g1,b1⟩:=zb w #[str nm,.slice (some ⟨b,off,none⟩) 2 ci,u64 wv,.slice aq nq cq,i64 gn,.slice ag ng cg,.slice ar nr cr] 92 rfl
 obtain⟨w2,BM,g2,b2⟩:=zb w1 #[i64 0,.string ⟨#[]⟩,.slice none 0 0,.slice none 0 0,.slice none 0 0] 42 rfl
 obtain⟨T,hT⟩:=zn (w1.heap.size)
 rw[hT]at b2
 obtain⟨T0,rK⟩:=zn (w.heap.size)
 rw[rK]at b1 tp
 have h2:=h.grew (g1.trans g2)
 have Of:w.heap.size<=T:=by rw[<- hT];exact g1.size
 have Bm:T0<T:=by rw[<- hT,<-rK,<-AQ];simp
 have x0:w2.cell? ⟨X,0,none⟩=some (pt Y):=by
  obtain⟨left,done,q1,_,q3⟩:=h2;have p:=Am.cell q1 0;simp at p;exact p
 obtain⟨H,HH,HQ⟩:∃ H,Hid (E_ A_ 31 #[pt Y] w2 λ e w'=>e=.returned (.tuple #[pt H,i64 0])/\Ac w2 w')/\Hid (∀ W,Ac w2 W->E_ A_ 100 #[pt H,i64 0,i64 2] W λ e w'=>∃ v,e=.returned (.tuple #[.agg #[v,u64 9],i64 0])/\AO w' W.heap.size v [0,1]/\Ac W w'):=by
  obtain⟨left,done,q1,q2,q3⟩:=h2;obtain⟨Ak,ck,ev,hv,c0,c1,c2,q⟩:=q2;obtain⟨H,rfl,hH,hO,_⟩:=q.hier;rw[Iw]at hH hO;exact⟨H,GU q.blk,λ W k=>fa W H B x.rk x.ss x.out (hH.grew k) hO⟩
 have HC:Hid (∀ W',Ac w2 W'->W'.cell? ⟨T0,0,none⟩=some (str nm)/\W'.cell? ⟨T0,1,none⟩=some (.slice (some ⟨b,off,none⟩) 2 ci)/\W'.cell? ⟨b,off,none⟩=some (i64 (0:Nat))/\W'.cell? ⟨b,off+1,none⟩=some (i64 (2:Nat))):=λ W' k=>by
  have b:=(b1.grew g2).grew k;have p0:=b.cell 0;have p1:=b.cell 1;simp at p0 p1;exact⟨p0,p1,ze ((g1.trans g2).trans k) Mq,ze ((g1.trans g2).trans k) Mr⟩
 have HS:=DS h2 b2 (g1.trans g2) Of
 clear h h2 b1 b2 g1 g2 Of Iw Mq Mr tp
 go_enter Tryz.func62,Tryz.ntmps62
 go_wp2_with fail
 refine HH.out.mono ?_
 rintro e w3 ⟨rfl,g3⟩
 have xx:=zh (HQ.out)
 have MT:Hid (∀ W',Ac w3 W'->_):=λ W' k=>HC.out W' (g3.trans k)
 have G3:=zh g3
 have gz:Ac w3 w3.drew:=(zr _ _).drew
 clear HH x0 AQ BM hT HC HQ rK g3
 go_upto_region 4 with fail
 refine rG [14] (λ _=>False) ?_
 refine pG 0 21 ?_
 refine pG 1 22 ?_
 refine tF 2 23 MT.out gz ?_
 refine pG 3 24 ?_
 refine tF 4 25 MT.out gz ?_
 refine pG 5 26 ?_
 refine tF 6 27 MT.out gz ?_
 refine pG 7 28 ?_
 refine tF 8 29 MT.out gz ?_
 refine AP 9 30 13 7 rfl rfl (by kernel_rfl) rfl rfl (by rfl) (by rfl) (λ K Aj=>?_) (λ K Aj=>?_)
 ·skip;go_simp;refine(xx.out _ (G3.out.trans gz)).mono ?_;rintro e y1 ⟨v,rfl,ho,k1⟩;obtain⟨Av,cv,rfl⟩:=Ap ho;rw[show ([0,1]:List Int).length=2 from rfl]at ho ⊢;refine Aj (.tuple #[.agg #[.slice Av 2 cv,u64 9],i64 0]) _ (λ _=>k1) ?_;clear Aj;simp only[sA];refine pG 10 20 ?_;refine pG 11 31 ?_;refine pG 12 32 ?_;refine sG 13 7 (λ K Aj=>?_);go_simp;obtain⟨T7,ti⟩:=zn ((World.heap y1).size);obtain⟨y2,DC⟩:=zn ((World.alloc y1 (.cells #[.slice none 0 0,.int .u64 0] 133)));have k2:Ac y1 y2:=by rw[<- DC];exact Ha _ _ _
  have bT7:Am y2 T7 133 #[.slice none 0 0,u64 0]:=by rw[<- DC,<-ti];exact zv _ _ _
  have n7:w3.heap.size<=T7:=by rw[<- ti];exact k1.size
  rw[DC,ti];clear DC ti;have ho:=ho.grew k2;refine Aj (pt T7) _ (λ _=>k2) ?_;clear Aj;simp only[sA];refine DH 14 (λ K Aj=>?_);have HL:=DS ho ((G3.out.trans gz).trans (k1.trans k2)) n7 ((k1.trans k2));have MR:=zh bT7;clear ho n7;refine wp_store_row 133 (.tmp 7) (.tmp 31) rfl T7 #[.slice Av 2 cv,u64 9] rfl rfl 133 _ MR.out (by kernel_rfl) rfl (AF (by simp[D_])) ?_;refine Aj _ (λ h=>absurd (by simp) h) ?_;clear Aj;refine pG 15 6 ?_;refine dG ?_;have t7:=MR.out.setRow #[.slice Av 2 cv,u64 9];obtain⟨q70,q71⟩:=CE t7;obtain⟨y3,DQ⟩:=zn (y2.setRow T7 #[.slice Av 2 cv,u64 9]);rw[DQ]at t7 q70 q71;have kT7:Kept (λ j=>j=T7) y2 y3:=by rw[<- DQ];exact(zr (λ j=>j=T7) _).setRow (.inl rfl) _
  have Jr:Ac w3 y3:=by rw[<- DQ];exact(gz.trans HL.out.2.2.2).setRow (.inr HL.out.2.2.1) _
  obtain⟨q0,q1,-,-⟩:=MT.out y3 Jr;have E6:=HL.out.1.kept kT7 (λ j hj e=>by
   obtain⟨_,cur,hc⟩:=Ao HL.out.1 hj;exact Ay (show Am y2 j 3 cur from hc) MR.out (by decide) e)
  have HX:=zh (show (∃ B',AO y3 B' (.slice Av 2 cv) [0,1])/\_ from ⟨⟨_,E6⟩,G3.out.trans Jr⟩);obtain⟨g,hg⟩:=zn (y3.heap.size);clear t7 kT7 Jr E6 HL MR MT xx G3 gz k1 k2;rw[DQ];go_wp2_with fail;obtain⟨y4,Fs,k4,b4⟩:=zb y3 #[.slice Av 2 cv,u64 9] 133 hg;refine(FP nm _ 1 1 _).mono ?_;rintro e y5 ⟨rfl,k5⟩;have k5:Ac y4 y5:=by rw[<- Fs];exact k5
  have b5:=b4.grew k5;have G5:=(HX.out.2.trans k4).trans k5;have HB:=zh (HS.out.2.1.grew G5);have t6:=HB.out.setRow #[i64 0,str nm,.slice none 0 0,.slice (some ⟨g,0,none⟩) 1 1,.slice none 0 0];obtain⟨r0,r1,r2,r3,r4⟩:=LF t6;have kT:Kept (λ j=>j=T) y5 (y5.setRow T #[i64 0,str nm,.slice none 0 0,.slice (some ⟨g,0,none⟩) 1 1,.slice none 0 0]):=(zr (λ j=>j=T) _).setRow (.inl rfl) _;have HF:Hid ((Au (y5.setRow T #[i64 0,str nm,.slice none 0 0,.slice (some ⟨g,0,none⟩) 1 1,.slice none 0 0]) X Y B hops settles 2 3 D9 (some x)/\Ac w (y5.setRow T #[i64 0,str nm,.slice none 0 0,.slice (some ⟨g,0,none⟩) 1 1,.slice none 0 0]))/\mK (y5.setRow T #[i64 0,str nm,.slice none 0 0,.slice (some ⟨g,0,none⟩) 1 1,.slice none 0 0]) g):=by
   refine⟨⟨(HS.out.1.grew G5).far kT (A8 HB.out (by simp)),(HS.out.2.2.1.trans G5).setRow (.inr HS.out.2.2.2) _⟩,?_⟩;have Nj:=b5.kept kT (Ay b5 HB.out (by decide));obtain⟨B',hO⟩:=HX.out.1;have hO5:AO y5 B' (.slice Av 2 cv) [0,1]:=AO.grew hO (k4.trans k5);exact⟨Av,cv,B',Nj,hO5.kept kT (λ j hj e=>by
    obtain⟨_,cur,hc⟩:=Ao hO5 hj;exact Ay (show Am y5 j 3 cur from hc) HB.out (by decide) e)⟩
  clear t6 kT k4 b4 b5 G5 Fs hg q0 q70 q71 DQ;go_wp2_with (refine wpList_store_rowTo rfl 42 (.tmp 4) (.tmp 38) rfl rfl T #[i64 0,str nm,.slice none 0 0,.slice (some ⟨g,0,none⟩) 1 1,.slice none 0 0] (by rfl) (by rfl) 42 _ HB.out (by kernel_rfl) rfl (AF (by simp[D_])) ?_);go_wp2_with fail;exact zy (v:=.agg #[i64 0,str nm,.slice none 0 0,.slice (some ⟨g,0,none⟩) 1 1,.slice none 0 0]) (by simp[results,C_,go_sem,r0,r1,r2,r3,r4]) rfl ⟨HF.out.1,g,rfl,HF.out.2⟩
 ·skip;go_simp;obtain⟨T7,ti⟩:=zn ((World.heap w3).size);obtain⟨y1,Br⟩:=zn ((World.alloc w3 (.cells #[.slice none 0 0,.int .u64 0] 133)).drew);have k1:Ac w3.drew y1:=by rw[<- Br];exact Kept.newD _ _ _
  have bT7:Am y1 T7 133 #[.slice none 0 0,u64 0]:=by rw[<- Br,<-ti];exact zv _ _ _
  have n7:w3.heap.size<=T7:=by rw[<- ti];exact zl _
  rw[Br,ti];clear Br ti;refine Aj (pt T7) _ (λ _=>k1) ?_;clear Aj;simp only[sA];refine sG 9 30 (λ K Aj=>?_);go_simp;refine(xx.out _ (G3.out.trans (gz.trans k1))).mono ?_;rintro e y2 ⟨v,rfl,ho,k2⟩;obtain⟨Av,cv,rfl⟩:=Ap ho;rw[show ([0,1]:List Int).length=2 from rfl]at ho ⊢;have bT7:=bT7.grew k2;refine Aj (.tuple #[.agg #[.slice Av 2 cv,u64 9],i64 0]) _ (λ _=>k2) ?_;clear Aj;simp only[sA];refine pG 10 20 ?_;refine pG 11 31 ?_;refine pG 12 32 ?_;refine DH 14 (λ K Aj=>?_);have HL:=DS ho ((G3.out.trans gz).trans (k1.trans k2)) n7 ((k1.trans k2));have MR:=zh bT7;clear ho n7;refine wp_store_row 133 (.tmp 7) (.tmp 31) rfl T7 #[.slice Av 2 cv,u64 9] rfl rfl 133 _ MR.out (by kernel_rfl) rfl (AF (by simp[D_])) ?_;refine Aj _ (λ h=>absurd (by simp) h) ?_;clear Aj;refine pG 15 6 ?_;refine dG ?_;have t7:=MR.out.setRow #[.slice Av 2 cv,u64 9];obtain⟨q70,q71⟩:=CE t7;obtain⟨y3,DQ⟩:=zn (y2.setRow T7 #[.slice Av 2 cv,u64 9]);rw[DQ]at t7 q70 q71;have kT7:Kept (λ j=>j=T7) y2 y3:=by rw[<- DQ];exact(zr (λ j=>j=T7) _).setRow (.inl rfl) _
  have Jr:Ac w3 y3:=by rw[<- DQ];exact(gz.trans HL.out.2.2.2).setRow (.inr HL.out.2.2.1) _
  obtain⟨q0,q1,-,-⟩:=MT.out y3 Jr;have E6:=HL.out.1.kept kT7 (λ j hj e=>by
   obtain⟨_,cur,hc⟩:=Ao HL.out.1 hj;exact Ay (show Am y2 j 3 cur from hc) MR.out (by decide) e)
  have HX:=zh (show (∃ B',AO y3 B' (.slice Av 2 cv) [0,1])/\_ from ⟨⟨_,E6⟩,G3.out.trans Jr⟩);obtain⟨g,hg⟩:=zn (y3.heap.size);clear t7 kT7 Jr E6 HL MR MT xx G3 gz k1 k2;rw[DQ];go_wp2_with fail;obtain⟨y4,Fs,k4,b4⟩:=zb y3 #[.slice Av 2 cv,u64 9] 133 hg;refine(FP nm _ 1 1 _).mono ?_;rintro e y5 ⟨rfl,k5⟩;have k5:Ac y4 y5:=by rw[<- Fs];exact k5
  have b5:=b4.grew k5;have G5:=(HX.out.2.trans k4).trans k5;have HB:=zh (HS.out.2.1.grew G5);have t6:=HB.out.setRow #[i64 0,str nm,.slice none 0 0,.slice (some ⟨g,0,none⟩) 1 1,.slice none 0 0];obtain⟨r0,r1,r2,r3,r4⟩:=LF t6;have kT:Kept (λ j=>j=T) y5 (y5.setRow T #[i64 0,str nm,.slice none 0 0,.slice (some ⟨g,0,none⟩) 1 1,.slice none 0 0]):=(zr (λ j=>j=T) _).setRow (.inl rfl) _;have HF:Hid ((Au (y5.setRow T #[i64 0,str nm,.slice none 0 0,.slice (some ⟨g,0,none⟩) 1 1,.slice none 0 0]) X Y B hops settles 2 3 D9 (some x)/\Ac w (y5.setRow T #[i64 0,str nm,.slice none 0 0,.slice (some ⟨g,0,none⟩) 1 1,.slice none 0 0]))/\mK (y5.setRow T #[i64 0,str nm,.slice none 0 0,.slice (some ⟨g,0,none⟩) 1 1,.slice none 0 0]) g):=by
   refine⟨⟨(HS.out.1.grew G5).far kT (A8 HB.out (by simp)),(HS.out.2.2.1.trans G5).setRow (.inr HS.out.2.2.2) _⟩,?_⟩;have Nj:=b5.kept kT (Ay b5 HB.out (by decide));obtain⟨B',hO⟩:=HX.out.1;have hO5:AO y5 B' (.slice Av 2 cv) [0,1]:=AO.grew hO (k4.trans k5);exact⟨Av,cv,B',Nj,hO5.kept kT (λ j hj e=>by
    obtain⟨_,cur,hc⟩:=Ao hO5 hj;exact Ay (show Am y5 j 3 cur from hc) HB.out (by decide) e)⟩
  clear t6 kT k4 b4 b5 G5 Fs hg q0 q70 q71 DQ;go_wp2_with (refine wpList_store_rowTo rfl 42 (.tmp 4) (.tmp 38) rfl rfl T #[i64 0,str nm,.slice none 0 0,.slice (some ⟨g,0,none⟩) 1 1,.slice none 0 0] (by rfl) (by rfl) 42 _ HB.out (by kernel_rfl) rfl (AF (by simp[D_])) ?_);go_wp2_with fail;exact zy (v:=.agg #[i64 0,str nm,.slice none 0 0,.slice (some ⟨g,0,none⟩) 1 1,.slice none 0 0]) (by simp[results,C_,go_sem,r0,r1,r2,r3,r4]) rfl ⟨HF.out.1,g,rfl,HF.out.2⟩
section
variable {w:F_} {X Y B:Nat} {hops settles:Int} {ph N:Nat} {es:List AB} {hx:Option Hx}
theorem Au.own_Y {W:F_} {b:Nat} {cs:Array Value} (h:Au W X Y B hops settles ph N es hx) (hb:Am W b 3 cs):b≠Y:=by
 obtain⟨left,done,_,⟨Ak,ck,ev,hv,c0,c1,c2,q⟩,_⟩:=h;exact Am.ne hb q.blk (by decide)
theorem JP {W W':F_} {g T:Nat} {cs ds:Array Value} (hb:Am W g 29 cs) (k:Kept (λ j=>j=T) W W') (hT:Am W T 42 ds):Am W' g 29 cs:=hb.kept k (Am.ne hb hT (by decide))
theorem Au.farT {W W':F_} {T:Nat} {ds:Array Value} (h:Au W X Y B hops settles ph N es hx) (k:Kept (λ j=>j=T) W W') (hT:Am W T 42 ds):Au W' X Y B hops settles ph N es hx:=h.far k (A8 hT (by simp))
theorem Kd (N':Nat) (D8:List AB) (h:Au w X Y B hops settles ph N es hx) (DP:ph<=3) (hr:Aq N' D8=0) (hl:D8.length<=800) (hB:B<=w.heap.size) :
  E_ A_ 10 #[pt X,str (At (Af 0::AJ N' D8))] w λ e w'=>∃ g,e=.returned (Co 0 (Af 0) (some ⟨g,0,none⟩) 2 2 none 0 0)/\Am w' g 29 #[u64 (N':Int),u64 (D8.length:Int)]/\Au w' X Y B hops settles 1 N' D8 none/\Kept (λ j=>j=X\/j=Y) w w':=by
 refine(FE (λ _ _=>by kernel_rfl) (At (Af 0::AJ N' D8)) (Af 0) (Ol N' D8) (λ W v=>∃ g,v=Co 0 (Af 0) (some ⟨g,0,none⟩) 2 2 none 0 0/\Am W g 29 #[u64 (N':Int),u64 (D8.length:Int)]/\Au W X Y B hops settles 1 N' D8 none) h DP
  (λ W=>eE N' D8 hr (by omega) W) (λ W W' c hc g=>⟨hc.1,hc.2.1,hc.2.2.imp λ B h=>Ac.own g h⟩) oO (λ W c hc hn hs Df=>?_) ?_).mono ?_
 ·refine(eW c hs DP N' D8 hc.1 hc.2.1 hc.row hr hl (G_ hB Df)).mono ?_;rintro e W' ⟨g,rfl,hb,Ib,k⟩;exact⟨0,c.nm,_,2,2,none,0,0,rfl,⟨g,by rw[hn],hb,Ib⟩,k⟩
 ·rintro W W' v T cs ⟨g,rfl,hb,hs⟩ k hT;exact⟨g,rfl,JP hb k hT,hs.farT k hT⟩
 ·rintro e w' ⟨f,LZ,A,n,c1,A2,n2,c2,rfl,⟨g,hv,hb,hs⟩,k⟩;exact⟨g,by rw[hv],hb,hs,k⟩
def cI (N:Nat) (es:List AB) (hx:Option Hx) (CB:List Int) (X Y B:Nat) (hops settles:Int) (W:F_) (v:Value):Prop :=
 ∃ g x,v=Co 0 (Af 1) (some ⟨g,0,none⟩) 1 1 none 0 0/\Am W g 29 #[u64 (N:Int)]/\Au W X Y B hops settles 2 N es (some x)/\x.es=es/\(Ix CB hx=x.rk\/Ix CB hx=[])
theorem FD (line:List UInt8) (CB:List Int) (hP:∀ W,E_ A_ 34 #[str line] W λ e W'=>∃ c:Cm,e=.returned (.tuple #[CV c,i64 0])/\c.nm=Af 1/\I1 CB W' c/\Ac W W') (h:Au w X Y B hops settles ph N es hx) (DP:1<=ph/\ph<=3) (hr:Aq N es=0) (hl:es.length<=800) (hN:N<=12) (hB:B<=w.heap.size) (Ba:Bq CB) (hn:CB=[]\/CB.length=N) :
  E_ A_ 10 #[pt X,str line] w λ e w'=>∃ v,e=.returned v/\cI N es hx CB X Y B hops settles w' v/\Kept (λ j=>j=X\/j=Y) w w':=by
 refine(FE (λ _ _=>by kernel_rfl) line (Af 1) (I1 CB) (cI N es hx CB X Y B hops settles) h DP.2 hP (λ W W' c hc g=>⟨hc.1,hc.2.imp λ B h=>Ac.own g h⟩) jI (λ W c hc Cw hs Df=>?_) ?_).mono ?_
 ·have yX:c.nr=0\/c.nr=N:=by
   rcases hn with hn | hn
   ·left;rw[hc.1,hn];rfl
   ·right;rw[hc.1,hn]
  refine(bj c hs DP hr hl hN (G_ hB Df) CB hc.row Ba hc.1.symm yX).mono ?_;rintro e W' ⟨g,x,rfl,hb,Ib,h1,h2,k⟩;exact⟨0,c.nm,_,1,1,none,0,0,rfl,⟨g,x,by rw[Cw],hb,Ib,h1,h2⟩,k⟩
 ·rintro W W' v T cs ⟨g,x,rfl,hb,hs,h1,h2⟩ k hT;exact⟨g,x,rfl,JP hb k hT,hs.farT k hT,h1,h2⟩
 ·rintro e w' ⟨f,LZ,A,n,c1,A2,n2,c2,rfl,hv,k⟩;exact⟨_,rfl,hv,k⟩
def iM (e x:Nat):List Arg:=[⟨101,dec e,e,0⟩,⟨119,dec x,x,0⟩]
theorem mP (e x:Nat):BJ ⟨[],0,[],0⟩ (iM e x)=⟨[(e:Int)],x,[],if 1<=x/\x<=4294967296 then 0 else 2⟩:=by
 simp[BJ,iM,Iu]
theorem GR (e x:Nat) (he:e<=16383) (hx:x<18446744073709551616) (f:Nat) (hf:(if 1<=x/\x<=4294967296 then (0:Int) else 2)=f) (w:F_) :
  E_ A_ 34 #[str (At [Af 7,dec e,dec x])] w λ r w'=>∃ c:Cm,JB c f r/\c.nm=Af 7/\EA ⟨[(e:Int)],x,[],f⟩ w' c/\Ac w w':=by
 have h1:=EO (Af 7) [dec e,dec x] 20 (λ y hy=>by
  simp at hy;rcases hy with rfl | rfl
  ·exact Dz (k:=19) (by omega)
  ·exact Dz (k:=19) (by omega))
 have h2:(Af 7).length=4:=rfl
 have hE:=mP e x
 rw[hf]at hE
 have:=KO 7 (iM e x) (by omega) (by omega) (by omega) (by omega) rfl (λ a ha=>by
  simp[iM]at ha;rcases ha with rfl | rfl
  ·exact .inr (.inl ⟨rfl,Bu (by omega),he⟩)
  ·exact .inr (.inr (.inr (.inr ⟨rfl,Bu hx,hx⟩)))) (λ k hk=>by
  have Lz:k<2:=hk;rcases(show k=0\/k=1 by omega) with rfl | rfl
  ·rfl
  ·rfl) (λ a ha=>by
  simp[iM]at ha;rcases ha with rfl | rfl<;>exact Cf _) (by
  show (At [Af 7,dec e,dec x]).length<=65536;simp at h1;omega) (by simp[iM]) f (by rw[hE]) w
 rw[hE]at this
 exact this
theorem EA.one {s:St} {W:F_} {c:Cm} {z:Int} (h:EA s W c) (hz:s.zs=[z]):∃ b cs,c.ai=some ⟨b,0,none⟩/\c.ni=1/\Am W b 3 cs/\W.cell? ⟨b,0,none⟩=some (i64 z):=by
 obtain⟨_,h2,B,h3⟩:=h;rw[hz]at h2 h3;obtain⟨A,k,hv,hr⟩:=h3.row;injection hv with e1 e2 _;obtain⟨b,off,hA,hb,hc⟩:=hr 0 z rfl;rcases h3.2 with ⟨_,h0⟩ | ⟨g,cap,cur,GO,_,hg,_⟩
 ·simp at h0
 ·injection GO with e3 _ _;rw[<- e1,e3]at hA;injection hA with hA;injection hA with rF N7;subst rF;subst N7;refine⟨_,cur,e3,h2,hg,by simpa using hc⟩
theorem GD (e x:Nat) (h:Au w X Y B hops settles ph N es hx) (DP:1<=ph/\ph<=3) (hr:Aq N es=0) (hl:es.length<=800) (he:e<es.length) (lY:1<=x/\x<=4294967296) (hB:B<=w.heap.size) :
  E_ A_ 10 #[pt X,str (At [Af 7,dec e,dec x])] w λ r w'=>∃ g,r=.returned (Co 0 (Af 7) (some ⟨g,0,none⟩) 2 2 none 0 0)/\Am w' g 29 #[u64 (e:Int),u64 (x:Int)]/\Au w' X Y B hops settles (if ph=2 then 3 else ph) N (BX es e x) hx/\Kept (λ j=>j=X\/j=Y) w w':=by
 refine(FE (λ _ _=>by kernel_rfl) (At [Af 7,dec e,dec x]) (Af 7) (λ W c=>EA ⟨[(e:Int)],x,[],(0:Nat)⟩ W c) (λ W v=>∃ g,v=Co 0 (Af 7) (some ⟨g,0,none⟩) 2 2 none 0 0/\Am W g 29 #[u64 (e:Int),u64 (x:Int)]/\Au W X Y B hops settles (if ph=2 then 3 else ph) N (BX es e x) hx) h DP.2
  (λ W=>?_) (λ W W' c hc g=>⟨hc.1,hc.2.1,hc.2.2.imp λ B h=>Ac.own g h⟩) OY (λ W c hc hn hs Df=>?_) ?_).mono ?_
 ·refine(GR e x (by omega) (by omega) 0 (by rw[if_pos lY];rfl) W).mono ?_;rintro r W' ⟨c,hp,hn,hc,g⟩;rcases hp with ⟨_,rfl⟩ | ⟨h,_⟩
  ·exact⟨c,rfl,hn,hc,g⟩
  ·exact absurd rfl h
 ·obtain⟨b,cs,h1,h2,h3,h4⟩:=hc.one rfl;have rU:c.wv=(x:Int):=hc.1;refine(eX c hs DP hr hl e (by omega) b 0 h1 h2 h4 (hs.own_Y h3) (by rw[rU];omega) (by rw[rU];omega) (G_ hB Df)).mono ?_;rintro r W' ⟨g,rfl,hb,Ib,k⟩;rw[rU]at hb Ib;exact⟨0,c.nm,_,2,2,none,0,0,rfl,⟨g,by rw[hn],hb,Ib⟩,k⟩
 ·rintro W W' v T cs ⟨g,rfl,hb,hs⟩ k hT;exact⟨g,rfl,JP hb k hT,hs.farT k hT⟩
 ·rintro r w' ⟨f,LZ,A,n,c1,A2,n2,c2,rfl,⟨g,hv,hb,hs⟩,k⟩;exact⟨g,by rw[hv],hb,hs,k⟩
theorem dm (e x:Nat) (h:Au w X Y B hops settles ph N es hx) (DP:1<=ph/\ph<=3) (hr:Aq N es=0) (hl:es.length<=800) (he:¬ e<es.length) (Ms:e<=16383) (lY:1<=x/\x<=4294967296) (hB:B<=w.heap.size) :
  E_ A_ 10 #[pt X,str (At [Af 7,dec e,dec x])] w λ r w'=>r=.returned (Bx 8)/\Au w' X Y B hops settles ph N es hx/\Kept (λ j=>j=X\/j=Y) w w':=by
 have hf:BW es (e:Int) (x:Int)=8:=by unfold BW;rw[if_neg (by omega)]
 refine(FE (λ _ _=>by kernel_rfl) (At [Af 7,dec e,dec x]) (Af 7) (λ W c=>EA ⟨[(e:Int)],x,[],(0:Nat)⟩ W c) (λ W v=>v=Bx 8/\Au W X Y B hops settles ph N es hx) h DP.2
  (λ W=>?_) (λ W W' c hc g=>⟨hc.1,hc.2.1,hc.2.2.imp λ B h=>Ac.own g h⟩) OY (λ W c hc hn hs Df=>?_) ?_).mono ?_
 ·refine(GR e x Ms (by omega) 0 (by rw[if_pos lY];rfl) W).mono ?_;rintro r W' ⟨c,hp,hn,hc,g⟩;rcases hp with ⟨_,rfl⟩ | ⟨h,_⟩
  ·exact⟨c,rfl,hn,hc,g⟩
  ·exact absurd rfl h
 ·obtain⟨b,cs,h1,h2,h3,h4⟩:=hc.one rfl;have rU:c.wv=(x:Int):=hc.1;refine(lv c hs DP hr hl e (by omega) b 0 h1 h2 h4 (hs.own_Y h3) (by rw[rU];omega) (by rw[rU,hf];decide) (G_ hB Df)).mono ?_;rintro r W' ⟨rfl,Ib,k⟩;rw[rU,hf];exact⟨8,[],none,0,0,none,0,0,rfl,⟨rfl,Ib⟩,k⟩
 ·rintro W W' v T cs ⟨rfl,hs⟩ k hT;exact⟨rfl,hs.farT k hT⟩
 ·rintro r w' ⟨f,LZ,A,n,c1,A2,n2,c2,rfl,⟨hv,hs⟩,k⟩;exact⟨by rw[hv],hs,k⟩
theorem OG (e x:Nat) (h:Au w X Y B hops settles ph N es hx) (DP:ph<=3) (Ms:e<=16383) (CN:x<18446744073709551616) (lY:¬ (1<=x/\x<=4294967296)) :
  E_ A_ 10 #[pt X,str (At [Af 7,dec e,dec x])] w λ r w'=>r=.returned (Bx 2)/\Au w' X Y B hops settles ph N es hx/\Kept (λ j=>j=X) w w' :=
 xZ (At [Af 7,dec e,dec x]) 2 (by omega) h DP λ W=>by
  refine(GR e x Ms CN 2 (by rw[if_neg lY];rfl) W).mono ?_;rintro r W' ⟨c,hp,_,_,g⟩;rcases hp with ⟨h,_⟩ | ⟨_,rfl⟩
  ·cases h
  ·exact⟨rfl,g⟩
end
section
variable {w:F_} {X Y B:Nat} {hops settles:Int} {ph N:Nat} {es:List AB} {hx:Option Hx}
def iL (s t:Nat):List Arg:=[⟨110,dec s,s,0⟩,⟨110,dec t,t,0⟩]
theorem mN (s t:Nat):BJ ⟨[],0,[],0⟩ (iL s t)=⟨[(s:Int),(t:Int)],0,[],(0:Nat)⟩:=by
 simp[BJ,iL,Iu]
theorem KP (i s t:Nat) (hi:i=2\/i=3) (hs:s<=4095) (ht:t<=4095) (w:F_) :
  E_ A_ 34 #[str (At [Af i,dec s,dec t])] w λ r w'=>∃ c:Cm,r=.returned (.tuple #[CV c,i64 0])/\c.nm=Af i/\EA ⟨[(s:Int),(t:Int)],0,[],(0:Nat)⟩ w' c/\Ac w w':=by
 have h1:=EO (Af i) [dec s,dec t] 20 (λ y hy=>by
  simp at hy;rcases hy with rfl | rfl
  ·exact Dz (k:=19) (by omega)
  ·exact Dz (k:=19) (by omega))
 have h2:=(Ev (i:=i) (by omega)).2.2.2.2
 have hE:=mN s t
 have:=KO i (iL s t) (by omega) (by omega) (by omega) (by omega) (by rcases hi with rfl | rfl<;>rfl) (λ a ha=>by
  simp[iL]at ha;rcases ha with rfl | rfl
  ·exact .inl ⟨rfl,Bu (by omega),hs⟩
  ·exact .inl ⟨rfl,Bu (by omega),ht⟩) (λ k hk=>by
  have Lz:k<2:=hk;rcases(show k=0\/k=1 by omega) with rfl | rfl
  ·rfl
  ·rfl) (λ a ha=>by
  simp[iL]at ha;rcases ha with rfl | rfl<;>exact Cf _) (by
  show (At [Af i,dec s,dec t]).length<=65536;simp at h1;omega) (by simp[iL]) 0 (by rw[hE]) w
 rw[hE]at this
 refine this.mono ?_
 rintro r W' ⟨c,hp,hn,hc,g⟩
 rcases hp with ⟨_,rfl⟩ | ⟨h,_⟩
 ·exact⟨c,rfl,hn,hc,g⟩
 ·exact absurd rfl h
theorem EA.two {st:St} {W:F_} {c:Cm} {s t:Nat} (h:EA st W c) (hz:st.zs=[(s:Int),(t:Int)]):∃ b,mw W c s t b 0:=by
 obtain⟨_,h2,B,h3⟩:=h;rw[hz]at h2 h3;obtain⟨A,k,hv,hr⟩:=h3.row;injection hv with e1 e2 _;obtain⟨b,off,hA,hb,hc⟩:=hr 0 _ rfl;obtain⟨b',uv,Mo,Lx,yC⟩:=hr 1 _ rfl;rcases h3.2 with ⟨_,h0⟩ | ⟨g,cap,cur,GO,_,hg,_⟩
 ·simp at h0
 ·injection GO with e3 _ _;rw[<- e1,e3]at hA Mo;injection hA with hA;injection hA with rF N7;injection Mo with Mo;injection Mo with hA1' hA2';subst rF N7 hA1' hA2';exact⟨_,e3,h2,hb,by simpa using hc,by simpa using yC⟩
def uT (N:Nat) (es:List AB) (x:Hx) (s t X Y B:Nat) (hops settles:Int) (W:F_) (v:Value):Prop :=
 Au W X Y B hops settles 2 N es (some x)/\((∃ g d,Bw (CM es) s t d/\d<C9/\v=Co 0 (Af 3) (some ⟨g,0,none⟩) 1 1 none 0 0/\Am W g 29 #[u64 d])\/(∀ d,¬ Wk (CM es) s t d)/\v=Bx 9)
theorem di (x:Hx) (s t:Nat) (h:Au w X Y B hops settles 2 N es (some x)) (Iw:x.es=es) (hr:Aq N es=0) (hN:N<=7) (hle:es.length<=600) (hs:s<N) (ht:t<N) :
  E_ A_ 10 #[pt X,str (At [Af 3,dec s,dec t])] w λ e w'=>∃ v,e=.returned v/\uT N es x s t X Y B hops settles w' v/\Kept (λ j=>j=X\/j=Y) w w':=by
 refine(FE (λ _ _=>by kernel_rfl) (At [Af 3,dec s,dec t]) (Af 3) (λ W c=>EA ⟨[(s:Int),(t:Int)],0,[],(0:Nat)⟩ W c) (uT N es x s t X Y B hops settles) h (by omega) (λ W=>KP 3 s t (.inr rfl) (by omega) (by omega) W) (λ W W' c hc g=>⟨hc.1,hc.2.1,hc.2.2.imp λ B h=>Ac.own g h⟩) OX (λ W c hc hn Od Df=>?_) ?_).mono ?_
 ·obtain⟨b,he⟩:=hc.two rfl;refine(eV c x s t b 0 Od Iw hr hN hle hs ht he).mono ?_;rintro e W' ⟨⟨Ib,g⟩,⟨g1,d,h1,h2,rfl,hb⟩ | ⟨h1,rfl⟩⟩
  ·exact⟨0,c.nm,_,1,1,none,0,0,rfl,⟨Ib,.inl ⟨g1,d,h1,h2,by rw[hn],hb⟩⟩,Ac.kept g⟩
  ·exact⟨9,[],none,0,0,none,0,0,rfl,⟨Ib,.inr ⟨h1,rfl⟩⟩,Ac.kept g⟩
 ·rintro W W' v T cs ⟨Ib,⟨g1,d,h1,h2,rfl,hb⟩ | ⟨h1,rfl⟩⟩ k hT
  ·exact⟨Ib.farT k hT,.inl ⟨g1,d,h1,h2,rfl,JP hb k hT⟩⟩
  ·exact⟨Ib.farT k hT,.inr ⟨h1,rfl⟩⟩
 ·rintro e w' ⟨f,LZ,A,n,c1,A2,n2,c2,rfl,hv,k⟩;exact⟨_,rfl,hv,k⟩
theorem iZ (s t f:Nat) (h:Au w X Y B hops settles ph N es hx) (DP:ph<=3) (hn:ph≠2) (hf:(Ft ph 2:Int)=f) (Ho:1<=f/\f<15) (hs:s<=4095) (ht:t<=4095) :
  E_ A_ 10 #[pt X,str (At [Af 3,dec s,dec t])] w λ e w'=>e=.returned (Bx f)/\Au w' X Y B hops settles ph N es hx/\Kept (λ j=>j=X\/j=Y) w w':=by
 refine(FE (λ _ _=>by kernel_rfl) (At [Af 3,dec s,dec t]) (Af 3) (λ W c=>EA ⟨[(s:Int),(t:Int)],0,[],(0:Nat)⟩ W c) (λ W v=>v=Bx f/\Au W X Y B hops settles ph N es hx) h (by omega) (λ W=>KP 3 s t (.inr rfl) hs ht W) (λ W W' c hc g=>⟨hc.1,hc.2.1,hc.2.2.imp λ B h=>Ac.own g h⟩) OX (λ W c hc Cw Od Df=>?_) ?_).mono ?_
 ·refine(NS c Od (by omega) hn f hf Ho).mono ?_;rintro e W' ⟨rfl,Ib,g⟩;exact⟨f,[],none,0,0,none,0,0,rfl,⟨rfl,Ib⟩,Ac.kept g⟩
 ·rintro W W' v T cs ⟨rfl,Ib⟩ k hT;exact⟨rfl,Ib.farT k hT⟩
 ·rintro e w' ⟨f',LZ,A,n,c1,A2,n2,c2,rfl,⟨hv,Ib⟩,k⟩;exact⟨by rw[hv],Ib,k⟩
theorem i6 (x:Hx) (h:Au w X Y B hops settles 2 3 D9 (some x)) (Iw:x.es=D9) :
  E_ A_ 10 #[pt X,str (At [Af 2,dec 0,dec 2])] w λ e w'=>∃ g,e=.returned (Co 0 (Af 2) none 0 0 (some ⟨g,0,none⟩) 1 1)/\mK w' g/\Au w' X Y B hops settles 2 3 D9 (some x)/\Kept (λ j=>j=X\/j=Y) w w':=by
 refine(FE (λ _ _=>by kernel_rfl) (At [Af 2,dec 0,dec 2]) (Af 2) (λ W c=>EA ⟨[((0:Nat):Int),((2:Nat):Int)],0,[],(0:Nat)⟩ W c) (λ W v=>∃ g,v=Co 0 (Af 2) none 0 0 (some ⟨g,0,none⟩) 1 1/\mK W g/\Au W X Y B hops settles 2 3 D9 (some x)) h (by omega) (λ W=>KP 2 0 2 (.inl rfl) (by omega) (by omega) W) (λ W W' c hc g=>⟨hc.1,hc.2.1,hc.2.2.imp λ B h=>Ac.own g h⟩) Mw (λ W c hc hn Od Df=>?_) ?_).mono ?_
 ·obtain⟨b,he⟩:=hc.two rfl;refine(lq c x b 0 Od Iw he).mono ?_;rintro e W' ⟨⟨Ib,g⟩,g1,rfl,hb⟩;exact⟨0,c.nm,none,0,0,_,1,1,rfl,⟨g1,by rw[hn],hb,Ib⟩,Ac.kept g⟩
 ·rintro W W' v T cs ⟨g,rfl,hb,hs⟩ k hT;exact⟨g,rfl,hb.far k hT (by decide) (by decide),hs.farT k hT⟩
 ·rintro e w' ⟨f,LZ,A,n,c1,A2,n2,c2,rfl,⟨g,hv,hb,hs⟩,k⟩;exact⟨g,by rw[hv],hb,hs,k⟩
end
section
variable {w:F_} {X Y B:Nat} {hops settles:Int} {ph N:Nat} {es:List AB} {hx:Option Hx}
theorem KC (line nm:List UInt8) (nums:List Nat) (Cw:Cp nm) (hnl:nm.length<=5) (hn:nums.length<=5) (Hv:∀ n∈nums,n<100) (S:F_->Prop) (hS:∀ W W',S W->Ac W W'->S W')
  (hDo:E_ A_ 10 #[pt X,str line] w λ e w'=>∃ A c,e=.returned (Co 0 nm A nums.length c none 0 0)/\D4 w' A (nums.map λ (n:Nat)=>(n:Int))/\S w') :
  E_ A_ 14 #[pt X,str line] w λ e w'=>e=.returned (str (At (Bz nm nums [])))/\S w':=by
 have hlen:(At (Bz nm nums [])).length<=100000:=by
  have h1:=EO [111,107] (nm::(nums.map dec++[])) 5 (λ y hy=>by
   rcases List.mem_cons.1 hy with rfl | hy
   ·exact hnl
   ·rw[List.append_nil]at hy;obtain⟨n,yU,rfl⟩:=List.mem_map.1 hy;have:=M9 (Hv n yU);omega)
  have h2:At (Bz nm nums [])=At ([111,107]::(nm::(nums.map dec++[]))):=rfl;rw[h2];simp at h1 ⊢;omega
 refine Nx w X line (λ W u=>∃ A c,u=Co 0 nm A nums.length c none 0 0/\D4 W A (nums.map λ (n:Nat)=>(n:Int))) (bs (At (Bz nm nums []))) S ?_ ?_ hS
 ·refine hDo.mono ?_;rintro e w' ⟨A,c,rfl,hu,hs⟩;exact⟨_,rfl,⟨A,c,rfl,hu⟩,hs⟩
 ·rintro W u ⟨A,c,rfl,hu⟩;exact Je nm A none c 0 nums [] W Cw (by omega) hu (by omega) Hv (λ i r hr=>by simp at hr) (λ r hr=>by simp at hr) (by simp) hlen
theorem aY {g:Nat} {a b:Nat} {W:F_} (h:Am W g 29 #[u64 (a:Int),u64 (b:Int)]):D4 W (some ⟨g,0,none⟩) ([a,b].map λ (n:Nat)=>(n:Int)):=D4.blk (l:=[(a:Int),(b:Int)]) h
theorem qa {g:Nat} {a:Nat} {W:F_} (h:Am W g 29 #[u64 (a:Int)]):D4 W (some ⟨g,0,none⟩) ([a].map λ (n:Nat)=>(n:Int)):=D4.blk (l:=[(a:Int)]) h
theorem Au.kK {W W':F_} (h:Au W X Y B hops settles ph N es hx/\Kept (λ j=>j=X\/j=Y) w W) (g:Ac W W'):Au W' X Y B hops settles ph N es hx/\Kept (λ j=>j=X\/j=Y) w W':=⟨h.1.grew g,h.2.grew g⟩
theorem ez (h:Au w X Y B hops settles 0 0 [] none) (hB:B<=w.heap.size) :
  E_ A_ 14 #[pt X,str (At (Af 0::AJ 3 D9))] w λ e w'=>e=.returned (str (At (Bz (Af 0) [3,2] [])))/\Au w' X Y B hops settles 1 3 D9 none/\Kept (λ j=>j=X\/j=Y) w w' :=
 KC _ (Af 0) [3,2] (Ev (by omega)).1 (by decide) (by decide) (by decide) _ (λ _ _=>Au.kK) ((Kd 3 D9 h (by omega) (by decide) (by decide) hB).mono λ e w' ⟨g,he,hb,hs,k⟩=>⟨_,_,he,aY hb,hs,k⟩)
theorem au (h:Au w X Y B hops settles 1 3 D9 none) (hB:B<=w.heap.size) :
  E_ A_ 14 #[pt X,str (Af 1++32::Bl ([1,0,2].map dec))] w λ e w'=>e=.returned (str (At (Bz (Af 1) [3] [])))/\∃ x:Hx,x.es=D9/\Au w' X Y B hops settles 2 3 D9 (some x)/\Kept (λ j=>j=X\/j=Y) w w' :=
 KC _ (Af 1) [3] (Ev (by omega)).1 (by decide) (by decide) (by decide) (λ w'=>∃ x:Hx,x.es=D9/\Au w' X Y B hops settles 2 3 D9 (some x)/\Kept (λ j=>j=X\/j=Y) w w') (λ W W' ⟨x,h1,h2⟩ g=>⟨x,h1,Au.kK h2 g⟩)
  ((FD _ (Be [1,0,2]) (λ W=>Il [1,0,2] (by simp) (by decide) (by decide) (by unfold Bq Be;decide) W) h (by omega) (by decide) (by decide) (by omega) hB (by unfold Bq Be;decide) (.inr rfl)).mono λ e w' ⟨v,he,⟨g,x,hv,hb,hs,h1,_⟩,k⟩=>⟨_,_,he.trans (congrArg Ending.returned hv),qa hb,x,h1,hs,k⟩)
theorem j9 (x:Hx) (h:Au w X Y B hops settles 2 3 D9 (some x)) (hB:B<=w.heap.size) :
  E_ A_ 14 #[pt X,str (At [Af 7,dec 0,dec 1])] w λ e w'=>e=.returned (str (At (Bz (Af 7) [0,1] [])))/\Au w' X Y B hops settles 3 3 (BX D9 0 1) (some x)/\Kept (λ j=>j=X\/j=Y) w w' :=
 KC _ (Af 7) [0,1] (Ev (by omega)).1 (by decide) (by decide) (by decide) _ (λ _ _=>Au.kK) ((GD 0 1 h (by omega) (by decide) (by decide) (by decide) (by omega) hB).mono λ e w' ⟨g,he,hb,hs,k⟩=>⟨_,_,he,aY hb,hs,k⟩)
theorem Jc (s t f:Nat) (h:Au w X Y B hops settles ph N es hx) (DP:ph<=3) (hn:ph≠2) (hf:(Ft ph 2:Int)=f) (Ho:1<=f/\f<15) (hs:s<=4095) (ht:t<=4095) :
  E_ A_ 14 #[pt X,str (At [Af 3,dec s,dec t])] w λ e w'=>e=.returned (.string (IC f))/\Au w' X Y B hops settles ph N es hx/\Kept (λ j=>j=X\/j=Y) w w' :=
 aw w X _ f Ho _ (iZ s t f h DP hn hf Ho hs ht) (λ _ _=>Au.kK)
theorem av (x:Hx) (h:Au w X Y B hops settles 2 3 D9 (some x)) (Iw:x.es=D9) :
  E_ A_ 14 #[pt X,str (At [Af 2,dec 0,dec 2])] w λ e w'=>e=.returned (str (At (Bz (Af 2) [] [([0,1],9)])))/\Au w' X Y B hops settles 2 3 D9 (some x)/\Kept (λ j=>j=X\/j=Y) w w':=by
 have Kr:uG [([0,1],9)]:=λ r hr=>by simp at hr;subst hr;decide
 refine Nx w X _ (λ W u=>∃ g,u=Co 0 (Af 2) none 0 0 (some ⟨g,0,none⟩) 1 1/\mK W g) (bs (At (Bz (Af 2) [] [([0,1],9)]))) (λ w'=>Au w' X Y B hops settles 2 3 D9 (some x)/\Kept (λ j=>j=X\/j=Y) w w') ?_ ?_ (λ _ _=>Au.kK)
 ·refine(i6 x h Iw).mono ?_;rintro e w' ⟨g,rfl,hr,hs,k⟩;exact⟨_,rfl,⟨g,rfl,hr⟩,hs,k⟩
 ·rintro W u ⟨g,rfl,hr⟩;exact Je (Af 2) none (some ⟨g,0,none⟩) 0 1 [] [([0,1],9)] W (Ev (by omega)).1 (by decide) (λ i r hr=>by simp at hr) (by simp) (λ n hn=>by simp at hn) hr.row Kr (by simp) (by
   have h9:B7 ([0,1],9)=[57,58,48,46,49]:=by
    unfold B7;simp[dec_lt,Lib.join]
   show (At ([[111,107],Af 2]++[]++[B7 ([0,1],9)])).length<=100000;rw[h9];decide)
end
theorem d0:dec 0=[48]:=dec_lt (by omega)
theorem d1:dec 1=[49]:=dec_lt (by omega)
theorem d2:dec 2=[50]:=dec_lt (by omega)
theorem d3:dec 3=[51]:=dec_lt (by omega)
theorem d4:dec 4=[52]:=dec_lt (by omega)
theorem d5:dec 5=[53]:=dec_lt (by omega)
theorem uP:At (Af 0::AJ 3 D9)=[76,79,65,68,32,51,32,50,32,48,32,49,32,52,32,49,32,50,32,53]:=by
 have:AJ 3 D9=[dec 3,dec 2,dec 0,dec 1,dec 4,dec 1,dec 2,dec 5]:=rfl;rw[this,d0,d1,d2,d3,d4,d5];rfl
theorem qo:Af 1++32::Bl ([1,0,2].map dec)=[66,85,73,76,68,32,49,44,48,44,50]:=by
 have:[1,0,2].map dec=[dec 1,dec 0,dec 2]:=rfl;rw[this,d0,d1,d2];rfl
theorem ly:At (Bz (Af 0) [3,2] [])=[111,107,32,76,79,65,68,32,51,32,50]:=by
 have:Bz (Af 0) [3,2] []=[[111,107],Af 0,dec 3,dec 2]:=rfl;rw[this,d3,d2];rfl
theorem eY:At (Bz (Af 1) [3] [])=[111,107,32,66,85,73,76,68,32,51]:=by
 have:Bz (Af 1) [3] []=[[111,107],Af 1,dec 3]:=rfl;rw[this,d3];rfl
theorem qq:At [Af 2,dec 0,dec 2]=[82,79,85,84,69,32,48,32,50]:=by rw[d0,d2];rfl
theorem eZ:At (Bz (Af 2) [] [([0,1],9)])=[111,107,32,82,79,85,84,69,32,57,58,48,46,49]:=by
 have h9:B7 ([0,1],9)=[57,58,48,46,49]:=by
  unfold B7;simp[dec_lt,Lib.join]
 have:Bz (Af 2) [] [([0,1],9)]=[[111,107],Af 2,B7 ([0,1],9)]:=rfl;rw[this,h9];rfl
theorem zAn:At [Af 7,dec 0,dec 1]=[83,69,84,87,32,48,32,49]:=by rw[d0,d1];rfl
theorem qp:At (Bz (Af 7) [0,1] [])=[111,107,32,83,69,84,87,32,48,32,49]:=by
 have:Bz (Af 7) [0,1] []=[[111,107],Af 7,dec 0,dec 1]:=rfl;rw[this,d0,d1];rfl
theorem uO:At [Af 3,dec 0,dec 2]=[68,73,83,84,32,48,32,50]:=by rw[d0,d2];rfl
theorem bn:(IC 13).toList=[101,114,114,111,114,32,115,116,97,108,101]:=by
 have h:IC 13=bs [101,114,114,111,114,32]++bs [115,116,97,108,101]:=rfl;rw[h,AI,Al];rfl
theorem iN (w:F_):E_ A_ 7 #[] w λ e w'=>e=.returned (.bool true)/\Ac w w':=by
 have HN:=zh (ML 5 50 w (by omega) (by omega));have e1:((bs (At (Bz (Af 0) [3,2] []))).toList==[111,107,32,76,79,65,68,32,51,32,50])=true:=by rw[Al,ly];rfl
 have e2:((bs (At (Bz (Af 1) [3] []))).toList==[111,107,32,66,85,73,76,68,32,51])=true:=by rw[Al,eY];rfl
 have e3:((bs (At (Bz (Af 2) [] [([0,1],9)]))).toList==[111,107,32,82,79,85,84,69,32,57,58,48,46,49])=true:=by rw[Al,eZ];rfl
 have e4:((bs (At (Bz (Af 7) [0,1] []))).toList==[111,107,32,83,69,84,87,32,48,32,49])=true:=by rw[Al,qp];rfl
 have e5:((IC 13).toList==[101,114,114,111,114,32,115,116,97,108,101])=true:=by rw[bn];rfl
 obtain⟨a1,ha1⟩:=zn (At (Bz (Af 0) [3,2] []));obtain⟨a2,ha2⟩:=zn (At (Bz (Af 1) [3] []));obtain⟨a3,ha3⟩:=zn (At (Bz (Af 2) [] [([0,1],9)]));obtain⟨a4,ha4⟩:=zn (At (Bz (Af 7) [0,1] []));obtain⟨a5,ha5⟩:=zn (IC 13);rw[ha1]at e1;rw[ha2]at e2;rw[ha3]at e3;rw[ha4]at e4;rw[ha5]at e5;have HA:=Gt ha1 ha2 ha3 ha4 ha5;clear ha1 ha2 ha3 ha4 ha5;go_enter Tryz.func7,Tryz.ntmps7;go_wp2_with fail;refine HN.out.mono ?_;rintro e w1 ⟨X,Y,rfl,hX,hY,CR,g1⟩;obtain⟨B,hB⟩:=zn (w1.heap.size);rw[hB]at CR;have L1:=zh (ez CR (by omega));rw[uP,HA.out.1]at L1;have G1:=DS hX hY g1 hB;clear hX hY CR g1 hB HN;go_wp2_with fail;refine L1.out.mono ?_;rintro e w2 ⟨rfl,F9,k2⟩;have z2:=k2.size;have L2:=zh (au F9 (by have:=G1.out.2.2.2;omega));rw[qo,HA.out.2.1]at L2;have K2:=zh k2;clear F9 k2 L1;go_wp2_with fail;refine L2.out.mono ?_;rintro e w3 ⟨rfl,x,hx,hs3,k3⟩;have z3:=k3.size;have L3:=zh (av x hs3 hx);rw[qq,HA.out.2.2.1]at L3;have K3:=zh (K2.out.trans k3);clear hs3 k3 L2 K2;go_wp2_with fail;refine L3.out.mono ?_;rintro e w4 ⟨rfl,hs4,k4⟩;have z4:=k4.size;have L4:=zh (j9 x hs4 (by have:=G1.out.2.2.2;omega));rw[zAn,HA.out.2.2.2.1]at L4;have K4:=zh (K3.out.trans k4);clear hs4 k4 L3 K3;go_wp2_with fail;refine L4.out.mono ?_;rintro e w5 ⟨rfl,lV,k5⟩;have L5:=zh (Jc 0 2 13 lV (by omega) (by omega) (by decide) (by omega) (by omega) (by omega));rw[uO,HA.out.2.2.2.2]at L5;have K5:=zh (K4.out.trans k5);clear lV k5 L4 K4;go_wp2_with fail;refine L5.out.mono ?_;rintro e w6 ⟨rfl,_,k6⟩;have HF:Hid (Ac w w6):=G1.out.2.2.1.then (K5.out.trans k6) λ i hi h=>by
  have h1:=G1.out.1;have h2:=G1.out.2.1;omega
 clear k6 L5 K5;go_wp2_with fail;go_ret;exact⟨rfl,HF.out⟩
end Go.Proofs.YtepelooebggliaaGreatDoor
