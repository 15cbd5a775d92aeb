/- Walks of functions that the law reaches, and plain laws, part 18 of 20: lemmas for the proof in the last text; no condition. Shortened by program. -/
import Derived.Test.YtepelooebggliaaGreatDoorOv0
import Derived.Test.YtepelooebggliaaGreatDoorOv5
import Derived.Test.YtepelooebggliaaGreatDoorOv12
import Derived.Test.YtepelooebggliaaGreatDoorOv14
import Derived.Test.YtepelooebggliaaGreatDoorOv15
open Go.Proofs.Tryz renaming prog->A_,results62->B_
open Go renaming Calls->C_,World->D_
open Go.Value renaming oneCell'->E_
open Nat renaming le_trans->F_
set_option maxHeartbeats 16000000
set_option maxRecDepth 100000
set_option linter.unusedVariables false
set_option linter.unusedSimpArgs false
namespace Go.Proofs.YtepelooebggliaaGreatDoor
open Go.RowKit
structure uB (w:D_) (c:Cm) (s t:Nat) (b off:Nat):Prop where
 ai:c.ai=some ⟨b,off,none⟩
 ni:c.ni=2
 lt:b<w.heap.size
 c0:w.cell? ⟨b,off,none⟩=some (i64 s)
 c1:w.cell? ⟨b,off+1,none⟩=some (i64 t)
theorem FV (nm:List UInt8) (A:Option Addr) (n c:Nat) (w:D_):C_ A_ 101 #[str nm,.slice A n c,i64 0] w λ e w'=>e=.returned (CB 0 nm none 0 0 A n c)/\Af w w':=by
 have HB:=zh (zv w 42 #[i64 0,.string ⟨#[]⟩,.slice none 0 0,.slice none 0 0,.slice none 0 0]);have t6:=HB.out.setRow #[i64 0,str nm,.slice none 0 0,.slice A n c,.slice none 0 0];obtain⟨r0,r1,r2,r3,r4⟩:=Lo t6;have HF:Hid (Af w ((w.alloc (.cells #[i64 0,.string ⟨#[]⟩,.slice none 0 0,.slice none 0 0,.slice none 0 0] 42)).setRow w.heap.size #[i64 0,str nm,.slice none 0 0,.slice A n c,.slice none 0 0])):=(DL _ _ _).setRow (.inr (zl _)) _;clear t6;go_enter Tryz.func101,Tryz.ntmps101;go_wp2_with (refine wpList_store_rowTo rfl 42 (.tmp 6) (.tmp 13) rfl rfl w.heap.size #[i64 0,str nm,.slice none 0 0,.slice A n c,.slice none 0 0] (by rfl) (by rfl) 42 _ HB.out (by kernel_rfl) rfl (Ay (by simp[E_])) ?_);go_wp2_with fail;exact zy (v:=.agg #[i64 0,str nm,.slice none 0 0,.slice A n c,.slice none 0 0]) (by simp[results,Tryz.results101,go_sem,r0,r1,r2,r3,r4]) rfl ⟨rfl,HF.out⟩
def my (w:D_) (g:Nat):Prop:=∃ A c B,Ao w g 133 #[.slice A 2 c,u64 9]/\AS w B (.slice A 2 c) [0,1]
theorem my.row {w:D_} {g:Nat} (h:my w g):Gk w (some ⟨g,0,none⟩) [([0,1],9)]:=by
 obtain⟨A,c,B,hb,ho⟩:=h;obtain⟨A1,c1,hv,hr⟩:=ho.row;injection hv with e1 _ _;subst e1;intro i r L8;match i,L8 with
 | 0,L8 =>
  cases L8;exact⟨g,0,A,c,rfl,hb.lt,by have:=hb.cell 0;simpa using this,by have:=hb.cell 1;simpa using this,hr,λ a ha=>(ho.lt a.block (by rw[ha];rfl)).2⟩
 | _+1,L8=>simp at L8
theorem my.far {w w':D_} {g T:Nat} {t:TypeId} {cs:Array Value} (h:my w g) (k:Kept (λ j=>j=T) w w') (hT:Ao w T t cs) (h1:133≠t) (h2:3≠t):my w' g:=by
 obtain⟨A,c,B,hb,ho⟩:=h;exact⟨A,c,B,hb.kept k (AF hb hT h1),ho.kept k (λ j hj e=>by
  obtain⟨_,cur,hc⟩:=Ap ho hj;exact AF (show Ao w j 3 cur from hc) hT h2 e)⟩
theorem kH {w:D_} {X Y B:Nat} {Ah Ac:Int} (c:Cm) (x:Hx) (b off:Nat) (h:AB w X Y B Ah Ac 2 3 D9 (some x)) (M0:x.es=D9) (he:uB w c 0 2 b off) :
  C_ A_ 62 #[pt X,Dm c] w λ e w'=>(AB w' X Y B Ah Ac 2 3 D9 (some x)/\Af w w')/\∃ g,e=.returned (CB 0 c.nm none 0 0 (some ⟨g,0,none⟩) 1 1)/\my w' g:=by
 have h0:=zh h
 obtain⟨nm,ai,ni,ci,wv,aq,nq,cq,gn,ag,ng,cg,ar,nr,cr⟩:=c
 obtain⟨hai,hni,hbl,J4,Ju⟩:=he
 dsimp only at hai hni
 subst hai
 subst hni
 obtain⟨w1,AT,g1,b1⟩:=zb w #[str nm,.slice (some ⟨b,off,none⟩) 2 ci,u64 wv,.slice aq nq cq,i64 gn,.slice ag ng cg,.slice ar nr cr] 92 rfl
 obtain⟨w2,Cc,g2,b2⟩:=zb w1 #[i64 0,.string ⟨#[]⟩,.slice none 0 0,.slice none 0 0,.slice none 0 0] 42 rfl
 obtain⟨T,hT⟩:=zn (w1.heap.size)
 rw[hT]at b2
 obtain⟨T0,hT0⟩:=zn (w.heap.size)
 rw[hT0]at b1 hbl
 have h2:=h.grew (g1.trans g2)
 have hwT:w.heap.size<=T:=by rw[<- hT];exact g1.size
 have Bn:T0<T:=by rw[<- hT,<-hT0,<-AT];simp
 have x0:w2.cell? ⟨X,0,none⟩=some (pt Y):=by
  obtain⟨left,done,q1,_,q3⟩:=h2;have p:=Ao.cell q1 0;simp at p;exact p
 obtain⟨H,HH,HQ⟩:∃ H,Hid (C_ A_ 31 #[pt Y] w2 λ e w'=>e=.returned (.tuple #[pt H,i64 0])/\Af w2 w')/\Hid (∀ W,Af w2 W->C_ A_ 100 #[pt H,i64 0,i64 2] W λ e w'=>∃ v,e=.returned (.tuple #[.agg #[v,u64 9],i64 0])/\AS w' W.heap.size v [0,1]/\Af W w'):=by
  obtain⟨left,done,q1,q2,q3⟩:=h2;obtain⟨Ak,ck,ev,hv,c0,c1,c2,q⟩:=q2;obtain⟨H,rfl,hH,hO,_⟩:=q.hier;rw[M0]at hH hO;exact⟨H,KX q.blk,λ W k=>eE W H B x.rk x.ss x.out (hH.grew k) hO⟩
 have HC:Hid (∀ W',Af w2 W'->W'.cell? ⟨T0,0,none⟩=some (str nm)/\W'.cell? ⟨T0,1,none⟩=some (.slice (some ⟨b,off,none⟩) 2 ci)/\W'.cell? ⟨b,off,none⟩=some (i64 (0:Nat))/\W'.cell? ⟨b,off+1,none⟩=some (i64 (2:Nat))):=λ W' k=>by
  have b:=(b1.grew g2).grew k;have p0:=b.cell 0;have p1:=b.cell 1;simp at p0 p1;exact⟨p0,p1,ze ((g1.trans g2).trans k) J4,ze ((g1.trans g2).trans k) Ju⟩
 have HS:=Em h2 b2 (g1.trans g2) hwT
 clear h h2 b1 b2 g1 g2 hwT M0 J4 Ju hbl
 go_enter Tryz.func62,Tryz.ntmps62
 go_wp2_with fail
 refine HH.out.mono ?_
 rintro e w3 ⟨rfl,g3⟩
 have HQ3:=zh (HQ.out)
 have lq:Hid (∀ W',Af w3 W'->_):=λ W' k=>HC.out W' (g3.trans k)
 have G3:=zh g3
 have gz:Af w3 w3.drew:=(zr _ _).drew
 clear HH x0 AT Cc hT HC HQ hT0 g3
 go_upto_region 4 with fail
 refine rG [14] (λ _=>False) ?_
 refine pG 0 21 ?_
 refine pG 1 22 ?_
 refine tF 2 23 lq.out gz ?_
 refine pG 3 24 ?_
 refine tF 4 25 lq.out gz ?_
 refine pG 5 26 ?_
 refine tF 6 27 lq.out gz ?_
 refine pG 7 28 ?_
 refine tF 8 29 lq.out gz ?_
 refine AO 9 30 13 7 rfl rfl (by kernel_rfl) rfl rfl (by rfl) (by rfl) (λ K Al=>?_) (λ K Al=>?_)
 ·skip;go_simp;refine(HQ3.out _ (G3.out.trans gz)).mono ?_;rintro e y1 ⟨v,rfl,ho,k1⟩;obtain⟨Av,cv,rfl⟩:=At ho;rw[show ([0,1]:List Int).length=2 from rfl]at ho ⊢;refine Al (.tuple #[.agg #[.slice Av 2 cv,u64 9],i64 0]) _ (λ _=>k1) ?_;clear Al;simp only[sA];refine pG 10 20 ?_;refine pG 11 31 ?_;refine pG 12 32 ?_;refine sG 13 7 (λ K Al=>?_);go_simp;obtain⟨T7,sT⟩:=zn ((World.heap y1).size);obtain⟨y2,CN⟩:=zn ((World.alloc y1 (.cells #[.slice none 0 0,.int .u64 0] 133)));have k2:Af y1 y2:=by rw[<- CN];exact DL _ _ _
  have bT7:Ao y2 T7 133 #[.slice none 0 0,u64 0]:=by rw[<- CN,<-sT];exact zv _ _ _
  have nF:w3.heap.size<=T7:=by rw[<- sT];exact k1.size
  rw[CN,sT];clear CN sT;have ho:=ho.grew k2;refine Al (pt T7) _ (λ _=>k2) ?_;clear Al;simp only[sA];refine Du 14 (λ K Al=>?_);have HL:=Em ho ((G3.out.trans gz).trans (k1.trans k2)) nF ((k1.trans k2));have Mx:=zh bT7;clear ho nF;refine wp_store_row 133 (.tmp 7) (.tmp 31) rfl T7 #[.slice Av 2 cv,u64 9] rfl rfl 133 _ Mx.out (by kernel_rfl) rfl (Ay (by simp[E_])) ?_;refine Al _ (λ h=>absurd (by simp) h) ?_;clear Al;refine pG 15 6 ?_;refine dG ?_;have t7:=Mx.out.setRow #[.slice Av 2 cv,u64 9];obtain⟨q70,q71⟩:=BP t7;obtain⟨y3,CR⟩:=zn (y2.setRow T7 #[.slice Av 2 cv,u64 9]);rw[CR]at t7 q70 q71;have kT7:Kept (λ j=>j=T7) y2 y3:=by rw[<- CR];exact(zr (λ j=>j=T7) _).setRow (.inl rfl) _
  have Je:Af w3 y3:=by rw[<- CR];exact(gz.trans HL.out.2.2.2).setRow (.inr HL.out.2.2.1) _
  obtain⟨q0,q1,-,-⟩:=lq.out y3 Je;have E9:=HL.out.1.kept kT7 (λ j hj e=>by
   obtain⟨_,cur,hc⟩:=Ap HL.out.1 hj;exact AF (show Ao y2 j 3 cur from hc) Mx.out (by decide) e)
  have HX:=zh (show (∃ B',AS y3 B' (.slice Av 2 cv) [0,1])/\_ from ⟨⟨_,E9⟩,G3.out.trans Je⟩);obtain⟨g,hg⟩:=zn (y3.heap.size);clear t7 kT7 Je E9 HL Mx lq HQ3 G3 gz k1 k2;rw[CR];go_wp2_with fail;obtain⟨y4,FB,k4,b4⟩:=zb y3 #[.slice Av 2 cv,u64 9] 133 hg;refine(FV nm _ 1 1 _).mono ?_;rintro e y5 ⟨rfl,k5⟩;have k5:Af y4 y5:=by rw[<- FB];exact k5
  have b5:=b4.grew k5;have G5:=(HX.out.2.trans k4).trans k5;have HB:=zh (HS.out.2.1.grew G5);have t6:=HB.out.setRow #[i64 0,str nm,.slice none 0 0,.slice (some ⟨g,0,none⟩) 1 1,.slice none 0 0];obtain⟨r0,r1,r2,r3,r4⟩:=Lo t6;have kT:Kept (λ j=>j=T) y5 (y5.setRow T #[i64 0,str nm,.slice none 0 0,.slice (some ⟨g,0,none⟩) 1 1,.slice none 0 0]):=(zr (λ j=>j=T) _).setRow (.inl rfl) _;have HF:Hid ((AB (y5.setRow T #[i64 0,str nm,.slice none 0 0,.slice (some ⟨g,0,none⟩) 1 1,.slice none 0 0]) X Y B Ah Ac 2 3 D9 (some x)/\Af w (y5.setRow T #[i64 0,str nm,.slice none 0 0,.slice (some ⟨g,0,none⟩) 1 1,.slice none 0 0]))/\my (y5.setRow T #[i64 0,str nm,.slice none 0 0,.slice (some ⟨g,0,none⟩) 1 1,.slice none 0 0]) g):=by
   refine⟨⟨(HS.out.1.grew G5).far kT (Bl HB.out (by simp)),(HS.out.2.2.1.trans G5).setRow (.inr HS.out.2.2.2) _⟩,?_⟩;have MU:=b5.kept kT (AF b5 HB.out (by decide));obtain⟨B',hO⟩:=HX.out.1;have hO5:AS y5 B' (.slice Av 2 cv) [0,1]:=AS.grew hO (k4.trans k5);exact⟨Av,cv,B',MU,hO5.kept kT (λ j hj e=>by
    obtain⟨_,cur,hc⟩:=Ap hO5 hj;exact AF (show Ao y5 j 3 cur from hc) HB.out (by decide) e)⟩
  clear t6 kT k4 b4 b5 G5 FB hg q0 q70 q71 CR;go_wp2_with (refine wpList_store_rowTo rfl 42 (.tmp 4) (.tmp 38) rfl rfl T #[i64 0,str nm,.slice none 0 0,.slice (some ⟨g,0,none⟩) 1 1,.slice none 0 0] (by rfl) (by rfl) 42 _ HB.out (by kernel_rfl) rfl (Ay (by simp[E_])) ?_);go_wp2_with fail;exact zy (v:=.agg #[i64 0,str nm,.slice none 0 0,.slice (some ⟨g,0,none⟩) 1 1,.slice none 0 0]) (by simp[results,B_,go_sem,r0,r1,r2,r3,r4]) rfl ⟨HF.out.1,g,rfl,HF.out.2⟩
 ·skip;go_simp;obtain⟨T7,sT⟩:=zn ((World.heap w3).size);obtain⟨y1,Br⟩:=zn ((World.alloc w3 (.cells #[.slice none 0 0,.int .u64 0] 133)).drew);have k1:Af w3.drew y1:=by rw[<- Br];exact Kept.newD _ _ _
  have bT7:Ao y1 T7 133 #[.slice none 0 0,u64 0]:=by rw[<- Br,<-sT];exact zv _ _ _
  have nF:w3.heap.size<=T7:=by rw[<- sT];exact zl _
  rw[Br,sT];clear Br sT;refine Al (pt T7) _ (λ _=>k1) ?_;clear Al;simp only[sA];refine sG 9 30 (λ K Al=>?_);go_simp;refine(HQ3.out _ (G3.out.trans (gz.trans k1))).mono ?_;rintro e y2 ⟨v,rfl,ho,k2⟩;obtain⟨Av,cv,rfl⟩:=At ho;rw[show ([0,1]:List Int).length=2 from rfl]at ho ⊢;have bT7:=bT7.grew k2;refine Al (.tuple #[.agg #[.slice Av 2 cv,u64 9],i64 0]) _ (λ _=>k2) ?_;clear Al;simp only[sA];refine pG 10 20 ?_;refine pG 11 31 ?_;refine pG 12 32 ?_;refine Du 14 (λ K Al=>?_);have HL:=Em ho ((G3.out.trans gz).trans (k1.trans k2)) nF ((k1.trans k2));have Mx:=zh bT7;clear ho nF;refine wp_store_row 133 (.tmp 7) (.tmp 31) rfl T7 #[.slice Av 2 cv,u64 9] rfl rfl 133 _ Mx.out (by kernel_rfl) rfl (Ay (by simp[E_])) ?_;refine Al _ (λ h=>absurd (by simp) h) ?_;clear Al;refine pG 15 6 ?_;refine dG ?_;have t7:=Mx.out.setRow #[.slice Av 2 cv,u64 9];obtain⟨q70,q71⟩:=BP t7;obtain⟨y3,CR⟩:=zn (y2.setRow T7 #[.slice Av 2 cv,u64 9]);rw[CR]at t7 q70 q71;have kT7:Kept (λ j=>j=T7) y2 y3:=by rw[<- CR];exact(zr (λ j=>j=T7) _).setRow (.inl rfl) _
  have Je:Af w3 y3:=by rw[<- CR];exact(gz.trans HL.out.2.2.2).setRow (.inr HL.out.2.2.1) _
  obtain⟨q0,q1,-,-⟩:=lq.out y3 Je;have E9:=HL.out.1.kept kT7 (λ j hj e=>by
   obtain⟨_,cur,hc⟩:=Ap HL.out.1 hj;exact AF (show Ao y2 j 3 cur from hc) Mx.out (by decide) e)
  have HX:=zh (show (∃ B',AS y3 B' (.slice Av 2 cv) [0,1])/\_ from ⟨⟨_,E9⟩,G3.out.trans Je⟩);obtain⟨g,hg⟩:=zn (y3.heap.size);clear t7 kT7 Je E9 HL Mx lq HQ3 G3 gz k1 k2;rw[CR];go_wp2_with fail;obtain⟨y4,FB,k4,b4⟩:=zb y3 #[.slice Av 2 cv,u64 9] 133 hg;refine(FV nm _ 1 1 _).mono ?_;rintro e y5 ⟨rfl,k5⟩;have k5:Af y4 y5:=by rw[<- FB];exact k5
  have b5:=b4.grew k5;have G5:=(HX.out.2.trans k4).trans k5;have HB:=zh (HS.out.2.1.grew G5);have t6:=HB.out.setRow #[i64 0,str nm,.slice none 0 0,.slice (some ⟨g,0,none⟩) 1 1,.slice none 0 0];obtain⟨r0,r1,r2,r3,r4⟩:=Lo t6;have kT:Kept (λ j=>j=T) y5 (y5.setRow T #[i64 0,str nm,.slice none 0 0,.slice (some ⟨g,0,none⟩) 1 1,.slice none 0 0]):=(zr (λ j=>j=T) _).setRow (.inl rfl) _;have HF:Hid ((AB (y5.setRow T #[i64 0,str nm,.slice none 0 0,.slice (some ⟨g,0,none⟩) 1 1,.slice none 0 0]) X Y B Ah Ac 2 3 D9 (some x)/\Af w (y5.setRow T #[i64 0,str nm,.slice none 0 0,.slice (some ⟨g,0,none⟩) 1 1,.slice none 0 0]))/\my (y5.setRow T #[i64 0,str nm,.slice none 0 0,.slice (some ⟨g,0,none⟩) 1 1,.slice none 0 0]) g):=by
   refine⟨⟨(HS.out.1.grew G5).far kT (Bl HB.out (by simp)),(HS.out.2.2.1.trans G5).setRow (.inr HS.out.2.2.2) _⟩,?_⟩;have MU:=b5.kept kT (AF b5 HB.out (by decide));obtain⟨B',hO⟩:=HX.out.1;have hO5:AS y5 B' (.slice Av 2 cv) [0,1]:=AS.grew hO (k4.trans k5);exact⟨Av,cv,B',MU,hO5.kept kT (λ j hj e=>by
    obtain⟨_,cur,hc⟩:=Ap hO5 hj;exact AF (show Ao y5 j 3 cur from hc) HB.out (by decide) e)⟩
  clear t6 kT k4 b4 b5 G5 FB hg q0 q70 q71 CR;go_wp2_with (refine wpList_store_rowTo rfl 42 (.tmp 4) (.tmp 38) rfl rfl T #[i64 0,str nm,.slice none 0 0,.slice (some ⟨g,0,none⟩) 1 1,.slice none 0 0] (by rfl) (by rfl) 42 _ HB.out (by kernel_rfl) rfl (Ay (by simp[E_])) ?_);go_wp2_with fail;exact zy (v:=.agg #[i64 0,str nm,.slice none 0 0,.slice (some ⟨g,0,none⟩) 1 1,.slice none 0 0]) (by simp[results,B_,go_sem,r0,r1,r2,r3,r4]) rfl ⟨HF.out.1,g,rfl,HF.out.2⟩
section
variable {w:D_} {X Y B:Nat} {Ah Ac:Int} {ph N:Nat} {es:List AJ} {hx:Option Hx}
theorem AB.own_Y {W:D_} {b:Nat} {cs:Array Value} (h:AB W X Y B Ah Ac ph N es hx) (hb:Ao W b 3 cs):b≠Y:=by
 obtain⟨left,done,_,⟨Ak,ck,ev,hv,c0,c1,c2,q⟩,_⟩:=h;exact Ao.ne hb q.blk (by decide)
theorem Nb {W W':D_} {g T:Nat} {cs ds:Array Value} (hb:Ao W g 29 cs) (k:Kept (λ j=>j=T) W W') (hT:Ao W T 42 ds):Ao W' g 29 cs:=hb.kept k (Ao.ne hb hT (by decide))
theorem AB.farT {W W':D_} {T:Nat} {ds:Array Value} (h:AB W X Y B Ah Ac ph N es hx) (k:Kept (λ j=>j=T) W W') (hT:Ao W T 42 ds):AB W' X Y B Ah Ac ph N es hx:=h.far k (Bl hT (by simp))
theorem JX (N':Nat) (D8:List AJ) (h:AB w X Y B Ah Ac ph N es hx) (Dl:ph<=3) (hr:Au N' D8=0) (hl:D8.length<=800) (hB:B<=w.heap.size) :
  C_ A_ 10 #[pt X,str (Az (Am 0::AK N' D8))] w λ e w'=>∃ g,e=.returned (CB 0 (Am 0) (some ⟨g,0,none⟩) 2 2 none 0 0)/\Ao w' g 29 #[u64 (N':Int),u64 (D8.length:Int)]/\AB w' X Y B Ah Ac 1 N' D8 none/\Kept (λ j=>j=X\/j=Y) w w':=by
 refine(GO (λ _ _=>by kernel_rfl) (Az (Am 0::AK N' D8)) (Am 0) (NX N' D8) (λ W v=>∃ g,v=CB 0 (Am 0) (some ⟨g,0,none⟩) 2 2 none 0 0/\Ao W g 29 #[u64 (N':Int),u64 (D8.length:Int)]/\AB W X Y B Ah Ac 1 N' D8 none) h Dl
  (λ W=>dU N' D8 hr (by omega) W) (λ W W' c hc g=>⟨hc.1,hc.2.1,hc.2.2.imp λ B h=>Af.own g h⟩) oC (λ W c hc hn hs Da=>?_) ?_).mono ?_
 ·refine(ew c hs Dl N' D8 hc.1 hc.2.1 hc.row hr hl (F_ hB Da)).mono ?_;rintro e W' ⟨g,rfl,hb,MY,k⟩;exact⟨0,c.nm,_,2,2,none,0,0,rfl,⟨g,by rw[hn],hb,MY⟩,k⟩
 ·rintro W W' v T cs ⟨g,rfl,hb,hs⟩ k hT;exact⟨g,rfl,Nb hb k hT,hs.farT k hT⟩
 ·rintro e w' ⟨f,Mg,A,n,c1,A2,n2,c2,rfl,⟨g,hv,hb,hs⟩,k⟩;exact⟨g,by rw[hv],hb,hs,k⟩
def bP (N:Nat) (es:List AJ) (hx:Option Hx) (CC:List Int) (X Y B:Nat) (Ah Ac:Int) (W:D_) (v:Value):Prop :=
 ∃ g x,v=CB 0 (Am 1) (some ⟨g,0,none⟩) 1 1 none 0 0/\Ao W g 29 #[u64 (N:Int)]/\AB W X Y B Ah Ac 2 N es (some x)/\x.es=es/\(IG CC hx=x.rk\/IG CC hx=[])
theorem IP (line:List UInt8) (CC:List Int) (hP:∀ W,C_ A_ 34 #[str line] W λ e W'=>∃ c:Cm,e=.returned (.tuple #[Dm c,i64 0])/\c.nm=Am 1/\IM CC W' c/\Af W W') (h:AB w X Y B Ah Ac ph N es hx) (Dl:1<=ph/\ph<=3) (hr:Au N es=0) (hl:es.length<=800) (hN:N<=12) (hB:B<=w.heap.size) (Be:Bu CC) (hn:CC=[]\/CC.length=N) :
  C_ A_ 10 #[pt X,str line] w λ e w'=>∃ v,e=.returned v/\bP N es hx CC X Y B Ah Ac w' v/\Kept (λ j=>j=X\/j=Y) w w':=by
 refine(GO (λ _ _=>by kernel_rfl) line (Am 1) (IM CC) (bP N es hx CC X Y B Ah Ac) h Dl.2 hP (λ W W' c hc g=>⟨hc.1,hc.2.imp λ B h=>Af.own g h⟩) jl (λ W c hc D1 hs Da=>?_) ?_).mono ?_
 ·have yu:c.nr=0\/c.nr=N:=by
   rcases hn with hn | hn
   ·left;rw[hc.1,hn];rfl
   ·right;rw[hc.1,hn]
  refine(aN c hs Dl hr hl hN (F_ hB Da) CC hc.row Be hc.1.symm yu).mono ?_;rintro e W' ⟨g,x,rfl,hb,MY,h1,h2,k⟩;exact⟨0,c.nm,_,1,1,none,0,0,rfl,⟨g,x,by rw[D1],hb,MY,h1,h2⟩,k⟩
 ·rintro W W' v T cs ⟨g,x,rfl,hb,hs,h1,h2⟩ k hT;exact⟨g,x,rfl,Nb hb k hT,hs.farT k hT,h1,h2⟩
 ·rintro e w' ⟨f,Mg,A,n,c1,A2,n2,c2,rfl,hv,k⟩;exact⟨_,rfl,hv,k⟩
theorem cO (line:List UInt8) (hP:∀ W,C_ A_ 34 #[str line] W λ e W'=>∃ c:Cm,e=.returned (.tuple #[Dm c,i64 0])/\c.nm=Am 12/\True/\Af W W') (h:AB w X Y B Ah Ac ph N es hx) (Dl:ph<=3) :
  C_ A_ 10 #[pt X,str line] w λ e w'=>e=.returned (CB 0 (Am 12) none 0 0 none 0 0)/\AB w' X Y B Ah Ac 4 N es hx/\Kept (λ j=>j=X\/j=Y) w w':=by
 refine(GO (λ _ _=>by kernel_rfl) line (Am 12) (λ _ _=>True) (λ W v=>v=CB 0 (Am 12) none 0 0 none 0 0/\AB W X Y B Ah Ac 4 N es hx) h Dl hP (λ _ _ _ _ _=>trivial) oD (λ W c _ hn hs Da=>?_) ?_).mono ?_
 ·refine(ey c hs Dl).mono ?_;rintro e W' ⟨rfl,MY,k⟩;exact⟨0,c.nm,none,0,0,none,0,0,rfl,⟨by rw[hn],MY⟩,k⟩
 ·rintro W W' v T cs ⟨rfl,hs⟩ k hT;exact⟨rfl,hs.farT k hT⟩
 ·rintro e w' ⟨f,Mg,A,n,c1,A2,n2,c2,rfl,⟨hv,hs⟩,k⟩;exact⟨by rw[hv],hs,k⟩
def ij (e x:Nat):List Arg:=[⟨101,dec e,e,0⟩,⟨119,dec x,x,0⟩]
theorem mD (e x:Nat):Df ⟨[],0,[],0⟩ (ij e x)=⟨[(e:Int)],x,[],if 1<=x/\x<=4294967296 then 0 else 2⟩:=by
 simp[Df,ij,NJ]
theorem G0 (e x:Nat) (he:e<=16383) (hx:x<18446744073709551616) (f:Nat) (hf:(if 1<=x/\x<=4294967296 then (0:Int) else 2)=f) (w:D_) :
  C_ A_ 34 #[str (Az [Am 7,dec e,dec x])] w λ r w'=>∃ c:Cm,MC c f r/\c.nm=Am 7/\GD ⟨[(e:Int)],x,[],f⟩ w' c/\Af w w':=by
 have h1:=FP (Am 7) [dec e,dec x] 20 (λ y hy=>by
  simp at hy;rcases hy with rfl | rfl
  ·exact DD (k:=19) (by omega)
  ·exact DD (k:=19) (by omega))
 have h2:(Am 7).length=4:=rfl
 have hE:=mD e x
 rw[hf]at hE
 have:=GZ 7 (ij e x) (by omega) (by omega) (by omega) (by omega) rfl (λ a ha=>by
  simp[ij]at ha;rcases ha with rfl | rfl
  ·exact .inr (.inl ⟨rfl,CW (by omega),he⟩)
  ·exact .inr (.inr (.inr (.inr ⟨rfl,CW hx,hx⟩)))) (λ k hk=>by
  have Ka:k<2:=hk;rcases(show k=0\/k=1 by omega) with rfl | rfl
  ·rfl
  ·rfl) (λ a ha=>by
  simp[ij]at ha;rcases ha with rfl | rfl<;>exact EM _) (by
  show (Az [Am 7,dec e,dec x]).length<=65536;simp at h1;omega) (by simp[ij]) f (by rw[hE]) w
 rw[hE]at this
 exact this
theorem GD.one {s:St} {W:D_} {c:Cm} {z:Int} (h:GD s W c) (hz:s.zs=[z]):∃ b cs,c.ai=some ⟨b,0,none⟩/\c.ni=1/\Ao W b 3 cs/\W.cell? ⟨b,0,none⟩=some (i64 z):=by
 obtain⟨_,h2,B,h3⟩:=h;rw[hz]at h2 h3;obtain⟨A,k,hv,hr⟩:=h3.row;injection hv with e1 e2 _;obtain⟨b,off,hA,hb,hc⟩:=hr 0 z rfl;rcases h3.2 with ⟨_,h0⟩ | ⟨g,cap,cur,IB,_,hg,_⟩
 ·simp at h0
 ·injection IB with e3 _ _;rw[<- e1,e3]at hA;injection hA with hA;injection hA with rn bl;subst rn;subst bl;refine⟨_,cur,e3,h2,hg,by simpa using hc⟩
theorem JY (e x:Nat) (h:AB w X Y B Ah Ac ph N es hx) (Dl:1<=ph/\ph<=3) (hr:Au N es=0) (hl:es.length<=800) (he:e<es.length) (lO:1<=x/\x<=4294967296) (hB:B<=w.heap.size) :
  C_ A_ 10 #[pt X,str (Az [Am 7,dec e,dec x])] w λ r w'=>∃ g,r=.returned (CB 0 (Am 7) (some ⟨g,0,none⟩) 2 2 none 0 0)/\Ao w' g 29 #[u64 (e:Int),u64 (x:Int)]/\AB w' X Y B Ah Ac (if ph=2 then 3 else ph) N (Cl es e x) hx/\Kept (λ j=>j=X\/j=Y) w w':=by
 refine(GO (λ _ _=>by kernel_rfl) (Az [Am 7,dec e,dec x]) (Am 7) (λ W c=>GD ⟨[(e:Int)],x,[],(0:Nat)⟩ W c) (λ W v=>∃ g,v=CB 0 (Am 7) (some ⟨g,0,none⟩) 2 2 none 0 0/\Ao W g 29 #[u64 (e:Int),u64 (x:Int)]/\AB W X Y B Ah Ac (if ph=2 then 3 else ph) N (Cl es e x) hx) h Dl.2
  (λ W=>?_) (λ W W' c hc g=>⟨hc.1,hc.2.1,hc.2.2.imp λ B h=>Af.own g h⟩) OF (λ W c hc hn hs Da=>?_) ?_).mono ?_
 ·refine(G0 e x (by omega) (by omega) 0 (by rw[if_pos lO];rfl) W).mono ?_;rintro r W' ⟨c,hp,hn,hc,g⟩;rcases hp with ⟨_,rfl⟩ | ⟨h,_⟩
  ·exact⟨c,rfl,hn,hc,g⟩
  ·exact absurd rfl h
 ·obtain⟨b,cs,h1,h2,h3,h4⟩:=hc.one rfl;have rJ:c.wv=(x:Int):=hc.1;refine(eA c hs Dl hr hl e (by omega) b 0 h1 h2 h4 (hs.own_Y h3) (by rw[rJ];omega) (by rw[rJ];omega) (F_ hB Da)).mono ?_;rintro r W' ⟨g,rfl,hb,MY,k⟩;rw[rJ]at hb MY;exact⟨0,c.nm,_,2,2,none,0,0,rfl,⟨g,by rw[hn],hb,MY⟩,k⟩
 ·rintro W W' v T cs ⟨g,rfl,hb,hs⟩ k hT;exact⟨g,rfl,Nb hb k hT,hs.farT k hT⟩
 ·rintro r w' ⟨f,Mg,A,n,c1,A2,n2,c2,rfl,⟨g,hv,hb,hs⟩,k⟩;exact⟨g,by rw[hv],hb,hs,k⟩
theorem cP (e x:Nat) (h:AB w X Y B Ah Ac ph N es hx) (Dl:1<=ph/\ph<=3) (hr:Au N es=0) (hl:es.length<=800) (he:¬ e<es.length) (Fx:e<=16383) (lO:1<=x/\x<=4294967296) (hB:B<=w.heap.size) :
  C_ A_ 10 #[pt X,str (Az [Am 7,dec e,dec x])] w λ r w'=>r=.returned (BN 8)/\AB w' X Y B Ah Ac ph N es hx/\Kept (λ j=>j=X\/j=Y) w w':=by
 have hf:BW es (e:Int) (x:Int)=8:=by unfold BW;rw[if_neg (by omega)]
 refine(GO (λ _ _=>by kernel_rfl) (Az [Am 7,dec e,dec x]) (Am 7) (λ W c=>GD ⟨[(e:Int)],x,[],(0:Nat)⟩ W c) (λ W v=>v=BN 8/\AB W X Y B Ah Ac ph N es hx) h Dl.2
  (λ W=>?_) (λ W W' c hc g=>⟨hc.1,hc.2.1,hc.2.2.imp λ B h=>Af.own g h⟩) OF (λ W c hc hn hs Da=>?_) ?_).mono ?_
 ·refine(G0 e x Fx (by omega) 0 (by rw[if_pos lO];rfl) W).mono ?_;rintro r W' ⟨c,hp,hn,hc,g⟩;rcases hp with ⟨_,rfl⟩ | ⟨h,_⟩
  ·exact⟨c,rfl,hn,hc,g⟩
  ·exact absurd rfl h
 ·obtain⟨b,cs,h1,h2,h3,h4⟩:=hc.one rfl;have rJ:c.wv=(x:Int):=hc.1;refine(kJ c hs Dl hr hl e (by omega) b 0 h1 h2 h4 (hs.own_Y h3) (by rw[rJ];omega) (by rw[rJ,hf];decide) (F_ hB Da)).mono ?_;rintro r W' ⟨rfl,MY,k⟩;rw[rJ,hf];exact⟨8,[],none,0,0,none,0,0,rfl,⟨rfl,MY⟩,k⟩
 ·rintro W W' v T cs ⟨rfl,hs⟩ k hT;exact⟨rfl,hs.farT k hT⟩
 ·rintro r w' ⟨f,Mg,A,n,c1,A2,n2,c2,rfl,⟨hv,hs⟩,k⟩;exact⟨by rw[hv],hs,k⟩
theorem Ol (e x:Nat) (h:AB w X Y B Ah Ac ph N es hx) (Dl:ph<=3) (Fx:e<=16383) (CM:x<18446744073709551616) (lO:¬ (1<=x/\x<=4294967296)) :
  C_ A_ 10 #[pt X,str (Az [Am 7,dec e,dec x])] w λ r w'=>r=.returned (BN 2)/\AB w' X Y B Ah Ac ph N es hx/\Kept (λ j=>j=X) w w' :=
 xF (Az [Am 7,dec e,dec x]) 2 (by omega) h Dl λ W=>by
  refine(G0 e x Fx CM 2 (by rw[if_neg lO];rfl) W).mono ?_;rintro r W' ⟨c,hp,_,_,g⟩;rcases hp with ⟨h,_⟩ | ⟨_,rfl⟩
  ·cases h
  ·exact⟨rfl,g⟩
end
section
variable {w:D_} {X Y B:Nat} {Ah Ac:Int} {ph N:Nat} {es:List AJ} {hx:Option Hx}
def ig (s t:Nat):List Arg:=[⟨110,dec s,s,0⟩,⟨110,dec t,t,0⟩]
theorem mC (s t:Nat):Df ⟨[],0,[],0⟩ (ig s t)=⟨[(s:Int),(t:Int)],0,[],(0:Nat)⟩:=by
 simp[Df,ig,NJ]
theorem aa (i s t:Nat) (hi:i=2\/i=3) (hs:s<=4095) (ht:t<=4095) (w:D_) :
  C_ A_ 34 #[str (Az [Am i,dec s,dec t])] w λ r w'=>∃ c:Cm,r=.returned (.tuple #[Dm c,i64 0])/\c.nm=Am i/\GD ⟨[(s:Int),(t:Int)],0,[],(0:Nat)⟩ w' c/\Af w w':=by
 have h1:=FP (Am i) [dec s,dec t] 20 (λ y hy=>by
  simp at hy;rcases hy with rfl | rfl
  ·exact DD (k:=19) (by omega)
  ·exact DD (k:=19) (by omega))
 have h2:=(Et (i:=i) (by omega)).2.2.2.2
 have hE:=mC s t
 have:=GZ i (ig s t) (by omega) (by omega) (by omega) (by omega) (by rcases hi with rfl | rfl<;>rfl) (λ a ha=>by
  simp[ig]at ha;rcases ha with rfl | rfl
  ·exact .inl ⟨rfl,CW (by omega),hs⟩
  ·exact .inl ⟨rfl,CW (by omega),ht⟩) (λ k hk=>by
  have Ka:k<2:=hk;rcases(show k=0\/k=1 by omega) with rfl | rfl
  ·rfl
  ·rfl) (λ a ha=>by
  simp[ig]at ha;rcases ha with rfl | rfl<;>exact EM _) (by
  show (Az [Am i,dec s,dec t]).length<=65536;simp at h1;omega) (by simp[ig]) 0 (by rw[hE]) w
 rw[hE]at this
 refine this.mono ?_
 rintro r W' ⟨c,hp,hn,hc,g⟩
 rcases hp with ⟨_,rfl⟩ | ⟨h,_⟩
 ·exact⟨c,rfl,hn,hc,g⟩
 ·exact absurd rfl h
theorem GD.two {st:St} {W:D_} {c:Cm} {s t:Nat} (h:GD st W c) (hz:st.zs=[(s:Int),(t:Int)]):∃ b,uB W c s t b 0:=by
 obtain⟨_,h2,B,h3⟩:=h;rw[hz]at h2 h3;obtain⟨A,k,hv,hr⟩:=h3.row;injection hv with e1 e2 _;obtain⟨b,off,hA,hb,hc⟩:=hr 0 _ rfl;obtain⟨b',jV,Js,IT,xZ⟩:=hr 1 _ rfl;rcases h3.2 with ⟨_,h0⟩ | ⟨g,cap,cur,IB,_,hg,_⟩
 ·simp at h0
 ·injection IB with e3 _ _;rw[<- e1,e3]at hA Js;injection hA with hA;injection hA with rn bl;injection Js with Js;injection Js with hA1' hA2';subst rn bl hA1' hA2';exact⟨_,e3,h2,hb,by simpa using hc,by simpa using xZ⟩
theorem iD (s t f:Nat) (h:AB w X Y B Ah Ac ph N es hx) (Dl:ph<=3) (hn:ph≠2) (hf:(Gg ph 2:Int)=f) (OC:1<=f/\f<15) (hs:s<=4095) (ht:t<=4095) :
  C_ A_ 10 #[pt X,str (Az [Am 3,dec s,dec t])] w λ e w'=>e=.returned (BN f)/\AB w' X Y B Ah Ac ph N es hx/\Kept (λ j=>j=X\/j=Y) w w':=by
 refine(GO (λ _ _=>by kernel_rfl) (Az [Am 3,dec s,dec t]) (Am 3) (λ W c=>GD ⟨[(s:Int),(t:Int)],0,[],(0:Nat)⟩ W c) (λ W v=>v=BN f/\AB W X Y B Ah Ac ph N es hx) h (by omega) (λ W=>aa 3 s t (.inr rfl) hs ht W) (λ W W' c hc g=>⟨hc.1,hc.2.1,hc.2.2.imp λ B h=>Af.own g h⟩) oB (λ W c hc D1 lL Da=>?_) ?_).mono ?_
 ·refine(Ny c lL (by omega) hn f hf OC).mono ?_;rintro e W' ⟨rfl,MY,g⟩;exact⟨f,[],none,0,0,none,0,0,rfl,⟨rfl,MY⟩,Af.kept g⟩
 ·rintro W W' v T cs ⟨rfl,MY⟩ k hT;exact⟨rfl,MY.farT k hT⟩
 ·rintro e w' ⟨f',Mg,A,n,c1,A2,n2,c2,rfl,⟨hv,MY⟩,k⟩;exact⟨by rw[hv],MY,k⟩
theorem iF (x:Hx) (h:AB w X Y B Ah Ac 2 3 D9 (some x)) (M0:x.es=D9) :
  C_ A_ 10 #[pt X,str (Az [Am 2,dec 0,dec 2])] w λ e w'=>∃ g,e=.returned (CB 0 (Am 2) none 0 0 (some ⟨g,0,none⟩) 1 1)/\my w' g/\AB w' X Y B Ah Ac 2 3 D9 (some x)/\Kept (λ j=>j=X\/j=Y) w w':=by
 refine(GO (λ _ _=>by kernel_rfl) (Az [Am 2,dec 0,dec 2]) (Am 2) (λ W c=>GD ⟨[((0:Nat):Int),((2:Nat):Int)],0,[],(0:Nat)⟩ W c) (λ W v=>∃ g,v=CB 0 (Am 2) none 0 0 (some ⟨g,0,none⟩) 1 1/\my W g/\AB W X Y B Ah Ac 2 3 D9 (some x)) h (by omega) (λ W=>aa 2 0 2 (.inl rfl) (by omega) (by omega) W) (λ W W' c hc g=>⟨hc.1,hc.2.1,hc.2.2.imp λ B h=>Af.own g h⟩) jm (λ W c hc hn lL Da=>?_) ?_).mono ?_
 ·obtain⟨b,he⟩:=hc.two rfl;refine(kH c x b 0 lL M0 he).mono ?_;rintro e W' ⟨⟨MY,g⟩,g1,rfl,hb⟩;exact⟨0,c.nm,none,0,0,_,1,1,rfl,⟨g1,by rw[hn],hb,MY⟩,Af.kept g⟩
 ·rintro W W' v T cs ⟨g,rfl,hb,hs⟩ k hT;exact⟨g,rfl,hb.far k hT (by decide) (by decide),hs.farT k hT⟩
 ·rintro e w' ⟨f,Mg,A,n,c1,A2,n2,c2,rfl,⟨g,hv,hb,hs⟩,k⟩;exact⟨g,by rw[hv],hb,hs,k⟩
end
section
variable {w:D_} {X Y B:Nat} {Ah Ac:Int} {ph N:Nat} {es:List AJ} {hx:Option Hx}
theorem Hy (line nm:List UInt8) (nums:List Nat) (D1:CX nm) (hnl:nm.length<=5) (hn:nums.length<=5) (Hs:∀ n∈nums,n<100) (S:D_->Prop) (hS:∀ W W',S W->Af W W'->S W')
  (hDo:C_ A_ 10 #[pt X,str line] w λ e w'=>∃ A c,e=.returned (CB 0 nm A nums.length c none 0 0)/\EJ w' A (nums.map λ (n:Nat)=>(n:Int))/\S w') :
  C_ A_ 14 #[pt X,str line] w λ e w'=>e=.returned (str (Az (Bw nm nums [])))/\S w':=by
 have hlen:(Az (Bw nm nums [])).length<=100000:=by
  have h1:=FP [111,107] (nm::(nums.map dec++[])) 5 (λ y hy=>by
   rcases List.mem_cons.1 hy with rfl | hy
   ·exact hnl
   ·rw[List.append_nil]at hy;obtain⟨n,rB,rfl⟩:=List.mem_map.1 hy;have:=MM (Hs n rB);omega)
  have h2:Az (Bw nm nums [])=Az ([111,107]::(nm::(nums.map dec++[]))):=rfl;rw[h2];simp at h1 ⊢;omega
 refine M9 w X line (λ W u=>∃ A c,u=CB 0 nm A nums.length c none 0 0/\EJ W A (nums.map λ (n:Nat)=>(n:Int))) (bs (Az (Bw nm nums []))) S ?_ ?_ hS
 ·refine hDo.mono ?_;rintro e w' ⟨A,c,rfl,hu,hs⟩;exact⟨_,rfl,⟨A,c,rfl,hu⟩,hs⟩
 ·rintro W u ⟨A,c,rfl,hu⟩;exact I2 nm A none c 0 nums [] W D1 (by omega) hu (by omega) Hs (λ i r hr=>by simp at hr) (λ r hr=>by simp at hr) (by simp) hlen
theorem aI {g:Nat} {a b:Nat} {W:D_} (h:Ao W g 29 #[u64 (a:Int),u64 (b:Int)]):EJ W (some ⟨g,0,none⟩) ([a,b].map λ (n:Nat)=>(n:Int)):=EJ.blk (l:=[(a:Int),(b:Int)]) h
theorem pP {g:Nat} {a:Nat} {W:D_} (h:Ao W g 29 #[u64 (a:Int)]):EJ W (some ⟨g,0,none⟩) ([a].map λ (n:Nat)=>(n:Int)):=EJ.blk (l:=[(a:Int)]) h
theorem AB.kK {W W':D_} (h:AB W X Y B Ah Ac ph N es hx/\Kept (λ j=>j=X\/j=Y) w W) (g:Af W W'):AB W' X Y B Ah Ac ph N es hx/\Kept (λ j=>j=X\/j=Y) w W':=⟨h.1.grew g,h.2.grew g⟩
theorem dO (h:AB w X Y B Ah Ac 0 0 [] none) (hB:B<=w.heap.size) :
  C_ A_ 14 #[pt X,str (Az (Am 0::AK 3 D9))] w λ e w'=>e=.returned (str (Az (Bw (Am 0) [3,2] [])))/\AB w' X Y B Ah Ac 1 3 D9 none/\Kept (λ j=>j=X\/j=Y) w w' :=
 Hy _ (Am 0) [3,2] (Et (by omega)).1 (by decide) (by decide) (by decide) _ (λ _ _=>AB.kK) ((JX 3 D9 h (by omega) (by decide) (by decide) hB).mono λ e w' ⟨g,he,hb,hs,k⟩=>⟨_,_,he,aI hb,hs,k⟩)
theorem OW (h:AB w X Y B Ah Ac 1 3 D9 none) (hB:B<=w.heap.size) :
  C_ A_ 14 #[pt X,str (Am 1++32::Bm ([1,0,2].map dec))] w λ e w'=>e=.returned (str (Az (Bw (Am 1) [3] [])))/\∃ x:Hx,x.es=D9/\AB w' X Y B Ah Ac 2 3 D9 (some x)/\Kept (λ j=>j=X\/j=Y) w w' :=
 Hy _ (Am 1) [3] (Et (by omega)).1 (by decide) (by decide) (by decide) (λ w'=>∃ x:Hx,x.es=D9/\AB w' X Y B Ah Ac 2 3 D9 (some x)/\Kept (λ j=>j=X\/j=Y) w w') (λ W W' ⟨x,h1,h2⟩ g=>⟨x,h1,AB.kK h2 g⟩)
  ((IP _ (Bc [1,0,2]) (λ W=>Ih [1,0,2] (by simp) (by decide) (by decide) (by unfold Bu Bc;decide) W) h (by omega) (by decide) (by decide) (by omega) hB (by unfold Bu Bc;decide) (.inr rfl)).mono λ e w' ⟨v,he,⟨g,x,hv,hb,hs,h1,_⟩,k⟩=>⟨_,_,he.trans (congrArg Ending.returned hv),pP hb,x,h1,hs,k⟩)
theorem jK (x:Hx) (h:AB w X Y B Ah Ac 2 3 D9 (some x)) (hB:B<=w.heap.size) :
  C_ A_ 14 #[pt X,str (Az [Am 7,dec 0,dec 1])] w λ e w'=>e=.returned (str (Az (Bw (Am 7) [0,1] [])))/\AB w' X Y B Ah Ac 3 3 (Cl D9 0 1) (some x)/\Kept (λ j=>j=X\/j=Y) w w' :=
 Hy _ (Am 7) [0,1] (Et (by omega)).1 (by decide) (by decide) (by decide) _ (λ _ _=>AB.kK) ((JY 0 1 h (by omega) (by decide) (by decide) (by decide) (by omega) hB).mono λ e w' ⟨g,he,hb,hs,k⟩=>⟨_,_,he,aI hb,hs,k⟩)
theorem M8 (h:AB w X Y B Ah Ac ph N es hx) (Dl:ph<=3) :
  C_ A_ 14 #[pt X,str (Am 12)] w λ e w'=>e=.returned (str (Az (Bw (Am 12) [] [])))/\AB w' X Y B Ah Ac 4 N es hx/\Kept (λ j=>j=X\/j=Y) w w':=by
 have hj:Az (Am 12::[])=Am 12:=by simp[Az,Dv]
 refine Hy _ (Am 12) [] (Et (by omega)).1 (by decide) (by decide) (by decide) _ (λ _ _=>AB.kK) ((cO _ (λ W=>?_) h Dl).mono λ e w' ⟨he,hs,k⟩=>⟨none,0,he,λ i r hr=>by simp at hr,hs,k⟩)
 have:=GZ 12 [] (by omega) (by omega) (by omega) (by omega) rfl (λ a ha=>by simp at ha) (λ k hk=>by simp at hk) (λ a ha=>by simp at ha) (by show (Az (Am 12::[])).length<=65536;rw[hj];decide) (by simp) 0 rfl W
 rw[List.map_nil,hj]at this
 refine this.mono ?_
 rintro r W' ⟨c,hp,hn,hc,g⟩
 rcases hp with ⟨_,rfl⟩ | ⟨h,_⟩
 ·exact⟨c,rfl,hn,trivial,g⟩
 ·exact absurd rfl h
theorem OX (s t f:Nat) (h:AB w X Y B Ah Ac ph N es hx) (Dl:ph<=3) (hn:ph≠2) (hf:(Gg ph 2:Int)=f) (OC:1<=f/\f<15) (hs:s<=4095) (ht:t<=4095) :
  C_ A_ 14 #[pt X,str (Az [Am 3,dec s,dec t])] w λ e w'=>e=.returned (.string (MO f))/\AB w' X Y B Ah Ac ph N es hx/\Kept (λ j=>j=X\/j=Y) w w' :=
 pb w X _ f OC _ (iD s t f h Dl hn hf OC hs ht) (λ _ _=>AB.kK)
theorem OY (x:Hx) (h:AB w X Y B Ah Ac 2 3 D9 (some x)) (M0:x.es=D9) :
  C_ A_ 14 #[pt X,str (Az [Am 2,dec 0,dec 2])] w λ e w'=>e=.returned (str (Az (Bw (Am 2) [] [([0,1],9)])))/\AB w' X Y B Ah Ac 2 3 D9 (some x)/\Kept (λ j=>j=X\/j=Y) w w':=by
 have Kd:uf [([0,1],9)]:=λ r hr=>by simp at hr;subst hr;decide
 refine M9 w X _ (λ W u=>∃ g,u=CB 0 (Am 2) none 0 0 (some ⟨g,0,none⟩) 1 1/\my W g) (bs (Az (Bw (Am 2) [] [([0,1],9)]))) (λ w'=>AB w' X Y B Ah Ac 2 3 D9 (some x)/\Kept (λ j=>j=X\/j=Y) w w') ?_ ?_ (λ _ _=>AB.kK)
 ·refine(iF x h M0).mono ?_;rintro e w' ⟨g,rfl,hr,hs,k⟩;exact⟨_,rfl,⟨g,rfl,hr⟩,hs,k⟩
 ·rintro W u ⟨g,rfl,hr⟩;exact I2 (Am 2) none (some ⟨g,0,none⟩) 0 1 [] [([0,1],9)] W (Et (by omega)).1 (by decide) (λ i r hr=>by simp at hr) (by simp) (λ n hn=>by simp at hn) hr.row Kd (by simp) (by
   have h9:Cb ([0,1],9)=[57,58,48,46,49]:=by
    unfold Cb;simp[dec_lt,Lib.join]
   show (Az ([[111,107],Am 2]++[]++[Cb ([0,1],9)])).length<=100000;rw[h9];decide)
end
theorem d0:dec 0=[48]:=dec_lt (by omega)
theorem d1:dec 1=[49]:=dec_lt (by omega)
theorem d2:dec 2=[50]:=dec_lt (by omega)
theorem d3:dec 3=[51]:=dec_lt (by omega)
theorem d4:dec 4=[52]:=dec_lt (by omega)
theorem d5:dec 5=[53]:=dec_lt (by omega)
theorem ux:Az (Am 0::AK 3 D9)=[76,79,65,68,32,51,32,50,32,48,32,49,32,52,32,49,32,50,32,53]:=by
 have:AK 3 D9=[dec 3,dec 2,dec 0,dec 1,dec 4,dec 1,dec 2,dec 5]:=rfl;rw[this,d0,d1,d2,d3,d4,d5];rfl
theorem qb:Am 1++32::Bm ([1,0,2].map dec)=[66,85,73,76,68,32,49,44,48,44,50]:=by
 have:[1,0,2].map dec=[dec 1,dec 0,dec 2]:=rfl;rw[this,d0,d1,d2];rfl
theorem kR:Az (Bw (Am 0) [3,2] [])=[111,107,32,76,79,65,68,32,51,32,50]:=by
 have:Bw (Am 0) [3,2] []=[[111,107],Am 0,dec 3,dec 2]:=rfl;rw[this,d3,d2];rfl
theorem eC:Az (Bw (Am 1) [3] [])=[111,107,32,66,85,73,76,68,32,51]:=by
 have:Bw (Am 1) [3] []=[[111,107],Am 1,dec 3]:=rfl;rw[this,d3];rfl
theorem qd:Az [Am 2,dec 0,dec 2]=[82,79,85,84,69,32,48,32,50]:=by rw[d0,d2];rfl
theorem eD:Az (Bw (Am 2) [] [([0,1],9)])=[111,107,32,82,79,85,84,69,32,57,58,48,46,49]:=by
 have h9:Cb ([0,1],9)=[57,58,48,46,49]:=by
  unfold Cb;simp[dec_lt,Lib.join]
 have:Bw (Am 2) [] [([0,1],9)]=[[111,107],Am 2,Cb ([0,1],9)]:=rfl;rw[this,h9];rfl
theorem zI:Az [Am 7,dec 0,dec 1]=[83,69,84,87,32,48,32,49]:=by rw[d0,d1];rfl
theorem qc:Az (Bw (Am 7) [0,1] [])=[111,107,32,83,69,84,87,32,48,32,49]:=by
 have:Bw (Am 7) [0,1] []=[[111,107],Am 7,dec 0,dec 1]:=rfl;rw[this,d0,d1];rfl
theorem uw:Az [Am 3,dec 0,dec 2]=[68,73,83,84,32,48,32,50]:=by rw[d0,d2];rfl
theorem qe:(MO 13).toList=[101,114,114,111,114,32,115,116,97,108,101]:=by
 have h:MO 13=bs [101,114,114,111,114,32]++bs [115,116,97,108,101]:=rfl;rw[h,By,Ax];rfl
theorem ik (w:D_):C_ A_ 7 #[] w λ e w'=>e=.returned (.bool true)/\Af w w':=by
 have HN:=zh (Mr 5 50 w (by omega) (by omega));have e1:((bs (Az (Bw (Am 0) [3,2] []))).toList==[111,107,32,76,79,65,68,32,51,32,50])=true:=by rw[Ax,kR];rfl
 have e2:((bs (Az (Bw (Am 1) [3] []))).toList==[111,107,32,66,85,73,76,68,32,51])=true:=by rw[Ax,eC];rfl
 have e3:((bs (Az (Bw (Am 2) [] [([0,1],9)]))).toList==[111,107,32,82,79,85,84,69,32,57,58,48,46,49])=true:=by rw[Ax,eD];rfl
 have e4:((bs (Az (Bw (Am 7) [0,1] []))).toList==[111,107,32,83,69,84,87,32,48,32,49])=true:=by rw[Ax,qc];rfl
 have e5:((MO 13).toList==[101,114,114,111,114,32,115,116,97,108,101])=true:=by rw[qe];rfl
 obtain⟨a1,sV⟩:=zn (Az (Bw (Am 0) [3,2] []));obtain⟨a2,ha2⟩:=zn (Az (Bw (Am 1) [3] []));obtain⟨a3,ha3⟩:=zn (Az (Bw (Am 2) [] [([0,1],9)]));obtain⟨a4,ha4⟩:=zn (Az (Bw (Am 7) [0,1] []));obtain⟨a5,ha5⟩:=zn (MO 13);rw[sV]at e1;rw[ha2]at e2;rw[ha3]at e3;rw[ha4]at e4;rw[ha5]at e5;have HA:=Fo sV ha2 ha3 ha4 ha5;clear sV ha2 ha3 ha4 ha5;go_enter Tryz.func7,Tryz.ntmps7;go_wp2_with fail;refine HN.out.mono ?_;rintro e w1 ⟨X,Y,rfl,hX,hY,C5,g1⟩;obtain⟨B,hB⟩:=zn (w1.heap.size);rw[hB]at C5;have L1:=zh (dO C5 (by omega));rw[ux,HA.out.1]at L1;have G1:=Em hX hY g1 hB;clear hX hY C5 g1 hB HN;go_wp2_with fail;refine L1.out.mono ?_;rintro e w2 ⟨rfl,Gf,k2⟩;have z2:=k2.size;have L2:=zh (OW Gf (by have:=G1.out.2.2.2;omega));rw[qb,HA.out.2.1]at L2;have K2:=zh k2;clear Gf k2 L1;go_wp2_with fail;refine L2.out.mono ?_;rintro e w3 ⟨rfl,x,hx,hs3,k3⟩;have z3:=k3.size;have L3:=zh (OY x hs3 hx);rw[qd,HA.out.2.2.1]at L3;have K3:=zh (K2.out.trans k3);clear hs3 k3 L2 K2;go_wp2_with fail;refine L3.out.mono ?_;rintro e w4 ⟨rfl,hs4,k4⟩;have z4:=k4.size;have L4:=zh (jK x hs4 (by have:=G1.out.2.2.2;omega));rw[zI,HA.out.2.2.2.1]at L4;have K4:=zh (K3.out.trans k4);clear hs4 k4 L3 K3;go_wp2_with fail;refine L4.out.mono ?_;rintro e w5 ⟨rfl,lJ,k5⟩;have L5:=zh (OX 0 2 13 lJ (by omega) (by omega) (by decide) (by omega) (by omega) (by omega));rw[uw,HA.out.2.2.2.2]at L5;have K5:=zh (K4.out.trans k5);clear lJ k5 L4 K4;go_wp2_with fail;refine L5.out.mono ?_;rintro e w6 ⟨rfl,_,k6⟩;have HF:Hid (Af w w6):=G1.out.2.2.1.then (K5.out.trans k6) λ i hi h=>by
  have h1:=G1.out.1;have h2:=G1.out.2.1;omega
 clear k6 L5 K5;go_wp2_with fail;go_ret;exact⟨rfl,HF.out⟩
end Go.Proofs.YtepelooebggliaaGreatDoor
