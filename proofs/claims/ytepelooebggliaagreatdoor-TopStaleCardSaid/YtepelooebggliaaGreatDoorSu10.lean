/- Walks of functions that the law reaches, and plain laws, part 11 of 21: lemmas for the proof in the last text; no condition. Shortened by program. -/
import Derived.Deep.QuietTactic
import Derived.BigQuiet
import Derived.Laws.AppendOwn
import Derived.Laws.AppendOwnNone
import Derived.RangeFuncBox
import Derived.RangeFuncLeaves
import Derived.RangeFuncCalls
import Derived.Test.YtepelooebggliaaGreatDoorSu0
import Derived.Test.YtepelooebggliaaGreatDoorSu2
import Derived.Test.YtepelooebggliaaGreatDoorSu3
import Derived.Test.YtepelooebggliaaGreatDoorSu5
import Derived.Test.YtepelooebggliaaGreatDoorSu6
import Derived.Test.YtepelooebggliaaGreatDoorSu7
import Derived.Test.YtepelooebggliaaGreatDoorSu8
open Go.Proofs.Tryz renaming underlying26->A_,prog->B_,results56->C_,ntmps56->D_,func56->E_,results139->F_
open Go.World renaming size_alloc->G_,ownsRow->H_
open Go renaming World->I_,Value->J_,Calls->K_
open Go.Exit renaming noGoto_ret->L_
open Go.Builtin renaming append_->M_,nextslicecap->N_,zeroCells->O_
open List renaming getD_eq_getElem?_getD->Pa,length_append->Pb,length_map->Pc
open Nat renaming le_trans->Pd,one_ne_zero->Pe
set_option maxHeartbeats 16000000
set_option maxRecDepth 100000
set_option linter.unusedVariables false
set_option linter.unusedSimpArgs false
namespace Go.Proofs.YtepelooebggliaaGreatDoor
open Go.RowKit
def BW (es:List AB) (e x:Int):Nat:=if 0<=e/\e<es.length then (if 1<=x/\x<=4294967296 then 0 else 2) else 8
theorem kV {es:List AB} {e:Nat} {y:Int} (he:e<es.length) (hy:(es.getD e (0,0,0)).2.2=y):BX es e y=es:=by
 unfold BX;rw[Pa,zq he]at hy ⊢;simp only[Option.getD_some]at hy ⊢;rw[<- hy];exact List.set_getElem_self he
theorem gJ {w:I_} {B g n c s:Nat} {t:TypeId} {xs:List J_} (h:w.ownsRow B t s (.slice (some ⟨g,0,none⟩) n c) n xs):∃ cs,Am w g t cs:=by
 obtain⟨_,c,hc⟩:=Ao h rfl;exact⟨c,hc⟩
theorem rm (n:Int) (A:Option Addr) (c:Nat) (es:List AB) (e x:Int) (w:I_) (h:Bj w A es) (hl:es.length<=100000) (hr:Aq n es=0) (hb:BW es e x≠0) :
  K_ B_ 193 #[.agg #[i64 n,.slice A es.length c],i64 e,u64 x] w λ r w'=>r=.returned (.tuple #[.agg #[i64 0,.slice none 0 0],i64 (BW es e x)])/\Ac w w':=by
 unfold BW at hb ⊢
 by_cases he:0<=e/\e<es.length
 ·obtain⟨k,rfl⟩:∃ k:Nat,e=(k:Int):=⟨e.toNat,by omega⟩;rw[if_pos he]at hb ⊢;by_cases hx:1<=x/\x<=4294967296
  ·rw[if_pos hx]at hb;exact absurd rfl hb
  ·rw[if_neg hx];exact rp n A c es k x w h hl hr (by omega) hx
 ·rw[if_neg he];exact rn n A c es e x w h hl hr he
theorem mQ (n:Int) (A:Option Addr) (c C:Nat) (es:List AB) (e x:Int) (w:I_) (h:Bj w A es) (hl:es.length<=100000) (hr:Aq n es=0) (hb:BW es e x≠0) (c0:w.cell? ⟨C,0,none⟩=some (i64 e)) (c1:w.cell? ⟨C,1,none⟩=some (u64 x)) :
  K_ B_ 139 #[.agg #[i64 n,.slice A es.length c],.slice (some ⟨C,0,none⟩) 1 1] w λ r w'=>r=.returned (.tuple #[.agg #[i64 0,.slice none 0 0],i64 0,i64 (BW es e x)])/\Ac w w':=by
 have bN:Am (w.alloc (.cells #[i64 n,.slice A es.length c] 24)) w.heap.size 24 #[i64 n,.slice A es.length c]:=zv _ _ _
 obtain⟨w1,AQ,g1⟩:=zg w (.cells #[i64 n,.slice A es.length c] 24)
 have s1:w1.heap.size=w.heap.size+1:=by rw[<- AQ];simp
 rw[AQ]at bN
 have bR:Am (w1.alloc (.cells #[i64 0,.slice none 0 0] 24)) w1.heap.size 24 #[i64 0,.slice none 0 0]:=zv _ _ _
 have g12:Ac w1 (w1.alloc (.cells #[i64 0,.slice none 0 0] 24)):=(zr _ _).alloc _
 obtain⟨w2,BM⟩:=zn (w1.alloc (.cells #[i64 0,.slice none 0 0] 24))
 rw[BM]at bR g12
 have g2:=g1.trans g12
 obtain⟨L,hL⟩:=zn (es.length)
 obtain⟨code,Kj⟩:=zn (BW es e x)
 have HR:=zh (CH n A c es w2 (h.grew g2) hl)
 have H0:=JQ g2 h hL (bN.grew g12) bR s1
 have HQ:=Gt hl hr Kj ((⟨ze g2 c0,ze g2 c1⟩:w2.cell? ⟨C,0,none⟩=some (i64 e)/\w2.cell? ⟨C,1,none⟩=some (u64 x))) hb
 rw[hL,hr]at HR
 rw[hL]at AQ ⊢
 rw[Kj]
 obtain⟨x0,x1⟩:=CE ((bN.grew g12))
 rw[hL]at x1
 clear bN bR g1 g12 g2 s1 h hl hr hL Kj hb c0 c1
 go_enter Tryz.func139,Tryz.ntmps139
 go_wp2_with fail
 refine Eo (λ _ _ _ _=>False) ?_ (λ _ _ _ _ h=>h.elim)
 go_wp2_with fail
 refine HR.out.mono ?_
 rintro r w3 ⟨rfl,g3⟩
 have HC:=zh (C4 n A c es w3 ((H0.out.2.1.grew H0.out.1).grew g3) HQ.out.1)
 rw[H0.out.2.2.1]at HC
 have b3:=H0.out.2.2.2.1.grew g3
 obtain⟨x0,x1⟩:=CE b3
 rw[H0.out.2.2.1]at x1
 have G3:=zh g3
 clear HR b3 g3
 go_wp2_with fail
 refine HC.out.mono ?_
 rintro r w4 ⟨v,rfl,ho,g4⟩
 obtain⟨A1,Mf,hv,AY⟩:=ho.row
 rw[H0.out.2.2.1]at hv
 subst hv
 obtain⟨w5,zA,g5,b5⟩:=zb w4 #[i64 n,.slice A1 L Mf] 24 rfl
 have c50:=ze ((G3.out.trans g4).trans g5) HQ.out.2.2.2.1.1
 have c51:=ze ((G3.out.trans g4).trans g5) HQ.out.2.2.2.1.2
 obtain⟨w6,lX,g6,b6⟩:=zb w5 #[i64 e,u64 x] 216 rfl
 have x6:=b6.cell 0
 have y6:=b6.cell 1
 have x5:=(b5.grew g6).cell 0
 have y5:=(b5.grew g6).cell 1
 simp at x6 y6 x5 y5
 have HW:=zh (rm n A1 Mf es e x w6 (AY.grew (g5.trans g6)) HQ.out.1 HQ.out.2.1 HQ.out.2.2.2.2)
 rw[H0.out.2.2.1,HQ.out.2.2.1]at HW
 have LQ:(code:Int)≠0:=by have h1:=HQ.out.2.2.2.2;have h2:=HQ.out.2.2.1;omega
 have hcz2:((code:Int) != 0)=true:=by simpa using LQ
 have HE:=BP (((((H0.out.1.trans G3.out).trans g4).trans g5).trans g6)) (H0.out.2.2.2.2.1.grew (((G3.out.trans g4).trans g5).trans g6))
 have LI:=zh H0.out.2.2.2.2.2
 clear HC ho g4 AY g5 b5 g6 b6 H0 HQ G3
 go_wp2_with fail
 go_step3
 go_wp2_with fail
 go_loopw [20] (λ i wr=>i=.int .i64 0/\wr=w5) (λ i _=>1-(intOf i).toNat)
 case atStart=>exact⟨rfl,rfl⟩
 case round =>
  obtain⟨rfl,rfl⟩:=hrel;go_wp2_with fail;refine HW.out.mono ?_;rintro r w7 ⟨rfl,g7⟩;have g8:Ac w7 (w7.alloc (.cells #[i64 0,.slice none 0 0] 24)):=(zr _ _).alloc _;have hb:=HE.out.2.grew (g7.trans g8);obtain⟨t5,t6⟩:=F3 hb (i64 0) (.slice none 0 0);have z0:=hb.frozen 0;have z1:=(hb.set 0 (i64 0)).frozen 1;have z2:=hb.cell 0;have z3:=(hb.set 0 (i64 0)).cell 1;have q0:=t5.cell 0;have q1:=t5.cell 1;simp at z2 z3 q0 q1;have HF:Hid (Ac w (((w7.alloc (.cells #[i64 0,.slice none 0 0] 24)).setCell ⟨w1.heap.size,0,none⟩ (i64 0)).setCell ⟨w1.heap.size,1,none⟩ (.slice none 0 0))):=((HE.out.1.trans g7).trans g8).then t6 (λ i hi h=>by have:=LI.out;omega);clear HE LI g7 g8 hb t5 t6 HW;go_wp2_with fail;rw[jumpsTo_ret];exact zy (v:=.tuple #[.agg #[i64 0,.slice none 0 0],i64 0,i64 code]) (by simp[results,F_,go_sem,q0,q1]) rfl ⟨rfl,HF.out⟩
theorem iP (n:Int) (A:Option Addr) (c C:Nat) (es:List AB) (e:Nat) (x:Int) (w:I_) (h:Bj w A es) (hl:es.length<=100000) (hr:Aq n es=0) (hb:e<es.length/\1<=x/\x<=4294967296) (c0:w.cell? ⟨C,0,none⟩=some (i64 (e:Int))) (c1:w.cell? ⟨C,1,none⟩=some (u64 x)) :
  K_ B_ 139 #[.agg #[i64 n,.slice A es.length c],.slice (some ⟨C,0,none⟩) 1 1] w λ r w'=>∃ v,r=.returned (.tuple #[.agg #[i64 n,v],i64 0,i64 0])/\Bc w' w.heap.size v (BX es e x)/\Ac w w':=by
 have bN:Am (w.alloc (.cells #[i64 n,.slice A es.length c] 24)) w.heap.size 24 #[i64 n,.slice A es.length c]:=zv _ _ _
 obtain⟨w1,AQ,g1⟩:=zg w (.cells #[i64 n,.slice A es.length c] 24)
 have s1:w1.heap.size=w.heap.size+1:=by rw[<- AQ];simp
 rw[AQ]at bN
 have bR:Am (w1.alloc (.cells #[i64 0,.slice none 0 0] 24)) w1.heap.size 24 #[i64 0,.slice none 0 0]:=zv _ _ _
 have g12:Ac w1 (w1.alloc (.cells #[i64 0,.slice none 0 0] 24)):=(zr _ _).alloc _
 obtain⟨w2,BM⟩:=zn (w1.alloc (.cells #[i64 0,.slice none 0 0] 24))
 rw[BM]at bR g12
 have g2:=g1.trans g12
 obtain⟨L,hL⟩:=zn (es.length)
 have HR:=zh (CH n A c es w2 (h.grew g2) hl)
 have H0:=JQ g2 h hL (bN.grew g12) bR s1
 have HQ:=Gt hl hr trivial ((⟨ze g2 c0,ze g2 c1⟩:w2.cell? ⟨C,0,none⟩=some (i64 (e:Int))/\w2.cell? ⟨C,1,none⟩=some (u64 x))) hb
 rw[hL,hr]at HR
 rw[hL]at AQ ⊢
 obtain⟨x0,x1⟩:=CE ((bN.grew g12))
 rw[hL]at x1
 clear bN bR g1 g12 g2 s1 h hl hr hL hb c0 c1
 go_enter Tryz.func139,Tryz.ntmps139
 go_wp2_with fail
 refine Eo (λ _ _ _ _=>False) ?_ (λ _ _ _ _ h=>h.elim)
 go_wp2_with fail
 refine HR.out.mono ?_
 rintro r w3 ⟨rfl,g3⟩
 have HC:=zh (C4 n A c es w3 ((H0.out.2.1.grew H0.out.1).grew g3) HQ.out.1)
 rw[H0.out.2.2.1]at HC
 have b3:=H0.out.2.2.2.1.grew g3
 obtain⟨x0,x1⟩:=CE b3
 rw[H0.out.2.2.1]at x1
 have G3:=zh g3
 clear HR b3 g3
 go_wp2_with fail
 refine HC.out.mono ?_
 rintro r w4 ⟨v,rfl,ho,g4⟩
 obtain⟨A1,Mf,hv,AY⟩:=ho.row
 rw[H0.out.2.2.1]at hv
 subst hv
 obtain⟨w5,zA,g5,b5⟩:=zb w4 #[i64 n,.slice A1 L Mf] 24 rfl
 have c50:=ze ((G3.out.trans g4).trans g5) HQ.out.2.2.2.1.1
 have c51:=ze ((G3.out.trans g4).trans g5) HQ.out.2.2.2.1.2
 obtain⟨w6,lX,g6,b6⟩:=zb w5 #[i64 e,u64 x] 216 rfl
 have x6:=b6.cell 0
 have y6:=b6.cell 1
 have x5:=(b5.grew g6).cell 0
 have y5:=(b5.grew g6).cell 1
 simp at x6 y6 x5 y5
 have HW:=zh (rq n A1 Mf es e x w6 (AY.grew (g5.trans g6)) HQ.out.1 HQ.out.2.1 HQ.out.2.2.2.2.1 HQ.out.2.2.2.2.2)
 rw[H0.out.2.2.1]at HW
 obtain⟨g,cc,hvf⟩:=KM ho (by have:=HQ.out.2.2.2.2.1;omega)
 rw[H0.out.2.2.1]at hvf
 obtain⟨rfl,rfl⟩:A1=some ⟨g,0,none⟩/\Mf=cc:=by simpa using hvf
 have HO4:Hid (H_ w4 w3.heap.size 65 3 (.slice (some ⟨g,0,none⟩) L Mf) L (cellsOf es)):=by
  have h:=ho;unfold Bc at h;rw[H0.out.2.2.1]at h;exact h
 have HE:=DK (((((H0.out.1.trans G3.out).trans g4).trans g5).trans g6)) (H0.out.2.2.2.2.1.grew (((G3.out.trans g4).trans g5).trans g6)) (b5.grew g6)
 have LI:=BP H0.out.2.2.2.2.2 ((H0.out.1.trans G3.out).size)
 have HB:=BP HQ.out.2.2.2.2 H0.out.2.2.1
 clear HC ho g4 AY g5 b5 g6 b6 H0 HQ G3 hvf
 go_wp2_with fail
 go_step3
 go_wp2_with fail
 go_loopw [20] (λ i wr=>(i=.int .i64 0/\wr=w5)\/(i=.int .i64 1/\Hid (Bc wr w.heap.size (.slice (some ⟨g,0,none⟩) L Mf) (BX es e x)/\Am wr w1.heap.size 24 #[i64 0,.slice none 0 0]/\Am wr w4.heap.size 24 #[i64 n,.slice (some ⟨g,0,none⟩) L Mf]/\Ac w wr))) (λ i _=>1-(intOf i).toNat)
 case atStart=>exact .inl ⟨rfl,rfl⟩
 case round =>
  rcases hrel with ⟨rfl,rfl⟩ | ⟨rfl,hF⟩
  ·skip;go_wp2_with fail;refine HW.out.mono ?_;rintro r w7 ⟨v7,rfl,fT,g7⟩;obtain⟨A7,c7,hv7⟩:=Ap fT;rw[BO,HB.out.2]at hv7;subst hv7;clear fT;have he:=HB.out.1.1;rw[HB.out.2]at he;have JH:(0:Int)<=(e:Int):=(by omega);have LR:(e:Int)<(L:Int):=(by omega);obtain⟨y,hy⟩:=zn ((es.getD e (0,0,0)).2.2);obtain⟨w8,hw8,g8⟩:=zg w7 (.cells #[.int .i64 n,.slice A7 L c7] 24);have g48:Ac w4 w8:=((((zr (λ _=>False) w4).alloc _).trans (by rw[zA,<-lX];exact(zr _ _).alloc _)).trans g7).trans g8;have sn:Hid (H_ w8 w3.heap.size 65 3 (.slice (some ⟨g,0,none⟩) L Mf) L (cellsOf es)):=Ac.own g48 HO4.out;have x2:w8.cell? ⟨g,e*3+2,none⟩=some (u64 y):=by
    have h:=World.ownsRow.cellAt sn.out (e*3+2) (by omega)
    rw[h,C0 es e 2 _ (zq HB.out.1.1) (by omega),<-hy,Pa,zq HB.out.1.1]
    rfl
   have y2:=World.ownsRow.frozenAt sn.out (e*3+2);have x8:=ze (g7.trans g8) x6;have y8:=ze (g7.trans g8) y6;have b8:=HE.out.2.2.grew (g7.trans g8);obtain⟨x9,y9⟩:=CE b8;have rz:=DK ((HE.out.1.trans g7).trans g8) (HE.out.2.1.grew (g7.trans g8)) b8;have HY:=zh hy;clear g7 g8 g48 HO4 HE HW b8 hy;by_cases pb:y=x
   ·subst pb;go_upto_region 10 with fail;clear hw8;go_quiet (fail);have hN:Hid (Bc (w8.drewN nq) w.heap.size (.slice (some ⟨g,0,none⟩) L Mf) (BX es e y)/\Am (w8.drewN nq) w1.heap.size 24 #[i64 0,.slice none 0 0]/\Am (w8.drewN nq) w4.heap.size 24 #[i64 n,.slice (some ⟨g,0,none⟩) L Mf]/\Ac w (w8.drewN nq)):=by
     have gg:Ac w8 (w8.drewN nq):=(zr _ _).drewN _
     refine⟨?_,rz.out.2.1.grew gg,rz.out.2.2.grew gg,rz.out.1.trans gg⟩
     have e1:BX es e y=es:=kV HB.out.1.1 HY.out
     rw[e1]
     unfold Bc
     rw[HB.out.2]
     exact Az (Ac.own gg sn.out) LI.out.2
    clear rz sn;go_wp2_with fail;exact⟨.inr ⟨rfl,hN⟩,by simp[intOf]⟩
   ·have hyx2:(y==x)=false:=(by simpa using pb);go_upto_region 10 with fail;clear hw8;go_quiet (fail);have hng2:¬ w4.heap.size=g:=λ e=>by
     have h1:=rz.out.2.2
     rw[e]at h1
     obtain⟨_,h2⟩:=gJ sn.out
     exact Ay h1 h2 (by decide) rfl
    have EI:¬ w1.heap.size=g:=λ e=>by
     have h1:=rz.out.2.1;rw[e]at h1;obtain⟨_,h2⟩:=gJ sn.out;exact Ay h1 h2 (by decide) rfl
    have hN:Hid (Bc ((w8.drewN nq).setCell ⟨g,e*3+2,none⟩ (u64 x)) w.heap.size (.slice (some ⟨g,0,none⟩) L Mf) (BX es e x)/\Am ((w8.drewN nq).setCell ⟨g,e*3+2,none⟩ (u64 x)) w1.heap.size 24 #[i64 0,.slice none 0 0]/\Am ((w8.drewN nq).setCell ⟨g,e*3+2,none⟩ (u64 x)) w4.heap.size 24 #[i64 n,.slice (some ⟨g,0,none⟩) L Mf]/\Ac w ((w8.drewN nq).setCell ⟨g,e*3+2,none⟩ (u64 x))):=by
     have gg:Ac w8 (w8.drewN nq):=(zr _ _).drewN _;have hgw:w.heap.size<=g:=Pd LI.out.2 (sn.out.lt g rfl).1;refine⟨?_,(rz.out.2.1.grew gg).far (p:=⟨g,e*3+2,none⟩) EI _,(rz.out.2.2.grew gg).far (p:=⟨g,e*3+2,none⟩) hng2 _,(rz.out.1.trans gg).setCell (.inr hgw) _⟩;have h1:=(World.ownsRow.stored (Ac.own gg sn.out) (e*3+2) (u64 x)).1;rw[GS es e x HB.out.1.1]at h1;unfold Bc;rw[BO,HB.out.2];exact Az h1 LI.out.2
    clear rz sn;go_wp2_with fail;exact⟨.inr ⟨rfl,hN⟩,by simp[intOf]⟩
  ·have hb:=hF.out.2.1;have b4:=hF.out.2.2.1;have x9:=b4.cell 0;have y9:=b4.cell 1;obtain⟨t5,t6⟩:=F3 hb (i64 n) (.slice (some ⟨g,0,none⟩) L Mf);have z0:=hb.frozen 0;have z1:=(hb.set 0 (i64 n)).frozen 1;have z2:=hb.cell 0;have z3:=(hb.set 0 (i64 n)).cell 1;have q0:=t5.cell 0;have q1:=t5.cell 1;simp at z2 z3 q0 q1 x9 y9;have HF:Hid (Bc ((wr.setCell ⟨w1.heap.size,0,none⟩ (i64 n)).setCell ⟨w1.heap.size,1,none⟩ (.slice (some ⟨g,0,none⟩) L Mf)) w.heap.size (.slice (some ⟨g,0,none⟩) L Mf) (BX es e x)/\Ac w ((wr.setCell ⟨w1.heap.size,0,none⟩ (i64 n)).setCell ⟨w1.heap.size,1,none⟩ (.slice (some ⟨g,0,none⟩) L Mf))) :=
    ⟨Kept.own t6 hF.out.1 (λ j hj lT=>Ax hF.out.1 hb (by decide) (lT▸hj)),hF.out.2.2.2.then t6 (λ i hi h=>by have:=LI.out.1;omega)⟩
   clear hF hb b4 t5 t6 HE HW HO4;go_wp2_with fail;rw[jumpsTo_ret];exact zy (v:=.tuple #[.agg #[i64 n,.slice (some ⟨g,0,none⟩) L Mf],i64 0,i64 0]) (by simp[results,F_,go_sem,q0,q1]) rfl ⟨_,rfl,HF.out⟩
theorem IV (n:Nat) (hn:0<n/\n<=1000) (ty:TypeId) (w:I_):∃ cap w',(M_ #[26,3] ty #[.slice none 0 0,.int .i64 (n:Int)]).run B_ w=.ok (.slice (some ⟨w.heap.size,0,none⟩) n cap) w' /\
  w'.ownsRow w.heap.size 3 1 (.slice (some ⟨w.heap.size,0,none⟩) 0 cap) 0 []/\n<=cap/\Ac w w':=by
 obtain⟨i0,hi,Cu,BV,Cj⟩:=info_parts info_int
 obtain⟨C,hC⟩:=zn (grownCap w n 0 3)
 have h1:n<=C:=by rw[<- hC];exact grownCap_ge w n 0 3
 have h2:C<=maxLen:=by rw[<- hC];exact grownCap_le_maxLen w n 0 3 (by unfold maxLen;omega)
 refine⟨C,w.drew.alloc (.cells ((O_ #[i64 0] n)++O_ #[i64 0] (C-n)) 3),?_,?_,h1,((zr _ _).drew).alloc _⟩
 ·have hw:IntKind.i64.wrap (n:Int)=(n:Int):=Go.IntWalk.i64_in _ (by omega);have a1:¬ ((n:Int)<0):=(by omega);have a2:¬ (281474976710656<(n:Int)*8):=(by omega);have a3:¬ n=0:=(by omega);have a4:¬ n<=0:=(by omega);have a5:¬ (9223372036854775807<(n:Int)):=(by omega);have a6:¬ (281474976710656<N_ n 0*8):=by unfold N_;rw[if_pos (by omega)];omega
  have a7:max (n:Int) 0=(n:Int):=(by omega);rw[<- hC];simp[M_,run_underlying A_,run_underlying Tryz.underlying3,sizeOf,typeInfo,zeroValue,hi,Cu,BV,Cj,hw,a1,a2,a3,a4,a5,a6,Question.forced,newRow,grownCap,asInt,asIntOf,Builtin.firstCells,a7];rfl
 ·refine World.ownsRow_made _ _ _ (zl _) h2 ?_;rw[Array.size_append,size_zeroCells,size_zeroCells];simp;omega
theorem Iq {P:Program} {w:I_} {ops:Array Oper} {rest:List Oper} {o:Oper} {a:Act} {Q:Exit->Act->I_->Prop} (hgd:o.guard=none) (s x:Operand) (t u:TypeId) (ho:o.op=.call { callee:=.builtin .append,args:=#[s,x],argTypes:=#[t,u] })
  {vs vx v':J_} {w':I_} (hs:a.eval s=vs) (hx:a.eval x=vx) (hr:(M_ #[t,u] o.type #[vs,vx]).run P w=.ok v' w') (h:wpList P ops Q rest (a.put o.dst v') w'):wpList P ops Q (o::rest) a w :=
 wpList_plain hgd λ _ hK=>by
  unfold Oper.wp execOp;simp only[ho,resolve,invoke,builtin,Sem.run_bind,Sem.run_pure,Result.andThen_ok,List.map_toArray,List.map_cons,List.map_nil,hs,hx,hr];exact hK _ _ h
theorem nL (n:Nat) (hn:0<n/\n<=1000) (w:I_):K_ B_ 278 #[.slice none 0 0,i64 n] w λ e w'=>∃ g cap,e=.returned (.slice (some ⟨g,0,none⟩) 0 cap)/\AO w' w.heap.size (.slice (some ⟨g,0,none⟩) 0 cap) []/\n<=cap/\Ac w w':=by
 obtain⟨cap,w',hr,ho,hc,g⟩:=IV n hn 26 w;have HF:=DK ho hc g;have a1:¬ ((n:Int)<0):=(by omega);have a2:decide ((n:Int)<0)=false:=zf a1;have a3:decide ((0:Int)<(n:Int))=true:=zt (by omega);have Hv:(n:Int)<=1000:=(by omega);have hn3:(0:Int)<(n:Int):=(by omega);clear ho hc g hn a1;go_enter Tryz.func278,Tryz.ntmps278;go_wp2_with (at_builtin;refine Iq rfl (.tmp 20) (.tmp 21) 26 3 (by rfl) rfl rfl hr ?_);go_ret;exact⟨_,_,rfl,HF.out⟩
def LK (w:I_) (v:J_) (zs:List Int):Prop:=(v=.slice none 0 0/\zs=[])\/∃ a c,v=.slice (some a) zs.length c/\RowI w (some a) zs
theorem LK.grew {w w':I_} {v:J_} {zs:List Int} (h:LK w v zs) (k:Ac w w'):LK w' v zs:=by
 rcases h with h | ⟨a,c,hv,h⟩
 ·exact .inl h
 ·exact .inr ⟨a,c,hv,h.grew k⟩
theorem LK.slice {w:I_} {v:J_} {zs:List Int} (h:LK w v zs):∃ A c,v=.slice A zs.length c:=by
 rcases h with ⟨rfl,rfl⟩ | ⟨a,c,hv,h⟩
 ·exact⟨none,0,rfl⟩
 ·exact⟨some a,c,hv⟩
theorem AO.src {w:I_} {B:Nat} {v:J_} {zs:List Int} (h:AO w B v zs):LK w v zs:=by
 have hr:=h.row;rcases h.2 with ⟨hv,h0⟩ | ⟨g,cap,cur,hv,hb,hg,rest⟩
 ·exact .inl ⟨hv,List.eq_nil_of_length_eq_zero h0⟩
 ·obtain⟨A,c,h1,h2⟩:=hr;rw[hv]at h1;cases h1;exact .inr ⟨_,_,hv,h2⟩
theorem Kept.then' {w wr w5:I_} {v:J_} {xs:List Int} (h:Ac w wr) (Kl:World.grownBy wr w5 v.ownBlock) (ho:AO wr w.heap.size v xs):Ac w w5:=by
 have k:Kept (λ k=>v.ownBlock=some k) wr w5:=(zr _ _).grown Kl (λ k hk=>.inl hk);exact h.then k λ i hi e=>by have:=(Ao ho e).1;omega
def Fm (zs ys:List Int) (k:Nat):List Int:=if k=0 then [] else if k=1 then zs else zs++ys
theorem c8 (S c:Nat) (v0 v1:J_) (zs ys:List Int) (w:I_) (hS:Am w S 26 #[v0,v1]) (h0:LK w v0 zs) (h1:LK w v1 ys) (hl:zs.length+ys.length<=1000) (hp:0<zs.length+ys.length) :
  K_ B_ 216 #[.slice (some ⟨S,0,none⟩) 2 c] w λ e w'=>∃ v,e=.returned v/\AO w' w.heap.size v (zs++ys)/\Ac w w':=by
 obtain⟨i0,hi,Cu,BV,Cj⟩:=info_parts info_int
 obtain⟨A0,c0,rfl⟩:=h0.slice
 obtain⟨A1,c1,rfl⟩:=h1.slice
 obtain⟨x0,x1⟩:=CE hS
 obtain⟨L0,rI⟩:=zn (zs.length)
 obtain⟨L1,nQ⟩:=zn (ys.length)
 have HG:=zh (λ W=>nL (L0+L1) (by omega) W)
 have H0:=Gt hS h0 h1 rI nQ
 simp only[Int.natCast_add]at HG
 rw[rI]at x0 hl hp
 rw[nQ]at x1 hl hp
 have HL:=BP hl hp
 have n0:¬ ((L0:Int)<0):=by omega
 have n1:¬ ((L0:Int)+(L1:Int)<0):=by omega
 have m0:wrap64 (L0:Int)=(L0:Int):=by unfold wrap64;omega
 have m1:wrap64 ((L0:Int)+(L1:Int))=(L0:Int)+(L1:Int):=by unfold wrap64;omega
 clear hS h0 h1 rI nQ hl hp
 go_enter Tryz.func216,Tryz.ntmps216
 go_wp2_with fail
 go_loopw [3,5,11] (λ u3 u5 i wr=>∃ k:Nat,k<=2/\i=.int .i64 k/\u3=.int .i64 (if k=0 then (0:Int) else if k=1 then (L0:Int) else (L0:Int)+(L1:Int))/\w=wr) (λ u3 u5 i wr=>2-(intOf i).toNat)
 case atStart=>exact⟨0,by omega,rfl,rfl,rfl⟩
 case round =>
  obtain⟨k,hk,rfl,rfl,rfl⟩:=hrel;rcases(show k=0\/k=1\/k=2 by omega) with rfl | rfl | rfl
  ·simp only[if_true];go_wp2_with fail;go_roundw
   case rel=>exact⟨1,by omega,by go_num,by simp[m0]⟩
   case measure=>simp[intOf]
  ·simp only[Pe,if_false,if_true];go_wp2_with fail;go_roundw
   case rel=>exact⟨2,by omega,by go_num,by simp[m1]⟩
   case measure=>simp[intOf]
  ·simp only[show ¬ (2:Nat)=0 by decide,show ¬ (2:Nat)=1 by decide,if_false];go_wp2_with fail;refine(HG.out _).mono ?_;rintro e w1 ⟨g,cap,rfl,ho,Bg,g1⟩;have HO:=BP ho g1;clear ho g1 x0 x1 Bg;go_wp2_with fail;go_loopw [6,8,27] (λ u6 u8 i wr=>∃ k:Nat,k<=2/\i=.int .i64 k/\Hid (AO wr w.heap.size u6 (Fm zs ys k))/\Hid (Ac w wr)) (λ u6 u8 i wr=>2-(intOf i).toNat)
   case atStart=>exact⟨0,by omega,rfl,(HO.out.1:AO w1 w.heap.size _ []),HO.out.2⟩
   case round =>
    obtain⟨k,hk,rfl,AV,hg⟩:=hrel;have hS:=H0.out.1.grew hg.out;obtain⟨y0,y1⟩:=CE hS;have hgs:=hg.out.size;have hlim:=HL.out.1;have oa:∀ (zs:List Int) (W W':I_) (v':J_),(W'.ownsRow w.heap.size 3 1 v' zs.length (zs.map i64))->AO W' w.heap.size v' zs:=λ _ _ _ _ h=>h;rcases(show k=0\/k=1\/k=2 by omega) with rfl | rfl | rfl
    ·have ho:=AV.out;unfold Fm at ho;simp only[if_true]at ho;have zu:=H0.out.2.1.grew hg.out;rcases zu with ⟨hv,hz⟩ | ⟨a,c9,hv,AY⟩
     ·injection hv with e1 e2 e3;subst e1;subst e3;clear oa;rw[e2]at y0;have II:AO wr w.heap.size u6 (Fm zs ys 1):=by unfold Fm;simpa [hz] using ho
      go_wp2_with (at_builtin;refine wpList_append_own_none rfl (.tmp 31) (.tmp 32) 26 (by rfl) w.heap.size 3 i0 1 A_ hi _ _ _ rfl ho rfl ?_);go_roundw
      case rel=>exact⟨1,by omega,by go_num,II,hg⟩
      case measure=>simp[intOf]
     ·injection hv with e1 e2 e3;subst e1;subst e3;have HRV:=zh AY.rowV.news;have vT:=H0.out.2.2.2.1;go_wp2_with (at_builtin;refine wpList_append_own _ rfl (.tmp 31) (.tmp 32) 26 (by rfl) w.heap.size 3 i0 (.int .i64 0) 1 8 A_ hi Cu BV Cj (by rfl) (by omega) _ _ _ rfl ho a L0 _ (zs.map i64) rfl (by simp[vT]) HRV.out (JN _ (λ _=>rfl) _) (by unfold maxLen;simp;omega) (by simp;omega) (by omega) ?_;intro v' w5 I6 Kl _);have II:AO w5 w.heap.size v' (Fm zs ys 1):=by
       unfold AO Fm
       rw[<- vT]at I6
       simpa using I6
      have hg5:Ac w w5:=hg.out.then' Kl ho;go_roundw
      case rel=>exact⟨1,by omega,by go_num,II,hg5⟩
      case measure=>simp[intOf]
    ·have ho:=AV.out;simp only[Fm,Pe,if_false,if_true]at ho;have zu:=H0.out.2.2.1.grew hg.out;rcases zu with ⟨hv,hz⟩ | ⟨a,c9,hv,AY⟩
     ·injection hv with e1 e2 e3;subst e1;subst e3;clear oa;rw[e2]at y1;have II:AO wr w.heap.size u6 (Fm zs ys 2):=by unfold Fm;simpa [hz] using ho
      go_wp2_with (at_builtin;refine wpList_append_own_none rfl (.tmp 31) (.tmp 32) 26 (by rfl) w.heap.size 3 i0 1 A_ hi _ _ _ rfl ho rfl ?_);go_roundw
      case rel=>exact⟨2,by omega,by go_num,II,hg⟩
      case measure=>simp[intOf]
     ·injection hv with e1 e2 e3;subst e1;subst e3;have HRV:=zh AY.rowV.news;have vT:=H0.out.2.2.2.2;go_wp2_with (at_builtin;refine wpList_append_own _ rfl (.tmp 31) (.tmp 32) 26 (by rfl) w.heap.size 3 i0 (.int .i64 0) 1 8 A_ hi Cu BV Cj (by rfl) (by omega) _ _ _ rfl ho a L1 _ (ys.map i64) rfl (by simp[vT]) HRV.out (JN _ (λ _=>rfl) _) (by unfold maxLen;rw[H0.out.2.2.2.1];omega) (by rw[H0.out.2.2.2.1];omega) (by omega) ?_;intro v' w5 I6 Kl _);have II:AO w5 w.heap.size v' (Fm zs ys 2):=by
       unfold AO Fm
       rw[<- vT]at I6
       simpa using I6
      have hg5:Ac w w5:=hg.out.then' Kl ho;go_roundw
      case rel=>exact⟨2,by omega,by go_num,II,hg5⟩
      case measure=>simp[intOf]
    ·simp only[Fm,show ¬ (2:Nat)=0 by decide,show ¬ (2:Nat)=1 by decide,if_false]at AV;go_wp2_with fail;go_ret;exact⟨_,rfl,AV.out,hg.out⟩
theorem kQ (X cap N:Nat) (A:Option Addr) (es:List AB) (gn:Int) (ge rk:J_) (w:I_) (hr:Aq N es=0) (hm:es.length<=1000) (hT:CU w A (AJ N es)) (Bg:(AJ N es).length<=cap) (h:D2 w X (Af 0) (.slice none 0 0) [] 0 (.slice none 0 0) [] gn ge rk 0) :
  K_ B_ 56 #[pt X,.slice A (AJ N es).length cap] w λ e w'=>e=.returned (.tuple #[])/\(∃ v,D2 w' X (Af 0) (.slice none 0 0) [] 0 (.slice none 0 0) [] N v rk 0/\Bc w' w.heap.size v es)/\Kept (λ j=>j=X) w w':=by
 have HP:=zh (dA A cap N es w hr hm hT Bg)
 have c0:=h.blk.cell 0
 simp at c0
 have HR:=zh h
 have eL:((bs (Af 0)).toList==[76,79,65,68])=true:=by rw[Al];rfl
 obtain⟨nm,Cw⟩:=zn (Af 0)
 obtain⟨L,hL⟩:=zn ((AJ N es).length)
 rw[Cw]at eL c0 HR ⊢
 rw[hL]at HP ⊢
 clear h hr hm hT Bg Cw hL
 go_enter E_,D_
 go_wp2_with fail
 go_step3
 go_wp2_with fail
 refine HP.out.mono ?_
 rintro e w1 ⟨v,rfl,ho,k1⟩
 obtain⟨A1,c1,rfl⟩:=Ap ho
 have h1:=HR.out.grew k1
 have b0:=h1.blk
 have b1:=b0.set 4 (i64 N)
 have b2:=b1.set 5 (.slice A1 es.length c1)
 have b3:=b2.set 7 (i64 0)
 simp only[sA]at b1 b2 b3
 have f0:=b0.frozen 4
 have f1:=b1.frozen 5
 have f2:=b2.frozen 7
 have y0:=b0.cell 4
 have y1:=b1.cell 5
 have y2:=b2.cell 7
 simp at y0 y1 y2
 have kk:Kept (λ j=>j=X) w1 (((w1.setCell ⟨X,4,none⟩ (i64 N)).setCell ⟨X,5,none⟩ (.slice A1 es.length c1)).setCell ⟨X,7,none⟩ (i64 0)) :=
  ((((zr (λ j=>j=X) w1).setCell (p:=⟨X,4,none⟩) (.inl rfl) _).setCell (p:=⟨X,5,none⟩) (.inl rfl) _).setCell (p:=⟨X,7,none⟩) (.inl rfl) _)
 have HF:Hid ((∃ v,D2 (((w1.setCell ⟨X,4,none⟩ (i64 N)).setCell ⟨X,5,none⟩ (.slice A1 es.length c1)).setCell ⟨X,7,none⟩ (i64 0)) X nm (.slice none 0 0) [] 0 (.slice none 0 0) [] N v rk 0/\Bc (((w1.setCell ⟨X,4,none⟩ (i64 N)).setCell ⟨X,5,none⟩ (.slice A1 es.length c1)).setCell ⟨X,7,none⟩ (i64 0)) w.heap.size v es)/\Kept (λ j=>j=X) w (((w1.setCell ⟨X,4,none⟩ (i64 N)).setCell ⟨X,5,none⟩ (.slice A1 es.length c1)).setCell ⟨X,7,none⟩ (i64 0))) :=
  ⟨⟨_,⟨b3,⟨rfl,.inl ⟨rfl,rfl⟩⟩,⟨rfl,.inl ⟨rfl,rfl⟩⟩⟩,Kept.own kk ho λ j hj e=>by
   have h1:=(Ao ho hj).1;have h2:=HR.out.blk.lt;omega⟩,(Ac.kept k1).then kk (λ _ _ h=>h)⟩
 clear HP HR ho k1 h1 b0 b1 b2 b3 kk
 go_wp2_with fail
 rw[L_]
 exact zy (v:=.tuple #[]) (by simp[results,C_]) rfl ⟨rfl,HF.out⟩
theorem aS (X cap:Nat) (A:Option Addr) (gn:Int) (ge rk:J_) (w:I_) (h:D2 w X (Af 1) (.slice none 0 0) [] 0 (.slice none 0 0) [] gn ge rk 0) :
  K_ B_ 56 #[pt X,.slice A 0 cap] w λ e w'=>e=.returned (.tuple #[])/\w'=w:=by
 have c0:=h.blk.cell 0
 simp at c0
 have eL:((bs (Af 1)).toList==[76,79,65,68])=false:=by rw[Al];rfl
 have eB:((bs (Af 1)).toList==[66,85,73,76,68])=true:=by rw[Al];rfl
 obtain⟨nm,Cw⟩:=zn (Af 1)
 rw[Cw]at eL eB c0
 clear h Cw
 go_enter E_,D_
 go_wp2_with fail
 go_step3
 go_wp2_with fail
 rw[L_]
 exact zy (v:=.tuple #[]) (by simp[results,C_]) rfl ⟨rfl,rfl⟩
end Go.Proofs.YtepelooebggliaaGreatDoor
namespace Go.Proofs.YtepelooebggliaaGreatDoor
open Go.RowKit Go.Shelf
attribute [local go_sem] Oper.semAt_some
theorem gK {w:I_} {base n size:Nat} {e:TypeId} {v:J_} {xs:List J_} (h:w.ownsRow base e size v n xs) {B:Nat} (hB:B<base):some B≠v.ownBlock:=λ hk=>by
 have:=(Ao h hk.symm).1;omega
theorem zAo (zs:List Nat) {pre:List (List UInt8)} {x:List UInt8} (h:pre++[x] <+: zs.map dec):∃ n,x=dec n/\zs.take (pre.length+1)=zs.take pre.length++[n]/\n∈zs:=by
 obtain⟨t,ht⟩:=h;have h1:(zs.map dec)[pre.length]? = some x:=by rw[<- ht];simp
 rw[List.getElem?_map]at h1;obtain⟨n,hn,rfl⟩:=Option.map_eq_some_iff.1 h1;exact⟨n,rfl,by rw[List.take_add_one,hn];rfl,zm hn⟩
def Be (zs:List Nat):List Int:=zs.map λ (n:Nat)=>(n:Int)
theorem ab {zs:List Nat} (h:zs≠[]):Bl (zs.map dec)≠[]:=by
 cases zs with
 | nil=>exact absurd rfl h
 | cons n zs =>
  intro e;simp[Bl]at e;exact de n e.1
theorem eF (zs:List Nat) (Bm:zs≠[]) (hz:∀ n∈zs,n<=4096) (hl:zs.length<=1000) (Ba:Bq (Be zs)) (w:I_) :
  K_ B_ 90 #[str (Bl (zs.map dec))] w λ e w'=>∃ v,e=.returned (.tuple #[v,i64 0])/\AO w' w.heap.size v (Be zs)/\Ac w w':=by
 obtain⟨i0,hi,Cu,BV,Cj⟩:=info_parts info_int
 obtain⟨T,hT⟩:=zn (w.heap.size)
 obtain⟨W0,EH⟩:=zn (((w.alloc (.cells #[.slice none 0 0] 26)).alloc (.cells #[i64 0] 31)).alloc (.cells #[.bool true] 4))
 have k0:Ac w W0:=by rw[<- EH];exact(((zr _ _).alloc _).alloc _).alloc _
 have T0:Am W0 T 26 #[.slice none 0 0]:=by rw[<- EH,<-hT];exact((zv w _ _).alloc _).alloc _
 have T1:Am W0 (T+1) 31 #[i64 0]:=by
  rw[<- EH,<-hT];have h:=zv (w.alloc (.cells #[.slice none 0 0] 26)) 31 #[i64 0];rw[G_]at h;exact h.alloc _
 have T2:Am W0 (T+1+1) 4 #[.bool true]:=by
  rw[<- EH,<-hT];have h:=zv ((w.alloc (.cells #[.slice none 0 0] 26)).alloc (.cells #[i64 0] 31)) 4 #[.bool true];rw[G_,G_]at h;exact h
 have Df:W0.heap.size=T+3:=by rw[<- EH,<-hT];simp
 have HS:=zh (lg (Bl (zs.map dec)) W0)
 have hne2:((bs (Bl (zs.map dec))).toList==[])=false:=by rw[Al];simpa using ab Bm
 have HZ:=DS Bm hz hl Ba
 have HI:=zh (λ W n (h:n<=4096)=>gh (dec n) n 4096 (Bu (by omega)) h (by omega) W)
 have H0:=DS k0 T0 T1 T2
 rw[Df]at HS
 obtain⟨tx,Nq⟩:=zn (Bl (zs.map dec))
 rw[Nq]at HS hne2 ⊢
 have HTX:=zh Nq
 clear Bm hz hl Ba k0 T0 T1 T2 Nq
 refine(callsIn_wide (n:=9)).1 ?_
 refine callsIn_of_wp_marks Tryz.func90 rfl trivial ?_ rfl
 simp only[Tryz.ntmps90,List.size_toArray,List.length_cons,List.length_nil,Nat.reduceAdd,Nat.reduceSub,Array.replicate_succ,Array.replicate_zero,List.push_toArray,List.append_toArray,List.nil_append,List.cons_append]
 refine wpIn_wide.2 ?_
 go_wp2_with fail
 refine wp_scope_straight ?_
 go_wp2_with fail
 go_step3
 go_wp2_with fail
 refine HS.out.mono ?_
 rintro e W1 ⟨rfl,hE,g1⟩
 have T0:=H0.out.2.1.grew g1
 have T1:=H0.out.2.2.1.grew g1
 have T2:=H0.out.2.2.2.grew g1
 have k1:=H0.out.1.trans g1
 have FY:=hE.txt.lt
 have LV:T+3<=W1.heap.size:=by have:=g1.size;omega
 clear EH HS g1
 go_wp2_with fail
 refine(wpIn_wide (n:=9)).1 ?_
 refine G0 rfl (by omega) (gf:=239) (lb:=#[pt (T+3+1),pt (T+3),pt (T+3+1+1)]) rfl trivial (enters_of Tryz.func239 (by kernel_rfl) rfl)
  (b:=T+3) (xs:=zs.map dec) FY
  (lh _ (T+3+1) (T+3) (T+3+1+1) (zs.map dec) (by simpa using HZ.out.1) (λ x hx=>by obtain⟨n,_,rfl⟩:=List.mem_map.1 hx;exact iY n) (λ x hx=>by obtain⟨n,hn,rfl⟩:=List.mem_map.1 hx;have:=Dz (k:=3) (n:=n) (by have:=HZ.out.2.1 n hn;omega);omega) W1 (by rw[HTX.out];exact hE))
  Bs.trans (λ W l o o' _ hl ho=>Bs.put W l o o' hl ho) (λ _=>rfl)
  (λ pre W=>∃ v,Am W T 26 #[v]/\Am W (T+1) 31 #[i64 0]/\Am W (T+1+1) 4 #[.bool true]/\W.ownsRow (T+6) 3 1 v pre.length ((Be (zs.take pre.length)).map i64)/\Ac w W/\T+6<=W.heap.size)
  ?inv ?box ⟨_,T0,T1,T2,World.ownsRow_nil _ _ _ _,k1,?sz⟩ ?a1 ?assign ?body ?done
 case sz=>have:=hE.sav.lt;omega
 case inv =>
  intro s A B row hs hg hr;obtain⟨v,h1,h2,h3,h4,h5,h6⟩:=hs;exact⟨v,Ek _ _ _ (λ _=>#[v]) s A B row h1 hg hr,Ek _ _ _ (λ _=>#[i64 0]) s A B row h2 hg hr,Ek _ _ _ (λ _=>#[.bool true]) s A B row h3 hg hr,uz _ _ _ _ (λ _=>v) (λ s:List (List UInt8)=>s.length) (λ s=>(Be (zs.take s.length)).map i64) s A B row h4 hg hr,KN (by omega) s A B row h5 hg hr,Pd h6 hg.size⟩
 case box =>
  rintro s A u ⟨v,h1,h2,h3,h4,h5,h6⟩;refine⟨v,h1.far (p:=⟨T+3,0,none⟩) (by show T≠T+3;omega) _,h2.far (p:=⟨T+3,0,none⟩) (by show T+1≠T+3;omega) _,h3.far (p:=⟨T+3,0,none⟩) (by show T+1+1≠T+3;omega) _,?_,h5.setCell (p:=⟨T+3,0,none⟩) (.inr (by show w.heap.size<=T+3;omega)) _,by simpa [World.setCell] using h6⟩;exact Kept.own ((zr (λ k=>k=T+3) A).setCell (p:=⟨T+3,0,none⟩) (.inl rfl) _) h4 (λ k hk e=>by have:=(Ao h4 hk).1;omega)
 case assign =>
  intro l x W K hK;gi_wp2;exact hK
 case body =>
  rintro l pre x W ⟨v,b0,b1,b2,AV,hK,wo⟩ LS;obtain⟨n,rfl,LW,hn⟩:=zAo zs LS;have HIn:=zh (HI.out W n (HZ.out.2.1 n hn));have HP:=JQ b0 b1 b2 AV hK LW;have Hz:pre.length<=1000:=by
   have:=LS.length_le;rw[Pb,Pc]at this;have:=HZ.out.2.2.1;omega
  have HL:=BP Hz wo;clear LS LW b0 b1 b2 hK Hz wo HI hn;gi_wp2;refine⟨trivial,?_⟩;refine(CallsIn.inRound l (callsIn_wide.2 HIn.out)).mono ?_;rintro e W2 ⟨rfl,g2⟩;have C5:=g2.own HP.out.2.2.2.1;have b02:=HP.out.1.grew g2;have c0:=b02.cell 0;have f0:=b02.frozen 0;simp at c0;have Fq:=gK C5 (B:=T) (by omega);have hv:=zh b02;have HG2:=zh g2;have rL:=HL.out.2;have hW2':=g2.size;have Hz:=HL.out.1;clear g2 b02 AV HIn;gi_wp2_with (gi_at_builtin;refine wpListIn_append_own _ rfl _ _ 26 rfl (T+6) 3 i0 (.int .i64 0) 1 8 A_ hi Cu BV Cj rfl (by decide) _ _ _ rfl (C5.alloc _) ⟨W2.heap.size,0,none⟩ 1 1 [i64 n] rfl rfl (cell_one_new _ _ _) (by simp[Value.oneCell']) (by unfold maxLen;omega) (by omega) (by simp;omega) ?_;intro v' w1 I6 ot _;obtain⟨g',sM,rfl⟩:=ownsRow_succ I6;have b1:=((hv.out.alloc (.cells #[i64 n] 3)).grown ot Fq);have c1:=b1.cell 0;have f1:=b1.frozen 0;simp at c1);change (W2.alloc (.cells #[i64 n] 3)).grownBy w1 v.ownBlock at ot;have KR:Kept (λ k=>v.ownBlock=some k\/k=T) W w1:=((Ac.kept HG2.out).alloc _).grown ot (λ k hk=>.inl (.inl hk));have KS:=KR.setCell (p:=⟨T,0,none⟩) (.inl (.inr rfl)) (.slice (some ⟨g',0,none⟩) (pre.length+1) sM);have far:∀ k,(v.ownBlock=some k\/k=T)->k=T\/T+6<=k:=λ k hk=>by
   rcases hk with h | h
   ·exact .inr (Ao HP.out.2.2.2.1 h).1
   ·exact .inl h
  refine⟨KS.others (λ k hk o ho=>?_),KS.keptC (λ k hk=>?_),_,b1.set 0 _,HP.out.2.1.kept KS (λ h=>?_),HP.out.2.2.1.kept KS (λ h=>?_),?_,?_,?_⟩
  ·rcases hk with h | rfl
   ·obtain⟨_,cur,hc⟩:=Ao HP.out.2.2.2.1 h;rw[hc]at ho;cases ho;rfl
   ·exact HP.out.1.iscells o ho
  ·have:=far k hk;exact⟨by omega,by omega,by omega⟩
  ·have:=far _ h;omega
  ·have:=far _ h;omega
  ·have h1:w1.ownsRow (T+6) 3 1 (.slice (some ⟨g',0,none⟩) (pre.length+1) sM) (pre++[dec n]).length ((Be (zs.take (pre++[dec n]).length)).map i64):=by
    rw[Pb,List.length_singleton,HP.out.2.2.2.2.2];simpa [Be] using I6
   have yB:=gK h1 (B:=T) (by omega);exact Kept.own ((zr (λ k=>k=T) w1).setCell (p:=⟨T,0,none⟩) (.inl rfl) _) h1 (λ k hk h=>yB (by rw[hk,h]))
  ·exact HP.out.2.2.2.2.1.then KS λ i hi h=>by
    have:=far i h;omega
  ·exact Pd rL KS.size
 case done =>
  rintro D W hD ⟨v,b0,b1,b2,AV,hK,wo⟩ fC;have hlen:(zs.map dec).length=zs.length:=Pc _;rw[hlen,List.take_of_length_le (zl _)]at AV;have DZ:AO W (T+6) v (Be zs):=by unfold AO;rw[show (Be zs).length=zs.length by simp[Be]];exact AV
  obtain⟨A,c,rfl,AY⟩:=DZ.row;have HR:=zh (Ck (Be zs) A c W AY (by simp[Be];have:=HZ.out.2.2.1;omega));have c0:=b0.cell 0;have c2:=b2.cell 0;have c1:=b1.cell 0;simp at c0 c1 c2;have HB:=DS b0 b1 DZ hK;clear b0 b1 b2 AV hK DZ AY;go_wp2_with fail;refine HR.out.mono ?_;rintro e w3 ⟨⟨b,rfl,Fq,hb2'⟩,g3⟩;obtain rfl:b=true:=hb2' HZ.out.2.2.2;have b03:=HB.out.1.grew g3;have xN:=HB.out.2.1.grew g3;have d0:=b03.cell 0;have d1:=xN.cell 0;have e0:=b03.frozen 0;have e1:=(xN.far (p:=⟨T,0,none⟩) (show T+1≠T by omega) (.slice A (Be zs).length c)).frozen 0;simp at d0 d1;obtain⟨w4,D6⟩:=zn ((w3.setCell ⟨T,0,none⟩ (.slice A (Be zs).length c)).setCell ⟨T+1,0,none⟩ (i64 0));have k4:Kept (λ k=>k=T\/k=T+1) w3 w4:=by rw[<- D6];exact((zr _ _).setCell (p:=⟨T,0,none⟩) (.inl (.inl rfl)) _).setCell (p:=⟨T+1,0,none⟩) (.inl (.inr rfl)) _
  have b04:Am w4 T 26 #[.slice A (Be zs).length c]:=by
   rw[<- D6];have:=(b03.set 0 (.slice A (Be zs).length c)).far (p:=⟨T+1,0,none⟩) (show T≠T+1 by omega) (i64 0);simpa using this
  have b14:Am w4 (T+1) 31 #[i64 0]:=by
   rw[<- D6];have:=(xN.far (p:=⟨T,0,none⟩) (show T+1≠T by omega) (.slice A (Be zs).length c)).set 0 (i64 0);simpa using this
  have hDl:=(Array.getElem?_eq_some_iff.1 fC).1;have hD4:w4.heap[D]? = some (.deferred (some [])):=(k4.block D (Nat.lt_of_lt_of_le hDl g3.size) (by omega)).trans ((g3.block D hDl (λ h=>h)).trans fC);have HF:Hid (∀ o,AO (w4.putObj D o) w.heap.size (.slice A (Be zs).length c) (Be zs)/\Ac w (w4.putObj D o)):=by
   intro o;have o3:=HB.out.2.2.1.grew g3;have o4:AO w4 (T+6) (.slice A (Be zs).length c) (Be zs):=o3.kept k4 (λ j hj h=>by have:=(Ao o3 hj).1;omega);refine⟨Az (ownsRow_putObj o4 _ hD4 rfl) (by omega),Kept.putObj ?_ D _ (.inr (by omega))⟩;exact(HB.out.2.2.2.trans g3).then k4 λ i hi h=>by omega
  have z0:∀ o,(w4.putObj D o).cell? ⟨T,0,none⟩=some (.slice A (Be zs).length c):=λ o=>by
   have:=(b04.grown (grownBy_putObj' w4 D o) (λ e=>by cases e;omega)).cell 0;simpa using this
  have z1:∀ o,(w4.putObj D o).cell? ⟨T+1,0,none⟩=some (i64 0):=λ o=>by
   have:=(b14.grown (grownBy_putObj' w4 D o) (λ e=>by cases e;omega)).cell 0;simpa using this
  clear HB HR b03 xN b04 b14 k4 hDl fC HZ HI HTX;go_wp2_with fail;rw[L_];refine⟨by simp,.inl ⟨_,_,rfl,run_takeDeferred hD4,?_⟩⟩;exact⟨.tuple #[.slice A (Be zs).length c,i64 0],by simp[results,Tryz.results90,go_sem,z0,z1],_,rfl,HF.out _⟩
end Go.Proofs.YtepelooebggliaaGreatDoor
namespace Go.Proofs.YtepelooebggliaaGreatDoor
open Go.RowKit
theorem aT (X cap:Nat) (A:Option Addr) (zs:List Nat) (gn:Int) (ge:J_) (w:I_) (Bm:zs≠[]) (hz:∀ n∈zs,n<=4096) (hl:zs.length<=1000) (Ba:Bq (Be zs)) (hT:CU w A [Bl (zs.map dec)]) (Bg:1<=cap) (h:D2 w X (Af 1) (.slice none 0 0) [] 0 (.slice none 0 0) [] gn ge (.slice none 0 0) 0) :
  K_ B_ 56 #[pt X,.slice A 1 cap] w λ e w'=>e=.returned (.tuple #[])/\(∃ v,D2 w' X (Af 1) (.slice none 0 0) [] 0 (.slice none 0 0) [] gn ge v 0/\AO w' w.heap.size v (Be zs))/\Kept (λ j=>j=X) w w':=by
 have HP:=zh (eF zs Bm hz hl Ba w)
 have c0:=h.blk.cell 0
 simp at c0
 have HR:=zh h
 obtain⟨b,off,rfl,hb,hc⟩:=hT 0 _ rfl
 simp only[Nat.add_zero]at hc
 have eL:((bs (Af 1)).toList==[76,79,65,68])=false:=by rw[Al];rfl
 have eB:((bs (Af 1)).toList==[66,85,73,76,68])=true:=by rw[Al];rfl
 obtain⟨nm,Cw⟩:=zn (Af 1)
 obtain⟨tx,Nq⟩:=zn (Bl (zs.map dec))
 rw[Cw]at eL eB c0 HR ⊢
 rw[Nq]at HP hc
 clear h hz hl Ba hT Cw Bm Nq hb
 go_enter E_,D_
 go_wp2_with fail
 go_step3
 go_wp2_with fail
 refine HP.out.mono ?_
 rintro e w1 ⟨v,rfl,ho,k1⟩
 obtain⟨A1,c1,rfl⟩:=Ap ho
 have h1:=HR.out.grew k1
 have b0:=h1.blk
 have b1:=b0.set 6 (.slice A1 (Be zs).length c1)
 have b2:=b1.set 7 (i64 0)
 simp only[sA]at b1 b2
 have f0:=b0.frozen 6
 have f1:=b1.frozen 7
 have y0:=b0.cell 6
 have y1:=b1.cell 7
 simp at y0 y1
 have kk:Kept (λ j=>j=X) w1 ((w1.setCell ⟨X,6,none⟩ (.slice A1 (Be zs).length c1)).setCell ⟨X,7,none⟩ (i64 0)) :=
  (((zr (λ j=>j=X) w1).setCell (p:=⟨X,6,none⟩) (.inl rfl) _).setCell (p:=⟨X,7,none⟩) (.inl rfl) _)
 have HF:Hid ((∃ v,D2 ((w1.setCell ⟨X,6,none⟩ (.slice A1 (Be zs).length c1)).setCell ⟨X,7,none⟩ (i64 0)) X nm (.slice none 0 0) [] 0 (.slice none 0 0) [] gn ge v 0/\AO ((w1.setCell ⟨X,6,none⟩ (.slice A1 (Be zs).length c1)).setCell ⟨X,7,none⟩ (i64 0)) w.heap.size v (Be zs))/\Kept (λ j=>j=X) w ((w1.setCell ⟨X,6,none⟩ (.slice A1 (Be zs).length c1)).setCell ⟨X,7,none⟩ (i64 0))) :=
  ⟨⟨_,⟨b2,⟨rfl,.inl ⟨rfl,rfl⟩⟩,⟨rfl,.inl ⟨rfl,rfl⟩⟩⟩,Kept.own kk ho λ j hj e=>by
   have h1:=(Ao ho hj).1;have h2:=HR.out.blk.lt;omega⟩,(Ac.kept k1).then kk (λ _ _ h=>h)⟩
 clear HP HR ho k1 h1 b0 b1 b2 kk
 go_wp2_with fail
 rw[L_]
 exact zy (v:=.tuple #[]) (by simp[results,C_]) rfl ⟨rfl,HF.out⟩
theorem kH (v0 v1:J_) (zs ys:List Int) (x0 x1:Int) (w:I_) (h0:LK w v0 zs) (h1:LK w v1 ys) (hl:zs.length+ys.length<=1000) (hp:0<zs.length+ys.length) (hx:0<=x0/\x0<=1000000/\0<=x1/\x1<=1000000) :
  K_ B_ 152 #[.agg #[v0,u64 x0],.agg #[v1,u64 x1]] w λ e w'=>∃ v,e=.returned (.agg #[v,u64 (x0+x1)])/\AO w' w.heap.size v (zs++ys)/\Ac w w':=by
 obtain⟨A0,c0,rfl⟩:=h0.slice
 obtain⟨A1,c1,rfl⟩:=h1.slice
 obtain⟨T,hT⟩:=zn (w.heap.size)
 obtain⟨L0,rI⟩:=zn (zs.length)
 obtain⟨L1,nQ⟩:=zn (ys.length)
 obtain⟨w3,Dj⟩:=zn (((w.alloc (.cells #[.slice A0 L0 c0,u64 x0] 133)).alloc (.cells #[.slice A1 L1 c1,u64 x1] 133)).alloc (.cells #[.slice none 0 0,u64 0] 133))
 have g3:Ac w w3:=by rw[<- Dj];exact(((zr _ _).alloc _).alloc _).alloc _
 have b0:Am w3 T 133 #[.slice A0 L0 c0,u64 x0]:=by rw[<- Dj,<-hT];exact((zv w _ _).alloc _).alloc _
 have b1:Am w3 (T+1) 133 #[.slice A1 L1 c1,u64 x1]:=by
  rw[<- Dj,<-hT];have h:=zv (w.alloc (.cells #[.slice A0 L0 c0,u64 x0] 133)) 133 #[.slice A1 L1 c1,u64 x1];rw[G_]at h;exact h.alloc _
 have b2:Am w3 (T+1+1) 133 #[.slice none 0 0,u64 0]:=by
  rw[<- Dj,<-hT];have h:=zv ((w.alloc (.cells #[.slice A0 L0 c0,u64 x0] 133)).alloc (.cells #[.slice A1 L1 c1,u64 x1] 133)) 133 #[.slice none 0 0,u64 0];rw[G_,G_]at h;exact h
 have HC:Hid (∀ W',Ac w3 W'->W'.cell? ⟨T,0,none⟩=some (.slice A0 L0 c0)/\W'.cell? ⟨T,1,none⟩=some (u64 x0)/\W'.cell? ⟨T+1,0,none⟩=some (.slice A1 L1 c1)/\W'.cell? ⟨T+1,1,none⟩=some (u64 x1)):=λ W' k=>by
  have p0:=(b0.grew k).cell 0;have p1:=(b0.grew k).cell 1;have p2:=(b1.grew k).cell 0;have p3:=(b1.grew k).cell 1;simp at p0 p1 p2 p3;exact⟨p0,p1,p2,p3⟩
 have HN:=Gt g3 b2 h0 h1 hT
 have HCC:=zh (λ S c (W:I_) (k:Ac w W) (hS:Am W S 26 #[.slice A0 L0 c0,.slice A1 L1 c1])=>c8 S c (.slice A0 L0 c0) (.slice A1 L1 c1) zs ys W hS (by rw[<- rI];exact h0.grew k) (by rw[<- nQ];exact h1.grew k) hl hp)
 have hwr:IntKind.u64.wrap (x0+x1)=x0+x1:=Go.IntWalk.u64_in _ (by omega)
 have gz:Ac w3 w3.drew:=(zr _ _).drew
 rw[rI,nQ]
 clear b0 b1 b2 h0 h1 hl hp hx rI nQ g3
 go_enter Tryz.func152,Tryz.ntmps152
 go_upto_region 1 with fail
 have e3:((w.alloc (.cells #[.slice A0 L0 c0,.int .u64 x0] 133)).alloc (.cells #[.slice A1 L1 c1,.int .u64 x1] 133)).alloc (.cells #[.slice none 0 0,.int .u64 0] 133)=w3:=Dj
 try rw [e3]
 try rw [hT]
 clear e3 Dj hT
 refine rG [12] (λ _=>False) ?_
 refine pG 0 5 ?_
 refine tF 1 6 HC.out gz ?_
 refine pG 2 7 ?_
 refine tF 3 8 HC.out gz ?_
 refine pG 6 11 ?_
 refine tF 7 12 HC.out gz ?_
 refine pG 8 13 ?_
 refine tF 9 14 HC.out gz ?_
 refine pG 10 15 ?_
 refine sG 4 9 (λ K Aj=>?_)
 go_simp
 obtain⟨y1,Br⟩:=zn ((World.alloc w3 (.cells #[.slice A0 L0 c0,.slice A1 L1 c1] 26)).drew)
 have k1:Ac w3.drew y1:=by rw[<- Br];exact Kept.newD _ _ _
 have bv:Am y1 w3.heap.size 26 #[.slice A0 L0 c0,.slice A1 L1 c1]:=by rw[<- Br];exact zv _ _ _
 obtain⟨S,hS⟩:=zn (w3.heap.size)
 rw[hS]at bv
 rw[Br,hS]
 clear Br
 refine Aj (.slice (some ⟨S,0,none⟩) 2 2) _ (λ _=>k1) ?_
 clear Aj
 simp only[sA]
 refine sG 5 10 (λ K Aj=>?_)
 go_simp
 refine(HCC.out S 2 _ ((HN.out.1.trans gz).trans k1) bv).mono ?_
 rintro e y2 ⟨v,rfl,ho,k2⟩
 obtain⟨A2,c2,rfl⟩:=Ap ho
 obtain⟨L,hL⟩:=zn ((zs++ys).length)
 rw[hL]at ho
 rw[hL]
 have HO:=zh ho
 clear ho HCC
 refine Aj (.slice A2 L c2) _ (λ _=>k2) ?_
 clear Aj
 simp only[sA]
 refine pG 11 16 ?_
 refine DH 12 (λ K Aj=>?_)
 have HB:=zh (((HN.out.2.1.grew gz).grew k1).grew k2)
 refine wp_store_row 133 (.tmp 4) (.tmp 16) rfl (T+1+1) #[.slice A2 L c2,u64 (x0+x1)] rfl rfl 133 _ HB.out (by kernel_rfl) rfl (AF (by simp[Value.oneCell'])) ?_
 refine Aj _ (λ h=>absurd (by simp) h) ?_
 clear Aj
 refine dG ?_
 have t6:=HB.out.setRow #[.slice A2 L c2,u64 (x0+x1)]
 obtain⟨r0,r1⟩:=CE t6
 have kT:Kept (λ j=>j=T+1+1) y2 (y2.setRow (T+1+1) #[.slice A2 L c2,u64 (x0+x1)]):=(zr (λ j=>j=T+1+1) _).setRow (.inl rfl) _
 have HF:Hid (AO (y2.setRow (T+1+1) #[.slice A2 L c2,u64 (x0+x1)]) w.heap.size (.slice A2 L c2) (zs++ys)/\Ac w (y2.setRow (T+1+1) #[.slice A2 L c2,u64 (x0+x1)])):=by
  have hT:=HN.out.2.2.2.2;have g0:=((HN.out.1.trans gz).trans k1);have hs:=g0.size;have AH:=(HN.out.2.1.grew gz).grew k1 |>.lt;refine⟨Az (Kept.own kT HO.out λ j hj e=>by have:=(Ao HO.out hj).1;omega) hs,(g0.trans k2).then kT λ i hi e=>by omega⟩
 clear t6 kT HB
 go_wp2_with fail
 exact zy (v:=.agg #[.slice A2 L c2,u64 (x0+x1)]) (by simp[results,Tryz.results152,go_sem,r0,r1]) rfl ⟨_,rfl,HF.out⟩
end Go.Proofs.YtepelooebggliaaGreatDoor
