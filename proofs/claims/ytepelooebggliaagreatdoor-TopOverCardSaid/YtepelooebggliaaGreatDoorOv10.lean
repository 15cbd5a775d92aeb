/- Walks of functions that the law reaches, and plain laws, part 11 of 20: lemmas for the proof in the last text; no condition. Shortened by program. -/
import Derived.Deep.QuietTactic
import Derived.BigQuiet
import Derived.Laws.AppendOwn
import Derived.Laws.AppendOwnNone
import Derived.RangeFuncBox
import Derived.RangeFuncLeaves
import Derived.RangeFuncCalls
import Derived.Test.YtepelooebggliaaGreatDoorOv0
import Derived.Test.YtepelooebggliaaGreatDoorOv2
import Derived.Test.YtepelooebggliaaGreatDoorOv3
import Derived.Test.YtepelooebggliaaGreatDoorOv5
import Derived.Test.YtepelooebggliaaGreatDoorOv6
import Derived.Test.YtepelooebggliaaGreatDoorOv7
import Derived.Test.YtepelooebggliaaGreatDoorOv8
open Go.Proofs.Tryz renaming underlying26->A_,prog->B_,results56->C_,ntmps56->D_,func56->E_,results139->F_
open Go.World renaming size_alloc->G_,ownsRow->H_
open Go renaming World->I_,Value->J_,Calls->K_
open Go.Exit renaming noGoto_ret->L_
open Go.Builtin renaming append_->M_,nextslicecap->N_,zeroCells->O_
open List renaming getD_eq_getElem?_getD->Pa,length_append->Pb,length_map->Pc
open Nat renaming le_trans->Pd,one_ne_zero->Pe
set_option maxHeartbeats 16000000
set_option maxRecDepth 100000
set_option linter.unusedVariables false
set_option linter.unusedSimpArgs false
namespace Go.Proofs.YtepelooebggliaaGreatDoor
open Go.RowKit
def BW (es:List AJ) (e x:Int):Nat:=if 0<=e/\e<es.length then (if 1<=x/\x<=4294967296 then 0 else 2) else 8
theorem km {es:List AJ} {e:Nat} {y:Int} (he:e<es.length) (hy:(es.getD e (0,0,0)).2.2=y):Cl es e y=es:=by
 unfold Cl;rw[Pa,zq he]at hy ⊢;simp only[Option.getD_some]at hy ⊢;rw[<- hy];exact List.set_getElem_self he
theorem fU {w:I_} {B g n c s:Nat} {t:TypeId} {xs:List J_} (h:w.ownsRow B t s (.slice (some ⟨g,0,none⟩) n c) n xs):∃ cs,Ao w g t cs:=by
 obtain⟨_,c,hc⟩:=Ap h rfl;exact⟨c,hc⟩
theorem qT (n:Int) (A:Option Addr) (c:Nat) (es:List AJ) (e x:Int) (w:I_) (h:Bo w A es) (hl:es.length<=100000) (hr:Au n es=0) (hb:BW es e x≠0) :
  K_ B_ 193 #[.agg #[i64 n,.slice A es.length c],i64 e,u64 x] w λ r w'=>r=.returned (.tuple #[.agg #[i64 0,.slice none 0 0],i64 (BW es e x)])/\Af w w':=by
 unfold BW at hb ⊢
 by_cases he:0<=e/\e<es.length
 ·obtain⟨k,rfl⟩:∃ k:Nat,e=(k:Int):=⟨e.toNat,by omega⟩;rw[if_pos he]at hb ⊢;by_cases hx:1<=x/\x<=4294967296
  ·rw[if_pos hx]at hb;exact absurd rfl hb
  ·rw[if_neg hx];exact qV n A c es k x w h hl hr (by omega) hx
 ·rw[if_neg he];exact qU n A c es e x w h hl hr he
theorem mE (n:Int) (A:Option Addr) (c C:Nat) (es:List AJ) (e x:Int) (w:I_) (h:Bo w A es) (hl:es.length<=100000) (hr:Au n es=0) (hb:BW es e x≠0) (c0:w.cell? ⟨C,0,none⟩=some (i64 e)) (c1:w.cell? ⟨C,1,none⟩=some (u64 x)) :
  K_ B_ 139 #[.agg #[i64 n,.slice A es.length c],.slice (some ⟨C,0,none⟩) 1 1] w λ r w'=>r=.returned (.tuple #[.agg #[i64 0,.slice none 0 0],i64 0,i64 (BW es e x)])/\Af w w':=by
 have bN:Ao (w.alloc (.cells #[i64 n,.slice A es.length c] 24)) w.heap.size 24 #[i64 n,.slice A es.length c]:=zv _ _ _
 obtain⟨w1,AT,g1⟩:=zg w (.cells #[i64 n,.slice A es.length c] 24)
 have s1:w1.heap.size=w.heap.size+1:=by rw[<- AT];simp
 rw[AT]at bN
 have bR:Ao (w1.alloc (.cells #[i64 0,.slice none 0 0] 24)) w1.heap.size 24 #[i64 0,.slice none 0 0]:=zv _ _ _
 have g12:Af w1 (w1.alloc (.cells #[i64 0,.slice none 0 0] 24)):=(zr _ _).alloc _
 obtain⟨w2,Cc⟩:=zn (w1.alloc (.cells #[i64 0,.slice none 0 0] 24))
 rw[Cc]at bR g12
 have g2:=g1.trans g12
 obtain⟨L,hL⟩:=zn (es.length)
 obtain⟨code,J6⟩:=zn (BW es e x)
 have HR:=zh (CG n A c es w2 (h.grew g2) hl)
 have H0:=Lc g2 h hL (bN.grew g12) bR s1
 have HQ:=Fo hl hr J6 ((⟨ze g2 c0,ze g2 c1⟩:w2.cell? ⟨C,0,none⟩=some (i64 e)/\w2.cell? ⟨C,1,none⟩=some (u64 x))) hb
 rw[hL,hr]at HR
 rw[hL]at AT ⊢
 rw[J6]
 obtain⟨x0,x1⟩:=BP ((bN.grew g12))
 rw[hL]at x1
 clear bN bR g1 g12 g2 s1 h hl hr hL J6 hb c0 c1
 go_enter Tryz.func139,Tryz.ntmps139
 go_wp2_with fail
 refine El (λ _ _ _ _=>False) ?_ (λ _ _ _ _ h=>h.elim)
 go_wp2_with fail
 refine HR.out.mono ?_
 rintro r w3 ⟨rfl,g3⟩
 have HC:=zh (C0 n A c es w3 ((H0.out.2.1.grew H0.out.1).grew g3) HQ.out.1)
 rw[H0.out.2.2.1]at HC
 have b3:=H0.out.2.2.2.1.grew g3
 obtain⟨x0,x1⟩:=BP b3
 rw[H0.out.2.2.1]at x1
 have G3:=zh g3
 clear HR b3 g3
 go_wp2_with fail
 refine HC.out.mono ?_
 rintro r w4 ⟨v,rfl,ho,g4⟩
 obtain⟨A1,LR,hv,AX⟩:=ho.row
 rw[H0.out.2.2.1]at hv
 subst hv
 obtain⟨w5,yK,g5,b5⟩:=zb w4 #[i64 n,.slice A1 L LR] 24 rfl
 have c50:=ze ((G3.out.trans g4).trans g5) HQ.out.2.2.2.1.1
 have c51:=ze ((G3.out.trans g4).trans g5) HQ.out.2.2.2.1.2
 obtain⟨w6,lM,g6,b6⟩:=zb w5 #[i64 e,u64 x] 216 rfl
 have x6:=b6.cell 0
 have y6:=b6.cell 1
 have x5:=(b5.grew g6).cell 0
 have y5:=(b5.grew g6).cell 1
 simp at x6 y6 x5 y5
 have HW:=zh (qT n A1 LR es e x w6 (AX.grew (g5.trans g6)) HQ.out.1 HQ.out.2.1 HQ.out.2.2.2.2)
 rw[H0.out.2.2.1,HQ.out.2.2.1]at HW
 have NN:(code:Int)≠0:=by have h1:=HQ.out.2.2.2.2;have h2:=HQ.out.2.2.1;omega
 have hcz2:((code:Int) != 0)=true:=by simpa using NN
 have HE:=BO (((((H0.out.1.trans G3.out).trans g4).trans g5).trans g6)) (H0.out.2.2.2.2.1.grew (((G3.out.trans g4).trans g5).trans g6))
 have Ls:=zh H0.out.2.2.2.2.2
 clear HC ho g4 AX g5 b5 g6 b6 H0 HQ G3
 go_wp2_with fail
 go_step3
 go_wp2_with fail
 go_loopw [20] (λ i wr=>i=.int .i64 0/\wr=w5) (λ i _=>1-(intOf i).toNat)
 case atStart=>exact⟨rfl,rfl⟩
 case round =>
  obtain⟨rfl,rfl⟩:=hrel;go_wp2_with fail;refine HW.out.mono ?_;rintro r w7 ⟨rfl,g7⟩;have g8:Af w7 (w7.alloc (.cells #[i64 0,.slice none 0 0] 24)):=(zr _ _).alloc _;have hb:=HE.out.2.grew (g7.trans g8);obtain⟨t5,t6⟩:=F8 hb (i64 0) (.slice none 0 0);have z0:=hb.frozen 0;have z1:=(hb.set 0 (i64 0)).frozen 1;have z2:=hb.cell 0;have z3:=(hb.set 0 (i64 0)).cell 1;have q0:=t5.cell 0;have q1:=t5.cell 1;simp at z2 z3 q0 q1;have HF:Hid (Af w (((w7.alloc (.cells #[i64 0,.slice none 0 0] 24)).setCell ⟨w1.heap.size,0,none⟩ (i64 0)).setCell ⟨w1.heap.size,1,none⟩ (.slice none 0 0))):=((HE.out.1.trans g7).trans g8).then t6 (λ i hi h=>by have:=Ls.out;omega);clear HE Ls g7 g8 hb t5 t6 HW;go_wp2_with fail;rw[jumpsTo_ret];exact zy (v:=.tuple #[.agg #[i64 0,.slice none 0 0],i64 0,i64 code]) (by simp[results,F_,go_sem,q0,q1]) rfl ⟨rfl,HF.out⟩
theorem im (n:Int) (A:Option Addr) (c C:Nat) (es:List AJ) (e:Nat) (x:Int) (w:I_) (h:Bo w A es) (hl:es.length<=100000) (hr:Au n es=0) (hb:e<es.length/\1<=x/\x<=4294967296) (c0:w.cell? ⟨C,0,none⟩=some (i64 (e:Int))) (c1:w.cell? ⟨C,1,none⟩=some (u64 x)) :
  K_ B_ 139 #[.agg #[i64 n,.slice A es.length c],.slice (some ⟨C,0,none⟩) 1 1] w λ r w'=>∃ v,r=.returned (.tuple #[.agg #[i64 n,v],i64 0,i64 0])/\AP w' w.heap.size v (Cl es e x)/\Af w w':=by
 have bN:Ao (w.alloc (.cells #[i64 n,.slice A es.length c] 24)) w.heap.size 24 #[i64 n,.slice A es.length c]:=zv _ _ _
 obtain⟨w1,AT,g1⟩:=zg w (.cells #[i64 n,.slice A es.length c] 24)
 have s1:w1.heap.size=w.heap.size+1:=by rw[<- AT];simp
 rw[AT]at bN
 have bR:Ao (w1.alloc (.cells #[i64 0,.slice none 0 0] 24)) w1.heap.size 24 #[i64 0,.slice none 0 0]:=zv _ _ _
 have g12:Af w1 (w1.alloc (.cells #[i64 0,.slice none 0 0] 24)):=(zr _ _).alloc _
 obtain⟨w2,Cc⟩:=zn (w1.alloc (.cells #[i64 0,.slice none 0 0] 24))
 rw[Cc]at bR g12
 have g2:=g1.trans g12
 obtain⟨L,hL⟩:=zn (es.length)
 have HR:=zh (CG n A c es w2 (h.grew g2) hl)
 have H0:=Lc g2 h hL (bN.grew g12) bR s1
 have HQ:=Fo hl hr trivial ((⟨ze g2 c0,ze g2 c1⟩:w2.cell? ⟨C,0,none⟩=some (i64 (e:Int))/\w2.cell? ⟨C,1,none⟩=some (u64 x))) hb
 rw[hL,hr]at HR
 rw[hL]at AT ⊢
 obtain⟨x0,x1⟩:=BP ((bN.grew g12))
 rw[hL]at x1
 clear bN bR g1 g12 g2 s1 h hl hr hL hb c0 c1
 go_enter Tryz.func139,Tryz.ntmps139
 go_wp2_with fail
 refine El (λ _ _ _ _=>False) ?_ (λ _ _ _ _ h=>h.elim)
 go_wp2_with fail
 refine HR.out.mono ?_
 rintro r w3 ⟨rfl,g3⟩
 have HC:=zh (C0 n A c es w3 ((H0.out.2.1.grew H0.out.1).grew g3) HQ.out.1)
 rw[H0.out.2.2.1]at HC
 have b3:=H0.out.2.2.2.1.grew g3
 obtain⟨x0,x1⟩:=BP b3
 rw[H0.out.2.2.1]at x1
 have G3:=zh g3
 clear HR b3 g3
 go_wp2_with fail
 refine HC.out.mono ?_
 rintro r w4 ⟨v,rfl,ho,g4⟩
 obtain⟨A1,LR,hv,AX⟩:=ho.row
 rw[H0.out.2.2.1]at hv
 subst hv
 obtain⟨w5,yK,g5,b5⟩:=zb w4 #[i64 n,.slice A1 L LR] 24 rfl
 have c50:=ze ((G3.out.trans g4).trans g5) HQ.out.2.2.2.1.1
 have c51:=ze ((G3.out.trans g4).trans g5) HQ.out.2.2.2.1.2
 obtain⟨w6,lM,g6,b6⟩:=zb w5 #[i64 e,u64 x] 216 rfl
 have x6:=b6.cell 0
 have y6:=b6.cell 1
 have x5:=(b5.grew g6).cell 0
 have y5:=(b5.grew g6).cell 1
 simp at x6 y6 x5 y5
 have HW:=zh (qW n A1 LR es e x w6 (AX.grew (g5.trans g6)) HQ.out.1 HQ.out.2.1 HQ.out.2.2.2.2.1 HQ.out.2.2.2.2.2)
 rw[H0.out.2.2.1]at HW
 obtain⟨g,cc,hvf⟩:=EP ho (by have:=HQ.out.2.2.2.2.1;omega)
 rw[H0.out.2.2.1]at hvf
 obtain⟨rfl,rfl⟩:A1=some ⟨g,0,none⟩/\LR=cc:=by simpa using hvf
 have HO4:Hid (H_ w4 w3.heap.size 65 3 (.slice (some ⟨g,0,none⟩) L LR) L (cellsOf es)):=by
  have h:=ho;unfold AP at h;rw[H0.out.2.2.1]at h;exact h
 have HE:=DU (((((H0.out.1.trans G3.out).trans g4).trans g5).trans g6)) (H0.out.2.2.2.2.1.grew (((G3.out.trans g4).trans g5).trans g6)) (b5.grew g6)
 have Ls:=BO H0.out.2.2.2.2.2 ((H0.out.1.trans G3.out).size)
 have HB:=BO HQ.out.2.2.2.2 H0.out.2.2.1
 clear HC ho g4 AX g5 b5 g6 b6 H0 HQ G3 hvf
 go_wp2_with fail
 go_step3
 go_wp2_with fail
 go_loopw [20] (λ i wr=>(i=.int .i64 0/\wr=w5)\/(i=.int .i64 1/\Hid (AP wr w.heap.size (.slice (some ⟨g,0,none⟩) L LR) (Cl es e x)/\Ao wr w1.heap.size 24 #[i64 0,.slice none 0 0]/\Ao wr w4.heap.size 24 #[i64 n,.slice (some ⟨g,0,none⟩) L LR]/\Af w wr))) (λ i _=>1-(intOf i).toNat)
 case atStart=>exact .inl ⟨rfl,rfl⟩
 case round =>
  rcases hrel with ⟨rfl,rfl⟩ | ⟨rfl,hF⟩
  ·skip;go_wp2_with fail;refine HW.out.mono ?_;rintro r w7 ⟨v7,rfl,rD,g7⟩;obtain⟨A7,c7,hv7⟩:=At rD;rw[BF,HB.out.2]at hv7;subst hv7;clear rD;have he:=HB.out.1.1;rw[HB.out.2]at he;have Jv:(0:Int)<=(e:Int):=(by omega);have Fw:(e:Int)<(L:Int):=(by omega);obtain⟨y,hy⟩:=zn ((es.getD e (0,0,0)).2.2);obtain⟨w8,hw8,g8⟩:=zg w7 (.cells #[.int .i64 n,.slice A7 L c7] 24);have g48:Af w4 w8:=((((zr (λ _=>False) w4).alloc _).trans (by rw[yK,<-lM];exact(zr _ _).alloc _)).trans g7).trans g8;have rT:Hid (H_ w8 w3.heap.size 65 3 (.slice (some ⟨g,0,none⟩) L LR) L (cellsOf es)):=Af.own g48 HO4.out;have x2:w8.cell? ⟨g,e*3+2,none⟩=some (u64 y):=by
    have h:=World.ownsRow.cellAt rT.out (e*3+2) (by omega)
    rw[h,BM es e 2 _ (zq HB.out.1.1) (by omega),<-hy,Pa,zq HB.out.1.1]
    rfl
   have y2:=World.ownsRow.frozenAt rT.out (e*3+2);have x8:=ze (g7.trans g8) x6;have y8:=ze (g7.trans g8) y6;have b8:=HE.out.2.2.grew (g7.trans g8);obtain⟨x9,y9⟩:=BP b8;have re:=DU ((HE.out.1.trans g7).trans g8) (HE.out.2.1.grew (g7.trans g8)) b8;have HY:=zh hy;clear g7 g8 g48 HO4 HE HW b8 hy;by_cases oV:y=x
   ·subst oV;go_upto_region 10 with fail;clear hw8;go_quiet (fail);have hN:Hid (AP (w8.drewN nq) w.heap.size (.slice (some ⟨g,0,none⟩) L LR) (Cl es e y)/\Ao (w8.drewN nq) w1.heap.size 24 #[i64 0,.slice none 0 0]/\Ao (w8.drewN nq) w4.heap.size 24 #[i64 n,.slice (some ⟨g,0,none⟩) L LR]/\Af w (w8.drewN nq)):=by
     have gg:Af w8 (w8.drewN nq):=(zr _ _).drewN _
     refine⟨?_,re.out.2.1.grew gg,re.out.2.2.grew gg,re.out.1.trans gg⟩
     have e1:Cl es e y=es:=km HB.out.1.1 HY.out
     rw[e1]
     unfold AP
     rw[HB.out.2]
     exact AD (Af.own gg rT.out) Ls.out.2
    clear re rT;go_wp2_with fail;exact⟨.inr ⟨rfl,hN⟩,by simp[intOf]⟩
   ·have hyx2:(y==x)=false:=(by simpa using oV);go_upto_region 10 with fail;clear hw8;go_quiet (fail);have hng2:¬ w4.heap.size=g:=λ e=>by
     have h1:=re.out.2.2
     rw[e]at h1
     obtain⟨_,h2⟩:=fU rT.out
     exact AF h1 h2 (by decide) rfl
    have EG:¬ w1.heap.size=g:=λ e=>by
     have h1:=re.out.2.1;rw[e]at h1;obtain⟨_,h2⟩:=fU rT.out;exact AF h1 h2 (by decide) rfl
    have hN:Hid (AP ((w8.drewN nq).setCell ⟨g,e*3+2,none⟩ (u64 x)) w.heap.size (.slice (some ⟨g,0,none⟩) L LR) (Cl es e x)/\Ao ((w8.drewN nq).setCell ⟨g,e*3+2,none⟩ (u64 x)) w1.heap.size 24 #[i64 0,.slice none 0 0]/\Ao ((w8.drewN nq).setCell ⟨g,e*3+2,none⟩ (u64 x)) w4.heap.size 24 #[i64 n,.slice (some ⟨g,0,none⟩) L LR]/\Af w ((w8.drewN nq).setCell ⟨g,e*3+2,none⟩ (u64 x))):=by
     have gg:Af w8 (w8.drewN nq):=(zr _ _).drewN _;have hgw:w.heap.size<=g:=Pd Ls.out.2 (rT.out.lt g rfl).1;refine⟨?_,(re.out.2.1.grew gg).far (p:=⟨g,e*3+2,none⟩) EG _,(re.out.2.2.grew gg).far (p:=⟨g,e*3+2,none⟩) hng2 _,(re.out.1.trans gg).setCell (.inr hgw) _⟩;have h1:=(World.ownsRow.stored (Af.own gg rT.out) (e*3+2) (u64 x)).1;rw[Fg es e x HB.out.1.1]at h1;unfold AP;rw[BF,HB.out.2];exact AD h1 Ls.out.2
    clear re rT;go_wp2_with fail;exact⟨.inr ⟨rfl,hN⟩,by simp[intOf]⟩
  ·have hb:=hF.out.2.1;have b4:=hF.out.2.2.1;have x9:=b4.cell 0;have y9:=b4.cell 1;obtain⟨t5,t6⟩:=F8 hb (i64 n) (.slice (some ⟨g,0,none⟩) L LR);have z0:=hb.frozen 0;have z1:=(hb.set 0 (i64 n)).frozen 1;have z2:=hb.cell 0;have z3:=(hb.set 0 (i64 n)).cell 1;have q0:=t5.cell 0;have q1:=t5.cell 1;simp at z2 z3 q0 q1 x9 y9;have HF:Hid (AP ((wr.setCell ⟨w1.heap.size,0,none⟩ (i64 n)).setCell ⟨w1.heap.size,1,none⟩ (.slice (some ⟨g,0,none⟩) L LR)) w.heap.size (.slice (some ⟨g,0,none⟩) L LR) (Cl es e x)/\Af w ((wr.setCell ⟨w1.heap.size,0,none⟩ (i64 n)).setCell ⟨w1.heap.size,1,none⟩ (.slice (some ⟨g,0,none⟩) L LR))) :=
    ⟨Kept.own t6 hF.out.1 (λ j hj lI=>AA hF.out.1 hb (by decide) (lI▸hj)),hF.out.2.2.2.then t6 (λ i hi h=>by have:=Ls.out.1;omega)⟩
   clear hF hb b4 t5 t6 HE HW HO4;go_wp2_with fail;rw[jumpsTo_ret];exact zy (v:=.tuple #[.agg #[i64 n,.slice (some ⟨g,0,none⟩) L LR],i64 0,i64 0]) (by simp[results,F_,go_sem,q0,q1]) rfl ⟨_,rfl,HF.out⟩
theorem IH (n:Nat) (hn:0<n/\n<=1000) (ty:TypeId) (w:I_):∃ cap w',(M_ #[26,3] ty #[.slice none 0 0,.int .i64 (n:Int)]).run B_ w=.ok (.slice (some ⟨w.heap.size,0,none⟩) n cap) w' /\
  w'.ownsRow w.heap.size 3 1 (.slice (some ⟨w.heap.size,0,none⟩) 0 cap) 0 []/\n<=cap/\Af w w':=by
 obtain⟨i0,hi,BZ,BG,B4⟩:=info_parts info_int
 obtain⟨C,hC⟩:=zn (grownCap w n 0 3)
 have h1:n<=C:=by rw[<- hC];exact grownCap_ge w n 0 3
 have h2:C<=maxLen:=by rw[<- hC];exact grownCap_le_maxLen w n 0 3 (by unfold maxLen;omega)
 refine⟨C,w.drew.alloc (.cells ((O_ #[i64 0] n)++O_ #[i64 0] (C-n)) 3),?_,?_,h1,((zr _ _).drew).alloc _⟩
 ·have hw:IntKind.i64.wrap (n:Int)=(n:Int):=Go.IntWalk.i64_in _ (by omega);have a1:¬ ((n:Int)<0):=(by omega);have a2:¬ (281474976710656<(n:Int)*8):=(by omega);have a3:¬ n=0:=(by omega);have a4:¬ n<=0:=(by omega);have a5:¬ (9223372036854775807<(n:Int)):=(by omega);have a6:¬ (281474976710656<N_ n 0*8):=by unfold N_;rw[if_pos (by omega)];omega
  have a7:max (n:Int) 0=(n:Int):=(by omega);rw[<- hC];simp[M_,run_underlying A_,run_underlying Tryz.underlying3,sizeOf,typeInfo,zeroValue,hi,BZ,BG,B4,hw,a1,a2,a3,a4,a5,a6,Question.forced,newRow,grownCap,asInt,asIntOf,Builtin.firstCells,a7];rfl
 ·refine World.ownsRow_made _ _ _ (zl _) h2 ?_;rw[Array.size_append,size_zeroCells,size_zeroCells];simp;omega
theorem Ik {P:Program} {w:I_} {ops:Array Oper} {rest:List Oper} {o:Oper} {a:Act} {Q:Exit->Act->I_->Prop} (hgd:o.guard=none) (s x:Operand) (t u:TypeId) (ho:o.op=.call { callee:=.builtin .append,args:=#[s,x],argTypes:=#[t,u] })
  {vs vx v':J_} {w':I_} (hs:a.eval s=vs) (hx:a.eval x=vx) (hr:(M_ #[t,u] o.type #[vs,vx]).run P w=.ok v' w') (h:wpList P ops Q rest (a.put o.dst v') w'):wpList P ops Q (o::rest) a w :=
 wpList_plain hgd λ _ hK=>by
  unfold Oper.wp execOp;simp only[ho,resolve,invoke,builtin,Sem.run_bind,Sem.run_pure,Result.andThen_ok,List.map_toArray,List.map_cons,List.map_nil,hs,hx,hr];exact hK _ _ h
theorem nt (n:Nat) (hn:0<n/\n<=1000) (w:I_):K_ B_ 278 #[.slice none 0 0,i64 n] w λ e w'=>∃ g cap,e=.returned (.slice (some ⟨g,0,none⟩) 0 cap)/\AS w' w.heap.size (.slice (some ⟨g,0,none⟩) 0 cap) []/\n<=cap/\Af w w':=by
 obtain⟨cap,w',hr,ho,hc,g⟩:=IH n hn 26 w;have HF:=DU ho hc g;have a1:¬ ((n:Int)<0):=(by omega);have a2:decide ((n:Int)<0)=false:=zf a1;have a3:decide ((0:Int)<(n:Int))=true:=zt (by omega);have Hs:(n:Int)<=1000:=(by omega);have hn3:(0:Int)<(n:Int):=(by omega);clear ho hc g hn a1;go_enter Tryz.func278,Tryz.ntmps278;go_wp2_with (at_builtin;refine Ik rfl (.tmp 20) (.tmp 21) 26 3 (by rfl) rfl rfl hr ?_);go_ret;exact⟨_,_,rfl,HF.out⟩
def Lu (w:I_) (v:J_) (zs:List Int):Prop:=(v=.slice none 0 0/\zs=[])\/∃ a c,v=.slice (some a) zs.length c/\RowI w (some a) zs
theorem Lu.grew {w w':I_} {v:J_} {zs:List Int} (h:Lu w v zs) (k:Af w w'):Lu w' v zs:=by
 rcases h with h | ⟨a,c,hv,h⟩
 ·exact .inl h
 ·exact .inr ⟨a,c,hv,h.grew k⟩
theorem Lu.slice {w:I_} {v:J_} {zs:List Int} (h:Lu w v zs):∃ A c,v=.slice A zs.length c:=by
 rcases h with ⟨rfl,rfl⟩ | ⟨a,c,hv,h⟩
 ·exact⟨none,0,rfl⟩
 ·exact⟨some a,c,hv⟩
theorem AS.src {w:I_} {B:Nat} {v:J_} {zs:List Int} (h:AS w B v zs):Lu w v zs:=by
 have hr:=h.row;rcases h.2 with ⟨hv,h0⟩ | ⟨g,cap,cur,hv,hb,hg,rest⟩
 ·exact .inl ⟨hv,List.eq_nil_of_length_eq_zero h0⟩
 ·obtain⟨A,c,h1,h2⟩:=hr;rw[hv]at h1;cases h1;exact .inr ⟨_,_,hv,h2⟩
theorem Kept.then' {w wr w5:I_} {v:J_} {xs:List Int} (h:Af w wr) (Cn:World.grownBy wr w5 v.ownBlock) (ho:AS wr w.heap.size v xs):Af w w5:=by
 have k:Kept (λ k=>v.ownBlock=some k) wr w5:=(zr _ _).grown Cn (λ k hk=>.inl hk);exact h.then k λ i hi e=>by have:=(Ap ho e).1;omega
def Fq (zs ys:List Int) (k:Nat):List Int:=if k=0 then [] else if k=1 then zs else zs++ys
theorem cH (S c:Nat) (v0 v1:J_) (zs ys:List Int) (w:I_) (hS:Ao w S 26 #[v0,v1]) (h0:Lu w v0 zs) (h1:Lu w v1 ys) (hl:zs.length+ys.length<=1000) (hp:0<zs.length+ys.length) :
  K_ B_ 216 #[.slice (some ⟨S,0,none⟩) 2 c] w λ e w'=>∃ v,e=.returned v/\AS w' w.heap.size v (zs++ys)/\Af w w':=by
 obtain⟨i0,hi,BZ,BG,B4⟩:=info_parts info_int
 obtain⟨A0,c0,rfl⟩:=h0.slice
 obtain⟨A1,c1,rfl⟩:=h1.slice
 obtain⟨x0,x1⟩:=BP hS
 obtain⟨L0,fb⟩:=zn (zs.length)
 obtain⟨L1,nv⟩:=zn (ys.length)
 have HG:=zh (λ W=>nt (L0+L1) (by omega) W)
 have H0:=Fo hS h0 h1 fb nv
 simp only[Int.natCast_add]at HG
 rw[fb]at x0 hl hp
 rw[nv]at x1 hl hp
 have HL:=BO hl hp
 have n0:¬ ((L0:Int)<0):=by omega
 have n1:¬ ((L0:Int)+(L1:Int)<0):=by omega
 have m0:wrap64 (L0:Int)=(L0:Int):=by unfold wrap64;omega
 have m1:wrap64 ((L0:Int)+(L1:Int))=(L0:Int)+(L1:Int):=by unfold wrap64;omega
 clear hS h0 h1 fb nv hl hp
 go_enter Tryz.func216,Tryz.ntmps216
 go_wp2_with fail
 go_loopw [3,5,11] (λ u3 u5 i wr=>∃ k:Nat,k<=2/\i=.int .i64 k/\u3=.int .i64 (if k=0 then (0:Int) else if k=1 then (L0:Int) else (L0:Int)+(L1:Int))/\w=wr) (λ u3 u5 i wr=>2-(intOf i).toNat)
 case atStart=>exact⟨0,by omega,rfl,rfl,rfl⟩
 case round =>
  obtain⟨k,hk,rfl,rfl,rfl⟩:=hrel;rcases(show k=0\/k=1\/k=2 by omega) with rfl | rfl | rfl
  ·simp only[if_true];go_wp2_with fail;go_roundw
   case rel=>exact⟨1,by omega,by go_num,by simp[m0]⟩
   case measure=>simp[intOf]
  ·simp only[Pe,if_false,if_true];go_wp2_with fail;go_roundw
   case rel=>exact⟨2,by omega,by go_num,by simp[m1]⟩
   case measure=>simp[intOf]
  ·simp only[show ¬ (2:Nat)=0 by decide,show ¬ (2:Nat)=1 by decide,if_false];go_wp2_with fail;refine(HG.out _).mono ?_;rintro e w1 ⟨g,cap,rfl,ho,Bi,g1⟩;have HO:=BO ho g1;clear ho g1 x0 x1 Bi;go_wp2_with fail;go_loopw [6,8,27] (λ u6 u8 i wr=>∃ k:Nat,k<=2/\i=.int .i64 k/\Hid (AS wr w.heap.size u6 (Fq zs ys k))/\Hid (Af w wr)) (λ u6 u8 i wr=>2-(intOf i).toNat)
   case atStart=>exact⟨0,by omega,rfl,(HO.out.1:AS w1 w.heap.size _ []),HO.out.2⟩
   case round =>
    obtain⟨k,hk,rfl,AV,hg⟩:=hrel;have hS:=H0.out.1.grew hg.out;obtain⟨y0,y1⟩:=BP hS;have hgs:=hg.out.size;have hlim:=HL.out.1;have nJ:∀ (zs:List Int) (W W':I_) (v':J_),(W'.ownsRow w.heap.size 3 1 v' zs.length (zs.map i64))->AS W' w.heap.size v' zs:=λ _ _ _ _ h=>h;rcases(show k=0\/k=1\/k=2 by omega) with rfl | rfl | rfl
    ·have ho:=AV.out;unfold Fq at ho;simp only[if_true]at ho;have yH:=H0.out.2.1.grew hg.out;rcases yH with ⟨hv,hz⟩ | ⟨a,c9,hv,AX⟩
     ·injection hv with e1 e2 e3;subst e1;subst e3;clear nJ;rw[e2]at y0;have Ix:AS wr w.heap.size u6 (Fq zs ys 1):=by unfold Fq;simpa [hz] using ho
      go_wp2_with (at_builtin;refine wpList_append_own_none rfl (.tmp 31) (.tmp 32) 26 (by rfl) w.heap.size 3 i0 1 A_ hi _ _ _ rfl ho rfl ?_);go_roundw
      case rel=>exact⟨1,by omega,by go_num,Ix,hg⟩
      case measure=>simp[intOf]
     ·injection hv with e1 e2 e3;subst e1;subst e3;have HRV:=zh AX.rowV.news;have vC:=H0.out.2.2.2.1;go_wp2_with (at_builtin;refine wpList_append_own _ rfl (.tmp 31) (.tmp 32) 26 (by rfl) w.heap.size 3 i0 (.int .i64 0) 1 8 A_ hi BZ BG B4 (by rfl) (by omega) _ _ _ rfl ho a L0 _ (zs.map i64) rfl (by simp[vC]) HRV.out (JB _ (λ _=>rfl) _) (by unfold maxLen;simp;omega) (by simp;omega) (by omega) ?_;intro v' w5 A8 Cn _);have Ix:AS w5 w.heap.size v' (Fq zs ys 1):=by
       unfold AS Fq
       rw[<- vC]at A8
       simpa using A8
      have hg5:Af w w5:=hg.out.then' Cn ho;go_roundw
      case rel=>exact⟨1,by omega,by go_num,Ix,hg5⟩
      case measure=>simp[intOf]
    ·have ho:=AV.out;simp only[Fq,Pe,if_false,if_true]at ho;have yH:=H0.out.2.2.1.grew hg.out;rcases yH with ⟨hv,hz⟩ | ⟨a,c9,hv,AX⟩
     ·injection hv with e1 e2 e3;subst e1;subst e3;clear nJ;rw[e2]at y1;have Ix:AS wr w.heap.size u6 (Fq zs ys 2):=by unfold Fq;simpa [hz] using ho
      go_wp2_with (at_builtin;refine wpList_append_own_none rfl (.tmp 31) (.tmp 32) 26 (by rfl) w.heap.size 3 i0 1 A_ hi _ _ _ rfl ho rfl ?_);go_roundw
      case rel=>exact⟨2,by omega,by go_num,Ix,hg⟩
      case measure=>simp[intOf]
     ·injection hv with e1 e2 e3;subst e1;subst e3;have HRV:=zh AX.rowV.news;have vC:=H0.out.2.2.2.2;go_wp2_with (at_builtin;refine wpList_append_own _ rfl (.tmp 31) (.tmp 32) 26 (by rfl) w.heap.size 3 i0 (.int .i64 0) 1 8 A_ hi BZ BG B4 (by rfl) (by omega) _ _ _ rfl ho a L1 _ (ys.map i64) rfl (by simp[vC]) HRV.out (JB _ (λ _=>rfl) _) (by unfold maxLen;rw[H0.out.2.2.2.1];omega) (by rw[H0.out.2.2.2.1];omega) (by omega) ?_;intro v' w5 A8 Cn _);have Ix:AS w5 w.heap.size v' (Fq zs ys 2):=by
       unfold AS Fq
       rw[<- vC]at A8
       simpa using A8
      have hg5:Af w w5:=hg.out.then' Cn ho;go_roundw
      case rel=>exact⟨2,by omega,by go_num,Ix,hg5⟩
      case measure=>simp[intOf]
    ·simp only[Fq,show ¬ (2:Nat)=0 by decide,show ¬ (2:Nat)=1 by decide,if_false]at AV;go_wp2_with fail;go_ret;exact⟨_,rfl,AV.out,hg.out⟩
theorem kg (X cap N:Nat) (A:Option Addr) (es:List AJ) (gn:Int) (ge rk:J_) (w:I_) (hr:Au N es=0) (hm:es.length<=1000) (hT:B8 w A (AK N es)) (Bi:(AK N es).length<=cap) (h:ET w X (Am 0) (.slice none 0 0) [] 0 (.slice none 0 0) [] gn ge rk 0) :
  K_ B_ 56 #[pt X,.slice A (AK N es).length cap] w λ e w'=>e=.returned (.tuple #[])/\(∃ v,ET w' X (Am 0) (.slice none 0 0) [] 0 (.slice none 0 0) [] N v rk 0/\AP w' w.heap.size v es)/\Kept (λ j=>j=X) w w':=by
 have HP:=zh (cX A cap N es w hr hm hT Bi)
 have c0:=h.blk.cell 0
 simp at c0
 have HR:=zh h
 have eL:((bs (Am 0)).toList==[76,79,65,68])=true:=by rw[Ax];rfl
 obtain⟨nm,D1⟩:=zn (Am 0)
 obtain⟨L,hL⟩:=zn ((AK N es).length)
 rw[D1]at eL c0 HR ⊢
 rw[hL]at HP ⊢
 clear h hr hm hT Bi D1 hL
 go_enter E_,D_
 go_wp2_with fail
 go_step3
 go_wp2_with fail
 refine HP.out.mono ?_
 rintro e w1 ⟨v,rfl,ho,k1⟩
 obtain⟨A1,c1,rfl⟩:=At ho
 have h1:=HR.out.grew k1
 have b0:=h1.blk
 have b1:=b0.set 4 (i64 N)
 have b2:=b1.set 5 (.slice A1 es.length c1)
 have b3:=b2.set 7 (i64 0)
 simp only[sA]at b1 b2 b3
 have f0:=b0.frozen 4
 have f1:=b1.frozen 5
 have f2:=b2.frozen 7
 have y0:=b0.cell 4
 have y1:=b1.cell 5
 have y2:=b2.cell 7
 simp at y0 y1 y2
 have kk:Kept (λ j=>j=X) w1 (((w1.setCell ⟨X,4,none⟩ (i64 N)).setCell ⟨X,5,none⟩ (.slice A1 es.length c1)).setCell ⟨X,7,none⟩ (i64 0)) :=
  ((((zr (λ j=>j=X) w1).setCell (p:=⟨X,4,none⟩) (.inl rfl) _).setCell (p:=⟨X,5,none⟩) (.inl rfl) _).setCell (p:=⟨X,7,none⟩) (.inl rfl) _)
 have HF:Hid ((∃ v,ET (((w1.setCell ⟨X,4,none⟩ (i64 N)).setCell ⟨X,5,none⟩ (.slice A1 es.length c1)).setCell ⟨X,7,none⟩ (i64 0)) X nm (.slice none 0 0) [] 0 (.slice none 0 0) [] N v rk 0/\AP (((w1.setCell ⟨X,4,none⟩ (i64 N)).setCell ⟨X,5,none⟩ (.slice A1 es.length c1)).setCell ⟨X,7,none⟩ (i64 0)) w.heap.size v es)/\Kept (λ j=>j=X) w (((w1.setCell ⟨X,4,none⟩ (i64 N)).setCell ⟨X,5,none⟩ (.slice A1 es.length c1)).setCell ⟨X,7,none⟩ (i64 0))) :=
  ⟨⟨_,⟨b3,⟨rfl,.inl ⟨rfl,rfl⟩⟩,⟨rfl,.inl ⟨rfl,rfl⟩⟩⟩,Kept.own kk ho λ j hj e=>by
   have h1:=(Ap ho hj).1;have h2:=HR.out.blk.lt;omega⟩,(Af.kept k1).then kk (λ _ _ h=>h)⟩
 clear HP HR ho k1 h1 b0 b1 b2 b3 kk
 go_wp2_with fail
 rw[L_]
 exact zy (v:=.tuple #[]) (by simp[results,C_]) rfl ⟨rfl,HF.out⟩
theorem aC (X cap:Nat) (A:Option Addr) (gn:Int) (ge rk:J_) (w:I_) (h:ET w X (Am 1) (.slice none 0 0) [] 0 (.slice none 0 0) [] gn ge rk 0) :
  K_ B_ 56 #[pt X,.slice A 0 cap] w λ e w'=>e=.returned (.tuple #[])/\w'=w:=by
 have c0:=h.blk.cell 0
 simp at c0
 have eL:((bs (Am 1)).toList==[76,79,65,68])=false:=by rw[Ax];rfl
 have eB:((bs (Am 1)).toList==[66,85,73,76,68])=true:=by rw[Ax];rfl
 obtain⟨nm,D1⟩:=zn (Am 1)
 rw[D1]at eL eB c0
 clear h D1
 go_enter E_,D_
 go_wp2_with fail
 go_step3
 go_wp2_with fail
 rw[L_]
 exact zy (v:=.tuple #[]) (by simp[results,C_]) rfl ⟨rfl,rfl⟩
end Go.Proofs.YtepelooebggliaaGreatDoor
namespace Go.Proofs.YtepelooebggliaaGreatDoor
open Go.RowKit Go.Shelf
attribute [local go_sem] Oper.semAt_some
theorem fV {w:I_} {base n size:Nat} {e:TypeId} {v:J_} {xs:List J_} (h:w.ownsRow base e size v n xs) {B:Nat} (hB:B<base):some B≠v.ownBlock:=λ hk=>by
 have:=(Ap h hk.symm).1;omega
theorem zL (zs:List Nat) {pre:List (List UInt8)} {x:List UInt8} (h:pre++[x] <+: zs.map dec):∃ n,x=dec n/\zs.take (pre.length+1)=zs.take pre.length++[n]/\n∈zs:=by
 obtain⟨t,ht⟩:=h;have h1:(zs.map dec)[pre.length]? = some x:=by rw[<- ht];simp
 rw[List.getElem?_map]at h1;obtain⟨n,hn,rfl⟩:=Option.map_eq_some_iff.1 h1;exact⟨n,rfl,by rw[List.take_add_one,hn];rfl,zm hn⟩
def Bc (zs:List Nat):List Int:=zs.map λ (n:Nat)=>(n:Int)
theorem OQ {zs:List Nat} (h:zs≠[]):Bm (zs.map dec)≠[]:=by
 cases zs with
 | nil=>exact absurd rfl h
 | cons n zs =>
  intro e;simp[Bm]at e;exact cJ n e.1
theorem dV (zs:List Nat) (Bn:zs≠[]) (hz:∀ n∈zs,n<=4096) (hl:zs.length<=1000) (Be:Bu (Bc zs)) (w:I_) :
  K_ B_ 90 #[str (Bm (zs.map dec))] w λ e w'=>∃ v,e=.returned (.tuple #[v,i64 0])/\AS w' w.heap.size v (Bc zs)/\Af w w':=by
 obtain⟨i0,hi,BZ,BG,B4⟩:=info_parts info_int
 obtain⟨T,hT⟩:=zn (w.heap.size)
 obtain⟨W0,Fu⟩:=zn (((w.alloc (.cells #[.slice none 0 0] 26)).alloc (.cells #[i64 0] 31)).alloc (.cells #[.bool true] 4))
 have k0:Af w W0:=by rw[<- Fu];exact(((zr _ _).alloc _).alloc _).alloc _
 have T0:Ao W0 T 26 #[.slice none 0 0]:=by rw[<- Fu,<-hT];exact((zv w _ _).alloc _).alloc _
 have T1:Ao W0 (T+1) 31 #[i64 0]:=by
  rw[<- Fu,<-hT];have h:=zv (w.alloc (.cells #[.slice none 0 0] 26)) 31 #[i64 0];rw[G_]at h;exact h.alloc _
 have T2:Ao W0 (T+1+1) 4 #[.bool true]:=by
  rw[<- Fu,<-hT];have h:=zv ((w.alloc (.cells #[.slice none 0 0] 26)).alloc (.cells #[i64 0] 31)) 4 #[.bool true];rw[G_,G_]at h;exact h
 have Da:W0.heap.size=T+3:=by rw[<- Fu,<-hT];simp
 have HS:=zh (kr (Bm (zs.map dec)) W0)
 have hne2:((bs (Bm (zs.map dec))).toList==[])=false:=by rw[Ax];simpa using OQ Bn
 have HZ:=Em Bn hz hl Be
 have HI:=zh (λ W n (h:n<=4096)=>fK (dec n) n 4096 (CW (by omega)) h (by omega) W)
 have H0:=Em k0 T0 T1 T2
 rw[Da]at HS
 obtain⟨tx,dz⟩:=zn (Bm (zs.map dec))
 rw[dz]at HS hne2 ⊢
 have HTX:=zh dz
 clear Bn hz hl Be k0 T0 T1 T2 dz
 refine(callsIn_wide (n:=9)).1 ?_
 refine callsIn_of_wp_marks Tryz.func90 rfl trivial ?_ rfl
 simp only[Tryz.ntmps90,List.size_toArray,List.length_cons,List.length_nil,Nat.reduceAdd,Nat.reduceSub,Array.replicate_succ,Array.replicate_zero,List.push_toArray,List.append_toArray,List.nil_append,List.cons_append]
 refine wpIn_wide.2 ?_
 go_wp2_with fail
 refine wp_scope_straight ?_
 go_wp2_with fail
 go_step3
 go_wp2_with fail
 refine HS.out.mono ?_
 rintro e W1 ⟨rfl,hE,g1⟩
 have T0:=H0.out.2.1.grew g1
 have T1:=H0.out.2.2.1.grew g1
 have T2:=H0.out.2.2.2.grew g1
 have k1:=H0.out.1.trans g1
 have Gq:=hE.txt.lt
 have dy:T+3<=W1.heap.size:=by have:=g1.size;omega
 clear Fu HS g1
 go_wp2_with fail
 refine(wpIn_wide (n:=9)).1 ?_
 refine G7 rfl (by omega) (gf:=239) (lb:=#[pt (T+3+1),pt (T+3),pt (T+3+1+1)]) rfl trivial (enters_of Tryz.func239 (by kernel_rfl) rfl)
  (b:=T+3) (xs:=zs.map dec) Gq
  (kt _ (T+3+1) (T+3) (T+3+1+1) (zs.map dec) (by simpa using HZ.out.1) (λ x hx=>by obtain⟨n,_,rfl⟩:=List.mem_map.1 hx;exact iC n) (λ x hx=>by obtain⟨n,hn,rfl⟩:=List.mem_map.1 hx;have:=DD (k:=3) (n:=n) (by have:=HZ.out.2.1 n hn;omega);omega) W1 (by rw[HTX.out];exact hE))
  Bx.trans (λ W l o o' _ hl ho=>Bx.put W l o o' hl ho) (λ _=>rfl)
  (λ pre W=>∃ v,Ao W T 26 #[v]/\Ao W (T+1) 31 #[i64 0]/\Ao W (T+1+1) 4 #[.bool true]/\W.ownsRow (T+6) 3 1 v pre.length ((Bc (zs.take pre.length)).map i64)/\Af w W/\T+6<=W.heap.size)
  ?inv ?box ⟨_,T0,T1,T2,World.ownsRow_nil _ _ _ _,k1,?sz⟩ ?a1 ?assign ?body ?done
 case sz=>have:=hE.sav.lt;omega
 case inv =>
  intro s A B row hs hg hr;obtain⟨v,h1,h2,h3,h4,h5,h6⟩:=hs;exact⟨v,Ei _ _ _ (λ _=>#[v]) s A B row h1 hg hr,Ei _ _ _ (λ _=>#[i64 0]) s A B row h2 hg hr,Ei _ _ _ (λ _=>#[.bool true]) s A B row h3 hg hr,tW _ _ _ _ (λ _=>v) (λ s:List (List UInt8)=>s.length) (λ s=>(Bc (zs.take s.length)).map i64) s A B row h4 hg hr,Kv (by omega) s A B row h5 hg hr,Pd h6 hg.size⟩
 case box =>
  rintro s A u ⟨v,h1,h2,h3,h4,h5,h6⟩;refine⟨v,h1.far (p:=⟨T+3,0,none⟩) (by show T≠T+3;omega) _,h2.far (p:=⟨T+3,0,none⟩) (by show T+1≠T+3;omega) _,h3.far (p:=⟨T+3,0,none⟩) (by show T+1+1≠T+3;omega) _,?_,h5.setCell (p:=⟨T+3,0,none⟩) (.inr (by show w.heap.size<=T+3;omega)) _,by simpa [World.setCell] using h6⟩;exact Kept.own ((zr (λ k=>k=T+3) A).setCell (p:=⟨T+3,0,none⟩) (.inl rfl) _) h4 (λ k hk e=>by have:=(Ap h4 hk).1;omega)
 case assign =>
  intro l x W K hK;gi_wp2;exact hK
 case body =>
  rintro l pre x W ⟨v,b0,b1,b2,AV,hK,vL⟩ Ly;obtain⟨n,rfl,Lz,hn⟩:=zL zs Ly;have HIn:=zh (HI.out W n (HZ.out.2.1 n hn));have HP:=Lc b0 b1 b2 AV hK Lz;have Hv:pre.length<=1000:=by
   have:=Ly.length_le;rw[Pb,Pc]at this;have:=HZ.out.2.2.1;omega
  have HL:=BO Hv vL;clear Ly Lz b0 b1 b2 hK Hv vL HI hn;gi_wp2;refine⟨trivial,?_⟩;refine(CallsIn.inRound l (callsIn_wide.2 HIn.out)).mono ?_;rintro e W2 ⟨rfl,g2⟩;have C4:=g2.own HP.out.2.2.2.1;have b02:=HP.out.1.grew g2;have c0:=b02.cell 0;have f0:=b02.frozen 0;simp at c0;have Fv:=fV C4 (B:=T) (by omega);have hv:=zh b02;have rS:=zh g2;have rq:=HL.out.2;have hW2':=g2.size;have Hv:=HL.out.1;clear g2 b02 AV HIn;gi_wp2_with (gi_at_builtin;refine wpListIn_append_own _ rfl _ _ 26 rfl (T+6) 3 i0 (.int .i64 0) 1 8 A_ hi BZ BG B4 rfl (by decide) _ _ _ rfl (C4.alloc _) ⟨W2.heap.size,0,none⟩ 1 1 [i64 n] rfl rfl (cell_one_new _ _ _) (by simp[Value.oneCell']) (by unfold maxLen;omega) (by omega) (by simp;omega) ?_;intro v' w1 A8 nZ _;obtain⟨g',su,rfl⟩:=ownsRow_succ A8;have b1:=((hv.out.alloc (.cells #[i64 n] 3)).grown nZ Fv);have c1:=b1.cell 0;have f1:=b1.frozen 0;simp at c1);change (W2.alloc (.cells #[i64 n] 3)).grownBy w1 v.ownBlock at nZ;have KR:Kept (λ k=>v.ownBlock=some k\/k=T) W w1:=((Af.kept rS.out).alloc _).grown nZ (λ k hk=>.inl (.inl hk));have KS:=KR.setCell (p:=⟨T,0,none⟩) (.inl (.inr rfl)) (.slice (some ⟨g',0,none⟩) (pre.length+1) su);have far:∀ k,(v.ownBlock=some k\/k=T)->k=T\/T+6<=k:=λ k hk=>by
   rcases hk with h | h
   ·exact .inr (Ap HP.out.2.2.2.1 h).1
   ·exact .inl h
  refine⟨KS.others (λ k hk o ho=>?_),KS.keptC (λ k hk=>?_),_,b1.set 0 _,HP.out.2.1.kept KS (λ h=>?_),HP.out.2.2.1.kept KS (λ h=>?_),?_,?_,?_⟩
  ·rcases hk with h | rfl
   ·obtain⟨_,cur,hc⟩:=Ap HP.out.2.2.2.1 h;rw[hc]at ho;cases ho;rfl
   ·exact HP.out.1.iscells o ho
  ·have:=far k hk;exact⟨by omega,by omega,by omega⟩
  ·have:=far _ h;omega
  ·have:=far _ h;omega
  ·have h1:w1.ownsRow (T+6) 3 1 (.slice (some ⟨g',0,none⟩) (pre.length+1) su) (pre++[dec n]).length ((Bc (zs.take (pre++[dec n]).length)).map i64):=by
    rw[Pb,List.length_singleton,HP.out.2.2.2.2.2];simpa [Bc] using A8
   have xY:=fV h1 (B:=T) (by omega);exact Kept.own ((zr (λ k=>k=T) w1).setCell (p:=⟨T,0,none⟩) (.inl rfl) _) h1 (λ k hk h=>xY (by rw[hk,h]))
  ·exact HP.out.2.2.2.2.1.then KS λ i hi h=>by
    have:=far i h;omega
  ·exact Pd rq KS.size
 case done =>
  rintro D W hD ⟨v,b0,b1,b2,AV,hK,vL⟩ eZ;have hlen:(zs.map dec).length=zs.length:=Pc _;rw[hlen,List.take_of_length_le (zl _)]at AV;have D2:AS W (T+6) v (Bc zs):=by unfold AS;rw[show (Bc zs).length=zs.length by simp[Bc]];exact AV
  obtain⟨A,c,rfl,AX⟩:=D2.row;have HR:=zh (Co (Bc zs) A c W AX (by simp[Bc];have:=HZ.out.2.2.1;omega));have c0:=b0.cell 0;have c2:=b2.cell 0;have c1:=b1.cell 0;simp at c0 c1 c2;have HB:=Em b0 b1 D2 hK;clear b0 b1 b2 AV hK D2 AX;go_wp2_with fail;refine HR.out.mono ?_;rintro e w3 ⟨⟨b,rfl,Fv,hb2'⟩,g3⟩;obtain rfl:b=true:=hb2' HZ.out.2.2.2;have b03:=HB.out.1.grew g3;have xp:=HB.out.2.1.grew g3;have d0:=b03.cell 0;have d1:=xp.cell 0;have e0:=b03.frozen 0;have e1:=(xp.far (p:=⟨T,0,none⟩) (show T+1≠T by omega) (.slice A (Bc zs).length c)).frozen 0;simp at d0 d1;obtain⟨w4,Dn⟩:=zn ((w3.setCell ⟨T,0,none⟩ (.slice A (Bc zs).length c)).setCell ⟨T+1,0,none⟩ (i64 0));have k4:Kept (λ k=>k=T\/k=T+1) w3 w4:=by rw[<- Dn];exact((zr _ _).setCell (p:=⟨T,0,none⟩) (.inl (.inl rfl)) _).setCell (p:=⟨T+1,0,none⟩) (.inl (.inr rfl)) _
  have b04:Ao w4 T 26 #[.slice A (Bc zs).length c]:=by
   rw[<- Dn];have:=(b03.set 0 (.slice A (Bc zs).length c)).far (p:=⟨T+1,0,none⟩) (show T≠T+1 by omega) (i64 0);simpa using this
  have b14:Ao w4 (T+1) 31 #[i64 0]:=by
   rw[<- Dn];have:=(xp.far (p:=⟨T,0,none⟩) (show T+1≠T by omega) (.slice A (Bc zs).length c)).set 0 (i64 0);simpa using this
  have hDl:=(Array.getElem?_eq_some_iff.1 eZ).1;have hD4:w4.heap[D]? = some (.deferred (some [])):=(k4.block D (Nat.lt_of_lt_of_le hDl g3.size) (by omega)).trans ((g3.block D hDl (λ h=>h)).trans eZ);have HF:Hid (∀ o,AS (w4.putObj D o) w.heap.size (.slice A (Bc zs).length c) (Bc zs)/\Af w (w4.putObj D o)):=by
   intro o;have o3:=HB.out.2.2.1.grew g3;have o4:AS w4 (T+6) (.slice A (Bc zs).length c) (Bc zs):=o3.kept k4 (λ j hj h=>by have:=(Ap o3 hj).1;omega);refine⟨AD (ownsRow_putObj o4 _ hD4 rfl) (by omega),Kept.putObj ?_ D _ (.inr (by omega))⟩;exact(HB.out.2.2.2.trans g3).then k4 λ i hi h=>by omega
  have z0:∀ o,(w4.putObj D o).cell? ⟨T,0,none⟩=some (.slice A (Bc zs).length c):=λ o=>by
   have:=(b04.grown (grownBy_putObj' w4 D o) (λ e=>by cases e;omega)).cell 0;simpa using this
  have z1:∀ o,(w4.putObj D o).cell? ⟨T+1,0,none⟩=some (i64 0):=λ o=>by
   have:=(b14.grown (grownBy_putObj' w4 D o) (λ e=>by cases e;omega)).cell 0;simpa using this
  clear HB HR b03 xp b04 b14 k4 hDl eZ HZ HI HTX;go_wp2_with fail;rw[L_];refine⟨by simp,.inl ⟨_,_,rfl,run_takeDeferred hD4,?_⟩⟩;exact⟨.tuple #[.slice A (Bc zs).length c,i64 0],by simp[results,Tryz.results90,go_sem,z0,z1],_,rfl,HF.out _⟩
end Go.Proofs.YtepelooebggliaaGreatDoor
namespace Go.Proofs.YtepelooebggliaaGreatDoor
open Go.RowKit
theorem aD (X cap:Nat) (A:Option Addr) (zs:List Nat) (gn:Int) (ge:J_) (w:I_) (Bn:zs≠[]) (hz:∀ n∈zs,n<=4096) (hl:zs.length<=1000) (Be:Bu (Bc zs)) (hT:B8 w A [Bm (zs.map dec)]) (Bi:1<=cap) (h:ET w X (Am 1) (.slice none 0 0) [] 0 (.slice none 0 0) [] gn ge (.slice none 0 0) 0) :
  K_ B_ 56 #[pt X,.slice A 1 cap] w λ e w'=>e=.returned (.tuple #[])/\(∃ v,ET w' X (Am 1) (.slice none 0 0) [] 0 (.slice none 0 0) [] gn ge v 0/\AS w' w.heap.size v (Bc zs))/\Kept (λ j=>j=X) w w':=by
 have HP:=zh (dV zs Bn hz hl Be w)
 have c0:=h.blk.cell 0
 simp at c0
 have HR:=zh h
 obtain⟨b,off,rfl,hb,hc⟩:=hT 0 _ rfl
 simp only[Nat.add_zero]at hc
 have eL:((bs (Am 1)).toList==[76,79,65,68])=false:=by rw[Ax];rfl
 have eB:((bs (Am 1)).toList==[66,85,73,76,68])=true:=by rw[Ax];rfl
 obtain⟨nm,D1⟩:=zn (Am 1)
 obtain⟨tx,dz⟩:=zn (Bm (zs.map dec))
 rw[D1]at eL eB c0 HR ⊢
 rw[dz]at HP hc
 clear h hz hl Be hT D1 Bn dz hb
 go_enter E_,D_
 go_wp2_with fail
 go_step3
 go_wp2_with fail
 refine HP.out.mono ?_
 rintro e w1 ⟨v,rfl,ho,k1⟩
 obtain⟨A1,c1,rfl⟩:=At ho
 have h1:=HR.out.grew k1
 have b0:=h1.blk
 have b1:=b0.set 6 (.slice A1 (Bc zs).length c1)
 have b2:=b1.set 7 (i64 0)
 simp only[sA]at b1 b2
 have f0:=b0.frozen 6
 have f1:=b1.frozen 7
 have y0:=b0.cell 6
 have y1:=b1.cell 7
 simp at y0 y1
 have kk:Kept (λ j=>j=X) w1 ((w1.setCell ⟨X,6,none⟩ (.slice A1 (Bc zs).length c1)).setCell ⟨X,7,none⟩ (i64 0)) :=
  (((zr (λ j=>j=X) w1).setCell (p:=⟨X,6,none⟩) (.inl rfl) _).setCell (p:=⟨X,7,none⟩) (.inl rfl) _)
 have HF:Hid ((∃ v,ET ((w1.setCell ⟨X,6,none⟩ (.slice A1 (Bc zs).length c1)).setCell ⟨X,7,none⟩ (i64 0)) X nm (.slice none 0 0) [] 0 (.slice none 0 0) [] gn ge v 0/\AS ((w1.setCell ⟨X,6,none⟩ (.slice A1 (Bc zs).length c1)).setCell ⟨X,7,none⟩ (i64 0)) w.heap.size v (Bc zs))/\Kept (λ j=>j=X) w ((w1.setCell ⟨X,6,none⟩ (.slice A1 (Bc zs).length c1)).setCell ⟨X,7,none⟩ (i64 0))) :=
  ⟨⟨_,⟨b2,⟨rfl,.inl ⟨rfl,rfl⟩⟩,⟨rfl,.inl ⟨rfl,rfl⟩⟩⟩,Kept.own kk ho λ j hj e=>by
   have h1:=(Ap ho hj).1;have h2:=HR.out.blk.lt;omega⟩,(Af.kept k1).then kk (λ _ _ h=>h)⟩
 clear HP HR ho k1 h1 b0 b1 b2 kk
 go_wp2_with fail
 rw[L_]
 exact zy (v:=.tuple #[]) (by simp[results,C_]) rfl ⟨rfl,HF.out⟩
theorem j8 (v0 v1:J_) (zs ys:List Int) (x0 x1:Int) (w:I_) (h0:Lu w v0 zs) (h1:Lu w v1 ys) (hl:zs.length+ys.length<=1000) (hp:0<zs.length+ys.length) (hx:0<=x0/\x0<=1000000/\0<=x1/\x1<=1000000) :
  K_ B_ 152 #[.agg #[v0,u64 x0],.agg #[v1,u64 x1]] w λ e w'=>∃ v,e=.returned (.agg #[v,u64 (x0+x1)])/\AS w' w.heap.size v (zs++ys)/\Af w w':=by
 obtain⟨A0,c0,rfl⟩:=h0.slice
 obtain⟨A1,c1,rfl⟩:=h1.slice
 obtain⟨T,hT⟩:=zn (w.heap.size)
 obtain⟨L0,fb⟩:=zn (zs.length)
 obtain⟨L1,nv⟩:=zn (ys.length)
 obtain⟨w3,Db⟩:=zn (((w.alloc (.cells #[.slice A0 L0 c0,u64 x0] 133)).alloc (.cells #[.slice A1 L1 c1,u64 x1] 133)).alloc (.cells #[.slice none 0 0,u64 0] 133))
 have g3:Af w w3:=by rw[<- Db];exact(((zr _ _).alloc _).alloc _).alloc _
 have b0:Ao w3 T 133 #[.slice A0 L0 c0,u64 x0]:=by rw[<- Db,<-hT];exact((zv w _ _).alloc _).alloc _
 have b1:Ao w3 (T+1) 133 #[.slice A1 L1 c1,u64 x1]:=by
  rw[<- Db,<-hT];have h:=zv (w.alloc (.cells #[.slice A0 L0 c0,u64 x0] 133)) 133 #[.slice A1 L1 c1,u64 x1];rw[G_]at h;exact h.alloc _
 have b2:Ao w3 (T+1+1) 133 #[.slice none 0 0,u64 0]:=by
  rw[<- Db,<-hT];have h:=zv ((w.alloc (.cells #[.slice A0 L0 c0,u64 x0] 133)).alloc (.cells #[.slice A1 L1 c1,u64 x1] 133)) 133 #[.slice none 0 0,u64 0];rw[G_,G_]at h;exact h
 have HC:Hid (∀ W',Af w3 W'->W'.cell? ⟨T,0,none⟩=some (.slice A0 L0 c0)/\W'.cell? ⟨T,1,none⟩=some (u64 x0)/\W'.cell? ⟨T+1,0,none⟩=some (.slice A1 L1 c1)/\W'.cell? ⟨T+1,1,none⟩=some (u64 x1)):=λ W' k=>by
  have p0:=(b0.grew k).cell 0;have p1:=(b0.grew k).cell 1;have p2:=(b1.grew k).cell 0;have p3:=(b1.grew k).cell 1;simp at p0 p1 p2 p3;exact⟨p0,p1,p2,p3⟩
 have HN:=Fo g3 b2 h0 h1 hT
 have HCC:=zh (λ S c (W:I_) (k:Af w W) (hS:Ao W S 26 #[.slice A0 L0 c0,.slice A1 L1 c1])=>cH S c (.slice A0 L0 c0) (.slice A1 L1 c1) zs ys W hS (by rw[<- fb];exact h0.grew k) (by rw[<- nv];exact h1.grew k) hl hp)
 have hwr:IntKind.u64.wrap (x0+x1)=x0+x1:=Go.IntWalk.u64_in _ (by omega)
 have gz:Af w3 w3.drew:=(zr _ _).drew
 rw[fb,nv]
 clear b0 b1 b2 h0 h1 hl hp hx fb nv g3
 go_enter Tryz.func152,Tryz.ntmps152
 go_upto_region 1 with fail
 have e3:((w.alloc (.cells #[.slice A0 L0 c0,.int .u64 x0] 133)).alloc (.cells #[.slice A1 L1 c1,.int .u64 x1] 133)).alloc (.cells #[.slice none 0 0,.int .u64 0] 133)=w3:=Db
 try rw [e3]
 try rw [hT]
 clear e3 Db hT
 refine rG [12] (λ _=>False) ?_
 refine pG 0 5 ?_
 refine tF 1 6 HC.out gz ?_
 refine pG 2 7 ?_
 refine tF 3 8 HC.out gz ?_
 refine pG 6 11 ?_
 refine tF 7 12 HC.out gz ?_
 refine pG 8 13 ?_
 refine tF 9 14 HC.out gz ?_
 refine pG 10 15 ?_
 refine sG 4 9 (λ K Al=>?_)
 go_simp
 obtain⟨y1,Br⟩:=zn ((World.alloc w3 (.cells #[.slice A0 L0 c0,.slice A1 L1 c1] 26)).drew)
 have k1:Af w3.drew y1:=by rw[<- Br];exact Kept.newD _ _ _
 have bv:Ao y1 w3.heap.size 26 #[.slice A0 L0 c0,.slice A1 L1 c1]:=by rw[<- Br];exact zv _ _ _
 obtain⟨S,hS⟩:=zn (w3.heap.size)
 rw[hS]at bv
 rw[Br,hS]
 clear Br
 refine Al (.slice (some ⟨S,0,none⟩) 2 2) _ (λ _=>k1) ?_
 clear Al
 simp only[sA]
 refine sG 5 10 (λ K Al=>?_)
 go_simp
 refine(HCC.out S 2 _ ((HN.out.1.trans gz).trans k1) bv).mono ?_
 rintro e y2 ⟨v,rfl,ho,k2⟩
 obtain⟨A2,c2,rfl⟩:=At ho
 obtain⟨L,hL⟩:=zn ((zs++ys).length)
 rw[hL]at ho
 rw[hL]
 have HO:=zh ho
 clear ho HCC
 refine Al (.slice A2 L c2) _ (λ _=>k2) ?_
 clear Al
 simp only[sA]
 refine pG 11 16 ?_
 refine Du 12 (λ K Al=>?_)
 have HB:=zh (((HN.out.2.1.grew gz).grew k1).grew k2)
 refine wp_store_row 133 (.tmp 4) (.tmp 16) rfl (T+1+1) #[.slice A2 L c2,u64 (x0+x1)] rfl rfl 133 _ HB.out (by kernel_rfl) rfl (Ay (by simp[Value.oneCell'])) ?_
 refine Al _ (λ h=>absurd (by simp) h) ?_
 clear Al
 refine dG ?_
 have t6:=HB.out.setRow #[.slice A2 L c2,u64 (x0+x1)]
 obtain⟨r0,r1⟩:=BP t6
 have kT:Kept (λ j=>j=T+1+1) y2 (y2.setRow (T+1+1) #[.slice A2 L c2,u64 (x0+x1)]):=(zr (λ j=>j=T+1+1) _).setRow (.inl rfl) _
 have HF:Hid (AS (y2.setRow (T+1+1) #[.slice A2 L c2,u64 (x0+x1)]) w.heap.size (.slice A2 L c2) (zs++ys)/\Af w (y2.setRow (T+1+1) #[.slice A2 L c2,u64 (x0+x1)])):=by
  have hT:=HN.out.2.2.2.2;have g0:=((HN.out.1.trans gz).trans k1);have hs:=g0.size;have AI:=(HN.out.2.1.grew gz).grew k1 |>.lt;refine⟨AD (Kept.own kT HO.out λ j hj e=>by have:=(Ap HO.out hj).1;omega) hs,(g0.trans k2).then kT λ i hi e=>by omega⟩
 clear t6 kT HB
 go_wp2_with fail
 exact zy (v:=.agg #[.slice A2 L c2,u64 (x0+x1)]) (by simp[results,Tryz.results152,go_sem,r0,r1]) rfl ⟨_,rfl,HF.out⟩
end Go.Proofs.YtepelooebggliaaGreatDoor
