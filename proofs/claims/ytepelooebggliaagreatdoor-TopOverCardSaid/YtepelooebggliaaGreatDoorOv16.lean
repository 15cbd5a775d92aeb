/- Walks of functions that the law reaches, and plain laws, part 17 of 20: lemmas for the proof in the last text; no condition. Shortened by program. -/
import Derived.Great.BuildSlice
import Derived.Test.YtepelooebggliaaGreatDoorOv0
import Derived.Test.YtepelooebggliaaGreatDoorOv3
import Derived.Test.YtepelooebggliaaGreatDoorOv5
import Derived.Test.YtepelooebggliaaGreatDoorOv6
import Derived.Test.YtepelooebggliaaGreatDoorOv13
import Derived.Test.YtepelooebggliaaGreatDoorOv15
open Go.Value renaming slice->A_,oneCell'->B_
open Go renaming World->C_,Value->D_,Addr->E_,Calls->F_,Ending->G_
open Go.Proofs.Tryz renaming results41->H_,prog->I_,results78->J_,results119->K_,results75->L_,ntmps78->M_,func78->N_
open List renaming replicate->O_
open Go.World renaming size_alloc->Pa,alloc->Pb,heap->Pc,news_of_block->Pd
open Go.World.ownsRow renaming lt->Pe
open Nat renaming le_trans->Pf
set_option maxHeartbeats 16000000
set_option maxRecDepth 100000
set_option linter.unusedVariables false
set_option linter.unusedSimpArgs false
namespace Go.Proofs.YtepelooebggliaaGreatDoor
open Go.RowKit
structure PgS (w:C_) (T k:Nat) (wr:C_) (N:Int) (A5:Option E_) (n5 c5:Nat):Prop where
 res:Ao wr T 24 #[i64 0,.slice none 0 0]
 gr:Ao wr (T+1) 24 #[i64 N,.slice A5 n5 c5]
 row:I6 wr T (.slice A5 n5 c5) k
 kept:Af w wr
structure PgC (w:C_) (T k:Nat) (wx:C_) (Dc:Nat) (N6:Int) (A6:Option E_) (n6 c6:Nat) (f:Int):Prop where
 nx:Ao wx Dc 24 #[i64 N6,.slice A6 n6 c6]
 res:Ao wx T 24 #[i64 0,.slice none 0 0]
 gr:∃ c0 c1,Ao wx (T+1) 24 #[c0,c1]
 row:f=0->I6 wx T (.slice A6 n6 c6) (k+1)
 kept:Af w wx
 lt:T+2<=Dc
theorem I6.few {w:C_} {B n5 c5 k:Nat} {A5:Option E_} (h:I6 w B (.slice A5 n5 c5) k):n5<=k:=by
 obtain⟨es,he,hl⟩:=h;obtain⟨A9,c9,hv⟩:=At he;injection hv with _ h2 _;omega
theorem I6.off {w:C_} {B T k:Nat} {v:D_} {cs:Array D_} (h:I6 w B v k) (hb:Ao w T 24 cs):¬ v.ownBlock=some T:=by
 obtain⟨es,he,_⟩:=h;exact C7 he hb (by decide)
theorem I6.lt {w:C_} {B k j:Nat} {v:D_} (h:I6 w B v k) (e:v.ownBlock=some j):j<w.heap.size:=by
 obtain⟨es,he,_⟩:=h;exact(Pe he j e).2
theorem PgS.next {w wr y2:C_} {T k Dc n5 c5 n6 c6:Nat} {N N6 f:Int} {A5 A6:Option E_} {cur:Array D_} (S:PgS w T k wr N A5 n5 c5) (hT:w.heap.size=T) (k2:Kept (λ j=>(A_ A5 n5 c5).ownBlock=some j) wr y2) (bT:Ao y2 Dc 24 cur) (h13:wr.heap.size<=Dc) (hg:f=0->I6 y2 T (.slice A6 n6 c6) (k+1)):PgC w T k (y2.setRow Dc #[i64 N6,.slice A6 n6 c6]) Dc N6 A6 n6 c6 f:=by
 have l1:=S.gr.lt;refine⟨bT.setRow _,(S.res.kept k2 (S.row.off S.res)).farRow (by omega) _,⟨_,_,(S.gr.kept k2 (S.row.off S.gr)).farRow (by omega) _⟩,λ h0=>?_,?_,by omega⟩
 ·have h:=hg h0;exact h.kept ((zr (λ j=>j=Dc) _).setRow (.inl rfl) _) λ j hj e=>by
   obtain rfl:j=Dc:=e;exact h.off bT hj
 ·refine(S.kept.then k2 λ i hi h=>?_).setRow (.inr (by omega)) _;obtain⟨es,he,_⟩:=S.row;have:=(Ap he h).1;omega
theorem PgC.back {w wx:C_} {T k Dc n6 c6:Nat} {N6:Int} {A6:Option E_} (C:PgC w T k wx Dc N6 A6 n6 c6 0) (hT:w.heap.size=T):PgS w T (k+1) ((wx.setCell ⟨T+1,0,none⟩ (i64 N6)).setCell ⟨T+1,1,none⟩ (.slice A6 n6 c6)) N6 A6 n6 c6:=by
 obtain⟨c0,c1,hb⟩:=C.gr;have h:=(hb.set 0 (i64 N6)).set 1 (.slice A6 n6 c6);refine⟨(C.res.far (by show T≠T+1;omega) _).far (by show T≠T+1;omega) _,by simpa using h,?_,(C.kept.setCell (p:=⟨T+1,0,none⟩) (.inr (by show w.heap.size<=T+1;omega)) _).setCell (p:=⟨T+1,1,none⟩) (.inr (by show w.heap.size<=T+1;omega)) _⟩;exact(C.row rfl).kept (((zr (·=T+1) wx).setCell (p:=⟨T+1,0,none⟩) (.inl rfl) _).setCell (p:=⟨T+1,1,none⟩) (.inl rfl) _) λ j hj e=>by
  obtain rfl:j=T+1:=e;exact(C.row rfl).off hb hj
def uM (w:C_) (e:G_) (w':C_):Prop:=∃ (N':Int) (A':Option E_) (L' c':Nat) (i f:Int),e=.returned (.tuple #[.agg #[i64 N',.slice A' L' c'],i64 i,i64 f])/\L'<=501/\Af w w'
theorem uM.of {w wx:C_} {T L' c':Nat} {A':Option E_} (N' i f:Int) (hT:w.heap.size=T) (g:Af w wx) (hL:L'<=501):uM w (.returned (.tuple #[.agg #[i64 N',.slice A' L' c'],i64 i,i64 f])) ((wx.setCell ⟨T,0,none⟩ (i64 N')).setCell ⟨T,1,none⟩ (.slice A' L' c')) :=
 ⟨_,_,_,_,_,_,rfl,hL,(g.setCell (p:=⟨T,0,none⟩) (.inr (by show w.heap.size<=T;omega)) _).setCell (p:=⟨T,1,none⟩) (.inr (by show w.heap.size<=T;omega)) _⟩
theorem Ky (A:Option E_) (c:Nat) (ls:List (List UInt8)) (w:C_) (h:B8 w A ls) (hn:ls.length<=501) (hx:∀ x∈ls,x.length<=500):F_ I_ 75 #[.slice A ls.length c] w (uM w):=by
 obtain⟨T,hT⟩:=zn (w.heap.size);obtain⟨w1,AT⟩:=zn ((w.alloc (.cells #[i64 0,.slice none 0 0] 24)).alloc (.cells #[i64 0,.slice none 0 0] 24));have S0:Hid (∃ N A5 n5 c5,PgS w T 0 w1 N A5 n5 c5):=by
  refine⟨0,none,0,0,?_,?_,⟨[],⟨?_,.inl ⟨rfl,rfl⟩⟩,rfl⟩,?_⟩
  ·rw[<- AT,<-hT];exact(zv w _ _).alloc _
  ·rw[<- AT,<-hT];have h:=zv (w.alloc (.cells #[i64 0,.slice none 0 0] 24)) 24 #[i64 0,.slice none 0 0];rw[Pa]at h;exact h
  ·rfl
  ·rw[<- AT];exact((zr _ _).alloc _).alloc _
 obtain⟨L,hL⟩:=zn (ls.length);have H0:=DU h hx hL;have HT:=zh hT;rw[hL]at hn ⊢;clear h hx hL;have e0:(w.alloc (.cells #[.int .i64 0,.slice none 0 0] 24)).alloc (.cells #[.int .i64 0,.slice none 0 0] 24)=w1:=AT;clear AT;go_enter Tryz.func75,Tryz.ntmps75;go_wp2_with fail;go_loopw [6,7,8,9,10] (λ v6 v7 v8 v9 v10 wr=>∃ (k:Nat) (LC:Int),k<=L/\v6=.int .i64 LC/\v7=.int .i64 k/\Hid (∃ N A5 n5 c5,PgS w T k wr N A5 n5 c5)) (λ _ v7 _ _ _ _=>L-(intOf v7).toNat)
 case atStart=>exact⟨0,2,by omega,rfl,rfl,S0⟩
 case round =>
  clear S0;obtain⟨k,LC,hk,rfl,rfl,hS⟩:=hrel;obtain⟨N,A5,n5,c5,hS⟩:=hS.out;have S:=zh hS;clear hS;by_cases hnd:(k:Int)<LC
  ·have d1:decide ((k:Int)<LC)=true:=zt hnd;by_cases AI:k<L
   ·have k0:(0:Int)<=(k:Int):=(by omega);have k1:(k:Int)<(L:Int):=(by omega);have NP:decide (L<=k)=false:=zf (by omega);obtain⟨x,hx⟩:=zx (l:=ls) (i:=k) (by rw[H0.out.2.2];exact AI);have yO:=H0.out.2.1 x (zm hx);have HW:Hid (∀ W,Af wr W->F_ I_ 117 #[.agg #[i64 N,.slice A5 n5 c5],i64 k,str x] W (rY T k (.slice A5 n5 c5) W)):=zh λ W g=>KA N A5 n5 c5 T k x W (S.out.row.grew g) (by have:=S.out.kept.size;have:=g.size;omega) (by omega) yO;obtain⟨b,off,hA,hb,bp⟩:=H0.out.1 k x hx;subst hA;obtain⟨c0,c1⟩:=BP S.out.gr;have hnb:∀ j,j<T->¬ (A_ A5 n5 c5).ownBlock=some j:=λ j hj e=>by
     obtain⟨es,he,_⟩:=S.out.row;have:=(Ap he e).1;omega
    have HC:Hid (∀ w',Kept (λ j=>(A_ A5 n5 c5).ownBlock=some j) wr w'->w'.cell? ⟨T+1,0,none⟩=some (i64 N)/\w'.cell? ⟨T+1,1,none⟩=some (.slice A5 n5 c5)/\w'.cell? ⟨b,off+k,none⟩=some (str x)):=λ w' g=>⟨g.cell c0 (S.out.row.off S.out.gr),g.cell c1 (S.out.row.off S.out.gr),g.cell (S.out.kept.cell bp) (hnb b (by omega))⟩;have gz:Af wr wr.drew:=(zr _ _).drew;have Iu:Kept (λ j=>(A_ A5 n5 c5).ownBlock=some j) wr wr.drew:=(zr _ _).drew;clear hx yO c0 c1 bp hb hnb hnd;go_upto_region 8 with fail;go_cut [8,9,10] from 11 to 45 (λ v8 v9 v10 wx=>∃ (Dc:Nat) (N6:Int) (A6:Option E_) (n6 c6:Nat) (n f:Int),v8=pt Dc/\v9=.int .u64 n/\v10=.int .i64 f/\Hid (PgC w T k wx Dc N6 A6 n6 c6 f))
    case first =>
     refine rG [12] (λ j=>(A_ A5 n5 c5).ownBlock=some j) ?_;refine tF 0 24 HC.out Iu ?_;refine pG 1 25 ?_;refine pG 2 26 ?_;refine pG 3 27 ?_;refine pG 4 28 ?_;refine tF 5 29 HC.out Iu ?_;refine AO 6 30 11 8 rfl rfl (by kernel_rfl) rfl rfl (by rfl) (by rfl) (λ K Al=>?_) (λ K Al=>?_)
     ·skip;go_simp;refine(HW.out _ gz).mono ?_;rintro e v1 ⟨N6,A6,n6,c6,n,f,rfl,NO,j1⟩;refine Al (.tuple #[.agg #[i64 N6,.slice A6 n6 c6],.int .u64 n,.int .i64 f]) _ (λ _=>j1) ?_;clear Al;simp only[sA];refine pG 7 23 ?_;refine pG 8 31 ?_;refine pG 9 32 ?_;refine pG 10 33 ?_;refine sG 11 8 (λ K Al=>?_);go_simp;obtain⟨Dc,E5⟩:=zn ((Pc v1).size);obtain⟨v2,CN⟩:=zn ((Pb v1 (.cells #[.int .i64 0,.slice none 0 0] 24)));have bJ:Af v1 v2:=by rw[<- CN];exact DL _ _ _
      have j2:=Af.kept (F:=λ j=>(A_ A5 n5 c5).ownBlock=some j) bJ;have bT:Ao v2 Dc 24 #[i64 0,.slice none 0 0]:=by rw[<- CN,<-E5];exact zv _ _ _
      have Oy:wr.heap.size<=Dc:=by rw[<- E5];exact((Iu.trans j1)).size
      have tQ:¬ (A_ A5 n5 c5).ownBlock=some Dc:=λ e=>by have:=S.out.row.lt e;omega
      rw[CN,E5];clear CN E5;have NO:=λ h=>(NO h).grew bJ;refine Al (pt Dc) _ (λ _=>j2) ?_;clear Al;simp only[sA];refine Du 12 (λ K Al=>?_);have mc:=zh bT;have HX:=zh (S.out.next (N6:=N6) HT.out ((Iu.trans j1).trans j2) bT Oy NO);clear bT NO Oy tQ;refine wp_store_row 24 (.tmp 8) (.tmp 31) rfl Dc #[i64 N6,.slice A6 n6 c6] rfl rfl 24 _ mc.out (by kernel_rfl) rfl (Ay (by simp[B_])) ?_;refine Al _ (λ h=>absurd (by simp) h) ?_;clear Al;refine pG 13 9 ?_;refine pG 14 10 ?_;refine dG ?_;obtain⟨y3,CR⟩:=zn (v2.setRow Dc #[i64 N6,.slice A6 n6 c6]);rw[CR]at HX;clear mc HC HW S;rw[CR];go_wp2_with fail;go_meet;exact⟨Dc,N6,A6,n6,c6,n,f,rfl,rfl,rfl,HX⟩
     ·skip;go_simp;obtain⟨Dc,E5⟩:=zn ((Pc wr).size);obtain⟨v1,Br⟩:=zn ((Pb wr (.cells #[.int .i64 0,.slice none 0 0] 24)).drew);have jy:Af wr.drew v1:=by rw[<- Br];exact Kept.newD _ _ _
      have j1:=Af.kept (F:=λ j=>(A_ A5 n5 c5).ownBlock=some j) jy;have bT:Ao v1 Dc 24 #[i64 0,.slice none 0 0]:=by rw[<- Br,<-E5];exact zv _ _ _
      have Oy:wr.heap.size<=Dc:=by rw[<- E5];exact zl _
      have tQ:¬ (A_ A5 n5 c5).ownBlock=some Dc:=λ e=>by have:=S.out.row.lt e;omega
      rw[Br,E5];clear Br E5;refine Al (pt Dc) _ (λ _=>j1) ?_;clear Al;simp only[sA];refine sG 6 30 (λ K Al=>?_);go_simp;refine(HW.out _ (gz.trans jy)).mono ?_;rintro e v2 ⟨N6,A6,n6,c6,n,f,rfl,NO,j2⟩;have bT:=bT.kept j2 tQ;refine Al (.tuple #[.agg #[i64 N6,.slice A6 n6 c6],.int .u64 n,.int .i64 f]) _ (λ _=>j2) ?_;clear Al;simp only[sA];refine pG 7 23 ?_;refine pG 8 31 ?_;refine pG 9 32 ?_;refine pG 10 33 ?_;refine Du 12 (λ K Al=>?_);have mc:=zh bT;have HX:=zh (S.out.next (N6:=N6) HT.out ((Iu.trans j1).trans j2) bT Oy NO);clear bT NO Oy tQ;refine wp_store_row 24 (.tmp 8) (.tmp 31) rfl Dc #[i64 N6,.slice A6 n6 c6] rfl rfl 24 _ mc.out (by kernel_rfl) rfl (Ay (by simp[B_])) ?_;refine Al _ (λ h=>absurd (by simp) h) ?_;clear Al;refine pG 13 9 ?_;refine pG 14 10 ?_;refine dG ?_;obtain⟨y3,CR⟩:=zn (v2.setRow Dc #[i64 N6,.slice A6 n6 c6]);rw[CR]at HX;clear mc HC HW S;rw[CR];go_wp2_with fail;go_meet;exact⟨Dc,N6,A6,n6,c6,n,f,rfl,rfl,rfl,HX⟩
    case rest =>
     obtain⟨wd,IW⟩:∃ w,w=wc:=⟨wc,rfl⟩;subst IW;obtain⟨Dc,N6,A6,n6,c6,n,f,rfl,rfl,rfl,hC⟩:=hcut;clear HW HC gz Iu;by_cases hf:f=0
     ·subst hf;have S':Hid (∃ N A5 n5 c5,PgS w T (k+1) ((wd.setCell ⟨T+1,0,none⟩ (i64 N6)).setCell ⟨T+1,1,none⟩ (.slice A6 n6 c6)) N A5 n5 c5):=⟨_,_,_,_,hC.out.back HT.out⟩;obtain⟨y0,y1,hb⟩:=hC.out.gr;obtain⟨x0,x1,x2,x3,-,-⟩:=DK hb (i64 N6) (.slice A6 n6 c6);obtain⟨c0,c1⟩:=BP hC.out.nx;clear hb hC;by_cases J9:k=1
      ·have e1:((k:Int)==1)=true:=by subst J9;rfl
       go_wp2_with fail;go_roundw
       case rel=>exact⟨k+1,_,by omega,rfl,by go_num,S'⟩
       case measure=>simp[intOf];omega
      ·have e1:((k:Int)==1)=false:=by
        have:¬ (k:Int)=1:=(by omega);simpa using this
       go_wp2_with fail;go_roundw
       case rel=>exact⟨k+1,_,by omega,rfl,by go_num,S'⟩
       case measure=>simp[intOf];omega
     ·have lG:(f != 0)=true:=(by simpa using hf);have HF:=zh (uM.of (L':=0) (c':=0) (A':=none) 0 (k:Int) f HT.out hC.out.kept (by omega));obtain⟨x0,x1,x2,x3,r0,r1⟩:=DK hC.out.res (i64 0) (.slice none 0 0);clear hC hf;go_wp2_with fail;exact zy (v:=.tuple #[.agg #[i64 0,.slice none 0 0],i64 k,i64 f]) (by simp[results,L_,go_sem,r0,r1]) rfl HF.out
   ·obtain rfl:k=L:=(by omega);have HF:=zh (uM.of (L':=0) (c':=0) (A':=none) 0 (k:Int) 3 HT.out S.out.kept (by omega));obtain⟨x0,x1,x2,x3,r0,r1⟩:=DK S.out.res (i64 0) (.slice none 0 0);clear S hnd;go_wp2_with fail;exact zy (v:=.tuple #[.agg #[i64 0,.slice none 0 0],i64 k,i64 3]) (by simp[results,L_,go_sem,r0,r1]) rfl HF.out
  ·have d1:decide ((k:Int)<LC)=false:=zf hnd;by_cases fw:LC<(L:Int)
   ·have d2:decide (LC<(L:Int))=true:=zt fw;have HF:=zh (uM.of (L':=0) (c':=0) (A':=none) 0 LC 3 HT.out S.out.kept (by omega));obtain⟨x0,x1,x2,x3,r0,r1⟩:=DK S.out.res (i64 0) (.slice none 0 0);clear S hnd fw;go_wp2_with fail;exact zy (v:=.tuple #[.agg #[i64 0,.slice none 0 0],i64 LC,i64 3]) (by simp[results,L_,go_sem,r0,r1]) rfl HF.out
   ·have d2:decide (LC<(L:Int))=false:=zf fw;have HF:=zh (uM.of (L':=n5) (c':=c5) (A':=A5) N 0 0 HT.out S.out.kept (by have:=S.out.row.few;omega));obtain⟨x0,x1,x2,x3,r0,r1⟩:=DK S.out.res (i64 N) (.slice A5 n5 c5);obtain⟨c0,c1⟩:=BP S.out.gr;clear S hnd fw;go_wp2_with fail;exact zy (v:=.tuple #[.agg #[i64 N,.slice A5 n5 c5],i64 0,i64 0]) (by simp[results,L_,go_sem,r0,r1]) rfl HF.out
theorem Nk (w:C_):F_ I_ 116 #[] w λ e w'=>∃ g,e=.returned (.slice (some ⟨g,0,none⟩) 13 13)/\(∀ i,i<13->∃ x,w'.cell? ⟨g,i,none⟩=some (.string x))/\Af w w':=by
 go_enter Tryz.func116,Tryz.ntmps116;go_wp2_with fail;go_ret;refine⟨_,rfl,λ i hi=>?_,DL _ _ _⟩;rw[(zv w 9 _).cell];rcases(by omega:i=0\/i=1\/i=2\/i=3\/i=4\/i=5\/i=6\/i=7\/i=8\/i=9\/i=10\/i=11\/i=12) with rfl | rfl | rfl | rfl | rfl | rfl | rfl | rfl | rfl | rfl | rfl | rfl | rfl<;>exact⟨_,rfl⟩
theorem LF (nm:List UInt8) (w:C_):F_ I_ 74 #[str nm] w λ e w'=>∃ b,e=.returned (.bool b)/\Af w w':=by
 have HN:=zh Nk;go_enter Tryz.func74,Tryz.ntmps74;go_wp2_with fail;go_loopw [3] (λ v3 wr=>∃ k:Nat,k<=13/\v3=.int .i64 k/\Hid (Af w wr)) (λ v3 _=>13-(intOf v3).toNat)
 case atStart=>exact⟨0,by omega,rfl,zh (zr _ _)⟩
 case round =>
  obtain⟨k,hk,rfl,hG⟩:=hrel;go_wp2_with fail;refine(HN.out _).mono ?_;rintro e w1 ⟨g,rfl,Ju,g1⟩;have G1:=zh (hG.out.trans g1);clear Ju g1;by_cases AI:k<13
  ·have k0:(0:Int)<=(k:Int):=(by omega);have k1:(k:Int)<13:=(by omega);go_wp2_with fail;refine(HN.out _).mono ?_;rintro e w2 ⟨g2,rfl,hc,g2'⟩;obtain⟨x,hx⟩:=hc k AI;have G2:=zh (G1.out.trans g2');clear hc g2' G1;go_wp2_with fail
   ·go_ret;exact⟨_,rfl,G2.out⟩
   ·go_roundw
    case rel=>exact⟨k+1,by omega,by go_num,G2⟩
    case measure=>simp[intOf];omega
  ·obtain rfl:k=13:=(by omega);go_wp2_with fail;go_ret;exact⟨_,rfl,G1.out⟩
theorem Kz (c:Int) (w:C_):F_ I_ 120 #[.int .u8 c] w λ e w'=>∃ a b:Int,e=.returned (.tuple #[i64 a,i64 b])/\w=w':=by
 go_enter Tryz.func120,Tryz.ntmps120;go_wp2_with fail;all_goals
  go_ret2
  exact⟨_,_,rfl,rfl⟩
def eP (m:Nat) (w:C_) (e:G_) (w':C_):Prop:=∃ (ks:List UInt8) (b:Bool),e=.returned (.tuple #[str ks,.bool b])/\(b=true->ks.length=m)/\w=w'
theorem eP.of (ks:List UInt8) (z:Int) (m:Nat) (W:C_) (hz:z=ks.length):eP m W (.returned (.tuple #[str ks,.bool (z==(m:Int))])) W:=⟨ks,_,rfl,λ h=>by
 have h':z=(m:Int):=(by simpa using h);omega,rfl⟩
theorem eP.no (m:Nat) (W:C_):eP m W (.returned (.tuple #[str [],.bool false])) W:=⟨[],false,rfl,(λ h=>absurd h (by decide)),rfl⟩
theorem LD (nm:List UInt8) (m:Nat) (hm:m<=501) (w:C_):F_ I_ 77 #[str nm,i64 m] w (eP m w):=by
 obtain⟨b1,d1⟩:=zn (decide ((m:Int)<2));obtain⟨b2,d2⟩:=zn (decide (20<(m:Int)));cases b1<;>cases b2
 case' false.false=>have m20:m<=20:=Int.ofNat_le.1 (by simpa using d2)
 all_goals
  go_enter Tryz.func77,Tryz.ntmps77
  go_wp2_with fail
 all_goals first
  | (go_ret2;exact eP.of [110,110] _ _ _ rfl)
  | (go_ret2;exact eP.of [110,110,107,114,114,114] _ _ _ rfl)
  | (go_ret2;exact eP.of [110,110,107] _ _ _ rfl)
  | (go_ret2;exact eP.of [110,110,107,111,114,114,114,114] _ _ _ rfl)
  | (go_ret2;exact eP.of [101,119] _ _ _ rfl)
  | (go_ret2;exact eP.of [110,97] _ _ _ rfl)
  | (go_ret2;exact eP.of [] _ _ _ rfl)
  | (go_ret2;exact eP.no _ _)
  | skip
 all_goals
  go_loop [6,7] (λ v6 v7=>∃ k:Nat,k<=m/\v7=.int .i64 k/\v6=str (O_ k 110)) (λ _ v7=>m-(intOf v7).toNat)
  case atStart=>exact⟨0,by omega,rfl,rfl⟩
  case round =>
   obtain⟨k,hk,rfl,rfl⟩:=hrel;by_cases AI:k<m
   ·have k0:(0:Int)<=(k:Int):=(by omega);have k1:(k:Int)<(m:Int):=(by omega);obtain⟨z1,z2⟩:=Ez (a:=O_ k 110) (b:=[110]) (by simp;omega);have z3:bs (O_ k 110)++bs [110]=bs (O_ (k+1) 110):=(by rw[By,<-List.replicate_succ']);go_wp2_with fail;go_round
    case rel=>exact⟨k+1,by omega,by go_num,z3⟩
    case measure=>simp[intOf];omega
   ·obtain rfl:k=m:=(by omega);go_wp2_with fail;go_ret2;exact eP.of (O_ k 110) _ _ _ (by rw[Bb])
theorem Ji (a b:Int) (w:C_):F_ I_ 173 #[.agg #[u64 a,u64 b]] w λ e w'=>∃ x,e=.returned (.bool x)/\Af w w':=by
 have k1:Hid (Af w (w.alloc (.cells #[u64 a,u64 b] 172))):=DL _ _ _;obtain⟨b1,d1⟩:=zn (decide (a<=1048576));obtain⟨b2,d2⟩:=zn (decide (1<=b));obtain⟨b3,d3⟩:=zn (decide (b<=1048576));cases b1<;>cases b2<;>cases b3 <;>
 ·go_enter Tryz.func173,Tryz.ntmps173;go_wp2_with fail;go_ret;exact⟨_,rfl,k1.out⟩
theorem av (l:List UInt8) (hl:l.length<=100000) (m:Int) (w:C_):F_ I_ 121 #[str l,i64 m] w λ e w'=>∃ n f:Int,e=.returned (.tuple #[i64 n,i64 f])/\w=w':=by
 have HP:=zh (CS l hl w);obtain⟨b1,d1⟩:=zn (decide (m<0));clear hl;cases b1 <;>
 ·go_enter Tryz.func121,Tryz.ntmps121;go_wp2_with fail;refine HP.out.mono ?_;rintro e w1 ⟨n,f,rfl,rfl⟩;go_wp2_with fail;all_goals
   go_ret2
   exact⟨_,_,rfl,rfl⟩
def RtE (w:C_) (e:G_) (w':C_):Prop:=∃ a b f:Int,e=.returned (.tuple #[.agg #[u64 a,u64 b],i64 f])/\Af w w'
theorem Jh (l:List UInt8) (hl:l.length<=500) (w:C_):F_ I_ 119 #[str l] w (RtE w):=by
 obtain⟨T,hT⟩:=zn (w.heap.size);obtain⟨w1,AT,g1,b0⟩:=zb w #[u64 0,u64 0] 172 hT;have fin:Hid (∀ w2 a b,Af w1 w2->w2.cell? ⟨T,0,none⟩=some (u64 0)/\w2.cell? ⟨T,1,none⟩=some (u64 0)/\w2.frozen? ⟨T,0,none⟩=false/\(w2.setCell ⟨T,0,none⟩ (u64 a)).frozen? ⟨T,1,none⟩=false/\Af w (w2.setCell ⟨T,0,none⟩ (u64 a) |>.setCell ⟨T,1,none⟩ (u64 b))/\((w2.setCell ⟨T,0,none⟩ (u64 a)).setCell ⟨T,1,none⟩ (u64 b)).cell? ⟨T,0,none⟩=some (u64 a)/\((w2.setCell ⟨T,0,none⟩ (u64 a)).setCell ⟨T,1,none⟩ (u64 b)).cell? ⟨T,1,none⟩=some (u64 b)):=zh λ w2 a b k=>by
  have h0:=b0.grew k;have h1:=h0.set 0 (u64 a);have h2:=h1.set 1 (u64 b);have r0:=h2.cell 0;have r1:=h2.cell 1;have y0:=h0.cell 0;have y1:=h0.cell 1;simp at r0 r1 y0 y1;exact⟨y0,y1,h0.frozen 0,h1.frozen 1,((g1.trans k).setCell (p:=⟨T,0,none⟩) (.inr (by show w.heap.size<=T;omega)) _).setCell (p:=⟨T,1,none⟩) (.inr (by show w.heap.size<=T;omega)) _,r0,r1⟩
 have HP:=zh (λ (x:List UInt8) (hx:x.length<=500) W=>CS x (by omega) W);have HR:=zh Ji;obtain⟨L,hL⟩:=zn (l.length);have Da:(bs l).size=L:=(by rw[Bb,hL]);have H0:=zh hL;have HG1:=zh g1;clear g1 b0;rw[hL]at hl;clear hL;go_enter Tryz.func119,Tryz.ntmps119;go_wp2_with fail;have e0:w.alloc (.cells #[.int .u64 0,.int .u64 0] 172)=w1:=AT;try rw [e0]
 try rw [hT]
 clear e0 AT;go_loop [4,5] (λ v4 v5=>∃ (k:Nat) (a:Int),k<=L/\v5=.int .i64 k/\v4=.int .i64 a/\-1<=a/\a<L) (λ v4 v5=>L-(intOf v5).toNat)
 case atStart=>exact⟨0,-1,by omega,rfl,rfl,by omega,by omega⟩
 case round =>
  obtain⟨k,a,hk,rfl,rfl,ha0,sV⟩:=hrel;by_cases AI:k<L
  ·have k0:(0:Int)<=(k:Int):=(by omega);have k1:(k:Int)<(L:Int):=(by omega);obtain⟨c,hc⟩:=zx (l:=l) (i:=k) (by rw[H0.out];exact AI);have LZ:=Cr l k hc;clear hc;obtain⟨x1,d1⟩:=zn (((c.toNat:Int)==47));obtain⟨x2,d2⟩:=zn (decide (a<0));cases x1<;>cases x2 <;>
   ·go_wp2_with fail;go_round
    case rel=>exact⟨k+1,_,by omega,by go_num,rfl,by omega,by omega⟩
    case measure=>simp[intOf];omega
  ·obtain rfl:k=L:=(by omega);by_cases ha:a<0
   ·obtain⟨x0,x1,x2,x3,hg,r0,r1⟩:=fin.out w1 0 0 (zr _ _);have HF:=zh hg;clear hg fin;go_wp2_with fail;exact zy (v:=.tuple #[.agg #[u64 0,u64 0],i64 3]) (by simp[results,K_,go_sem,r0,r1]) rfl ⟨_,_,_,rfl,HF.out⟩
   ·obtain⟨m,rfl⟩:∃ m:Nat,a=(m:Int):=⟨a.toNat,by omega⟩;have Ju:=gi l m (by rw[H0.out];omega);have MV:=gj l (m+1) (by rw[H0.out];omega);have P1:=zh (λ W=>HP.out (l.take m) (by simp;omega) W);have P2:=zh (λ W=>HP.out (l.drop (m+1)) (by simp;rw[H0.out];omega) W);have m1:((m:Int)+1)=((m+1:Nat):Int):=(by omega);have m0:(0:Int)<=(m:Int):=(by omega);have ml:(m:Int)<(k:Int):=sV;have hl9:(k:Int)<=500:=(by omega);have hmn:decide ((m:Int)<0)=false:=zf (by omega);rw[m1.symm]at MV;clear m1;clear ha ha0;go_wp2_with fail;refine(P1.out _).mono ?_;rintro e w9 ⟨n,f,rfl,rfl⟩;clear P1;go_wp2_with fail;refine(P2.out _).mono ?_;rintro e w9 ⟨d,g,rfl,rfl⟩;clear P2;obtain⟨y1,e1⟩:=zn ((f != 0));obtain⟨y2,e2⟩:=zn ((g != 0));by_cases hb:y1=false/\y2=false
    ·obtain⟨rfl,rfl⟩:=hb;obtain⟨R,hR⟩:=zn (w1.heap.size);have bR:=zv w1 172 #[u64 n,u64 d];rw[hR]at bR;have g3:Af w1 (w1.alloc (.cells #[u64 n,u64 d] 172)):=DL _ _ _;have HX:=BO bR g3;clear bR g3;go_wp2_with fail;refine(HR.out _ _ _).mono ?_;rintro e w4 ⟨x,rfl,g4⟩;have HX4:=BO (HX.out.1.grew g4) (HX.out.2.trans g4);clear HX g4;obtain⟨c0,c1⟩:=BP HX4.out.1;cases x
     ·obtain⟨x0,x1,x2,x3,hg,r0,r1⟩:=fin.out w4 0 0 HX4.out.2;have HF:=zh hg;clear hg fin HX4;go_wp2_with fail;exact zy (v:=.tuple #[.agg #[u64 0,u64 0],i64 2]) (by simp[results,K_,go_sem,r0,r1]) rfl ⟨_,_,_,rfl,HF.out⟩
     ·obtain⟨x0,x1,x2,x3,hg,r0,r1⟩:=fin.out w4 n d HX4.out.2;have HF:=zh hg;clear hg fin HX4;go_wp2_with fail;exact zy (v:=.tuple #[.agg #[u64 n,u64 d],i64 0]) (by simp[results,K_,go_sem,r0,r1]) rfl ⟨_,_,_,rfl,HF.out⟩
    ·obtain⟨x0,x1,x2,x3,hg,r0,r1⟩:=fin.out w1 0 0 (zr _ _);have HF:=zh hg;clear hg fin;cases y1<;>cases y2
     ·exact absurd ⟨rfl,rfl⟩ hb
     all_goals
      clear hb
      go_wp2_with fail
      exact zy (v:=.tuple #[.agg #[u64 0,u64 0],i64 3]) (by simp[results,K_,go_sem,r0,r1]) rfl ⟨_,_,_,rfl,HF.out⟩
theorem dD:(I_.info? 172).map (λ i=>(i.zero,i.size,i.bytes))=some (some (.agg #[u64 0,u64 0]),2,16):=by kernel_rfl
theorem Ce {w:C_} {T:Nat} {t:TypeId} {p0 p1 p2 p3 p4 p5 p6:D_} (h:Ao w T t #[p0,p1,p2,p3,p4,p5,p6]):w.cell? ⟨T,0,none⟩=some p0/\w.cell? ⟨T,1,none⟩=some p1/\w.cell? ⟨T,2,none⟩=some p2/\w.cell? ⟨T,3,none⟩=some p3/\w.cell? ⟨T,4,none⟩=some p4/\w.cell? ⟨T,5,none⟩=some p5/\w.cell? ⟨T,6,none⟩=some p6:=by
 obtain⟨r0,r1,r2,r3,r4,r5,r6⟩:=zk7 h;exact⟨r0,r1,r2,r3,r4,r5,r6⟩
def Gi (w:C_) (B k:Nat) (vI vR:D_):Prop:=(∃ zs:List Int,AS w B vI zs/\zs.length<=k)/\∃ n xs,w.ownsRow B 172 2 vR n xs/\n<=k
theorem Gi.kept {F:Nat->Prop} {w w':C_} {B k:Nat} {vI vR:D_} (h:Gi w B k vI vR) (k2:Kept F w w') (hI:∀ j,vI.ownBlock=some j->¬ F j) (hR:∀ j,vR.ownBlock=some j->¬ F j):Gi w' B k vI vR:=⟨h.1.imp λ _ h=>⟨Kept.own k2 h.1 hI,h.2⟩,h.2.imp λ _ h=>h.imp λ _ h=>⟨Kept.own k2 h.1 hR,h.2⟩⟩
theorem Gi.grew {w w':C_} {B k:Nat} {vI vR:D_} (h:Gi w B k vI vR) (k2:Af w w'):Gi w' B k vI vR:=h.kept k2 (λ _ _ h=>h) (λ _ _ h=>h)
theorem Gi.more {w:C_} {B k:Nat} {vI vR:D_} (h:Gi w B k vI vR):Gi w B (k+1) vI vR:=⟨h.1.imp λ _ h=>⟨h.1,by omega⟩,h.2.imp λ _ h=>h.imp λ _ h=>⟨h.1,by omega⟩⟩
theorem Gi.offI {w:C_} {B k T:Nat} {vI vR:D_} {cs:Array D_} (h:Gi w B k vI vR) (hb:Ao w T 104 cs):¬ vI.ownBlock=some T:=by
 obtain⟨⟨zs,h,_⟩,_⟩:=h;exact C7 h hb (by decide)
theorem Gi.offR {w:C_} {B k T:Nat} {vI vR:D_} {cs:Array D_} (h:Gi w B k vI vR) (hb:Ao w T 104 cs):¬ vR.ownBlock=some T:=by
 obtain⟨_,n,xs,h,_⟩:=h;exact C7 h hb (by decide)
theorem Gi.lt {w:C_} {B k j:Nat} {vI vR:D_} (h:Gi w B k vI vR) (e:vI.ownBlock=some j\/vR.ownBlock=some j):B<=j/\j<w.heap.size:=by
 obtain⟨⟨zs,h1,_⟩,n,xs,h2,_⟩:=h;rcases e with e | e
 ·exact⟨(Ap h1 e).1,(Pe h1 j e).2⟩
 ·exact⟨(Ap h2 e).1,(Pe h2 j e).2⟩
def mA (B k:Nat) (nm:List UInt8) (Ai:Option E_) (ni ci:Nat) (Aq:Option E_) (nq cq:Nat) (gn:Int) (Ag:Option E_) (ng cg:Nat) (Ar:Option E_) (nr cr:Nat) (w:C_) (e:G_) (w':C_):Prop :=
 ∃ (A1:Option E_) (n1 c1:Nat) (x:Int) (A2:Option E_) (n2 c2:Nat) (f:Int),e=.returned (.tuple #[.agg #[str nm,.slice A1 n1 c1,u64 x,.slice A2 n2 c2,i64 gn,.slice Ag ng cg,.slice Ar nr cr],i64 f])/\Gi w' B (k+1) (.slice A1 n1 c1) (.slice A2 n2 c2)/\Kept (λ j=>(A_ Ai ni ci).ownBlock=some j\/(A_ Aq nq cq).ownBlock=some j) w w'
theorem mA.of {nm:List UInt8} {Ai Aq Ag Ar:Option E_} {ni ci nq cq ng cg nr cr:Nat} {gn:Int} {A1 A2:Option E_} {n1 c1 n2 c2 B k T:Nat} {x:Int} {w w6:C_} {cs:Array D_} (f:Int) (hT:w.heap.size=T) (k6:Kept (λ j=>(A_ Ai ni ci).ownBlock=some j\/(A_ Aq nq cq).ownBlock=some j) w w6) (cm:Gi w6 B (k+1) (.slice A1 n1 c1) (.slice A2 n2 c2)) (b1:Ao w6 (T+1) 104 cs):mA B k nm Ai ni ci Aq nq cq gn Ag ng cg Ar nr cr w (.returned (.tuple #[.agg #[str nm,.slice A1 n1 c1,u64 x,.slice A2 n2 c2,i64 gn,.slice Ag ng cg,.slice Ar nr cr],i64 f])) (w6.setRow (T+1) #[str nm,.slice A1 n1 c1,u64 x,.slice A2 n2 c2,i64 gn,.slice Ag ng cg,.slice Ar nr cr]) :=
 ⟨_,_,_,_,_,_,_,_,rfl,cm.kept ((zr (λ j=>j=T+1) _).setRow (.inl rfl) _) (λ j hj e=>cm.offI b1 (e▸hj)) (λ j hj e=>cm.offR b1 (e▸hj)),k6.setRow (.inr (by omega)) _⟩
theorem um {w:C_} {T:Nat} {p0 p1 p2 p3 p4 p5 p6 v':D_} {cs:Array D_} (h:Ao w T 104 #[p0,p1,p2,p3,p4,p5,p6]) (b1:Ao w (T+1) 104 cs) :
  w.frozen? ⟨T,1,none⟩=false/\(w.cell? ⟨T,0,none⟩=some p0/\w.cell? ⟨T,1,none⟩=some p1/\w.cell? ⟨T,2,none⟩=some p2/\w.cell? ⟨T,3,none⟩=some p3/\w.cell? ⟨T,4,none⟩=some p4/\w.cell? ⟨T,5,none⟩=some p5/\w.cell? ⟨T,6,none⟩=some p6)/\((w.setCell ⟨T,1,none⟩ v').cell? ⟨T,0,none⟩=some p0/\(w.setCell ⟨T,1,none⟩ v').cell? ⟨T,1,none⟩=some v'/\(w.setCell ⟨T,1,none⟩ v').cell? ⟨T,2,none⟩=some p2/\(w.setCell ⟨T,1,none⟩ v').cell? ⟨T,3,none⟩=some p3/\(w.setCell ⟨T,1,none⟩ v').cell? ⟨T,4,none⟩=some p4/\(w.setCell ⟨T,1,none⟩ v').cell? ⟨T,5,none⟩=some p5/\(w.setCell ⟨T,1,none⟩ v').cell? ⟨T,6,none⟩=some p6)/\Ao (w.setCell ⟨T,1,none⟩ v') (T+1) 104 cs:=by
 have t:=h.set 1 v'
 simp only[sA]at t
 exact⟨h.frozen 1,Ce h,Ce t,b1.far (by show T+1≠T;omega) _⟩
theorem gp {w:C_} {T:Nat} {p0 p1 p2 p3 p4 p5 p6 v':D_} {cs:Array D_} (h:Ao w T 104 #[p0,p1,p2,p3,p4,p5,p6]) (b1:Ao w (T+1) 104 cs) :
  w.frozen? ⟨T,2,none⟩=false/\(w.cell? ⟨T,0,none⟩=some p0/\w.cell? ⟨T,1,none⟩=some p1/\w.cell? ⟨T,2,none⟩=some p2/\w.cell? ⟨T,3,none⟩=some p3/\w.cell? ⟨T,4,none⟩=some p4/\w.cell? ⟨T,5,none⟩=some p5/\w.cell? ⟨T,6,none⟩=some p6)/\((w.setCell ⟨T,2,none⟩ v').cell? ⟨T,0,none⟩=some p0/\(w.setCell ⟨T,2,none⟩ v').cell? ⟨T,1,none⟩=some p1/\(w.setCell ⟨T,2,none⟩ v').cell? ⟨T,2,none⟩=some v'/\(w.setCell ⟨T,2,none⟩ v').cell? ⟨T,3,none⟩=some p3/\(w.setCell ⟨T,2,none⟩ v').cell? ⟨T,4,none⟩=some p4/\(w.setCell ⟨T,2,none⟩ v').cell? ⟨T,5,none⟩=some p5/\(w.setCell ⟨T,2,none⟩ v').cell? ⟨T,6,none⟩=some p6)/\Ao (w.setCell ⟨T,2,none⟩ v') (T+1) 104 cs:=by
 have t:=h.set 2 v'
 simp only[sA]at t
 exact⟨h.frozen 2,Ce h,Ce t,b1.far (by show T+1≠T;omega) _⟩
theorem uo {w:C_} {T:Nat} {p0 p1 p2 p3 p4 p5 p6 v':D_} {cs:Array D_} (h:Ao w T 104 #[p0,p1,p2,p3,p4,p5,p6]) (b1:Ao w (T+1) 104 cs) :
  w.frozen? ⟨T,3,none⟩=false/\(w.cell? ⟨T,0,none⟩=some p0/\w.cell? ⟨T,1,none⟩=some p1/\w.cell? ⟨T,2,none⟩=some p2/\w.cell? ⟨T,3,none⟩=some p3/\w.cell? ⟨T,4,none⟩=some p4/\w.cell? ⟨T,5,none⟩=some p5/\w.cell? ⟨T,6,none⟩=some p6)/\((w.setCell ⟨T,3,none⟩ v').cell? ⟨T,0,none⟩=some p0/\(w.setCell ⟨T,3,none⟩ v').cell? ⟨T,1,none⟩=some p1/\(w.setCell ⟨T,3,none⟩ v').cell? ⟨T,2,none⟩=some p2/\(w.setCell ⟨T,3,none⟩ v').cell? ⟨T,3,none⟩=some v'/\(w.setCell ⟨T,3,none⟩ v').cell? ⟨T,4,none⟩=some p4/\(w.setCell ⟨T,3,none⟩ v').cell? ⟨T,5,none⟩=some p5/\(w.setCell ⟨T,3,none⟩ v').cell? ⟨T,6,none⟩=some p6)/\Ao (w.setCell ⟨T,3,none⟩ v') (T+1) 104 cs:=by
 have t:=h.set 3 v'
 simp only[sA]at t
 exact⟨h.frozen 3,Ce h,Ce t,b1.far (by show T+1≠T;omega) _⟩
theorem pY {w w5:C_} {T B k:Nat} {vI vR v:D_} {o:Obj} {cs cs1:Array D_} (hv:v=vI\/v=vR) (cm:Gi w B k vI vR) (b0:Ao w T 104 cs) (b1:Ao w (T+1) 104 cs1) (Cn:(w.alloc o).grownBy w5 v.ownBlock):Ao w5 T 104 cs/\Ao w5 (T+1) 104 cs1/\Kept (λ j=>vI.ownBlock=some j\/vR.ownBlock=some j) w w5:=by
 have hn:∀ i,(∃ c,Ao w i 104 c)->¬ some i=v.ownBlock:=λ i ⟨c,hc⟩ e=>by
  rcases hv with rfl | rfl
  ·exact cm.offI hc e.symm
  ·exact cm.offR hc e.symm
 exact⟨(b0.alloc o).grown Cn (hn _ ⟨_,b0⟩),(b1.alloc o).grown Cn (hn _ ⟨_,b1⟩),(DL _ _ _).grown Cn λ j hj=>.inl (by rcases hv with rfl | rfl;exact .inl hj;exact .inr hj)⟩
theorem uj {w w5:C_} {B k T:Nat} {vR:D_} {A A5:Option E_} {L c n5 c5:Nat} {zs:List Int} {n:Int} {o:Obj} {u:D_} {b:Array D_} (cm:Gi w B k (.slice A L c) vR) (hz:zs.length<=k) (Cn:(w.alloc o).grownBy w5 (A_ A L c).ownBlock) (A8:w5.ownsRow B 3 1 (.slice A5 n5 c5) (zs.length+1) (zs.map i64++[i64 n])) (hb:Ao w5 T 104 b) (i:Nat):Gi (w5.setCell ⟨T,i,none⟩ u) B (k+1) (.slice A5 n5 c5) vR:=by
 have k5:Kept (λ j=>(A_ A L c).ownBlock=some j) w w5:=(DL _ _ _).grown Cn λ j hj=>.inl hj;have h:Gi w5 B (k+1) (.slice A5 n5 c5) vR:=by
  refine⟨⟨zs++[n],?_,by simp;omega⟩,?_⟩
  ·unfold AS;simpa using A8
  ·obtain⟨⟨zs',hI,_⟩,m,xs,hR,hm⟩:=cm;exact⟨m,xs,Kept.own k5 hR (λ j hj h=>C6 hI hR (by decide) h hj),by omega⟩
 exact h.kept (F:=λ j=>j=T) ((zr (λ j=>j=T) w5).setCell (p:=⟨T,i,none⟩) (.inl rfl) _) (λ j hj e=>h.offI hb (e▸hj)) (λ j hj e=>h.offR hb (e▸hj))
theorem uk {w w5:C_} {B k T:Nat} {vI:D_} {A A5:Option E_} {L c n5 c5 m:Nat} {ys:List D_} {o:Obj} {u:D_} {b:Array D_} (cm:Gi w B k vI (.slice A L c)) (hm:m<=k) (Cn:(w.alloc o).grownBy w5 (A_ A L c).ownBlock) (A8:w5.ownsRow B 172 2 (.slice A5 n5 c5) (m+1) ys) (hb:Ao w5 T 104 b) (i:Nat):Gi (w5.setCell ⟨T,i,none⟩ u) B (k+1) vI (.slice A5 n5 c5):=by
 have k5:Kept (λ j=>(A_ A L c).ownBlock=some j) w w5:=(DL _ _ _).grown Cn λ j hj=>.inl hj;have h:Gi w5 B (k+1) vI (.slice A5 n5 c5):=by
  refine⟨?_,⟨m+1,ys,A8,by omega⟩⟩;obtain⟨⟨zs',hI,hz⟩,m',xs',hR,_⟩:=cm;exact⟨zs',Kept.own k5 hI (λ j hj h=>C6 hI hR (by decide) hj h),by omega⟩
 exact h.kept (F:=λ j=>j=T) ((zr (λ j=>j=T) w5).setCell (p:=⟨T,i,none⟩) (.inl rfl) _) (λ j hj e=>h.offI hb (e▸hj)) (λ j hj e=>h.offR hb (e▸hj))
theorem tk_R {nm:List UInt8} {Ai Aq Ag Ar:Option E_} {ni ci nq cq ng cg nr cr:Nat} {wv gn:Int} {w w3 w5:C_} {T B k n5 c5:Nat} {A5:Option E_} {m:Nat} {ys:List D_} {o:Obj} {cs:Array D_} (hT:w.heap.size=T) (g3:Af w w3) (cm:Gi w3 B k (.slice Ai ni ci) (.slice Aq nq cq)) (b0:Ao w3 T 104 #[str nm,.slice Ai ni ci,u64 wv,.slice Aq nq cq,i64 gn,.slice Ag ng cg,.slice Ar nr cr]) (b1:Ao w3 (T+1) 104 cs) (hm:m<=k) (A8:w5.ownsRow B 172 2 (.slice A5 n5 c5) (m+1) ys) (Cn:(w3.alloc o).grownBy w5 (A_ Aq nq cq).ownBlock) :
  w5.frozen? ⟨T,3,none⟩=false/\(w5.cell? ⟨T,0,none⟩=some (str nm)/\w5.cell? ⟨T,1,none⟩=some (.slice Ai ni ci)/\w5.cell? ⟨T,2,none⟩=some (u64 wv)/\w5.cell? ⟨T,3,none⟩=some (.slice Aq nq cq)/\w5.cell? ⟨T,4,none⟩=some (i64 gn)/\w5.cell? ⟨T,5,none⟩=some (.slice Ag ng cg)/\w5.cell? ⟨T,6,none⟩=some (.slice Ar nr cr))/\((w5.setCell ⟨T,3,none⟩ (.slice A5 n5 c5)).cell? ⟨T,0,none⟩=some (str nm)/\(w5.setCell ⟨T,3,none⟩ (.slice A5 n5 c5)).cell? ⟨T,1,none⟩=some (.slice Ai ni ci)/\(w5.setCell ⟨T,3,none⟩ (.slice A5 n5 c5)).cell? ⟨T,2,none⟩=some (u64 wv)/\(w5.setCell ⟨T,3,none⟩ (.slice A5 n5 c5)).cell? ⟨T,3,none⟩=some (.slice A5 n5 c5)/\(w5.setCell ⟨T,3,none⟩ (.slice A5 n5 c5)).cell? ⟨T,4,none⟩=some (i64 gn)/\(w5.setCell ⟨T,3,none⟩ (.slice A5 n5 c5)).cell? ⟨T,5,none⟩=some (.slice Ag ng cg)/\(w5.setCell ⟨T,3,none⟩ (.slice A5 n5 c5)).cell? ⟨T,6,none⟩=some (.slice Ar nr cr))/\Hid (Kept (λ j=>(A_ Ai ni ci).ownBlock=some j\/(A_ Aq nq cq).ownBlock=some j) w (w5.setCell ⟨T,3,none⟩ (.slice A5 n5 c5))/\Gi (w5.setCell ⟨T,3,none⟩ (.slice A5 n5 c5)) B (k+1) (.slice Ai ni ci) (.slice A5 n5 c5)/\Ao (w5.setCell ⟨T,3,none⟩ (.slice A5 n5 c5)) (T+1) 104 cs):=by
 obtain⟨q0,q1,q2⟩:=pY (.inr rfl) cm b0 b1 Cn
 obtain⟨f0,hx,hy,t6⟩:=uo (v':=.slice A5 n5 c5) q0 q1
 exact⟨f0,hx,hy,((Af.kept (F:=(λ j=>(A_ Ai ni ci).ownBlock=some j\/(A_ Aq nq cq).ownBlock=some j)) g3).trans q2).setCell (p:=⟨T,3,none⟩) (.inr (by show w.heap.size<=T;omega)) _,uk cm hm Cn A8 q0 3,t6⟩
theorem tk_I {nm:List UInt8} {Ai Aq Ag Ar:Option E_} {ni ci nq cq ng cg nr cr:Nat} {wv gn:Int} {w w3 w5:C_} {T B k n5 c5:Nat} {A5:Option E_} {zs:List Int} {n:Int} {o:Obj} {cs:Array D_} (hT:w.heap.size=T) (g3:Af w w3) (cm:Gi w3 B k (.slice Ai ni ci) (.slice Aq nq cq)) (b0:Ao w3 T 104 #[str nm,.slice Ai ni ci,u64 wv,.slice Aq nq cq,i64 gn,.slice Ag ng cg,.slice Ar nr cr]) (b1:Ao w3 (T+1) 104 cs) (hm:zs.length<=k) (A8:w5.ownsRow B 3 1 (.slice A5 n5 c5) (zs.length+1) (zs.map i64++[i64 n])) (Cn:(w3.alloc o).grownBy w5 (A_ Ai ni ci).ownBlock) :
  w5.frozen? ⟨T,1,none⟩=false/\(w5.cell? ⟨T,0,none⟩=some (str nm)/\w5.cell? ⟨T,1,none⟩=some (.slice Ai ni ci)/\w5.cell? ⟨T,2,none⟩=some (u64 wv)/\w5.cell? ⟨T,3,none⟩=some (.slice Aq nq cq)/\w5.cell? ⟨T,4,none⟩=some (i64 gn)/\w5.cell? ⟨T,5,none⟩=some (.slice Ag ng cg)/\w5.cell? ⟨T,6,none⟩=some (.slice Ar nr cr))/\((w5.setCell ⟨T,1,none⟩ (.slice A5 n5 c5)).cell? ⟨T,0,none⟩=some (str nm)/\(w5.setCell ⟨T,1,none⟩ (.slice A5 n5 c5)).cell? ⟨T,1,none⟩=some (.slice A5 n5 c5)/\(w5.setCell ⟨T,1,none⟩ (.slice A5 n5 c5)).cell? ⟨T,2,none⟩=some (u64 wv)/\(w5.setCell ⟨T,1,none⟩ (.slice A5 n5 c5)).cell? ⟨T,3,none⟩=some (.slice Aq nq cq)/\(w5.setCell ⟨T,1,none⟩ (.slice A5 n5 c5)).cell? ⟨T,4,none⟩=some (i64 gn)/\(w5.setCell ⟨T,1,none⟩ (.slice A5 n5 c5)).cell? ⟨T,5,none⟩=some (.slice Ag ng cg)/\(w5.setCell ⟨T,1,none⟩ (.slice A5 n5 c5)).cell? ⟨T,6,none⟩=some (.slice Ar nr cr))/\Hid (Kept (λ j=>(A_ Ai ni ci).ownBlock=some j\/(A_ Aq nq cq).ownBlock=some j) w (w5.setCell ⟨T,1,none⟩ (.slice A5 n5 c5))/\Gi (w5.setCell ⟨T,1,none⟩ (.slice A5 n5 c5)) B (k+1) (.slice A5 n5 c5) (.slice Aq nq cq)/\Ao (w5.setCell ⟨T,1,none⟩ (.slice A5 n5 c5)) (T+1) 104 cs):=by
 obtain⟨q0,q1,q2⟩:=pY (.inl rfl) cm b0 b1 Cn
 obtain⟨f0,hx,hy,t6⟩:=um (v':=.slice A5 n5 c5) q0 q1
 exact⟨f0,hx,hy,((Af.kept (F:=(λ j=>(A_ Ai ni ci).ownBlock=some j\/(A_ Aq nq cq).ownBlock=some j)) g3).trans q2).setCell (p:=⟨T,1,none⟩) (.inr (by show w.heap.size<=T;omega)) _,uj cm hm Cn A8 q0 1,t6⟩
theorem Nl (nm:List UInt8) (Ai Aq Ag Ar:Option E_) (ni ci nq cq ng cg nr cr:Nat) (wv gn c:Int) (B k:Nat) (l:List UInt8) (w:C_) (h:Gi w B k (.slice Ai ni ci) (.slice Aq nq cq)) (hB:B<=w.heap.size) (hk:k<=501) (hl:l.length<=500) :
  F_ I_ 78 #[.agg #[str nm,.slice Ai ni ci,u64 wv,.slice Aq nq cq,i64 gn,.slice Ag ng cg,.slice Ar nr cr],.int .u8 c,str l] w (mA B k nm Ai ni ci Aq nq cq gn Ag ng cg Ar nr cr w):=by
 obtain⟨i0,hi,BZ,BG,B4⟩:=info_parts info_int
 obtain⟨i1,hj,Dp,Br,CN⟩:=info_parts dD
 obtain⟨T,hT⟩:=zn (w.heap.size)
 obtain⟨w1,AT⟩:=zn ((w.alloc (.cells #[str nm,.slice Ai ni ci,u64 wv,.slice Aq nq cq,i64 gn,.slice Ag ng cg,.slice Ar nr cr] 104)).alloc (.cells #[.string ⟨#[]⟩,.slice none 0 0,u64 0,.slice none 0 0,i64 0,.slice none 0 0,.slice none 0 0] 104))
 have g1:Af w w1:=by rw[<- AT];exact((zr _ _).alloc _).alloc _
 have b0:Ao w1 T 104 #[str nm,.slice Ai ni ci,u64 wv,.slice Aq nq cq,i64 gn,.slice Ag ng cg,.slice Ar nr cr]:=by rw[<- AT,<-hT];exact(zv w _ _).alloc _
 have b1:Ao w1 (T+1) 104 #[.string ⟨#[]⟩,.slice none 0 0,u64 0,.slice none 0 0,i64 0,.slice none 0 0,.slice none 0 0]:=by
  rw[<- AT,<-hT];have h:=zv (w.alloc (.cells #[str nm,.slice Ai ni ci,u64 wv,.slice Aq nq cq,i64 gn,.slice Ag ng cg,.slice Ar nr cr] 104)) 104 #[.string ⟨#[]⟩,.slice none 0 0,u64 0,.slice none 0 0,i64 0,.slice none 0 0,.slice none 0 0];rw[Pa]at h;exact h
 have HP:=zh (λ W=>CS l (by omega) W)
 have HI:=zh (λ m W=>av l (by omega) m W)
 have HQ:=zh (λ W=>Jh l hl W)
 have HL:=zh (λ W=>Kz c W)
 have HB:=Fo b0 b1 g1 (h.grew g1) ((show B<=w1.heap.size by have:=g1.size;omega))
 have HT:=zh hT
 obtain⟨x0,x1,x2,x3,x4,x5,x6⟩:=Ce b0
 have e0:(w.alloc (.cells #[.string (bs nm),.slice Ai ni ci,.int .u64 wv,.slice Aq nq cq,.int .i64 gn,.slice Ag ng cg,.slice Ar nr cr] 104)).alloc (.cells #[.string ⟨#[]⟩,.slice none 0 0,.int .u64 0,.slice none 0 0,.int .i64 0,.slice none 0 0,.slice none 0 0] 104)=w1:=AT
 clear b0 b1 g1 AT h hB
 by_cases Ju:c=114
 ·subst Ju;go_enter N_,M_;go_wp2_with fail;refine(HQ.out _).mono ?_;rintro e w2 ⟨a,b,f,rfl,g2⟩;obtain⟨w3,Db⟩:=zn (w2.alloc (.cells #[u64 a,u64 b] 172));have g3:Af w1 w3:=g2.trans (by rw[<- Db];exact DL _ _ _);have bR:Ao w3 w2.heap.size 172 #[u64 a,u64 b]:=by rw[<- Db];exact zv _ _ _
  obtain⟨c0,c1⟩:=BP bR;obtain⟨x0,x1,x2,x3,x4,x5,x6⟩:=Ce (HB.out.1.grew g3);have H3:=Em (HB.out.1.grew g3) (HB.out.2.1.grew g3) (HB.out.2.2.2.1.grew g3) (HB.out.2.2.1.trans g3);obtain⟨-,m,xs,AX,hm⟩:=H3.out.2.2.1;have HA:Hid ((w3.alloc (.cells #[u64 a,u64 b] 172)).ownsRow B 172 2 (.slice Aq nq cq) m xs/\(∀ j u,([u64 a,u64 b]:List D_)[j]? = some u->(w3.alloc (.cells #[u64 a,u64 b] 172)).cell? ((⟨w3.heap.size,0,none⟩:E_).add j)=some u)/\(∀ u∈([u64 a,u64 b]:List D_),u.oneCell'=true)/\B<=(w3.alloc (.cells #[u64 a,u64 b] 172)).heap.size):=⟨Af.own (DL _ _ _) AX,Pd (heap_alloc_new _ (.cells #[u64 a,u64 b] 172)),(by simp[B_]),by
   have:=HB.out.2.2.2.2
   have:=g3.size
   rw[Pa];omega⟩
  have Li:m<=501:=Pf hm hk;have HM:=zh hm;have e3:w2.alloc (.cells #[.int .u64 a,.int .u64 b] 172)=w3:=Db;clear g2 g3 bR AX hm Db hT;go_wp2_with (first | (at_builtin;refine wpList_append_own _ rfl (.tmp 24) (.tmp 26) 90 (by rfl) B 172 i1 (.agg #[u64 0,u64 0]) 2 16 Tryz.underlying90 hj Dp Br CN (by rfl) (by omega) _ _ _ rfl HA.out.1 ⟨w3.heap.size,0,none⟩ 1 1 [u64 a,u64 b] rfl (by rfl) HA.out.2.1 HA.out.2.2.1 (by unfold maxLen;omega) (by omega) HA.out.2.2.2 ?_;intro v' w5 A8 Cn _;obtain⟨A5,c5,rfl⟩:=At A8;obtain⟨f0,⟨x0,x1,x2,x3,x4,x5,x6⟩,⟨y0,y1,y2,y3,y4,y5,y6⟩,HE⟩:=tk_R HT.out H3.out.2.2.2 H3.out.2.2.1 H3.out.1 H3.out.2.1 HM.out A8 Cn;clear A8 Cn) | (refine wpList_store_rowTo rfl 104 (.tmp 6) (.tmp 29) rfl rfl (T+1) #[str nm,.slice Ai ni ci,u64 wv,.slice A5 (m+1) c5,i64 gn,.slice Ag ng cg,.slice Ar nr cr] (by rfl) (by rfl) 104 _ HE.out.2.2 (by kernel_rfl) rfl (Ay (by simp[B_])) ?_));obtain⟨r0,r1,r2,r3,r4,r5,r6⟩:=Ce (HE.out.2.2.setRow #[str nm,.slice Ai ni ci,u64 wv,.slice A5 (m+1) c5,i64 gn,.slice Ag ng cg,.slice Ar nr cr]);exact zy (v:=.tuple #[.agg #[str nm,.slice Ai ni ci,u64 wv,.slice A5 (m+1) c5,i64 gn,.slice Ag ng cg,.slice Ar nr cr],i64 f]) (by simp[results,J_,go_sem,r0,r1,r2,r3,r4,r5,r6]<;>done) rfl (mA.of f HT.out HE.out.1 HE.out.2.1 HE.out.2.2)
 by_cases hc119:c=119
 ·subst hc119;go_enter N_,M_;go_wp2_with fail;refine(HP.out _).mono ?_;rintro e w9 ⟨n,f,rfl,rfl⟩;obtain⟨f0,-,⟨y0,y1,y2,y3,y4,y5,y6⟩,t6⟩:=gp (v':=u64 n) HB.out.1 HB.out.2.1;have cm:=HB.out.2.2.2.1.more;have HE:=DU ((Af.kept (F:=(λ j=>(A_ Ai ni ci).ownBlock=some j\/(A_ Aq nq cq).ownBlock=some j)) HB.out.2.2.1).setCell (p:=⟨T,2,none⟩) (.inr (by show w.heap.size<=T;omega)) (u64 n)) (cm.kept ((zr (λ j=>j=T) w1).setCell (p:=⟨T,2,none⟩) (.inl rfl) (u64 n)) (λ j hj e=>cm.offI HB.out.1 (e▸hj)) (λ j hj e=>cm.offR HB.out.1 (e▸hj))) t6;obtain⟨r0,r1,r2,r3,r4,r5,r6⟩:=Ce (t6.setRow #[str nm,.slice Ai ni ci,u64 n,.slice Aq nq cq,i64 gn,.slice Ag ng cg,.slice Ar nr cr]);obtain⟨b1,d1⟩:=zn ((f==0));obtain⟨b2,d2⟩:=zn (decide (n<1));obtain⟨b3,d3⟩:=zn (decide (4294967296<n));clear t6 cm;cases b1<;>cases b2<;>cases b3 <;>
  ·go_wp2_with (refine wpList_store_rowTo rfl 104 (.tmp 6) (.tmp 58) rfl rfl (T+1) #[str nm,.slice Ai ni ci,u64 n,.slice Aq nq cq,i64 gn,.slice Ag ng cg,.slice Ar nr cr] (by rfl) (by rfl) 104 _ HE.out.2.2 (by kernel_rfl) rfl (Ay (by simp[B_])) ?_);first
    | (refine zy (v:=.tuple #[.agg #[str nm,.slice Ai ni ci,u64 n,.slice Aq nq cq,i64 gn,.slice Ag ng cg,.slice Ar nr cr],i64 f]) ?_ rfl (mA.of f HT.out HE.out.1 HE.out.2.1 HE.out.2.2);simp[results,J_,go_sem,r0,r1,r2,r3,r4,r5,r6];done)
    | (refine zy (v:=.tuple #[.agg #[str nm,.slice Ai ni ci,u64 n,.slice Aq nq cq,i64 gn,.slice Ag ng cg,.slice Ar nr cr],i64 2]) ?_ rfl (mA.of 2 HT.out HE.out.1 HE.out.2.1 HE.out.2.2);simp[results,J_,go_sem,r0,r1,r2,r3,r4,r5,r6];done)
 by_cases hc97:c=97
 ·subst hc97;go_enter N_,M_;go_wp2_with fail;refine(HP.out _).mono ?_;rintro e w9 ⟨n,f,rfl,rfl⟩;obtain⟨f0,-,⟨y0,y1,y2,y3,y4,y5,y6⟩,t6⟩:=gp (v':=u64 n) HB.out.1 HB.out.2.1;have cm:=HB.out.2.2.2.1.more;have HE:=DU ((Af.kept (F:=(λ j=>(A_ Ai ni ci).ownBlock=some j\/(A_ Aq nq cq).ownBlock=some j)) HB.out.2.2.1).setCell (p:=⟨T,2,none⟩) (.inr (by show w.heap.size<=T;omega)) (u64 n)) (cm.kept ((zr (λ j=>j=T) w1).setCell (p:=⟨T,2,none⟩) (.inl rfl) (u64 n)) (λ j hj e=>cm.offI HB.out.1 (e▸hj)) (λ j hj e=>cm.offR HB.out.1 (e▸hj))) t6;obtain⟨r0,r1,r2,r3,r4,r5,r6⟩:=Ce (t6.setRow #[str nm,.slice Ai ni ci,u64 n,.slice Aq nq cq,i64 gn,.slice Ag ng cg,.slice Ar nr cr]);obtain⟨b1,d1⟩:=zn ((f==0));obtain⟨b2,d2⟩:=zn (decide (n<1));obtain⟨b3,d3⟩:=zn (decide (4294967296<n));clear t6 cm;cases b1<;>cases b2<;>cases b3 <;>
  ·go_wp2_with (refine wpList_store_rowTo rfl 104 (.tmp 6) (.tmp 58) rfl rfl (T+1) #[str nm,.slice Ai ni ci,u64 n,.slice Aq nq cq,i64 gn,.slice Ag ng cg,.slice Ar nr cr] (by rfl) (by rfl) 104 _ HE.out.2.2 (by kernel_rfl) rfl (Ay (by simp[B_])) ?_);first
    | (refine zy (v:=.tuple #[.agg #[str nm,.slice Ai ni ci,u64 n,.slice Aq nq cq,i64 gn,.slice Ag ng cg,.slice Ar nr cr],i64 f]) ?_ rfl (mA.of f HT.out HE.out.1 HE.out.2.1 HE.out.2.2);simp[results,J_,go_sem,r0,r1,r2,r3,r4,r5,r6];done)
    | (refine zy (v:=.tuple #[.agg #[str nm,.slice Ai ni ci,u64 n,.slice Aq nq cq,i64 gn,.slice Ag ng cg,.slice Ar nr cr],i64 2]) ?_ rfl (mA.of 2 HT.out HE.out.1 HE.out.2.1 HE.out.2.2);simp[results,J_,go_sem,r0,r1,r2,r3,r4,r5,r6];done)
 have z1:(c==114)=false:=by simpa using Ju
 have z2:(c==119)=false:=by simpa using hc119
 have z3:(c==97)=false:=by simpa using hc97
 clear Ju hc119 hc97
 obtain⟨⟨zs,AX,hm⟩,-⟩:=HB.out.2.2.2.1
 have Li:zs.length<=501:=Pf hm hk
 have HM:=zh hm
 have HW:=zh AX
 have HA:Hid (∀ n:Int,(w1.alloc (.cells #[i64 n] 3)).ownsRow B 3 1 (.slice Ai ni ci) zs.length (zs.map i64)/\(∀ j u,([i64 n]:List D_)[j]? = some u->(w1.alloc (.cells #[i64 n] 3)).cell? ((⟨w1.heap.size,0,none⟩:E_).add j)=some u)/\(∀ u∈([i64 n]:List D_),u.oneCell'=true)/\B<=(w1.alloc (.cells #[i64 n] 3)).heap.size):=zh λ n=>⟨Af.own (DL _ _ _) HW.out,Pd (heap_alloc_new _ (.cells #[i64 n] 3)),(by simp[B_]),by
  have:=HB.out.2.2.2.2
  rw[Pa];omega⟩
 clear AX hm
 go_enter N_,M_
 go_wp2_with fail
 refine(HL.out _).mono ?_
 rintro e w9 ⟨a,b,rfl,rfl⟩
 go_wp2_with fail
 refine(HI.out _ _).mono ?_
 rintro e w9 ⟨n,f,rfl,rfl⟩
 obtain⟨b1,d1⟩:=zn ((f==0))
 obtain⟨b2,d2⟩:=zn (decide (n<a))
 cases b1<;>cases b2 <;>
 ·go_wp2_with (first | (at_builtin;refine wpList_append_own _ rfl (.tmp 79) (.tmp 81) 26 (by rfl) B 3 i0 (.int .i64 0) 1 8 Tryz.underlying26 hi BZ BG B4 (by rfl) (by omega) _ _ _ rfl (HA.out n).1 ⟨w1.heap.size,0,none⟩ 1 1 [i64 n] rfl (by rfl) (HA.out n).2.1 (HA.out n).2.2.1 (by unfold maxLen;omega) (by omega) (HA.out n).2.2.2 ?_;intro v' w5 A8 Cn _;obtain⟨A5,c5,rfl⟩:=At A8;obtain⟨f0,⟨x0,x1,x2,x3,x4,x5,x6⟩,⟨y0,y1,y2,y3,y4,y5,y6⟩,HE⟩:=tk_I HT.out HB.out.2.2.1 HB.out.2.2.2.1 HB.out.1 HB.out.2.1 HM.out A8 Cn;clear A8 Cn) | (refine wpList_store_rowTo rfl 104 (.tmp 6) (.tmp 84) rfl rfl (T+1) #[str nm,.slice A5 (zs.length+1) c5,u64 wv,.slice Aq nq cq,i64 gn,.slice Ag ng cg,.slice Ar nr cr] (by rfl) (by rfl) 104 _ HE.out.2.2 (by kernel_rfl) rfl (Ay (by simp[B_])) ?_));obtain⟨r0,r1,r2,r3,r4,r5,r6⟩:=Ce (HE.out.2.2.setRow #[str nm,.slice A5 (zs.length+1) c5,u64 wv,.slice Aq nq cq,i64 gn,.slice Ag ng cg,.slice Ar nr cr]);first
   | (refine zy (v:=.tuple #[.agg #[str nm,.slice A5 (zs.length+1) c5,u64 wv,.slice Aq nq cq,i64 gn,.slice Ag ng cg,.slice Ar nr cr],i64 f]) ?_ rfl (mA.of f HT.out HE.out.1 HE.out.2.1 HE.out.2.2);simp[results,J_,go_sem,r0,r1,r2,r3,r4,r5,r6];done)
   | (refine zy (v:=.tuple #[.agg #[str nm,.slice A5 (zs.length+1) c5,u64 wv,.slice Aq nq cq,i64 gn,.slice Ag ng cg,.slice Ar nr cr],i64 2]) ?_ rfl (mA.of 2 HT.out HE.out.1 HE.out.2.1 HE.out.2.2);simp[results,J_,go_sem,r0,r1,r2,r3,r4,r5,r6];done)
def wm (w:C_) (e:G_) (w':C_):Prop:=∃ (nm:List UInt8) (A1:Option E_) (n1 c1:Nat) (x:Int) (A2:Option E_) (n2 c2:Nat) (gn:Int) (Ag:Option E_) (ng cg:Nat) (A3:Option E_) (n3 c3:Nat) (f:Int),e=.returned (.tuple #[.agg #[str nm,.slice A1 n1 c1,u64 x,.slice A2 n2 c2,i64 gn,.slice Ag ng cg,.slice A3 n3 c3],i64 f])/\ng<=501/\Af w w'
theorem wm.of {w W:C_} {T:Nat} {nm:List UInt8} {A1 A2 Ag A3:Option E_} {n1 c1 n2 c2 ng cg n3 c3:Nat} {x gn:Int} (f:Int) (hT:w.heap.size=T) (g:Af w W) (hn:ng<=501):wm w (.returned (.tuple #[.agg #[str nm,.slice A1 n1 c1,u64 x,.slice A2 n2 c2,i64 gn,.slice Ag ng cg,.slice A3 n3 c3],i64 f])) (W.setRow T #[str nm,.slice A1 n1 c1,u64 x,.slice A2 n2 c2,i64 gn,.slice Ag ng cg,.slice A3 n3 c3]) :=
 ⟨_,_,_,_,_,_,_,_,_,_,_,_,_,_,_,_,rfl,hn,g.setRow (.inr (by omega)) _⟩
structure zO (w1:C_) (b off C k:Nat) (ls:List (List UInt8)) (nm:List UInt8) (wr:C_) (Ai:Option E_) (ni ci:Nat) (wv:Int) (Aq:Option E_) (nq cq:Nat):Prop where
 cb:Ao wr C 104 #[str nm,.slice Ai ni ci,u64 wv,.slice Aq nq cq,i64 0,.slice none 0 0,.slice none 0 0]
 rows:Gi wr C k (.slice Ai ni ci) (.slice Aq nq cq)
 kept:Af w1 wr
 words:B8 wr (some ⟨b,off,none⟩) ls
 lt:w1.heap.size<=C/\b<C
structure CdC (w1:C_) (b off C k:Nat) (ls:List (List UInt8)) (nm:List UInt8) (wr:C_) (BH:Nat) (Ai:Option E_) (ni ci:Nat) (wv:Int) (Aq:Option E_) (nq cq:Nat):Prop where
 nx:Ao wr BH 104 #[str nm,.slice Ai ni ci,u64 wv,.slice Aq nq cq,i64 0,.slice none 0 0,.slice none 0 0]
 cb:∃ cs,Ao wr C 104 cs/\cs.size=7
 rows:Gi wr C (k+1) (.slice Ai ni ci) (.slice Aq nq cq)
 kept:Af w1 wr
 words:B8 wr (some ⟨b,off,none⟩) ls
 lt:(w1.heap.size<=C/\b<C)/\C<BH
theorem zO.next {w1 wr y2:C_} {b off C k BH ni ci nq cq n1 c1 n2 c2:Nat} {ls:List (List UInt8)} {nm:List UInt8} {Ai Aq A1 A2:Option E_} {wv x:Int} {cur:Array D_} (S:zO w1 b off C k ls nm wr Ai ni ci wv Aq nq cq) (k2:Kept (λ j=>(A_ Ai ni ci).ownBlock=some j\/(A_ Aq nq cq).ownBlock=some j) wr y2) (bT:Ao y2 BH 104 cur) (h15:wr.heap.size<=BH) (hr:Gi y2 C (k+1) (.slice A1 n1 c1) (.slice A2 n2 c2)) :
  CdC w1 b off C k ls nm (y2.setRow BH #[str nm,.slice A1 n1 c1,u64 x,.slice A2 n2 c2,i64 0,.slice none 0 0,.slice none 0 0]) BH A1 n1 c1 x A2 n2 c2:=by
 have l1:=S.cb.lt
 have rC:¬ ((A_ Ai ni ci).ownBlock=some C\/(A_ Aq nq cq).ownBlock=some C):=λ h=>h.elim (S.rows.offI S.cb) (S.rows.offR S.cb)
 refine⟨bT.setRow _,⟨_,(S.cb.kept k2 rC).farRow (by omega) _,rfl⟩,?_,?_,?_,S.lt,by omega⟩
 ·exact hr.kept ((zr (λ j=>j=BH) _).setRow (.inl rfl) _) (λ j hj e=>hr.offI bT (e▸hj)) (λ j hj e=>hr.offR bT (e▸hj))
 ·refine(S.kept.then k2 λ i hi h=>?_).setRow (.inr (by have:=S.kept.size;omega)) _;have:=S.rows.lt h;have:=S.lt;omega
 ·refine(S.words.kept k2 λ a ha h=>?_).kept ((zr (λ j=>j=BH) _).setRow (.inl rfl) _) λ a ha e=>?_
  ·cases ha;have h1:=S.rows.lt h;have h2:=S.lt;have h3:C<=b:=h1.1;omega
  ·cases ha;have h2:=S.lt;have e:b=BH:=e;omega
theorem CdC.back {w1 wr:C_} {b off C k BH ni ci nq cq:Nat} {ls:List (List UInt8)} {nm:List UInt8} {Ai Aq:Option E_} {wv:Int} (h:CdC w1 b off C k ls nm wr BH Ai ni ci wv Aq nq cq):zO w1 b off C (k+1) ls nm (wr.setRow C #[str nm,.slice Ai ni ci,u64 wv,.slice Aq nq cq,i64 0,.slice none 0 0,.slice none 0 0]) Ai ni ci wv Aq nq cq:=by
 obtain⟨cs,hb,_⟩:=h.cb;refine⟨hb.setRow _,h.rows.kept ((zr (λ j=>j=C) _).setRow (.inl rfl) _) (λ j hj e=>h.rows.offI hb (e▸hj)) (λ j hj e=>h.rows.offR hb (e▸hj)),h.kept.setRow (.inr h.lt.1.1) _,h.words.kept ((zr (λ j=>j=C) _).setRow (.inl rfl) _) λ a ha e=>?_,h.lt.1⟩;cases ha;have h2:=h.lt;have e:b=C:=e;omega
theorem KB (l:List UInt8) (hl:l.length<=500) (w:C_):F_ I_ 41 #[str l] w (wm w):=by
 obtain⟨T,hT⟩:=zn (w.heap.size);obtain⟨w1,AT,g1,b1⟩:=zb w #[.string ⟨#[]⟩,.slice none 0 0,u64 0,.slice none 0 0,i64 0,.slice none 0 0,.slice none 0 0] 104 hT;have My:Hid (∀ W (f:Int),Af w1 W->Ao W T 104 #[.string ⟨#[]⟩,.slice none 0 0,u64 0,.slice none 0 0,i64 0,.slice none 0 0,.slice none 0 0]/\((W.setRow T #[.string ⟨#[]⟩,.slice none 0 0,u64 0,.slice none 0 0,i64 0,.slice none 0 0,.slice none 0 0]).cell? ⟨T,0,none⟩=some (.string ⟨#[]⟩)/\(W.setRow T #[.string ⟨#[]⟩,.slice none 0 0,u64 0,.slice none 0 0,i64 0,.slice none 0 0,.slice none 0 0]).cell? ⟨T,1,none⟩=some (.slice none 0 0)/\(W.setRow T #[.string ⟨#[]⟩,.slice none 0 0,u64 0,.slice none 0 0,i64 0,.slice none 0 0,.slice none 0 0]).cell? ⟨T,2,none⟩=some (u64 0)/\(W.setRow T #[.string ⟨#[]⟩,.slice none 0 0,u64 0,.slice none 0 0,i64 0,.slice none 0 0,.slice none 0 0]).cell? ⟨T,3,none⟩=some (.slice none 0 0)/\(W.setRow T #[.string ⟨#[]⟩,.slice none 0 0,u64 0,.slice none 0 0,i64 0,.slice none 0 0,.slice none 0 0]).cell? ⟨T,4,none⟩=some (i64 0)/\(W.setRow T #[.string ⟨#[]⟩,.slice none 0 0,u64 0,.slice none 0 0,i64 0,.slice none 0 0,.slice none 0 0]).cell? ⟨T,5,none⟩=some (.slice none 0 0)/\(W.setRow T #[.string ⟨#[]⟩,.slice none 0 0,u64 0,.slice none 0 0,i64 0,.slice none 0 0,.slice none 0 0]).cell? ⟨T,6,none⟩=some (.slice none 0 0))/\wm w (.returned (.tuple #[.agg #[.string ⟨#[]⟩,.slice none 0 0,u64 0,.slice none 0 0,i64 0,.slice none 0 0,.slice none 0 0],i64 f])) (W.setRow T #[.string ⟨#[]⟩,.slice none 0 0,u64 0,.slice none 0 0,i64 0,.slice none 0 0,.slice none 0 0])):=zh λ W f g=>⟨b1.grew g,Ce ((b1.grew g).setRow #[.string ⟨#[]⟩,.slice none 0 0,u64 0,.slice none 0 0,i64 0,.slice none 0 0,.slice none 0 0]),wm.of (nm:=[]) f hT (g1.trans g) (by omega)⟩;have HW:=zh (LJ l hl w1);have HT:=DU hT g1 b1;have e0:w.alloc (.cells #[.string ⟨#[]⟩,.slice none 0 0,.int .u64 0,.slice none 0 0,.int .i64 0,.slice none 0 0,.slice none 0 0] 104)=w1:=AT;clear g1 b1 AT;go_enter Tryz.func41,Tryz.ntmps41;go_wp2_with fail;refine HW.out.mono ?_;rintro e w2 ⟨v,f,ls,rfl,AV,Fy,oM,g2⟩;obtain⟨A,c,rfl,AX⟩:=AV.row;have Bi:ls.length<=c:=O8 AV;obtain⟨N,hN⟩:=zn (ls.length);have H2:=Fo AX (λ x hx=>Pf (oM x hx) hl) (Pf Fy (by omega:l.length+1<=501)) hN g2;have hN5:N<=501:=(by omega);rw[hN]at Bi ⊢;clear AX AV Fy oM g2 HW hN hl;by_cases hf:f=0
 ·subst hf;by_cases hz:N=0
  ·subst hz;obtain⟨Ee,⟨r0,r1,r2,r3,r4,r5,r6⟩,HF⟩:=My.out w2 (3) H2.out.2.2.2.2;have Gd:=zh Ee;clear Ee;go_wp2_with (refine wpList_store_rowTo rfl 104 (.tmp 2) (.tmp 29) rfl rfl T #[.string ⟨#[]⟩,.slice none 0 0,u64 0,.slice none 0 0,i64 0,.slice none 0 0,.slice none 0 0] (by rfl) (by rfl) 104 _ Gd.out (by kernel_rfl) rfl (Ay (by simp[B_])) ?_);exact zy (v:=.tuple #[.agg #[.string ⟨#[]⟩,.slice none 0 0,u64 0,.slice none 0 0,i64 0,.slice none 0 0,.slice none 0 0],i64 3]) (by simp[results,H_,go_sem,r0,r1,r2,r3,r4,r5,r6]) rfl HF
  obtain⟨x,tl,DS⟩:∃ x tl,ls=x::tl:=by
   cases ls with
   | nil=>exact absurd H2.out.2.2.2.1.symm hz
   | cons x tl=>exact⟨x,tl,rfl⟩
  subst DS;obtain⟨b,off,hA,hb,J4⟩:=H2.out.1 0 x rfl;subst hA;simp only[Nat.add_zero]at J4;have hx5:=H2.out.2.1 x (by simp);have HU:=zh (LI x (by omega) w2);have n1:(0:Int)<(N:Int):=(by omega);have n2:((N:Int)==0)=false:=(by simpa using hz);have HH:=zh hb;clear hx5 hb;go_wp2_with fail;refine HU.out.mono ?_;rintro e w3 ⟨nm,rfl,-,g3⟩;obtain⟨C,hC⟩:=zn (w3.heap.size);obtain⟨w4,Dn⟩:=zn (w3.alloc (.cells #[.string ⟨#[]⟩,.slice none 0 0,u64 0,.slice none 0 0,i64 0,.slice none 0 0,.slice none 0 0] 104));have bZ:Ao w4 C 104 #[.string ⟨#[]⟩,.slice none 0 0,u64 0,.slice none 0 0,i64 0,.slice none 0 0,.slice none 0 0]:=by rw[<- Dn,<-hC];exact zv _ _ _
  have g4:Af w1 w4:=H2.out.2.2.2.2.trans (g3.trans (by rw[<- Dn];exact DL _ _ _));have hr4:B8 w4 (some ⟨b,off,none⟩) (x::tl):=H2.out.1.grew (g3.trans (by rw[<- Dn];exact DL _ _ _));have e4:w3.alloc (.cells #[.string ⟨#[]⟩,.slice none 0 0,.int .u64 0,.slice none 0 0,.int .i64 0,.slice none 0 0,.slice none 0 0] 104)=w4:=Dn;have yJ:w1.heap.size<=C:=by
   have:=(H2.out.2.2.2.2.trans g3).size;omega
  have hTC:T<C:=by
   have:=HT.out.2.2.lt;omega
  have bC:Ao (w4.setRow C #[str nm,.slice none 0 0,u64 0,.slice none 0 0,i64 0,.slice none 0 0,.slice none 0 0]) C 104 #[str nm,.slice none 0 0,u64 0,.slice none 0 0,i64 0,.slice none 0 0,.slice none 0 0]:=bZ.setRow _;have gC:Af w1 (w4.setRow C #[str nm,.slice none 0 0,u64 0,.slice none 0 0,i64 0,.slice none 0 0,.slice none 0 0]):=g4.setRow (.inr yJ) _;have hrC:B8 (w4.setRow C #[str nm,.slice none 0 0,u64 0,.slice none 0 0,i64 0,.slice none 0 0,.slice none 0 0]) (some ⟨b,off,none⟩) (x::tl):=hr4.kept ((zr (λ j=>j=C) _).setRow (.inl rfl) _) (by
   intro a ha e;cases ha;have e:b=C:=e;have:=HH.out;have:=g3.size;omega)
  obtain⟨c0,c1,c2,c3,c4,c5,c6⟩:=Ce bC;have HZ:=zh bZ;have HBC:=zh (show b<C by
   have:=HH.out;have:=g3.size;omega)
  have H4:=Fo bC gC hrC hTC yJ;have HK:=zh (LF nm (w4.setRow C #[str nm,.slice none 0 0,u64 0,.slice none 0 0,i64 0,.slice none 0 0,.slice none 0 0]));clear HU bC gC hrC hr4 Dn g3 g4 hT J4 bZ hTC yJ;go_wp2_with (first | (refine wpList_buildTo rfl 104 _ rfl (some 34) rfl #[str nm,.slice none 0 0,u64 0,.slice none 0 0,i64 0,.slice none 0 0,.slice none 0 0] (by as_aux_lemma=>kernel_rfl) ?_) | (refine wpList_store_rowTo rfl 104 (.tmp 6) (.tmp 34) rfl rfl C #[str nm,.slice none 0 0,u64 0,.slice none 0 0,i64 0,.slice none 0 0,.slice none 0 0] (by rfl) (by rfl) 104 _ HZ.out (by kernel_rfl) rfl (Ay (by simp[B_])) ?_));refine HK.out.mono ?_;rintro e w5 ⟨kn,rfl,g5⟩;have H5:=Fo (H4.out.1.grew g5) (H4.out.2.1.trans g5) (H4.out.2.2.1.grew g5) H4.out.2.2.2.1 H4.out.2.2.2.2;clear HK H4 HZ c0 c1 c2 c3 c4 c5 c6 g5;obtain⟨c0,c1,c2,c3,c4,c5,c6⟩:=Ce H5.out.1;cases kn
  ·clear c0 c1 c2 c3 c4 c5 c6;obtain⟨Ee,⟨r0,r1,r2,r3,r4,r5,r6⟩,HF⟩:=My.out w5 (10) H5.out.2.1;have Gd:=zh Ee;clear Ee;go_wp2_with (refine wpList_store_rowTo rfl 104 (.tmp 2) (.tmp 39) rfl rfl T #[.string ⟨#[]⟩,.slice none 0 0,u64 0,.slice none 0 0,i64 0,.slice none 0 0,.slice none 0 0] (by rfl) (by rfl) 104 _ Gd.out (by kernel_rfl) rfl (Ay (by simp[B_])) ?_);exact zy (v:=.tuple #[.agg #[.string ⟨#[]⟩,.slice none 0 0,u64 0,.slice none 0 0,i64 0,.slice none 0 0,.slice none 0 0],i64 10]) (by simp[results,H_,go_sem,r0,r1,r2,r3,r4,r5,r6]) rfl HF
  obtain⟨y1,d1⟩:=zn (((bs nm).toList==[76,79,65,68]));obtain⟨y2,d2⟩:=zn (((bs nm).toList==[66,85,73,76,68]));have n3:(N:Int)<=501:=(by omega);have MA:Hid (∀ W (A1:Option E_) (m1 c1:Nat) (xw:Int) (A2:Option E_) (m2 c2:Nat) (gn:Int) (Ag:Option E_) (ng cg:Nat) (A3:Option E_) (m3 c3:Nat),ng<=501->Af w1 W->Ao W T 104 #[.string ⟨#[]⟩,.slice none 0 0,u64 0,.slice none 0 0,i64 0,.slice none 0 0,.slice none 0 0]/\((W.setRow T #[str nm,.slice A1 m1 c1,u64 xw,.slice A2 m2 c2,i64 gn,.slice Ag ng cg,.slice A3 m3 c3]).cell? ⟨T,0,none⟩=some (str nm)/\(W.setRow T #[str nm,.slice A1 m1 c1,u64 xw,.slice A2 m2 c2,i64 gn,.slice Ag ng cg,.slice A3 m3 c3]).cell? ⟨T,1,none⟩=some (.slice A1 m1 c1)/\(W.setRow T #[str nm,.slice A1 m1 c1,u64 xw,.slice A2 m2 c2,i64 gn,.slice Ag ng cg,.slice A3 m3 c3]).cell? ⟨T,2,none⟩=some (u64 xw)/\(W.setRow T #[str nm,.slice A1 m1 c1,u64 xw,.slice A2 m2 c2,i64 gn,.slice Ag ng cg,.slice A3 m3 c3]).cell? ⟨T,3,none⟩=some (.slice A2 m2 c2)/\(W.setRow T #[str nm,.slice A1 m1 c1,u64 xw,.slice A2 m2 c2,i64 gn,.slice Ag ng cg,.slice A3 m3 c3]).cell? ⟨T,4,none⟩=some (i64 gn)/\(W.setRow T #[str nm,.slice A1 m1 c1,u64 xw,.slice A2 m2 c2,i64 gn,.slice Ag ng cg,.slice A3 m3 c3]).cell? ⟨T,5,none⟩=some (.slice Ag ng cg)/\(W.setRow T #[str nm,.slice A1 m1 c1,u64 xw,.slice A2 m2 c2,i64 gn,.slice Ag ng cg,.slice A3 m3 c3]).cell? ⟨T,6,none⟩=some (.slice A3 m3 c3))/\wm w (.returned (.tuple #[.agg #[str nm,.slice A1 m1 c1,u64 xw,.slice A2 m2 c2,i64 gn,.slice Ag ng cg,.slice A3 m3 c3],i64 0])) (W.setRow T #[str nm,.slice A1 m1 c1,u64 xw,.slice A2 m2 c2,i64 gn,.slice Ag ng cg,.slice A3 m3 c3])):=zh λ W A1 m1 c1 xw A2 m2 c2 gn Ag ng cg A3 m3 c3 hng g=>⟨HT.out.2.2.grew g,Ce ((HT.out.2.2.grew g).setRow #[str nm,.slice A1 m1 c1,u64 xw,.slice A2 m2 c2,i64 gn,.slice Ag ng cg,.slice A3 m3 c3]),wm.of 0 HT.out.1 (HT.out.2.1.trans g) hng⟩;obtain⟨M,hM⟩:∃ M,N=M+1:=⟨N-1,by omega⟩;have rH:tl.length=M:=by
   have:=H2.out.2.2.2.1;simp at this;omega
  cases y1
  ·cases y2
   ·have e9:(N:Int)-1=(M:Int):=(by omega);have HKd:=zh (LD nm M (by omega) w5);have H9:=BO rH hM;clear rH hM hz;go_wp2_with fail;refine HKd.out.mono ?_;rintro e w9 ⟨ks,kb,rfl,hks,rfl⟩;clear HKd;cases kb
    ·clear c0 c1 c2 c3 c4 c5 c6 hks;obtain⟨Ee,⟨r0,r1,r2,r3,r4,r5,r6⟩,HF⟩:=My.out w5 (3) H5.out.2.1;have Gd:=zh Ee;clear Ee;go_wp2_with (refine wpList_store_rowTo rfl 104 (.tmp 2) (.tmp 93) rfl rfl T #[.string ⟨#[]⟩,.slice none 0 0,u64 0,.slice none 0 0,i64 0,.slice none 0 0,.slice none 0 0] (by rfl) (by rfl) 104 _ Gd.out (by kernel_rfl) rfl (Ay (by simp[B_])) ?_);exact zy (v:=.tuple #[.agg #[.string ⟨#[]⟩,.slice none 0 0,u64 0,.slice none 0 0,i64 0,.slice none 0 0,.slice none 0 0],i64 3]) (by simp[results,H_,go_sem,r0,r1,r2,r3,r4,r5,r6]) rfl HF
    have hks:=hks rfl;have hszk:(bs ks).size=M:=(by rw[Bb,hks]);have S0:Hid (∃ Ai ni ci wv Aq nq cq,zO w1 b off C 0 (x::tl) nm w5 Ai ni ci wv Aq nq cq):=⟨none,0,0,0,none,0,0,H5.out.1,⟨⟨[],⟨rfl,.inl ⟨rfl,rfl⟩⟩,by simp⟩,0,[],⟨rfl,.inl ⟨rfl,rfl⟩⟩,by omega⟩,H5.out.2.1,H5.out.2.2.1,H5.out.2.2.2.2,by
     have:=HH.out
     have:=H5.out.2.1.size
     have:=HBC.out
     omega⟩
    have HKs:=zh hks;have hM5:(M:Int)<=501:=(by omega);have HT5:=zh H5.out.2.2.2;clear c0 c1 c2 c3 c4 c5 c6 hks H5;go_wp2_with fail;go_loopw [14,15,16] (λ v14 v15 v16 wr=>∃ k:Nat,k<=M/\v14=.int .i64 k/\Hid (∃ Ai ni ci wv Aq nq cq,zO w1 b off C k (x::tl) nm wr Ai ni ci wv Aq nq cq)) (λ v14 _ _ _=>M-(intOf v14).toNat)
    case atStart=>exact⟨0,by omega,rfl,S0⟩
    case round =>
     clear S0;obtain⟨k,hk,rfl,hS⟩:=hrel;obtain⟨Ai,ni,ci,wv,Aq,nq,cq,hS⟩:=hS.out;have S:=zh hS;clear hS;by_cases AI:k<M
     ·have k0:(0:Int)<=(k:Int):=(by omega);have k1:(k:Int)<(M:Int):=(by omega);have k2:(k:Int)+1<(N:Int):=(by omega);have k3:(0:Int)<=(k:Int)+1:=(by omega);have hwk:IntKind.i64.wrap ((k:Int)+1)=(k:Int)+1:=IntWalk.i64_in _ (by omega);obtain⟨kc,hkc⟩:=zx (l:=ks) (i:=k) (by rw[HKs.out];exact AI);have LZ:=Cr ks k hkc;obtain⟨wd,IW⟩:=zx (l:=(x::tl)) (i:=k+1) (by simp;have:=H9.out.1;omega);have oQ:=H2.out.2.1 wd (zm IW);have HW:Hid (∀ W,Af wr W->F_ I_ 78 #[.agg #[str nm,.slice Ai ni ci,u64 wv,.slice Aq nq cq,i64 0,.slice none 0 0,.slice none 0 0],.int .u8 (kc.toNat:Int),str wd] W (mA C k nm Ai ni ci Aq nq cq 0 none 0 0 none 0 0 W)):=zh λ W g=>Nl nm Ai Aq none none ni ci nq cq 0 0 0 0 wv 0 _ C k wd W (S.out.rows.grew g) (by have:=S.out.cb.lt;have:=g.size;omega) (by omega) oQ;obtain⟨b',jV,Js,IT,bp⟩:=S.out.words (k+1) wd IW;cases Js;obtain⟨c0,c1,c2,c3,c4,c5,c6⟩:=Ce S.out.cb;have rC:¬ ((A_ Ai ni ci).ownBlock=some C\/(A_ Aq nq cq).ownBlock=some C):=λ h=>h.elim (S.out.rows.offI S.out.cb) (S.out.rows.offR S.out.cb);have hnb:¬ ((A_ Ai ni ci).ownBlock=some b\/(A_ Aq nq cq).ownBlock=some b):=λ h=>by
       have h1:C<=b:=(S.out.rows.lt h).1;have:=S.out.lt;omega
      have HC:Hid (∀ w',Kept (λ j=>(A_ Ai ni ci).ownBlock=some j\/(A_ Aq nq cq).ownBlock=some j) wr w'->(w'.cell? ⟨C,0,none⟩=some (str nm)/\w'.cell? ⟨C,1,none⟩=some (.slice Ai ni ci)/\w'.cell? ⟨C,2,none⟩=some (u64 wv)/\w'.cell? ⟨C,3,none⟩=some (.slice Aq nq cq)/\w'.cell? ⟨C,4,none⟩=some (i64 0)/\w'.cell? ⟨C,5,none⟩=some (.slice none 0 0)/\w'.cell? ⟨C,6,none⟩=some (.slice none 0 0))/\w'.cell? ⟨b,off+(k+1),none⟩=some (str wd)):=λ w' g=>⟨⟨g.cell c0 rC,g.cell c1 rC,g.cell c2 rC,g.cell c3 rC,g.cell c4 rC,g.cell c5 rC,g.cell c6 rC⟩,g.cell bp hnb⟩;have gz:Af wr wr.drew:=(zr _ _).drew;have Iu:Kept (λ j=>(A_ Ai ni ci).ownBlock=some j\/(A_ Aq nq cq).ownBlock=some j) wr wr.drew:=(zr _ _).drew;clear hkc IW oQ c0 c1 c2 c3 c4 c5 c6 bp rC hnb IT;go_upto_region 31 with fail;go_cut [15,16] from 94 to 117 (λ v15 v16 wx=>∃ (BH:Nat) (A1:Option E_) (m1 c1:Nat) (xw:Int) (A2:Option E_) (m2 c2:Nat) (f:Int),v15=pt BH/\v16=.int .i64 f/\Hid (CdC w1 b off C k (x::tl) nm wx BH A1 m1 c1 xw A2 m2 c2))
      case first =>
       refine rG [14] (λ j=>(A_ Ai ni ci).ownBlock=some j\/(A_ Aq nq cq).ownBlock=some j) ?_;refine tG 0 101 (y:=λ w' Aj=>by obtain⟨⟨q0,q1,q2,q3,q4,q5,q6⟩,q7⟩:=HC.out w' (Iu.trans Aj);go_simp<;>with_reducible rfl) (h:=?_);refine pG 1 102 ?_;refine pG 2 103 ?_;refine tG 3 104 (y:=λ w' Aj=>by obtain⟨⟨q0,q1,q2,q3,q4,q5,q6⟩,q7⟩:=HC.out w' (Iu.trans Aj);go_simp<;>with_reducible rfl) (h:=?_);refine pG 4 105 ?_;refine pG 5 106 ?_;refine pG 6 107 ?_;refine pG 7 108 ?_;refine tG 8 109 (y:=λ w' Aj=>by obtain⟨⟨q0,q1,q2,q3,q4,q5,q6⟩,q7⟩:=HC.out w' (Iu.trans Aj);go_simp<;>with_reducible rfl) (h:=?_);refine AO 9 110 13 15 rfl rfl (by kernel_rfl) rfl rfl (by rfl) (by rfl) (λ K Al=>?_) (λ K Al=>?_)
       ·skip;go_simp;refine(HW.out _ gz).mono ?_;rintro e v1 ⟨A1,m1,c1,xw,A2,m2,c2,f,rfl,NO,j1⟩;refine Al (.tuple #[.agg #[str nm,.slice A1 m1 c1,u64 xw,.slice A2 m2 c2,i64 0,.slice none 0 0,.slice none 0 0],.int .i64 f]) _ (λ _=>j1) ?_;clear Al;simp only[sA];refine pG 10 100 ?_;refine pG 11 111 ?_;refine pG 12 112 ?_;refine sG 13 15 (λ K Al=>?_);go_simp;obtain⟨BH,Dj⟩:=zn ((Pc v1).size);obtain⟨v2,CN⟩:=zn ((Pb v1 (.cells #[.string ⟨#[]⟩,.slice none 0 0,.int .u64 0,.slice none 0 0,.int .i64 0,.slice none 0 0,.slice none 0 0] 104)));have bJ:Af v1 v2:=by rw[<- CN];exact DL _ _ _
        have j2:=Af.kept (F:=(λ j=>(A_ Ai ni ci).ownBlock=some j\/(A_ Aq nq cq).ownBlock=some j)) bJ;have bT:Ao v2 BH 104 #[.string ⟨#[]⟩,.slice none 0 0,u64 0,.slice none 0 0,i64 0,.slice none 0 0,.slice none 0 0]:=by rw[<- CN,<-Dj];exact zv _ _ _
        have DQ:wr.heap.size<=BH:=by rw[<- Dj];exact((Iu.trans j1)).size
        have Kr:¬ ((A_ Ai ni ci).ownBlock=some BH\/(A_ Aq nq cq).ownBlock=some BH):=λ e=>by have:=(S.out.rows.lt e).2;omega
        rw[CN,Dj];clear CN Dj;have NO:=NO.grew bJ;refine Al (pt BH) _ (λ _=>j2) ?_;clear Al;simp only[sA];refine Du 14 (λ K Al=>?_);have DV:=zh bT;have HX:=zh (S.out.next (x:=xw) ((Iu.trans j1).trans j2) bT DQ NO);clear bT NO DQ Kr;refine wp_store_row 104 (.tmp 15) (.tmp 111) rfl BH #[str nm,.slice A1 m1 c1,u64 xw,.slice A2 m2 c2,i64 0,.slice none 0 0,.slice none 0 0] rfl rfl 104 _ DV.out (by kernel_rfl) rfl (Ay (by simp[B_])) ?_;refine Al _ (λ h=>absurd (by simp) h) ?_;clear Al;refine pG 15 16 ?_;refine dG ?_;obtain⟨y3,CR⟩:=zn (v2.setRow BH #[str nm,.slice A1 m1 c1,u64 xw,.slice A2 m2 c2,i64 0,.slice none 0 0,.slice none 0 0]);rw[CR]at HX;clear DV HC HW S;rw[CR];go_wp2_with fail;go_meet;exact⟨BH,A1,m1,c1,xw,A2,m2,c2,f,rfl,rfl,HX⟩
       ·skip;go_simp;obtain⟨BH,Dj⟩:=zn ((Pc wr).size);obtain⟨v1,Br⟩:=zn ((Pb wr (.cells #[.string ⟨#[]⟩,.slice none 0 0,.int .u64 0,.slice none 0 0,.int .i64 0,.slice none 0 0,.slice none 0 0] 104)).drew);have jy:Af wr.drew v1:=by rw[<- Br];exact Kept.newD _ _ _
        have j1:=Af.kept (F:=(λ j=>(A_ Ai ni ci).ownBlock=some j\/(A_ Aq nq cq).ownBlock=some j)) jy;have bT:Ao v1 BH 104 #[.string ⟨#[]⟩,.slice none 0 0,u64 0,.slice none 0 0,i64 0,.slice none 0 0,.slice none 0 0]:=by rw[<- Br,<-Dj];exact zv _ _ _
        have DQ:wr.heap.size<=BH:=by rw[<- Dj];exact zl _
        have Kr:¬ ((A_ Ai ni ci).ownBlock=some BH\/(A_ Aq nq cq).ownBlock=some BH):=λ e=>by have:=(S.out.rows.lt e).2;omega
        rw[Br,Dj];clear Br Dj;refine Al (pt BH) _ (λ _=>j1) ?_;clear Al;simp only[sA];refine sG 9 110 (λ K Al=>?_);go_simp;refine(HW.out _ (gz.trans jy)).mono ?_;rintro e v2 ⟨A1,m1,c1,xw,A2,m2,c2,f,rfl,NO,j2⟩;have bT:=bT.kept j2 Kr;refine Al (.tuple #[.agg #[str nm,.slice A1 m1 c1,u64 xw,.slice A2 m2 c2,i64 0,.slice none 0 0,.slice none 0 0],.int .i64 f]) _ (λ _=>j2) ?_;clear Al;simp only[sA];refine pG 10 100 ?_;refine pG 11 111 ?_;refine pG 12 112 ?_;refine Du 14 (λ K Al=>?_);have DV:=zh bT;have HX:=zh (S.out.next (x:=xw) ((Iu.trans j1).trans j2) bT DQ NO);clear bT NO DQ Kr;refine wp_store_row 104 (.tmp 15) (.tmp 111) rfl BH #[str nm,.slice A1 m1 c1,u64 xw,.slice A2 m2 c2,i64 0,.slice none 0 0,.slice none 0 0] rfl rfl 104 _ DV.out (by kernel_rfl) rfl (Ay (by simp[B_])) ?_;refine Al _ (λ h=>absurd (by simp) h) ?_;clear Al;refine pG 15 16 ?_;refine dG ?_;obtain⟨y3,CR⟩:=zn (v2.setRow BH #[str nm,.slice A1 m1 c1,u64 xw,.slice A2 m2 c2,i64 0,.slice none 0 0,.slice none 0 0]);rw[CR]at HX;clear DV HC HW S;rw[CR];go_wp2_with fail;go_meet;exact⟨BH,A1,m1,c1,xw,A2,m2,c2,f,rfl,rfl,HX⟩
      case rest =>
       obtain⟨wd2,hwd2⟩:∃ w,w=wc:=⟨wc,rfl⟩;subst hwd2;obtain⟨BH,A1,m1,c1,xw,A2,m2,c2,f,rfl,rfl,hC⟩:=hcut;clear HW HC gz Iu;by_cases hf:f=0
       ·subst hf;have S':Hid (∃ Ai ni ci wv Aq nq cq,zO w1 b off C (k+1) (x::tl) nm (wd2.setRow C #[str nm,.slice A1 m1 c1,u64 xw,.slice A2 m2 c2,i64 0,.slice none 0 0,.slice none 0 0]) Ai ni ci wv Aq nq cq):=⟨_,_,_,_,_,_,_,hC.out.back⟩;obtain⟨cs,hb,DR⟩:=hC.out.cb;have HB:=BO hb DR;obtain⟨q0,q1,q2,q3,q4,q5,q6⟩:=Ce hC.out.nx;clear hb DR hC;go_wp2_with (refine wpList_store_rowTo rfl 104 (.tmp 6) (.tmp 117) rfl rfl C #[str nm,.slice A1 m1 c1,u64 xw,.slice A2 m2 c2,i64 0,.slice none 0 0,.slice none 0 0] (by rfl) (by rfl) 104 _ HB.out.1 (by kernel_rfl) HB.out.2 (Ay (by simp[B_])) ?_);go_roundw
        case rel=>exact⟨k+1,by omega,by go_num,S'⟩
        case measure=>simp[intOf];omega
       ·have lG:(f != 0)=true:=(by simpa using hf);have HG:=zh hC.out.kept;clear hC hf;obtain⟨Ee,⟨r0,r1,r2,r3,r4,r5,r6⟩,HF⟩:=My.out wd2 (f) HG.out;have Gd:=zh Ee;clear Ee;go_wp2_with (refine wpList_store_rowTo rfl 104 (.tmp 2) (.tmp 115) rfl rfl T #[.string ⟨#[]⟩,.slice none 0 0,u64 0,.slice none 0 0,i64 0,.slice none 0 0,.slice none 0 0] (by rfl) (by rfl) 104 _ Gd.out (by kernel_rfl) rfl (Ay (by simp[B_])) ?_);exact zy (v:=.tuple #[.agg #[.string ⟨#[]⟩,.slice none 0 0,u64 0,.slice none 0 0,i64 0,.slice none 0 0,.slice none 0 0],i64 f]) (by simp[results,H_,go_sem,r0,r1,r2,r3,r4,r5,r6]) rfl HF
     ·obtain rfl:k=M:=(by omega);obtain⟨Ee,⟨r0,r1,r2,r3,r4,r5,r6⟩,HF⟩:=MA.out wr Ai ni ci wv Aq nq cq 0 none 0 0 none 0 0 (by omega) S.out.kept;have Gd:=zh Ee;have HF:=zh HF;obtain⟨c0,c1,c2,c3,c4,c5,c6⟩:=Ce S.out.cb;clear Ee S;go_wp2_with (refine wpList_store_rowTo rfl 104 (.tmp 2) (.tmp 118) rfl rfl T #[str nm,.slice Ai ni ci,u64 wv,.slice Aq nq cq,i64 0,.slice none 0 0,.slice none 0 0] (by rfl) (by rfl) 104 _ Gd.out (by kernel_rfl) rfl (Ay (by simp[B_])) ?_);exact zy (v:=.tuple #[.agg #[str nm,.slice Ai ni ci,u64 wv,.slice Aq nq cq,i64 0,.slice none 0 0,.slice none 0 0],i64 0]) (by simp[results,H_,go_sem,r0,r1,r2,r3,r4,r5,r6]) rfl HF.out
   ·by_cases h2:2<N
    ·have n5:(2:Int)<(N:Int):=(by omega);clear h2 hM rH hz;obtain⟨Ee,⟨r0,r1,r2,r3,r4,r5,r6⟩,HF⟩:=My.out w5 (3) H5.out.2.1;have Gd:=zh Ee;clear Ee;go_wp2_with (refine wpList_store_rowTo rfl 104 (.tmp 2) (.tmp 63) rfl rfl T #[.string ⟨#[]⟩,.slice none 0 0,u64 0,.slice none 0 0,i64 0,.slice none 0 0,.slice none 0 0] (by rfl) (by rfl) 104 _ Gd.out (by kernel_rfl) rfl (Ay (by simp[B_])) ?_);exact zy (v:=.tuple #[.agg #[.string ⟨#[]⟩,.slice none 0 0,u64 0,.slice none 0 0,i64 0,.slice none 0 0,.slice none 0 0],i64 3]) (by simp[results,H_,go_sem,r0,r1,r2,r3,r4,r5,r6]) rfl HF
    have n5:¬ (2:Int)<(N:Int):=(by omega);by_cases h1:M=0
    ·have n6:((N:Int)==1)=true:=by
      have:(N:Int)=1:=(by omega);simpa using this
     obtain⟨Ee,⟨r0,r1,r2,r3,r4,r5,r6⟩,HF⟩:=MA.out w5 none 0 0 0 none 0 0 0 none 0 0 none 0 0 (by omega) H5.out.2.1;have Gd:=zh Ee;have HF:=zh HF;clear Ee h1 hM rH hz h2;go_wp2_with (refine wpList_store_rowTo rfl 104 (.tmp 2) (.tmp 67) rfl rfl T #[str nm,.slice none 0 0,u64 0,.slice none 0 0,i64 0,.slice none 0 0,.slice none 0 0] (by rfl) (by rfl) 104 _ Gd.out (by kernel_rfl) rfl (Ay (by simp[B_])) ?_);exact zy (v:=.tuple #[.agg #[str nm,.slice none 0 0,u64 0,.slice none 0 0,i64 0,.slice none 0 0,.slice none 0 0],i64 0]) (by simp[results,H_,go_sem,r0,r1,r2,r3,r4,r5,r6]) rfl HF.out
    have n6:((N:Int)==1)=false:=by
     have:¬ (N:Int)=1:=(by omega);simpa using this
    have n7:(1:Int)<(N:Int):=(by omega);obtain⟨wd,IW⟩:=zx (l:=(x::tl)) (i:=1) (by simp;omega);have HP:=zh (KD wd (H2.out.2.1 wd (zm IW)) w5);obtain⟨b',jV,Js,IT,bp⟩:=H5.out.2.2.1 1 wd IW;cases Js;clear IW IT h1 h2 hM rH hz;go_wp2_with fail;refine HP.out.mono ?_;rintro e w6 ⟨A',L',c',f,rfl,g6⟩;have H6:=BO (H5.out.1.grew g6) (H5.out.2.1.trans g6);clear HP g6 c0 c1 c2 c3 c4 c5 c6 bp;by_cases hf:f=0
    ·subst hf;obtain⟨c0,c1,c2,c3,c4,c5,c6⟩:=Ce H6.out.1;have f6:=H6.out.1.frozen 6;have b6:=H6.out.1.set 6 (.slice A' L' c');simp only[sA]at b6;obtain⟨s0,s1,s2,s3,s4,s5,s6⟩:=Ce b6;obtain⟨Ee,⟨r0,r1,r2,r3,r4,r5,r6⟩,HF⟩:=MA.out (w6.setCell ⟨C,6,none⟩ (.slice A' L' c')) none 0 0 0 none 0 0 0 none 0 0 A' L' c' (by omega) (H6.out.2.setCell (p:=⟨C,6,none⟩) (.inr H5.out.2.2.2.2) _);have Gd:=zh Ee;have HF:=zh HF;clear Ee b6;go_wp2_with (refine wpList_store_rowTo rfl 104 (.tmp 2) (.tmp 81) rfl rfl T #[str nm,.slice none 0 0,u64 0,.slice none 0 0,i64 0,.slice none 0 0,.slice A' L' c'] (by rfl) (by rfl) 104 _ Gd.out (by kernel_rfl) rfl (Ay (by simp[B_])) ?_);exact zy (v:=.tuple #[.agg #[str nm,.slice none 0 0,u64 0,.slice none 0 0,i64 0,.slice none 0 0,.slice A' L' c'],i64 0]) (by simp[results,H_,go_sem,r0,r1,r2,r3,r4,r5,r6]) rfl HF.out
    ·have lG:(f != 0)=true:=(by simpa using hf);clear hf;obtain⟨Ee,⟨r0,r1,r2,r3,r4,r5,r6⟩,HF⟩:=My.out w6 (f) H6.out.2;have Gd:=zh Ee;clear Ee;go_wp2_with (refine wpList_store_rowTo rfl 104 (.tmp 2) (.tmp 77) rfl rfl T #[.string ⟨#[]⟩,.slice none 0 0,u64 0,.slice none 0 0,i64 0,.slice none 0 0,.slice none 0 0] (by rfl) (by rfl) 104 _ Gd.out (by kernel_rfl) rfl (Ay (by simp[B_])) ?_);exact zy (v:=.tuple #[.agg #[.string ⟨#[]⟩,.slice none 0 0,u64 0,.slice none 0 0,i64 0,.slice none 0 0,.slice none 0 0],i64 f]) (by simp[results,H_,go_sem,r0,r1,r2,r3,r4,r5,r6]) rfl HF
  ·have HQ:Hid (∀ A' c',(A'=some ⟨b,off+1,none⟩\/c=1)->F_ I_ 75 #[.slice A' (N-1) c'] w5 (uM w5)):=zh λ A' c' hA=>by
    have h:=Ky A' c' tl w5 (by
     rcases hA with rfl | hc
     ·exact H5.out.2.2.1.tail
     ·have htl0:tl=[]:=List.eq_nil_of_length_eq_zero (by omega);subst htl0;exact λ i l hl=>by simp at hl) (by omega) (λ y hy=>H2.out.2.1 y (by simp[hy]))
    rw[rH,show M=N-1 by omega]at h;exact h
   have HNt:=BO hM rH;clear hM rH hz;by_cases Ju:c=1
   ·have vh:=HQ.out (some ⟨b,off,none⟩) 0 (.inr Ju);rw[show N-1=0 by omega]at vh;have vh:=zh vh;subst Ju;clear HQ;go_wp2_with fail;refine vh.out.mono ?_;rintro e w6 ⟨N',A',L',c',i,f,rfl,xM,g6⟩;obtain⟨G,hG⟩:=zn (w6.heap.size);obtain⟨w7,lN⟩:=zn (w6.alloc (.cells #[i64 N',.slice A' L' c'] 24));have bG:Ao w7 G 24 #[i64 N',.slice A' L' c']:=by rw[<- lN,<-hG];exact zv _ _ _
    have g7:Af w5 w7:=g6.trans (by rw[<- lN];exact DL _ _ _);have H6:=BO (H5.out.1.grew g7) (H5.out.2.1.trans g7);have e7:w6.alloc (.cells #[.int .i64 N',.slice A' L' c'] 24)=w7:=lN;obtain⟨q0,q1⟩:=BP bG;clear vh g6 g7 lN bG c0 c1 c2 c3 c4 c5 c6;by_cases hf:f=0
    ·subst hf;obtain⟨c0,c1,c2,c3,c4,c5,c6⟩:=Ce H6.out.1;have f4:=H6.out.1.frozen 4;have f5:=H6.out.1.frozen 5;have b4:=H6.out.1.set 4 (i64 N');simp only[sA]at b4;have f5':=b4.frozen 5;have b5:=b4.set 5 (.slice A' L' c');simp only[sA]at b5;obtain⟨s0,s1,s2,s3,s4,s5,s6⟩:=Ce b5;obtain⟨Ee,⟨r0,r1,r2,r3,r4,r5,r6⟩,HF⟩:=MA.out ((w7.setCell ⟨C,4,none⟩ (i64 N')).setCell ⟨C,5,none⟩ (.slice A' L' c')) none 0 0 0 none 0 0 N' A' L' c' none 0 0 xM ((H6.out.2.setCell (p:=⟨C,4,none⟩) (.inr H5.out.2.2.2.2) _).setCell (p:=⟨C,5,none⟩) (.inr H5.out.2.2.2.2) _);have Gd:=zh Ee;have HF:=zh HF;clear Ee b4 b5 xM;go_wp2_with (refine wpList_store_rowTo rfl 104 (.tmp 2) (.tmp 56) rfl rfl T #[str nm,.slice none 0 0,u64 0,.slice none 0 0,i64 N',.slice A' L' c',.slice none 0 0] (by rfl) (by rfl) 104 _ Gd.out (by kernel_rfl) rfl (Ay (by simp[B_])) ?_);exact zy (v:=.tuple #[.agg #[str nm,.slice none 0 0,u64 0,.slice none 0 0,i64 N',.slice A' L' c',.slice none 0 0],i64 0]) (by simp[results,H_,go_sem,r0,r1,r2,r3,r4,r5,r6]) rfl HF.out
    ·have lG:(f != 0)=true:=(by simpa using hf);clear hf xM;obtain⟨Ee,⟨r0,r1,r2,r3,r4,r5,r6⟩,HF⟩:=My.out w7 (f) H6.out.2;have Gd:=zh Ee;clear Ee;go_wp2_with (refine wpList_store_rowTo rfl 104 (.tmp 2) (.tmp 52) rfl rfl T #[.string ⟨#[]⟩,.slice none 0 0,u64 0,.slice none 0 0,i64 0,.slice none 0 0,.slice none 0 0] (by rfl) (by rfl) 104 _ Gd.out (by kernel_rfl) rfl (Ay (by simp[B_])) ?_);exact zy (v:=.tuple #[.agg #[.string ⟨#[]⟩,.slice none 0 0,u64 0,.slice none 0 0,i64 0,.slice none 0 0,.slice none 0 0],i64 f]) (by simp[results,H_,go_sem,r0,r1,r2,r3,r4,r5,r6]) rfl HF
   ·have vh:=zh (λ c'=>HQ.out (some ⟨b,off+1,none⟩) c' (.inl rfl));clear HQ;go_wp2_with fail;refine(vh.out _).mono ?_;rintro e w6 ⟨N',A',L',c',i,f,rfl,xM,g6⟩;obtain⟨G,hG⟩:=zn (w6.heap.size);obtain⟨w7,lN⟩:=zn (w6.alloc (.cells #[i64 N',.slice A' L' c'] 24));have bG:Ao w7 G 24 #[i64 N',.slice A' L' c']:=by rw[<- lN,<-hG];exact zv _ _ _
    have g7:Af w5 w7:=g6.trans (by rw[<- lN];exact DL _ _ _);have H6:=BO (H5.out.1.grew g7) (H5.out.2.1.trans g7);have e7:w6.alloc (.cells #[.int .i64 N',.slice A' L' c'] 24)=w7:=lN;obtain⟨q0,q1⟩:=BP bG;clear vh g6 g7 lN bG c0 c1 c2 c3 c4 c5 c6;by_cases hf:f=0
    ·subst hf;obtain⟨c0,c1,c2,c3,c4,c5,c6⟩:=Ce H6.out.1;have f4:=H6.out.1.frozen 4;have f5:=H6.out.1.frozen 5;have b4:=H6.out.1.set 4 (i64 N');simp only[sA]at b4;have f5':=b4.frozen 5;have b5:=b4.set 5 (.slice A' L' c');simp only[sA]at b5;obtain⟨s0,s1,s2,s3,s4,s5,s6⟩:=Ce b5;obtain⟨Ee,⟨r0,r1,r2,r3,r4,r5,r6⟩,HF⟩:=MA.out ((w7.setCell ⟨C,4,none⟩ (i64 N')).setCell ⟨C,5,none⟩ (.slice A' L' c')) none 0 0 0 none 0 0 N' A' L' c' none 0 0 xM ((H6.out.2.setCell (p:=⟨C,4,none⟩) (.inr H5.out.2.2.2.2) _).setCell (p:=⟨C,5,none⟩) (.inr H5.out.2.2.2.2) _);have Gd:=zh Ee;have HF:=zh HF;clear Ee b4 b5 xM;go_wp2_with (refine wpList_store_rowTo rfl 104 (.tmp 2) (.tmp 56) rfl rfl T #[str nm,.slice none 0 0,u64 0,.slice none 0 0,i64 N',.slice A' L' c',.slice none 0 0] (by rfl) (by rfl) 104 _ Gd.out (by kernel_rfl) rfl (Ay (by simp[B_])) ?_);exact zy (v:=.tuple #[.agg #[str nm,.slice none 0 0,u64 0,.slice none 0 0,i64 N',.slice A' L' c',.slice none 0 0],i64 0]) (by simp[results,H_,go_sem,r0,r1,r2,r3,r4,r5,r6]) rfl HF.out
    ·have lG:(f != 0)=true:=(by simpa using hf);clear hf xM;obtain⟨Ee,⟨r0,r1,r2,r3,r4,r5,r6⟩,HF⟩:=My.out w7 (f) H6.out.2;have Gd:=zh Ee;clear Ee;go_wp2_with (refine wpList_store_rowTo rfl 104 (.tmp 2) (.tmp 52) rfl rfl T #[.string ⟨#[]⟩,.slice none 0 0,u64 0,.slice none 0 0,i64 0,.slice none 0 0,.slice none 0 0] (by rfl) (by rfl) 104 _ Gd.out (by kernel_rfl) rfl (Ay (by simp[B_])) ?_);exact zy (v:=.tuple #[.agg #[.string ⟨#[]⟩,.slice none 0 0,u64 0,.slice none 0 0,i64 0,.slice none 0 0,.slice none 0 0],i64 f]) (by simp[results,H_,go_sem,r0,r1,r2,r3,r4,r5,r6]) rfl HF
 ·have lG:(f != 0)=true:=(by simpa using hf);clear hf;obtain⟨Ee,⟨r0,r1,r2,r3,r4,r5,r6⟩,HF⟩:=My.out w2 (f) H2.out.2.2.2.2;have Gd:=zh Ee;clear Ee;go_wp2_with (refine wpList_store_rowTo rfl 104 (.tmp 2) (.tmp 24) rfl rfl T #[.string ⟨#[]⟩,.slice none 0 0,u64 0,.slice none 0 0,i64 0,.slice none 0 0,.slice none 0 0] (by rfl) (by rfl) 104 _ Gd.out (by kernel_rfl) rfl (Ay (by simp[B_])) ?_);exact zy (v:=.tuple #[.agg #[.string ⟨#[]⟩,.slice none 0 0,u64 0,.slice none 0 0,i64 0,.slice none 0 0,.slice none 0 0],i64 f]) (by simp[results,H_,go_sem,r0,r1,r2,r3,r4,r5,r6]) rfl HF
def LgE (L:Nat) (w:C_) (e:G_) (w':C_):Prop:=∃ b:Bool,e=.returned (.bool b)/\(b=true->L<=30)/\Af w w'
theorem tI (A:Option E_) (c:Nat) (ls:List (List UInt8)) (w:C_) (h:B8 w A ls):F_ I_ 19 #[.slice A ls.length c] w (LgE ls.length w):=by
 obtain⟨L,hL⟩:=zn (ls.length);have H0:=BO h hL;rw[hL];clear h hL;by_cases rm:L<=30
 ·have d1:decide ((30:Int)<(L:Int))=false:=zf (by omega);have l30:(L:Int)<=30:=(by omega);go_enter Tryz.func19,Tryz.ntmps19;go_wp2_with fail;go_loopw [3,4,5] (λ v3 _ _ wr=>∃ k:Nat,k<=L/\v3=.int .i64 k/\Hid (Af w wr)) (λ v3 _ _ _=>L-(intOf v3).toNat)
  case atStart=>exact⟨0,by omega,rfl,zh (zr _ _)⟩
  case round =>
   obtain⟨k,hk,rfl,hG⟩:=hrel;by_cases AI:k<L
   ·have k0:(0:Int)<=(k:Int):=(by omega);have k1:(k:Int)<(L:Int):=(by omega);obtain⟨x,hx⟩:=zx (l:=ls) (i:=k) (by rw[H0.out.2];exact AI);obtain⟨b,off,hA,hb,bp⟩:=(H0.out.1.grew hG.out) k x hx;obtain⟨X,hX⟩:=zn (x.length);have Da:(bs x).size=X:=(by rw[Bb,hX]);subst hA;clear hx hb;by_cases h5:X<=500
    ·have d2:decide ((500:Int)<(X:Int))=false:=zf (by omega);have d3:¬ 500<X:=(by omega);have HP:=zh (KB x (by omega) wr);clear hX h5;go_wp2_with fail;refine HP.out.mono ?_;rintro e w2 ⟨nm,A1,n1,c1,xw,A2,n2,c2,gn,Ag,ng,cg,A3,n3,c3,f,rfl,hng,g2⟩;obtain⟨T4,hT4⟩:=zn (w2.heap.size);obtain⟨w3,Db⟩:=zn (w2.alloc (.cells #[.string ⟨#[]⟩,.slice none 0 0,u64 0,.slice none 0 0,i64 0,.slice none 0 0,.slice none 0 0] 104));have bZ:Ao w3 T4 104 #[.string ⟨#[]⟩,.slice none 0 0,u64 0,.slice none 0 0,i64 0,.slice none 0 0,.slice none 0 0]:=by rw[<- Db,<-hT4];exact zv _ _ _
     have gG:Af w (w3.setRow T4 #[str nm,.slice A1 n1 c1,u64 xw,.slice A2 n2 c2,i64 gn,.slice Ag ng cg,.slice A3 n3 c3]):=by
      refine(hG.out.trans (g2.trans (by rw[<- Db];exact DL _ _ _))).setRow (.inr ?_) _;have:=hG.out.size;have:=g2.size;omega
     obtain⟨q0,q1,q2,q3,q4,q5,q6⟩:=Ce (bZ.setRow #[str nm,.slice A1 n1 c1,u64 xw,.slice A2 n2 c2,i64 gn,.slice Ag ng cg,.slice A3 n3 c3]);have e3:w2.alloc (.cells #[.string ⟨#[]⟩,.slice none 0 0,.int .u64 0,.slice none 0 0,.int .i64 0,.slice none 0 0,.slice none 0 0] 104)=w3:=Db;have HB:=zh bZ;have HL:=zh (fN gn Ag ng cg (w3.setRow T4 #[str nm,.slice A1 n1 c1,u64 xw,.slice A2 n2 c2,i64 gn,.slice Ag ng cg,.slice A3 n3 c3]) (by omega));have HG:=zh gG;obtain⟨lb,Gs⟩:=zn (jD gn ng);rw[Gs]at HL;obtain⟨b1,d1⟩:=zn ((f==0));clear HP bZ gG Db g2 hng Gs bp;cases b1
     ·go_wp2_with (refine wpList_store_rowTo rfl 104 (.tmp 4) (.tmp 27) rfl rfl T4 #[str nm,.slice A1 n1 c1,u64 xw,.slice A2 n2 c2,i64 gn,.slice Ag ng cg,.slice A3 n3 c3] (by rfl) (by rfl) 104 _ HB.out (by kernel_rfl) rfl (Ay (by simp[B_])) ?_);go_roundw
      case rel=>exact⟨k+1,by omega,by go_num,HG⟩
      case measure=>simp[intOf];omega
     ·go_wp2_with (refine wpList_store_rowTo rfl 104 (.tmp 4) (.tmp 27) rfl rfl T4 #[str nm,.slice A1 n1 c1,u64 xw,.slice A2 n2 c2,i64 gn,.slice Ag ng cg,.slice A3 n3 c3] (by rfl) (by rfl) 104 _ HB.out (by kernel_rfl) rfl (Ay (by simp[B_])) ?_);refine HL.out.mono ?_;rintro e w4 ⟨rfl,g4⟩;have HG4:=zh (HG.out.trans g4);clear HL g4;cases lb
      ·go_wp2_with fail;go_ret;exact⟨false,rfl,λ h=>(by cases h),HG4.out⟩
      ·go_wp2_with fail;go_roundw
       case rel=>exact⟨k+1,by omega,by go_num,HG4⟩
       case measure=>simp[intOf];omega
    ·have d2:decide ((500:Int)<(X:Int))=true:=zt (by omega);have d3:500<X:=(by omega);clear hX h5;go_wp2_with fail;go_ret;exact⟨false,rfl,λ h=>(by cases h),hG.out⟩
   ·obtain rfl:k=L:=(by omega);go_wp2_with fail;go_ret;exact⟨true,rfl,λ _=>rm,hG.out⟩
 ·have d1:decide ((30:Int)<(L:Int))=true:=zt (by omega);have d2:30<L:=(by omega);clear rm;go_enter Tryz.func19,Tryz.ntmps19;go_wp2_with fail;go_ret;exact⟨false,rfl,λ h=>(by cases h),zr _ _⟩
end Go.Proofs.YtepelooebggliaaGreatDoor
