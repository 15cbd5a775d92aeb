/- Walks of functions that the law reaches, and plain laws, part 2 of 21: lemmas for the proof in the last text; no condition. Shortened by program. -/
import Derived.Deep.AppendLies
import Derived.Deep.DeepCutAuto
import Derived.Test.YtepelooebggliaaGreatDoorSu0
open Go.Proofs.Tryz renaming prog->A_
open Int renaming eq_ofNat_of_zero_le->B_,add_sub_cancel->C_
open List renaming getElem?_eq_some_iff->D_,length_set->E_,length_dropLast->F_,replicate->G_
open Option.some renaming inj->H_
open Go renaming World->I_,Value->J_,Calls->K_
open Go.Exit renaming noGoto_normal->L_
open Go.Value renaming slice->M_
open Go.IntWalk renaming i64_in->N_
open Go.IntKind renaming i64->O_
set_option maxHeartbeats 16000000
set_option maxRecDepth 100000
set_option linter.unusedVariables false
set_option linter.unusedSimpArgs false
namespace Go.Proofs.YtepelooebggliaaGreatDoor.Hp
open Go.RowKit
theorem DD (w:I_) (H A N:Nat) (v:J_) (l:List Itm) (a:List Int) (s:BQ w H A N v l a) (i p:Nat) (k:Int) (hi:i<l.length) (hp:p<N) :
  K_ A_ 442 #[pt H,i64 (i:Int),.agg #[i64 (p:Int),u64 k]] w λ r w'=>r=.returned (.tuple #[])/\BQ w' H A N v (l.set i ((p:Int),k)) (a.set p (i:Int))/\Kept (HB H A v) w w':=by
 obtain⟨e,he⟩:∃ e,l[i]? = some e:=⟨_,zq hi⟩
 obtain⟨g,c,hv,hg,Mq,Mr,hc⟩:=s.item he
 subst hv
 have hf:=s.few
 have LU:=s.small
 have AH:=s.lt
 have i0:(0:Int)<=(i:Int):=by omega
 have i1:(i:Int)<(l.length:Int):=by omega
 have p0:(0:Int)<=(p:Int):=by omega
 have p1:(p:Int)<(N:Int):=by omega
 obtain⟨q,hq⟩:=zx (l:=a) (i:=p) (by rw[s.len];exact hp)
 have BY:Ac w (w.alloc (.cells #[i64 (p:Int),u64 k] 489)):=(zr _ _).alloc _
 have bV:=zv w 489 #[i64 (p:Int),u64 k]
 have hAw:=s.arr.lt
 have hgw:=(s.row.lt g rfl).2
 obtain⟨w1,AQ⟩:=zn (w.alloc (.cells #[i64 (p:Int),u64 k] 489))
 rw[AQ]at BY bV
 have s0:=s.grew BY
 have d0:=BY.cell Mq
 have d1:=BY.cell Mr
 have d2:=s0.place hq
 have f0:=World.ownsRow.frozenAt s0.row (i*2)
 have f1:=World.ownsRow.frozenAt s0.row (i*2+1)
 have f2:=s0.arr.frozen p
 have hK:Ac w w1.drew:=BY.drew
 have s':=s.grew hK
 have bX:=bV.drew
 have bH:=s'.box
 have S':=zh s'
 have lS:Hid (g≠A):=show g≠A by omega
 have cm:¬ (H=g\/H=A):=by omega
 have vK:¬ (w.heap.size=g\/w.heap.size=A):=by omega
 clear s s' s0 BY bV hq he Mq Mr
 go_enter Tryz.func442,Tryz.ntmps442
 go_wp2_with fail
 clear AQ
 refine rG [] (λ j=>j=g\/j=A) ?_
 refine pG 0 6 ?_
 refine pG 1 7 ?_
 refine pG 2 8 ?_
 refine tG 3 9 (y:=λ w' Ah=>by have AM:=(bH.kept Ah cm).cell 0;have AX:=(bH.kept Ah cm).cell 1;have Dq:=(bX.kept Ah vK).cell 0;have Br:=(bX.kept Ah vK).cell 1;simp at AM AX Dq Br;go_simp<;>with_reducible rfl) (h:=?_)
 refine pG 4 10 ?_
 refine pG 5 11 ?_
 refine pG 6 12 ?_
 refine pG 7 13 ?_
 refine tG 8 14 (y:=λ w' Ah=>by have AM:=(bH.kept Ah cm).cell 0;have AX:=(bH.kept Ah cm).cell 1;have Dq:=(bX.kept Ah vK).cell 0;have Br:=(bX.kept Ah vK).cell 1;simp at AM AX Dq Br;go_simp<;>with_reducible rfl) (h:=?_)
 refine pG 9 15 ?_
 refine tG 10 16 (y:=λ w' Ah=>by have AM:=(bH.kept Ah cm).cell 0;have AX:=(bH.kept Ah cm).cell 1;have Dq:=(bX.kept Ah vK).cell 0;have Br:=(bX.kept Ah vK).cell 1;simp at AM AX Dq Br;go_simp<;>with_reducible rfl) (h:=?_)
 refine tG 11 17 (y:=λ w' Ah=>by have AM:=(bH.kept Ah cm).cell 0;have AX:=(bH.kept Ah cm).cell 1;have Dq:=(bX.kept Ah vK).cell 0;have Br:=(bX.kept Ah vK).cell 1;simp at AM AX Dq Br;go_simp<;>with_reducible rfl) (h:=?_)
 refine pG 12 18 ?_
 refine pG 13 19 ?_
 refine DH 14 (λ K Aj=>?_)
 go_simp
 refine Aj _ (λ _=>((zr _ _).setCell (p:=⟨g,i*2,none⟩) (.inl (.inl rfl)) _).setCell (p:=⟨g,i*2+1,none⟩) (.inl (.inl rfl)) _) ?_
 clear Aj
 refine pG 15 20 ?_
 refine DH 16 (λ K Aj=>?_)
 go_simp
 refine Aj _ (λ _=>(zr _ _).setCell (p:=⟨A,p,none⟩) (.inl (.inr rfl)) _) ?_
 clear Aj
 refine dG ?_
 go_wp2_with fail
 go_end0
 have h1:=((World.ownsRow.stored S'.out.row (i*2) (i64 (p:Int))).1.stored (i*2+1) (u64 k)).1
 rw[J4 l i ((p:Int),k) hi]at h1
 have Bm:g≠A:=lS.out
 have hHA:H≠A:=by omega
 have hHg:H≠g:=by omega
 have bA:=S'.out.arr
 refine⟨rfl,⟨((S'.out.box.far (p:=⟨g,i*2,none⟩) hHg _).far (p:=⟨g,i*2+1,none⟩) hHg _).far (p:=⟨A,p,none⟩) hHA _,?_,?_,AH,by rw[E_];exact S'.out.len,by rw[E_];exact hf,LU⟩,?_⟩
 ·have h2:=((bA.far (p:=⟨g,i*2,none⟩) (Ne.symm Bm) (i64 (p:Int))).far (p:=⟨g,i*2+1,none⟩) (Ne.symm Bm) (u64 k)).set p (i64 (i:Int));have e:((a.map i64).toArray.setIfInBounds p (i64 (i:Int)))=((a.set p (i:Int)).map i64).toArray:=(by simp[List.map_set]);rw[e]at h2;exact h2
 ·rw[E_];exact Kept.own (F:=(·=A)) ((zr (·=A) _).setCell (p:=⟨A,p,none⟩) (.inl rfl) _) h1 (λ j hj h=>Bm ((H_ (show some g=some j from hj)).trans h))
 ·exact((hK.kept.setCell (p:=⟨g,i*2,none⟩) (.inl (.inr (.inr rfl))) _).setCell (p:=⟨g,i*2+1,none⟩) (.inl (.inr (.inr rfl))) _).setCell (p:=⟨A,p,none⟩) (.inl (.inr (.inl rfl))) _
end Go.Proofs.YtepelooebggliaaGreatDoor.Hp
namespace Go.Proofs.YtepelooebggliaaGreatDoor.Hp
open Go.RowKit
theorem K8 (w:I_) (H A N:Nat) (v:J_) (l:List Itm) (a:List Int) (s:BQ w H A N v l a) (i:Nat) (x:Itm) (hi:i<l.length) (hx:0<=x.1/\x.1<(N:Int)) (hR:N4 N l) :
  K_ A_ 383 #[pt H,i64 (i:Int),.agg #[i64 x.1,u64 x.2]] w λ r w'=>r=.returned (.tuple #[])/\BQ w' H A N v (Dl l a i x).1 (Dl l a i x).2/\Kept (HB H A v) w w':=by
 obtain⟨xv,xk⟩:=x
 obtain⟨p,rfl⟩:=B_ hx.1
 have hp:p<N:=by have:=hx.2;simp at this;omega
 obtain⟨V,c,hv⟩:=s.slice
 obtain⟨LL,hL⟩:=zn (l.length)
 rw[hL]at hi hv
 subst hv
 have hf:=s.few
 rw[hL]at hf
 have LU:=s.small
 have AH:=s.lt
 have hAw:=s.arr.lt
 have hHw:=s.box.lt
 have dV:=zh s.row
 have BY:Ac w (w.alloc (.cells #[i64 (p:Int),u64 xk] 489)):=(zr _ _).alloc _
 have bV:=zv w 489 #[i64 (p:Int),u64 xk]
 obtain⟨w1,AQ⟩:=zn (w.alloc (.cells #[i64 (p:Int),u64 xk] 489))
 rw[AQ]at BY bV
 have S0:=zh (s.grew BY)
 obtain⟨R0,rJ⟩:=zn (Dl l a i ((p:Int),xk))
 have hT:Hid (Dl l a i ((p:Int),xk)=R0/\N4 N l/\l.length=LL):=zh ⟨rJ,hR,hL⟩
 rw[rJ]
 clear rJ
 have fG:Kept (HB H A (.slice V LL c)) w w1:=BY.kept
 have hXV:Hid (∀ j,HB H A (.slice V LL c) j->¬ j=w.heap.size):=by
  intro j hj;rcases hj with rfl | rfl | hj
  ·omega
  ·omega
  ·have:=(dV.out.lt j hj).2;omega
 clear s BY hR hL dV
 go_enter Tryz.func383,Tryz.ntmps383
 go_wp2_with fail
 go_step3
 go_wp2_with fail
 go_step3
 go_wp2_with fail
 go_loopw [1] (λ s1 wr=>∃ (k:Nat) (l':List Itm) (a':List Int),s1=.int .i64 k/\k<LL/\Hid (BQ wr H A N (.slice V LL c) l' a')/\Hid (Dl l' a' k ((p:Int),xk)=R0/\N4 N l'/\l'.length=LL)/\Am wr w.heap.size 489 #[i64 (p:Int),u64 xk]/\Kept (HB H A (.slice V LL c)) w wr) (λ s1 _=>(intOf s1).toNat)
 case atStart=>exact⟨i,l,a,rfl,hi,S0,hT,bV,fG⟩
 case round =>
  clear S0 hT bV fG hi;obtain⟨k,l',a',rfl,hk,S1,hT,bV,fG⟩:=hrel;by_cases Fj:k=0
  ·subst Fj;obtain⟨e1,hR,hl⟩:=hT.out;have E3:=zh (DD _ H A N _ l' a' S1.out 0 p xk (by omega) hp);obtain⟨y0,y1⟩:=CE bV;go_wp2_with fail;refine E3.out.mono ?_;rintro r w3 ⟨rfl,s3,k3⟩;go_wp2_with fail;rw[L_];go_end0;rw[Dl,dif_neg (by omega)]at e1;rw[<- e1];exact⟨rfl,by simpa [Ei] using s3,fG.trans k3⟩
  ·obtain⟨m,rfl⟩:∃ m,k=m+1:=⟨k-1,by omega⟩;have hd:(m:Int)/2=((m/2:Nat):Int):=(by omega);obtain⟨u,hu⟩:=zn (m/2);rw[hu]at hd;have hum:u<=m:=(by omega);obtain⟨⟨ev,ek⟩,he⟩:∃ e,l'[u]? = some e:=⟨_,zq (by rw[hT.out.2.2];omega)⟩;have dK:=hT.out.2.1 _ (zm he);obtain⟨q,rfl⟩:=B_ dK.1;have hq:q<N:=by have:=dK.2;simp at this;omega
   have jz:l'.getD u (0,0)=((q:Int),ek):=by rw[List.getD_eq_getElem?_getD,he];rfl
   have Eu:=Dl.eq_1 l' a' (m+1) ((p:Int),xk);rw[dif_pos (by omega),show m+1-1=m by omega,hu,jz]at Eu;have fH:∀ W,K_ A_ 441 #[.agg #[i64 (p:Int),u64 xk],.agg #[i64 (q:Int),u64 ek]] W λ e w'=>e=.returned (.bool (lessI ((p:Int),xk) ((q:Int),ek)))/\Ac W w':=λ W=>ao ((p:Int),xk) ((q:Int),ek) W;obtain⟨b,hb⟩:=zn (lessI ((p:Int),xk) ((q:Int),ek));rw[hb]at fH Eu;clear hb;replace fH:=zh fH;have hsd:=S1.out.grew (zr (λ _=>False) wr).drew;obtain⟨g,c',hv,hg,e0,e1,_⟩:=hsd.item he;rw[hT.out.2.2]at hv;cases hv;have bH:=hsd.box;have bX:=bV.drew;have u0:(0:Int)<=(u:Int):=(by omega);have u1:(u:Int)<(LL:Int):=(by omega);have HD:=zh Eu;have HG:=zh he;clear dK jz Eu he;go_wp2_with fail;refine rG [] (λ _=>False) ?_;refine tG 0 12 (y:=λ w' Ah=>by have AM:=(bH.grew Ah).cell 0;have Dq:=(bX.grew Ah).cell 0;have Br:=(bX.grew Ah).cell 1;have Cu:=ze Ah e0;have BV:=ze Ah e1;simp at AM Dq Br;go_simp<;>with_reducible rfl) (h:=?_);refine pG 1 13 ?_;refine pG 2 14 ?_;refine pG 3 15 ?_;refine tG 4 16 (y:=λ w' Ah=>by have AM:=(bH.grew Ah).cell 0;have Dq:=(bX.grew Ah).cell 0;have Br:=(bX.grew Ah).cell 1;have Cu:=ze Ah e0;have BV:=ze Ah e1;simp at AM Dq Br;go_simp<;>with_reducible rfl) (h:=?_);refine pG 5 17 ?_;refine pG 6 18 ?_;refine tG 7 19 (y:=λ w' Ah=>by have AM:=(bH.grew Ah).cell 0;have Dq:=(bX.grew Ah).cell 0;have Br:=(bX.grew Ah).cell 1;have Cu:=ze Ah e0;have BV:=ze Ah e1;simp at AM Dq Br;go_simp<;>with_reducible rfl) (h:=?_);refine sG 8 20 (λ K Aj=>?_);go_simp;refine(fH.out _).mono ?_;rintro e z1 ⟨rfl,kz⟩;refine Aj _ _ (λ _=>kz) ?_;clear Aj;simp only[sA];refine pG 9 21 ?_;refine dG ?_;have sz:=hsd.grew kz;have bZ:=sz.box.cell 0;have g0:=kz.cell e0;have g1:=kz.cell e1;have cU:=bX.grew kz;have x0:=cU.cell 0;have x1:=cU.cell 1;simp at bZ x0 x1;have jm:=(fG.trans (zr _ _).drew).trans kz.kept;cases b
   ·have E3:=zh (DD _ H A N _ l' a' sz (m+1) p xk (by rw[hT.out.2.2];exact hk) hp);go_wp2_with fail;refine E3.out.mono ?_;rintro r w3 ⟨rfl,s3,k3⟩;go_wp2_with fail;rw[L_];go_end0;have h1:=HD.out.symm.trans hT.out.1;rw[if_neg (by simp)]at h1;rw[<- h1];exact⟨rfl,by simpa [Ei] using s3,jm.trans k3⟩
   ·have E3:=zh (DD _ H A N _ l' a' sz (m+1) q ek (by rw[hT.out.2.2];exact hk) hq);go_wp2_with fail;refine E3.out.mono ?_;rintro r w3 ⟨rfl,s3,k3⟩;go_wp2_with fail;go_roundw
    case rel =>
     have h1:=HD.out.symm.trans hT.out.1;simp only[if_true]at h1;refine⟨u,l'.set (m+1) ((q:Int),ek),a'.set q ((m+1:Nat):Int),rfl,by omega,s3,⟨by simpa [Ei] using h1,hT.out.2.1.set _ ⟨by simp,by simp;omega⟩,by rw[E_];exact hT.out.2.2⟩,cU.kept k3 (λ hj=>hXV.out _ hj rfl),jm.trans k3⟩
    case measure=>simp[intOf];omega
end Go.Proofs.YtepelooebggliaaGreatDoor.Hp
namespace Go.Proofs.YtepelooebggliaaGreatDoor.Hp
open Go.RowKit
theorem qg (w:I_) (H A N:Nat) (v:J_) (l:List Itm) (a:List Int) (s:BQ w H A N v l a) (i:Nat) (x:Itm) (hi:i<l.length) (hx:0<=x.1/\x.1<(N:Int)) (hR:N4 N l) :
  K_ A_ 444 #[pt H,i64 (i:Int),.agg #[i64 x.1,u64 x.2]] w λ r w'=>r=.returned (.tuple #[])/\BQ w' H A N v (BU l a i x).1 (BU l a i x).2/\Kept (HB H A v) w w':=by
 obtain⟨xv,xk⟩:=x
 obtain⟨p,rfl⟩:=B_ hx.1
 have hp:p<N:=by have:=hx.2;simp at this;omega
 obtain⟨V,c,hv⟩:=s.slice
 obtain⟨LL,hL⟩:=zn (l.length)
 rw[hL]at hi hv
 subst hv
 have hf:=s.few
 rw[hL]at hf
 have LU:=s.small
 have AH:=s.lt
 have hAw:=s.arr.lt
 have hHw:=s.box.lt
 have dV:=zh s.row
 have BY:Ac w (w.alloc (.cells #[i64 (p:Int),u64 xk] 489)):=(zr _ _).alloc _
 have bV:=zv w 489 #[i64 (p:Int),u64 xk]
 obtain⟨w1,AQ⟩:=zn (w.alloc (.cells #[i64 (p:Int),u64 xk] 489))
 rw[AQ]at BY bV
 have S0:=zh (s.grew BY)
 obtain⟨R0,rJ⟩:=zn (BU l a i ((p:Int),xk))
 have hT:Hid (BU l a i ((p:Int),xk)=R0/\N4 N l/\l.length=LL):=zh ⟨rJ,hR,hL⟩
 rw[rJ]
 clear rJ
 have fG:Kept (HB H A (.slice V LL c)) w w1:=BY.kept
 have hXV:Hid (∀ j,HB H A (.slice V LL c) j->¬ j=w.heap.size):=by
  intro j hj;rcases hj with rfl | rfl | hj
  ·omega
  ·omega
  ·have:=(dV.out.lt j hj).2;omega
 clear s BY hR hL dV
 go_enter Tryz.func444,Tryz.ntmps444
 go_wp2_with fail
 go_step3
 go_wp2_with fail
 go_step3
 go_wp2_with fail
 go_loopw [1] (λ s1 wr=>∃ (k:Nat) (l':List Itm) (a':List Int),s1=.int .i64 k/\k<LL/\Hid (BQ wr H A N (.slice V LL c) l' a')/\Hid (BU l' a' k ((p:Int),xk)=R0/\N4 N l'/\l'.length=LL)/\Am wr w.heap.size 489 #[i64 (p:Int),u64 xk]/\Kept (HB H A (.slice V LL c)) w wr) (λ s1 _=>LL-(intOf s1).toNat)
 case atStart=>exact⟨i,l,a,rfl,hi,S0,hT,bV,fG⟩
 case round =>
  clear S0 hT bV fG hi;obtain⟨k,l',a',rfl,hk,S1,hT,bV,fG⟩:=hrel;obtain⟨u,hu⟩:=zn (2*k+1);have hd:2*(k:Int)+1=(u:Int):=(by omega);have hku:k<u:=(by omega);have HU2:=zh hu;clear hu;have sw:=S1.out.grew (zr (λ _=>False) _).drew;have bH:=sw.box;have bX:=bV.drew;have hKw:=fG.trans (zr _ _).drew;have i0:(0:Int)<=(u:Int):=(by omega);by_cases rF:u+1<LL
  ·obtain⟨u1,jK⟩:=zn (u+1);have hd1:(u:Int)+1=(u1:Int):=(by omega);have huu:u<u1:=(by omega);have hul:u1<LL:=(by omega);have HU3:=zh jK;clear jK rF;have hlt1:decide ((u1:Int)<(LL:Int))=true:=zt (by omega);have i1:(u:Int)<(LL:Int):=(by omega);have i2:(0:Int)<=(u1:Int):=(by omega);have i3:(u1:Int)<(LL:Int):=(by omega);obtain⟨⟨ev,vz⟩,LR⟩:∃ e,l'[u]? = some e:=⟨_,zq (by rw[hT.out.2.2];omega)⟩;have dK:=hT.out.2.1 _ (zm LR);obtain⟨q1,rfl⟩:=B_ dK.1;have cD:q1<N:=by have:=dK.2;simp at this;omega
   have bL:=zh LR;clear dK LR;obtain⟨⟨ev,ek2⟩,Ms⟩:∃ e,l'[u1]? = some e:=⟨_,zq (by rw[hT.out.2.2];omega)⟩;have dK:=hT.out.2.1 _ (zm Ms);obtain⟨q2,rfl⟩:=B_ dK.1;have fU:q2<N:=by have:=dK.2;simp at this;omega
   have HE2:=zh Ms;clear dK Ms;obtain⟨b8,ju⟩:=zn (lessI ((q2:Int),ek2) ((q1:Int),vz));have yl:=zh (λ W=>Nv ju W);have HB8:=zh ju;clear ju;obtain⟨g',cg',hv,hgg',f10,f11,_⟩:=sw.item bL.out;rw[hT.out.2.2]at hv;cases hv;obtain⟨g3,cg3,hv,hgg3,f20,f21,_⟩:=sw.item HE2.out;rw[hT.out.2.2]at hv;cases hv;have hwu:O_.wrap (u1:Int)=(u1:Int):=N_ _ (by omega);go_wp2_with fail;refine rG [] (λ _=>False) ?_;refine pG 0 10 ?_;refine pG 1 11 ?_;refine pG 2 12 ?_;refine pG 3 13 ?_;refine pG 4 14 ?_;refine tG 5 15 (y:=λ w' Ah=>by have AM:=(bH.grew Ah).cell 0;have Dq:=(bX.grew Ah).cell 0;have Br:=(bX.grew Ah).cell 1;have fV:=ze Ah f10;have fW:=ze Ah f11;have fX:=ze Ah f20;have fY:=ze Ah f21;simp at AM Dq Br;go_simp<;>with_reducible rfl) (h:=?_);refine pG 6 16 ?_;refine pG 7 17 ?_;refine pG 8 18 ?_;refine pG 9 19 ?_;refine pG 10 20 ?_;refine pG 11 21 ?_;refine tG 12 22 (y:=λ w' Ah=>by have AM:=(bH.grew Ah).cell 0;have Dq:=(bX.grew Ah).cell 0;have Br:=(bX.grew Ah).cell 1;have fV:=ze Ah f10;have fW:=ze Ah f11;have fX:=ze Ah f20;have fY:=ze Ah f21;simp at AM Dq Br;go_simp<;>with_reducible rfl) (h:=?_);refine pG 13 23 ?_;refine pG 14 24 ?_;refine pG 15 25 ?_;refine tG 16 26 (y:=λ w' Ah=>by have AM:=(bH.grew Ah).cell 0;have Dq:=(bX.grew Ah).cell 0;have Br:=(bX.grew Ah).cell 1;have fV:=ze Ah f10;have fW:=ze Ah f11;have fX:=ze Ah f20;have fY:=ze Ah f21;simp at AM Dq Br;go_simp<;>with_reducible rfl) (h:=?_);refine pG 17 27 ?_;refine pG 18 28 ?_;refine pG 19 29 ?_;refine tG 20 30 (y:=λ w' Ah=>by have AM:=(bH.grew Ah).cell 0;have Dq:=(bX.grew Ah).cell 0;have Br:=(bX.grew Ah).cell 1;have fV:=ze Ah f10;have fW:=ze Ah f11;have fX:=ze Ah f20;have fY:=ze Ah f21;simp at AM Dq Br;go_simp<;>with_reducible rfl) (h:=?_);refine pG 21 31 ?_;refine pG 22 32 ?_;refine tG 23 33 (y:=λ w' Ah=>by have AM:=(bH.grew Ah).cell 0;have Dq:=(bX.grew Ah).cell 0;have Br:=(bX.grew Ah).cell 1;have fV:=ze Ah f10;have fW:=ze Ah f11;have fX:=ze Ah f20;have fY:=ze Ah f21;simp at AM Dq Br;go_simp<;>with_reducible rfl) (h:=?_);refine sG 24 34 (λ K Aj=>?_);go_simp;refine(yl.out _).mono ?_;rintro e z8 ⟨rfl,kz8⟩;refine Aj _ _ (λ _=>kz8) ?_;clear Aj;simp only[sA];refine pG 25 35 ?_;refine dG ?_;have sc:=sw.grew kz8;have bXc:=bX.grew kz8;have hKc:=hKw.trans kz8.kept;clear f10 f11 f20 f21 hwu;cases b8
   ·have HL:=zh (gp HU2.out HU3.out bL.out HE2.out HB8.out);simp only[Bool.false_eq_true,if_false]at HL;obtain⟨b9,fO⟩:=zn (lessI ((q1:Int),vz) ((p:Int),xk));have Kf:=zh (λ W=>Nv fO W);have uU:=zh fO;clear fO;have Oa:decide (LL<=u)=false:=zf (by omega);have sd:=sc.grew (zr (λ _=>False) _).drew;have bH:=sd.box;have bX:=bXc.drew;obtain⟨ga,cga,hv,hgga,f90,f91,_⟩:=sd.item bL.out;rw[hT.out.2.2]at hv;cases hv;go_wp2_with fail;refine rG [] (λ _=>False) ?_;refine pG 0 38 ?_;refine pG 1 39 ?_;refine pG 2 40 ?_;refine pG 3 41 ?_;refine tG 4 42 (y:=λ w' Ah=>by have AM:=(bH.grew Ah).cell 0;have Dq:=(bX.grew Ah).cell 0;have Br:=(bX.grew Ah).cell 1;have FJ:=ze Ah f90;have FK:=ze Ah f91;simp at AM Dq Br;go_simp<;>with_reducible rfl) (h:=?_);refine pG 5 43 ?_;refine pG 6 44 ?_;refine pG 7 45 ?_;refine pG 8 46 ?_;refine pG 9 47 ?_;refine pG 10 48 ?_;refine tG 11 49 (y:=λ w' Ah=>by have AM:=(bH.grew Ah).cell 0;have Dq:=(bX.grew Ah).cell 0;have Br:=(bX.grew Ah).cell 1;have FJ:=ze Ah f90;have FK:=ze Ah f91;simp at AM Dq Br;go_simp<;>with_reducible rfl) (h:=?_);refine pG 12 50 ?_;refine pG 13 51 ?_;refine tG 14 52 (y:=λ w' Ah=>by have AM:=(bH.grew Ah).cell 0;have Dq:=(bX.grew Ah).cell 0;have Br:=(bX.grew Ah).cell 1;have FJ:=ze Ah f90;have FK:=ze Ah f91;simp at AM Dq Br;go_simp<;>with_reducible rfl) (h:=?_);refine tG 15 53 (y:=λ w' Ah=>by have AM:=(bH.grew Ah).cell 0;have Dq:=(bX.grew Ah).cell 0;have Br:=(bX.grew Ah).cell 1;have FJ:=ze Ah f90;have FK:=ze Ah f91;simp at AM Dq Br;go_simp<;>with_reducible rfl) (h:=?_);refine sG 16 54 (λ K Aj=>?_);go_simp;refine(Kf.out _).mono ?_;rintro e z9 ⟨rfl,MA⟩;refine Aj _ _ (λ _=>MA) ?_;clear Aj;simp only[sA];refine pG 17 55 ?_;refine pG 18 56 ?_;refine dG ?_;have sz:=sd.grew MA;have bZ:=sz.box.cell 0;have y0:=MA.cell f90;have y1:=MA.cell f91;have cU:=bX.grew MA;have x0:=cU.cell 0;have x1:=cU.cell 1;simp at bZ x0 x1;have jm:=(hKc.trans (zr _ _).drew).trans MA.kept;cases b9
    ·have E3:=zh (DD _ H A N _ l' a' sz k p xk (by rw[hT.out.2.2];exact hk) hp);have Hr:=zh ((NO (a:=a') HL.out bL.out uU.out).symm.trans hT.out.1);go_wp2_with fail;refine E3.out.mono ?_;rintro r w3 ⟨rfl,s3,k3⟩;go_wp2_with fail;rw[L_];go_end0;have hr:=Hr.out;rw[<- hr];exact⟨rfl,by simpa [Ei] using s3,jm.trans k3⟩
    ·have E3:=zh (DD _ H A N _ l' a' sz k q1 vz (by rw[hT.out.2.2];exact hk) cD);have Hr:=zh ((Lh (a:=a') HL.out bL.out uU.out).symm.trans hT.out.1);go_wp2_with fail;refine E3.out.mono ?_;rintro r w3 ⟨rfl,s3,k3⟩;go_wp2_with fail;go_roundw
     case rel =>
      refine⟨u,l'.set k ((q1:Int),vz),a'.set q1 (k:Int),rfl,by omega,s3,⟨by have hr:=Hr.out;simpa using hr,hT.out.2.1.set _ ⟨by simp,by simp;omega⟩,by rw[E_];exact hT.out.2.2⟩,cU.kept k3 (λ hj=>hXV.out _ hj rfl),jm.trans k3⟩
     case measure=>simp[intOf];omega
   ·have HL:=zh (gp HU2.out HU3.out bL.out HE2.out HB8.out);simp only[if_true]at HL;obtain⟨b9,fO⟩:=zn (lessI ((q2:Int),ek2) ((p:Int),xk));have Kf:=zh (λ W=>Nv fO W);have uU:=zh fO;clear fO;have Oa:decide (LL<=u1)=false:=zf (by omega);have sd:=sc.grew (zr (λ _=>False) _).drew;have bH:=sd.box;have bX:=bXc.drew;obtain⟨ga,cga,hv,hgga,f90,f91,_⟩:=sd.item HE2.out;rw[hT.out.2.2]at hv;cases hv;go_wp2_with fail;refine rG [] (λ _=>False) ?_;refine pG 0 38 ?_;refine pG 1 39 ?_;refine pG 2 40 ?_;refine pG 3 41 ?_;refine tG 4 42 (y:=λ w' Ah=>by have AM:=(bH.grew Ah).cell 0;have Dq:=(bX.grew Ah).cell 0;have Br:=(bX.grew Ah).cell 1;have FJ:=ze Ah f90;have FK:=ze Ah f91;simp at AM Dq Br;go_simp<;>with_reducible rfl) (h:=?_);refine pG 5 43 ?_;refine pG 6 44 ?_;refine pG 7 45 ?_;refine pG 8 46 ?_;refine pG 9 47 ?_;refine pG 10 48 ?_;refine tG 11 49 (y:=λ w' Ah=>by have AM:=(bH.grew Ah).cell 0;have Dq:=(bX.grew Ah).cell 0;have Br:=(bX.grew Ah).cell 1;have FJ:=ze Ah f90;have FK:=ze Ah f91;simp at AM Dq Br;go_simp<;>with_reducible rfl) (h:=?_);refine pG 12 50 ?_;refine pG 13 51 ?_;refine tG 14 52 (y:=λ w' Ah=>by have AM:=(bH.grew Ah).cell 0;have Dq:=(bX.grew Ah).cell 0;have Br:=(bX.grew Ah).cell 1;have FJ:=ze Ah f90;have FK:=ze Ah f91;simp at AM Dq Br;go_simp<;>with_reducible rfl) (h:=?_);refine tG 15 53 (y:=λ w' Ah=>by have AM:=(bH.grew Ah).cell 0;have Dq:=(bX.grew Ah).cell 0;have Br:=(bX.grew Ah).cell 1;have FJ:=ze Ah f90;have FK:=ze Ah f91;simp at AM Dq Br;go_simp<;>with_reducible rfl) (h:=?_);refine sG 16 54 (λ K Aj=>?_);go_simp;refine(Kf.out _).mono ?_;rintro e z9 ⟨rfl,MA⟩;refine Aj _ _ (λ _=>MA) ?_;clear Aj;simp only[sA];refine pG 17 55 ?_;refine pG 18 56 ?_;refine dG ?_;have sz:=sd.grew MA;have bZ:=sz.box.cell 0;have y0:=MA.cell f90;have y1:=MA.cell f91;have cU:=bX.grew MA;have x0:=cU.cell 0;have x1:=cU.cell 1;simp at bZ x0 x1;have jm:=(hKc.trans (zr _ _).drew).trans MA.kept;cases b9
    ·have E3:=zh (DD _ H A N _ l' a' sz k p xk (by rw[hT.out.2.2];exact hk) hp);have Hr:=zh ((NO (a:=a') HL.out HE2.out uU.out).symm.trans hT.out.1);go_wp2_with fail;refine E3.out.mono ?_;rintro r w3 ⟨rfl,s3,k3⟩;go_wp2_with fail;rw[L_];go_end0;have hr:=Hr.out;rw[<- hr];exact⟨rfl,by simpa [Ei] using s3,jm.trans k3⟩
    ·have E3:=zh (DD _ H A N _ l' a' sz k q2 ek2 (by rw[hT.out.2.2];exact hk) fU);have Hr:=zh ((Lh (a:=a') HL.out HE2.out uU.out).symm.trans hT.out.1);go_wp2_with fail;refine E3.out.mono ?_;rintro r w3 ⟨rfl,s3,k3⟩;go_wp2_with fail;go_roundw
     case rel =>
      refine⟨u1,l'.set k ((q2:Int),ek2),a'.set q2 (k:Int),rfl,by omega,s3,⟨by have hr:=Hr.out;simpa using hr,hT.out.2.1.set _ ⟨by simp,by simp;omega⟩,by rw[E_];exact hT.out.2.2⟩,cU.kept k3 (λ hj=>hXV.out _ hj rfl),jm.trans k3⟩
     case measure=>simp[intOf];omega
  ·have hlt1:decide ((u:Int)+1<(LL:Int))=false:=zf (by omega);have HL:Hid (BE l' k=u):=zh (ug HU2.out (by rw[hT.out.2.2];exact rF));have hwu:O_.wrap ((u:Int)+1)=(u:Int)+1:=N_ _ (by omega);go_wp2_with fail;refine rG [] (λ _=>False) ?_;refine pG 0 10 ?_;refine pG 1 11 ?_;refine pG 2 12 ?_;refine pG 3 13 ?_;refine pG 4 14 ?_;refine tG 5 15 (y:=λ w' Ah=>by have AM:=(bH.grew Ah).cell 0;have Dq:=(bX.grew Ah).cell 0;have Br:=(bX.grew Ah).cell 1;simp at AM Dq Br;go_simp<;>with_reducible rfl) (h:=?_);refine pG 6 16 ?_;refine pG 7 17 ?_;refine pG 8 18 ?_;refine qG 9 19 ?_;refine qG 10 20 ?_;refine qG 11 21 ?_;refine qG 12 22 ?_;refine qG 13 23 ?_;refine qG 14 24 ?_;refine qG 15 25 ?_;refine qG 16 26 ?_;refine qG 17 27 ?_;refine qG 18 28 ?_;refine qG 19 29 ?_;refine qG 20 30 ?_;refine qG 21 31 ?_;refine qG 22 32 ?_;refine qG 23 33 ?_;refine qG 24 34 ?_;refine pG 25 35 ?_;refine dG ?_;have sc:=sw;have bXc:=bX;have hKc:=hKw;clear hwu;by_cases N7:u<LL
   ·have i1:(u:Int)<(LL:Int):=(by omega);obtain⟨⟨ev,vz⟩,LR⟩:∃ e,l'[u]? = some e:=⟨_,zq (by rw[hT.out.2.2];omega)⟩;have dK:=hT.out.2.1 _ (zm LR);obtain⟨q1,rfl⟩:=B_ dK.1;have cD:q1<N:=by have:=dK.2;simp at this;omega
    have bL:=zh LR;clear dK LR;obtain⟨b9,fO⟩:=zn (lessI ((q1:Int),vz) ((p:Int),xk));have Kf:=zh (λ W=>Nv fO W);have uU:=zh fO;clear fO;have Oa:decide (LL<=u)=false:=zf (by omega);have sd:=sc.grew (zr (λ _=>False) _).drew;have bH:=sd.box;have bX:=bXc.drew;obtain⟨ga,cga,hv,hgga,f90,f91,_⟩:=sd.item bL.out;rw[hT.out.2.2]at hv;cases hv;go_wp2_with fail;refine rG [] (λ _=>False) ?_;refine pG 0 38 ?_;refine pG 1 39 ?_;refine pG 2 40 ?_;refine pG 3 41 ?_;refine tG 4 42 (y:=λ w' Ah=>by have AM:=(bH.grew Ah).cell 0;have Dq:=(bX.grew Ah).cell 0;have Br:=(bX.grew Ah).cell 1;have FJ:=ze Ah f90;have FK:=ze Ah f91;simp at AM Dq Br;go_simp<;>with_reducible rfl) (h:=?_);refine pG 5 43 ?_;refine pG 6 44 ?_;refine pG 7 45 ?_;refine pG 8 46 ?_;refine pG 9 47 ?_;refine pG 10 48 ?_;refine tG 11 49 (y:=λ w' Ah=>by have AM:=(bH.grew Ah).cell 0;have Dq:=(bX.grew Ah).cell 0;have Br:=(bX.grew Ah).cell 1;have FJ:=ze Ah f90;have FK:=ze Ah f91;simp at AM Dq Br;go_simp<;>with_reducible rfl) (h:=?_);refine pG 12 50 ?_;refine pG 13 51 ?_;refine tG 14 52 (y:=λ w' Ah=>by have AM:=(bH.grew Ah).cell 0;have Dq:=(bX.grew Ah).cell 0;have Br:=(bX.grew Ah).cell 1;have FJ:=ze Ah f90;have FK:=ze Ah f91;simp at AM Dq Br;go_simp<;>with_reducible rfl) (h:=?_);refine tG 15 53 (y:=λ w' Ah=>by have AM:=(bH.grew Ah).cell 0;have Dq:=(bX.grew Ah).cell 0;have Br:=(bX.grew Ah).cell 1;have FJ:=ze Ah f90;have FK:=ze Ah f91;simp at AM Dq Br;go_simp<;>with_reducible rfl) (h:=?_);refine sG 16 54 (λ K Aj=>?_);go_simp;refine(Kf.out _).mono ?_;rintro e z9 ⟨rfl,MA⟩;refine Aj _ _ (λ _=>MA) ?_;clear Aj;simp only[sA];refine pG 17 55 ?_;refine pG 18 56 ?_;refine dG ?_;have sz:=sd.grew MA;have bZ:=sz.box.cell 0;have y0:=MA.cell f90;have y1:=MA.cell f91;have cU:=bX.grew MA;have x0:=cU.cell 0;have x1:=cU.cell 1;simp at bZ x0 x1;have jm:=(hKc.trans (zr _ _).drew).trans MA.kept;cases b9
    ·have E3:=zh (DD _ H A N _ l' a' sz k p xk (by rw[hT.out.2.2];exact hk) hp);have Hr:=zh ((NO (a:=a') HL.out bL.out uU.out).symm.trans hT.out.1);go_wp2_with fail;refine E3.out.mono ?_;rintro r w3 ⟨rfl,s3,k3⟩;go_wp2_with fail;rw[L_];go_end0;have hr:=Hr.out;rw[<- hr];exact⟨rfl,by simpa [Ei] using s3,jm.trans k3⟩
    ·have E3:=zh (DD _ H A N _ l' a' sz k q1 vz (by rw[hT.out.2.2];exact hk) cD);have Hr:=zh ((Lh (a:=a') HL.out bL.out uU.out).symm.trans hT.out.1);go_wp2_with fail;refine E3.out.mono ?_;rintro r w3 ⟨rfl,s3,k3⟩;go_wp2_with fail;go_roundw
     case rel =>
      refine⟨u,l'.set k ((q1:Int),vz),a'.set q1 (k:Int),rfl,by omega,s3,⟨by have hr:=Hr.out;simpa using hr,hT.out.2.1.set _ ⟨by simp,by simp;omega⟩,by rw[E_];exact hT.out.2.2⟩,cU.kept k3 (λ hj=>hXV.out _ hj rfl),jm.trans k3⟩
     case measure=>simp[intOf];omega
   ·have Oa:decide (LL<=u)=true:=zt (by omega);have sd:=sc.grew (zr (λ _=>False) _).drew;have bH:=sd.box;have bX:=bXc.drew;go_wp2_with fail;refine rG [] (λ _=>False) ?_;refine pG 0 38 ?_;refine pG 1 39 ?_;refine pG 2 40 ?_;refine pG 3 41 ?_;refine tG 4 42 (y:=λ w' Ah=>by have AM:=(bH.grew Ah).cell 0;have Dq:=(bX.grew Ah).cell 0;have Br:=(bX.grew Ah).cell 1;simp at AM Dq Br;go_simp<;>with_reducible rfl) (h:=?_);refine pG 5 43 ?_;refine pG 6 44 ?_;refine pG 7 45 ?_;refine qG 8 46 ?_;refine qG 9 47 ?_;refine qG 10 48 ?_;refine qG 11 49 ?_;refine qG 12 50 ?_;refine qG 13 51 ?_;refine qG 14 52 ?_;refine qG 15 53 ?_;refine qG 16 54 ?_;refine qG 17 55 ?_;refine pG 18 56 ?_;refine dG ?_;obtain⟨x0,x1⟩:=CE bX;have jm:=hKc.trans (zr _ _).drew;have E3:=zh (DD _ H A N _ l' a' sd k p xk (by rw[hT.out.2.2];exact hk) hp);have Hr:=zh ((qh (a:=a') HL.out (by rw[hT.out.2.2];omega)).symm.trans hT.out.1);go_wp2_with fail;refine E3.out.mono ?_;rintro r w3 ⟨rfl,s3,k3⟩;go_wp2_with fail;rw[L_];go_end0;have hr:=Hr.out;rw[<- hr];exact⟨rfl,by simpa [Ei] using s3,jm.trans k3⟩
end Go.Proofs.YtepelooebggliaaGreatDoor.Hp
namespace Go.Proofs.YtepelooebggliaaGreatDoor.Hp
open Go.RowKit
theorem jP:(A_.info? 489).map (λ i=>(i.zero,i.size,i.bytes))=some (some (.agg #[i64 0,u64 0]),2,16):=by kernel_rfl
theorem Kept.realloc {F:Nat->Prop} {w:I_} {o o2:Obj} (h:F w.heap.size):Kept F (w.alloc o) (w.alloc o2) :=
 ⟨rfl,rfl,rfl,by simp,λ k hk hf=>by
  rcases Nat.lt_or_ge k w.heap.size with hl | hl
  ·rw[Below.heap_alloc w o2 k hl,Below.heap_alloc w o k hl]
  ·obtain rfl:k=w.heap.size:=by simp at hk;omega
   exact absurd h hf⟩
theorem Kept.alloc_drew {F:Nat->Prop} (w:I_) (o:Obj):Kept F w.drew (w.alloc o).drew:=⟨rfl,rfl,rfl,by simp,λ k hk _=>Below.heap_alloc w o k hk⟩
theorem Kept.realloc_drew {F:Nat->Prop} {w:I_} {o o2:Obj} (h:F w.heap.size):Kept F (w.alloc o).drew (w.alloc o2).drew:=by
 have k:=Kept.realloc (F:=F) (w:=w) (o:=o) (o2:=o2) h;exact⟨k.os,k.tape,k.output,k.size,k.block⟩
theorem pS (w:I_) (H A N:Nat) (v:J_) (l:List Itm) (a:List Int) (s:BQ w H A N v l a) (hR:N4 N l) (p i:Nat) (key:Int) (e:Itm) (hp:a[p]? = some (i:Int)) (he:l[i]? = some e) (hk:key<e.2) :
  K_ A_ 314 #[pt H,i64 (p:Int),u64 key] w λ r w'=>r=.returned (.bool true)/\BQ w' H A N v (Dl l a i ((p:Int),key)).1 (Dl l a i ((p:Int),key)).2/\Kept (HB H A v) w w':=by
 have hc:w.cell? ⟨H,1,none⟩=some (.slice (some ⟨A,0,none⟩) N N):=s.box.cell 1
 have hs:=s.small
 have hf:=s.few
 have AH:=s.lt
 have hAw:=s.arr.lt
 have hHw:=s.box.lt
 have hl:=(D_.1 hp).1
 rw[s.len]at hl
 have vZ:=(s.grew (zr (λ _=>False) _).drew).place hp
 have p0:(0:Int)<=(p:Int):=by omega
 have p1:(p:Int)<(N:Int):=by omega
 have bH:=(s.grew (zr (λ _=>False) _).drew).box
 have d0:decide ((p:Int)<0)=false:=zf (by omega)
 have d1:decide (N<=p)=false:=zf (by omega)
 have cm:¬ w.heap.size<=H:=by omega
 have Mo:¬ w.heap.size<=A:=by omega
 have S0:=zh s
 have HR:=zh hR
 clear s hp hR
 go_enter Tryz.func314,Tryz.ntmps314
 go_wp2_with fail
 refine rG [] (λ j=>w.heap.size<=j) ?_
 refine pG 0 24 ?_
 refine pG 1 25 ?_
 refine pG 2 26 ?_
 refine pG 3 27 ?_
 refine pG 4 28 ?_
 refine pG 5 29 ?_
 refine tG 6 30 (y:=λ w' Ah=>by have AM:=(bH.kept Ah cm).cell 1;have AX:=Kept.cell Ah vZ Mo;simp at AM;go_simp<;>with_reducible rfl) (h:=?_)
 refine pG 7 31 ?_
 refine pG 8 32 ?_
 refine tG 9 33 (y:=λ w' Ah=>by have AM:=(bH.kept Ah cm).cell 1;have AX:=Kept.cell Ah vZ Mo;simp at AM;go_simp<;>with_reducible rfl) (h:=?_)
 refine sG 10 7 (λ K Aj=>?_)
 go_simp
 refine Aj _ _ (λ _=>Kept.alloc_drew _ _) ?_
 clear Aj
 simp only[sA]
 refine DH 11 (λ K Aj=>?_)
 go_simp
 refine Aj _ (λ _=>Kept.realloc_drew (zl _)) ?_
 clear Aj
 refine pG 12 8 ?_
 refine dG ?_
 obtain⟨wb,o7⟩:=zn ((w.alloc (.cells #[i64 (p:Int),u64 key] 489)).drew)
 have hK:Ac w wb:=by rw[<- o7];exact Ac.alloc_drew _ _
 have bX:Am wb w.heap.size 489 #[i64 (p:Int),u64 key]:=by rw[<- o7];exact(zv w _ _).drew
 rw[o7]
 clear o7 vZ bH cm Mo hc
 have s1:=S0.out.grew hK
 have D5:=(D_.1 he).1
 have Mp:=zh (K8 wb H A N v l a s1 i ((p:Int),key) D5 ⟨p0,p1⟩ HR.out)
 obtain⟨g,c',hv,hg,f0,f1,_⟩:=s1.item he
 subst hv
 have hb:=s1.box.cell 0
 have x0:=bX.cell 0
 have x1:=bX.cell 1
 simp at hb x0 x1
 have i0:(0:Int)<=(i:Int):=by omega
 have i1:(i:Int)<(l.length:Int):=by omega
 have ib:((i:Int)==-1)=false:=by simp
 have OU:decide (e.2<=key)=false:=zf (by omega)
 clear he
 go_wp2_with fail
 refine Mp.out.mono ?_
 rintro r w3 ⟨rfl,s3,k3⟩
 go_wp2_with fail
 go_ret
 exact⟨rfl,s3,hK.kept.trans k3⟩
theorem uD (w:I_) (H A N:Nat) (v:J_) (l:List Itm) (a:List Int) (s:BQ w H A N v l a) (hR:N4 N l) (p:Nat) (key:Int) (hp:a[p]? = some (-1)) (vS:l.length<65536) :
  K_ A_ 314 #[pt H,i64 (p:Int),u64 key] w λ r w'=>r=.returned (.bool true)/\∃ v',BQ w' H A N v' (Dl (l++[((p:Int),key)]) a l.length ((p:Int),key)).1 (Dl (l++[((p:Int),key)]) a l.length ((p:Int),key)).2/\Kept (HB H A v) w w'/\∀ j,j<w.heap.size->v'.ownBlock=some j->v.ownBlock=some j:=by
 obtain⟨i0,hi,Cu,BV,Cj⟩:=info_parts jP
 have hc:w.cell? ⟨H,1,none⟩=some (.slice (some ⟨A,0,none⟩) N N):=s.box.cell 1
 have hs:=s.small
 have hf:=s.few
 have AH:=s.lt
 have hAw:=s.arr.lt
 have hHw:=s.box.lt
 have hl:=(D_.1 hp).1
 rw[s.len]at hl
 have vZ:=(s.grew (zr (λ _=>False) _).drew).place hp
 have p0:(0:Int)<=(p:Int):=by omega
 have p1:(p:Int)<(N:Int):=by omega
 have bH:=(s.grew (zr (λ _=>False) _).drew).box
 have d0:decide ((p:Int)<0)=false:=zf (by omega)
 have d1:decide (N<=p)=false:=zf (by omega)
 have cm:¬ w.heap.size<=H:=by omega
 have Mo:¬ w.heap.size<=A:=by omega
 have S0:=zh s
 have HR:=zh hR
 obtain⟨V,c,hv⟩:=s.slice
 obtain⟨LL,hL⟩:=zn (l.length)
 rw[hL]at hv vS hf ⊢
 subst hv
 have HLen:=zh hL
 clear s hp hR hL
 go_enter Tryz.func314,Tryz.ntmps314
 go_wp2_with fail
 refine rG [] (λ j=>w.heap.size<=j) ?_
 refine pG 0 24 ?_
 refine pG 1 25 ?_
 refine pG 2 26 ?_
 refine pG 3 27 ?_
 refine pG 4 28 ?_
 refine pG 5 29 ?_
 refine tG 6 30 (y:=λ w' Ah=>by have AM:=(bH.kept Ah cm).cell 1;have AX:=Kept.cell Ah vZ Mo;simp at AM;go_simp<;>with_reducible rfl) (h:=?_)
 refine pG 7 31 ?_
 refine pG 8 32 ?_
 refine tG 9 33 (y:=λ w' Ah=>by have AM:=(bH.kept Ah cm).cell 1;have AX:=Kept.cell Ah vZ Mo;simp at AM;go_simp<;>with_reducible rfl) (h:=?_)
 refine sG 10 7 (λ K Aj=>?_)
 go_simp
 refine Aj _ _ (λ _=>Kept.alloc_drew _ _) ?_
 clear Aj
 simp only[sA]
 refine DH 11 (λ K Aj=>?_)
 go_simp
 refine Aj _ (λ _=>Kept.realloc_drew (zl _)) ?_
 clear Aj
 refine pG 12 8 ?_
 refine dG ?_
 obtain⟨wb,o7⟩:=zn ((w.alloc (.cells #[i64 (p:Int),u64 key] 489)).drew)
 have hK:Ac w wb:=by rw[<- o7];exact Ac.alloc_drew _ _
 have bX:Am wb w.heap.size 489 #[i64 (p:Int),u64 key]:=by rw[<- o7];exact(zv w _ _).drew
 rw[o7]
 clear o7 vZ bH cm Mo hc
 have s1:=S0.out.grew hK
 have AY:=zh (show wb.ownsRow (H+1) 489 2 (.slice V LL c) LL (Cd l) from HLen.out▸s1.row)
 have C5:=zh (show (wb.drew.alloc (.cells #[i64 (p:Int),u64 key] 489)).ownsRow (H+1) 489 2 (.slice V LL c) LL (Cd l) from Ac.own ((zr _ _).drew.alloc _) AY.out)
 have yV:¬ (M_ V LL c).ownBlock=some H:=λ h=>by have:=(AY.out.lt H h).1;omega
 have oI:¬ (M_ V LL c).ownBlock=some w.heap.size:=λ h=>by have:=(S0.out.row.lt w.heap.size h).2;omega
 have hneA:Hid (¬ (M_ V LL c).ownBlock=some A):=zh (λ h=>by have:=(AY.out.lt A h).1;omega)
 have bH2:=s1.box.drew
 have bX2:=bX.drew
 have hwbs:H<wb.heap.size:=s1.box.lt
 have S1:=zh s1
 have hb:=s1.box.cell 0
 simp at hb
 clear s1
 go_wp2_with fail
 refine rG [10] (λ j=>(M_ V LL c).ownBlock=some j) ?_
 refine pG 0 37 ?_
 refine pG 1 38 ?_
 refine pG 2 39 ?_
 refine pG 3 40 ?_
 refine tG 4 41 (y:=λ w' Ah=>by have AM:=(bH2.kept Ah yV).cell 0;have AX:=(bX2.kept Ah oI).cell 0;have CN:=(bX2.kept Ah oI).cell 1;simp at AM AX CN;go_simp<;>with_reducible rfl) (h:=?_)
 refine tG 5 42 (y:=λ w' Ah=>by have AM:=(bH2.kept Ah yV).cell 0;have AX:=(bX2.kept Ah oI).cell 0;have CN:=(bX2.kept Ah oI).cell 1;simp at AM AX CN;go_simp<;>with_reducible rfl) (h:=?_)
 refine sG 6 43 (λ K Aj=>?_)
 go_simp
 refine Aj _ _ (λ _=>(zr _ _).alloc _) ?_
 clear Aj
 simp only[sA]
 refine sG 7 44 (λ K Aj=>?_)
 refine wp_append_lies _ (.tmp 41) (.tmp 43) 454 (by rfl) (H+1) 489 i0 (.agg #[i64 0,u64 0]) 2 16 Tryz.underlying454 hi Cu BV Cj (by rfl) (by omega) (.slice V LL c) _ _ (by rfl) C5.out ⟨wb.heap.size,0,none⟩ 1 1 (Cy ((p:Int),key)) (by rfl) (by rfl) (World.news_of_block (heap_alloc_new _ _)) ?_ (by omega) ?_ ?_ ?_ _ rfl ?_
 ·intro u hu;simp[Cy]at hu;rcases hu with rfl | rfl<;>rfl
 ·unfold maxLen;omega
 ·omega
 ·have:=bH2.lt;simp;omega
 intro g cap wa Bb AD hat1 hlt1
 have bH3:=(bH2.alloc (.cells #[i64 (p:Int),u64 key] 489)).grown AD (λ h=>yV h.symm)
 have vm:=(bX2.alloc (.cells #[i64 (p:Int),u64 key] 489)).grown AD (λ h=>oI h.symm)
 have hc1':=bH3.cell 0
 have hf1':=bH3.frozen 0
 simp at hc1'
 refine Aj _ _ (λ _=>(zr _ _).grown AD (λ k hk=>.inl hk)) ?_
 clear Aj
 simp only[sA]
 refine pG 8 45 ?_
 refine pG 9 46 ?_
 refine DH 10 (λ K Aj=>?_)
 go_simp
 refine Aj _ (λ h=>absurd (by simp) h) ?_
 clear Aj
 refine dG ?_
 have sE:=bH3.set 0 (.slice (some ⟨g,0,none⟩) (LL+1) cap)
 have hgX:¬ w.heap.size=H:=by omega
 have vp:=vm.far (p:=⟨H,0,none⟩) hgX (.slice (some ⟨g,0,none⟩) (LL+1) cap)
 have lS:¬ A=H:=by omega
 have bA4:=((S1.out.arr.alloc (.cells #[i64 (p:Int),u64 key] 489)).drew.grown AD (λ h=>hneA.out h.symm)).far (p:=⟨H,0,none⟩) lS (.slice (some ⟨g,0,none⟩) (LL+1) cap)
 have hgb:H+1<=g:=(Bb.lt g rfl).1
 have hgH:¬ g=H:=by omega
 have oT:=Kept.own ((zr (·=H) _).setCell (p:=⟨H,0,none⟩) (.inl rfl) (.slice (some ⟨g,0,none⟩) (LL+1) cap)) Bb (λ k hk h=>hgH ((H_ (show some g=some k from hk)).trans h))
 have yk:Kept (HB H A (.slice V LL c)) w (wa.setCell ⟨H,0,none⟩ (.slice (some ⟨g,0,none⟩) (LL+1) cap)):=(((hK.kept (F:=HB H A (.slice V LL c))).alloc _).drew.grown AD (λ k hk=>.inl (.inr (.inr hk)))).setCell (p:=⟨H,0,none⟩) (.inl (.inl rfl)) _
 have GH:Cd (l++[((p:Int),key)])=Cd l++Cy ((p:Int),key):=by rw[Gd];rfl
 have oC:(l++[((p:Int),key)]).length=LL+1:=by rw[List.length_append,HLen.out];rfl
 have s4:BQ (wa.setCell ⟨H,0,none⟩ (.slice (some ⟨g,0,none⟩) (LL+1) cap)) H A N (.slice (some ⟨g,0,none⟩) (LL+1) cap) (l++[((p:Int),key)]) a :=
  ⟨sE,bA4,by rw[oC,GH];exact oT,AH,S1.out.len,by rw[oC];omega,hs⟩
 have DO:Hid (∀ j,j<w.heap.size->(M_ (some ⟨g,0,none⟩) (LL+1) cap).ownBlock=some j->(M_ V LL c).ownBlock=some j):=by
  intro j hj h;obtain rfl:g=j:=H_ (show some g=some j from h);rcases hat1 with h1 | h1
  ·exact h1
  ·have:=hK.size;simp only[World.size_drew,World.size_alloc]at h1;omega
 have Mp:=zh (K8 _ H A N _ _ a s4 LL ((p:Int),key) (by omega) ⟨p0,p1⟩ (λ x hx=>by
  rcases List.mem_append.1 hx with h | h
  ·exact HR.out x h
  ·obtain rfl:=List.mem_singleton.1 h;exact⟨p0,p1⟩))
 have S4:=zh s4
 obtain⟨w4,D6⟩:=zn (wa.setCell ⟨H,0,none⟩ (.slice (some ⟨g,0,none⟩) (LL+1) cap))
 rw[D6]at sE vp bA4 oT yk Mp s4
 rw[D6]
 clear S4 C5 Bb AD D6 oC GH oT bA4 bH3 vm hc1' hf1' S1 s4 hat1
 have hb0:=sE.cell 0
 have x0:=vp.cell 0
 have x1:=vp.cell 1
 simp at hb0 x0 x1
 go_wp2_with fail
 refine Mp.out.mono ?_
 rintro r w3 ⟨rfl,s3,k3⟩
 go_wp2_with fail
 go_ret
 exact⟨rfl,_,s3,yk.then k3 (λ j hj h=>by
  rcases h with h | h | h
  ·exact .inl h
  ·exact .inr (.inl h)
  ·exact .inr (.inr (DO.out j hj h))),DO.out⟩
end Go.Proofs.YtepelooebggliaaGreatDoor.Hp
namespace Go.Proofs.YtepelooebggliaaGreatDoor.Hp
open Go.RowKit
theorem ql (w:I_) (H A N:Nat) (v:J_) (a:List Int) (s:BQ w H A N v [] a):K_ A_ 317 #[pt H] w λ e w'=>e=.returned (.tuple #[i64 0,u64 0,.bool false])/\w=w':=by
 have hW:=zh (len_any w H A N v [] a s);go_enter Tryz.func317,Tryz.ntmps317;go_wp2_with fail;refine hW.out.mono ?_;rintro e w1 ⟨rfl,rfl⟩;go_wp2_with fail;go_ret3;exact⟨rfl,rfl⟩
theorem qm (w:I_) (H A N:Nat) (v:J_) (l:List Itm) (a:List Int) (s:BQ w H A N v l a) (e:Itm) (he:l[0]? = some e):K_ A_ 317 #[pt H] w λ r w'=>r=.returned (.tuple #[i64 e.1,u64 e.2,.bool true])/\Ac w w':=by
 have hW:=zh (len_any w H A N v l a s);obtain⟨g,c,hv,hg,f0,f1,_⟩:=(s.grew (zr (λ _=>False) _).drew).item he;subst hv;have bH:=(s.grew (zr (λ _=>False) _).drew).box;have hl:=(D_.1 he).1;obtain⟨LL,hL⟩:=zn (l.length);rw[hL]at hl bH hW;have hf:=s.few;rw[hL]at hf;have hb:((LL:Int)==0)=false:=by
  have:¬ ((LL:Int)=0):=(by omega);simpa using this
 have h0:(0:Int)<(LL:Int):=(by omega);simp only[Nat.zero_mul,Nat.zero_add]at f0 f1;clear s hL he;go_enter Tryz.func317,Tryz.ntmps317;go_wp2_with fail;refine hW.out.mono ?_;rintro r w1 ⟨rfl,rfl⟩;go_wp2_with fail;refine rG [] (λ _=>False) ?_;refine pG 0 8 ?_;refine pG 1 9 ?_;refine pG 2 10 ?_;refine tG 3 11 (y:=λ w' Ah=>by have AM:=(bH.grew Ah).cell 0;have AX:=ze Ah f0;have CN:=ze Ah f1;simp at AM;go_simp<;>with_reducible rfl) (h:=?_);refine pG 4 12 ?_;refine pG 5 13 ?_;refine tG 6 14 (y:=λ w' Ah=>by have AM:=(bH.grew Ah).cell 0;have AX:=ze Ah f0;have CN:=ze Ah f1;simp at AM;go_simp<;>with_reducible rfl) (h:=?_);refine pG 7 15 ?_;refine pG 8 16 ?_;refine pG 9 17 ?_;refine tG 10 18 (y:=λ w' Ah=>by have AM:=(bH.grew Ah).cell 0;have AX:=ze Ah f0;have CN:=ze Ah f1;simp at AM;go_simp<;>with_reducible rfl) (h:=?_);refine pG 11 19 ?_;refine pG 12 20 ?_;refine tG 13 21 (y:=λ w' Ah=>by have AM:=(bH.grew Ah).cell 0;have AX:=ze Ah f0;have CN:=ze Ah f1;simp at AM;go_simp<;>with_reducible rfl) (h:=?_);refine pG 14 2 ?_;refine pG 15 3 ?_;refine pG 16 4 ?_;refine dG ?_;go_wp2_with fail;go_ret3;exact⟨rfl,(zr _ _).drew⟩
theorem BQ.mark {w:I_} {H A N:Nat} {v:J_} {l:List Itm} {a:List Int} (s:BQ w H A N v l a) (p:Nat) (k:Int):BQ (w.setCell ⟨A,p,none⟩ (i64 k)) H A N v l (a.set p k):=by
 have AH:=s.lt;refine⟨s.box.far (p:=⟨A,p,none⟩) (by simp;omega) _,?_,Kept.own ((zr (·=A) _).setCell (p:=⟨A,p,none⟩) (.inl rfl) _) s.row (λ k hk h=>by have:=(s.row.lt k hk).1;omega),AH,by rw[E_];exact s.len,s.few,s.small⟩;have h2:=s.arr.set p (i64 k);have e:((a.map i64).toArray.setIfInBounds p (i64 k))=((a.set p k).map i64).toArray:=(by simp[List.map_set]);rw[e]at h2;exact h2
theorem BQ.popped {w:I_} {H A N g LL c:Nat} {l:List Itm} {a:List Int} (s:BQ w H A N (.slice (some ⟨g,0,none⟩) (LL+1) c) l a) (hl:l.length=LL+1) :
  BQ (w.setCell ⟨H,0,none⟩ (.slice (some ⟨g,0,none⟩) LL c)) H A N (.slice (some ⟨g,0,none⟩) LL c) l.dropLast a:=by
 have AH:=s.lt
 have hf:=s.few
 have hd:l.dropLast.length=LL:=by rw[F_,hl];rfl
 refine⟨s.box.set 0 _,s.arr.far (p:=⟨H,0,none⟩) (by simp;omega) _,?_,AH,s.len,by omega,s.small⟩
 rw[hd]
 refine Kept.own ((zr (·=H) _).setCell (p:=⟨H,0,none⟩) (.inl rfl) _) ?_ (λ k hk h=>?_)
 ·have hr:=s.row;rw[hl]at hr;refine⟨by rw[EB,hd],?_⟩;rcases hr.2 with ⟨h,h0⟩ | ⟨g1,cap,cur,hv,hb,hg,h1,h2,h3,h4⟩
  ·cases h
  ·cases hv;refine .inr ⟨g,c,cur,rfl,hb,hg,by omega,h2,h3,?_⟩;have h5:=congrArg (List.take (LL*2)) h4;rw[List.take_take,Nat.min_eq_left (by omega)]at h5;rw[h5];have Bm:l≠[]:=by intro h;rw[h]at hl;simp at hl
   conv=>lhs;rw[<- List.dropLast_concat_getLast Bm]
   rw[Gd,List.take_append_of_le_length (by rw[EB,hd];exact zl _),List.take_of_length_le (by rw[EB,hd];exact zl _)]
 ·obtain rfl:g=k:=H_ (show some g=some k from hk);have:=(s.row.lt g rfl).1;omega
theorem ja (w:I_) (H A N:Nat) (v:J_) (l:List Itm) (a:List Int) (s:BQ w H A N v l a) (p i:Nat) (hp:a[p]? = some (i:Int)) (hi:i+1=l.length):K_ A_ 385 #[pt H,i64 (p:Int)] w λ r w'=>r=.returned (.bool true)/\∃ v',BQ w' H A N v' l.dropLast (a.set p (-1))/\Kept (HB H A v) w w'/\v'.ownBlock=v.ownBlock:=by
 have hW:=zh (bp w H A N v l a s p _ hp);have hl:=(D_.1 hp).1;rw[s.len]at hl;have p0:(0:Int)<=(p:Int):=(by omega);have p1:(p:Int)<(N:Int):=(by omega);have ib:((i:Int)==-1)=false:=(by simp);have hL:l.length=i+1:=hi.symm;clear hi;obtain⟨⟨ev,ek⟩,he⟩:∃ e,l[i]? = some e:=⟨_,zq (by omega)⟩;obtain⟨g,c,hv,hg,f0,f1,Bg⟩:=(s.mark p (-1)).item he;rw[hL]at hv Bg;subst hv;have tq:c<=maxLen:=by
  have hr:=s.row;rw[hL]at hr;rcases hr.2 with ⟨h,h0⟩ | ⟨g1,cap,cur,hv,hb,hg,h1,h2,h3,h4⟩
  ·cases h
  ·cases hv;exact h2
 unfold maxLen at tq;have hf:=s.few;have LU:=s.small;have AH:=s.lt;have hAw:=s.arr.lt;have hHw:=s.box.lt;rw[hL]at hf;have k1:Kept (HB H A (.slice (some ⟨g,0,none⟩) (i+1) c)) w (w.setCell ⟨A,p,none⟩ (i64 (-1))):=(zr _ _).setCell (p:=⟨A,p,none⟩) (.inl (.inr (.inl rfl))) _;have S0:=zh s;have S1:=zh (s.mark p (-1));have yB:=s.box.cell 1;have Hz:=s.place hp;have hfz:=s.arr.frozen p;simp at yB;obtain⟨w1,AQ⟩:=zn (w.setCell ⟨A,p,none⟩ (i64 (-1)));rw[AQ]at S1 f0 f1 k1;have HL:=zh hL;have HE:=zh he;clear s hp hL he;go_enter Tryz.func385,Tryz.ntmps385;go_wp2_with fail;refine hW.out.mono ?_;rintro e w1 ⟨rfl,rfl⟩;obtain⟨w2,BM⟩:=zn (w1.alloc (.cells #[i64 ev,u64 ek] 489));go_upto_region 5 with fail;clear AQ yB Hz hfz;have bH:=S1.out.box;have hb:=bH.cell 0;have tS:O_.wrap ((i:Int)+1-1)=(i:Int):=by rw[C_];exact N_ _ (by omega)
 simp at hb;have l0:(0:Int)<=(i:Int):=(by omega);have l1:(i:Int)<(i:Int)+1:=(by omega);go_upto_region 7 with fail;have k2:Ac w1 w2:=by rw[<- BM];exact(zr _ _).alloc _
 have bX:Am w2 w1.heap.size 489 #[i64 ev,u64 ek]:=by rw[<- BM];exact zv _ _ _
 have CR:=k1.size;have S2:=zh (S1.out.grew k2);have hb:=S2.out.box.cell 0;have hfz:=S2.out.box.frozen 0;simp at hb;obtain⟨w3,Dj⟩:=zn (w2.setCell ⟨H,0,none⟩ (.slice (some ⟨g,0,none⟩) i c));have S3:=zh (S2.out.popped HL.out);have vm:=bX.far (p:=⟨H,0,none⟩) (by simp;omega) (.slice (some ⟨g,0,none⟩) i c);have k3:Kept (HB H A (.slice (some ⟨g,0,none⟩) (i+1) c)) w (w2.setCell ⟨H,0,none⟩ (.slice (some ⟨g,0,none⟩) i c)):=(k1.trans k2.kept).setCell (p:=⟨H,0,none⟩) (.inl (.inl rfl)) _;rw[Dj]at S3 vm k3;clear BM bX k2 k1 S1 f0 f1 bH;go_upto_region 8 with fail;clear Dj hb hfz;go_wp2_with fail;go_ret;exact⟨rfl,_,S3.out,k3,rfl⟩
theorem sT (w:I_) (H A N:Nat) (v:J_) (l:List Itm) (a:List Int) (s:BQ w H A N v l a) (hR:N4 N l) (p i:Nat) (x:Itm) (hp:a[p]? = some (i:Int)) (hi:i+1<l.length) (hx:l[l.length-1]? = some x):K_ A_ 385 #[pt H,i64 (p:Int)] w λ r w'=>r=.returned (.bool true)/\∃ v',BQ w' H A N v' (I3 l a p i x).1 (I3 l a p i x).2/\Kept (HB H A v) w w'/\v'.ownBlock=v.ownBlock:=by
 have hW:=zh (bp w H A N v l a s p _ hp);have hl:=(D_.1 hp).1;rw[s.len]at hl;have p0:(0:Int)<=(p:Int):=(by omega);have p1:(p:Int)<(N:Int):=(by omega);have ib:((i:Int)==-1)=false:=(by simp);obtain⟨LL,hL⟩:∃ L,l.length=L+1:=⟨l.length-1,by omega⟩;rw[hL,Nat.add_sub_cancel]at hx;rw[hL]at hi;obtain⟨ev,ek⟩:=x;have LC:=hR _ (zm hx);obtain⟨q,rfl⟩:=B_ LC.1;have hqN:q<N:=by have:=LC.2;simp at this;omega
 have he:=hx;clear hx;have HR:=zh hR;clear hR;obtain⟨D,hD⟩:=zn (I3 l a p i ((q:Int),ek));rw[hD];have HD0:=zh hD;clear hD;obtain⟨g,c,hv,hg,f0,f1,Bg⟩:=(s.mark p (-1)).item he;rw[hL]at hv Bg;subst hv;have tq:c<=maxLen:=by
  have hr:=s.row;rw[hL]at hr;rcases hr.2 with ⟨h,h0⟩ | ⟨g1,cap,cur,hv,hb,hg,h1,h2,h3,h4⟩
  ·cases h
  ·cases hv;exact h2
 unfold maxLen at tq;have hf:=s.few;have LU:=s.small;have AH:=s.lt;have hAw:=s.arr.lt;have hHw:=s.box.lt;rw[hL]at hf;have k1:Kept (HB H A (.slice (some ⟨g,0,none⟩) (LL+1) c)) w (w.setCell ⟨A,p,none⟩ (i64 (-1))):=(zr _ _).setCell (p:=⟨A,p,none⟩) (.inl (.inr (.inl rfl))) _;have S0:=zh s;have S1:=zh (s.mark p (-1));have yB:=s.box.cell 1;have Hz:=s.place hp;have hfz:=s.arr.frozen p;simp at yB;obtain⟨w1,AQ⟩:=zn (w.setCell ⟨A,p,none⟩ (i64 (-1)));rw[AQ]at S1 f0 f1 k1;have HL:=zh hL;have HE:=zh he;clear s hp hL he;go_enter Tryz.func385,Tryz.ntmps385;go_wp2_with fail;refine hW.out.mono ?_;rintro e w1 ⟨rfl,rfl⟩;obtain⟨w2,BM⟩:=zn (w1.alloc (.cells #[i64 (q:Int),u64 ek] 489));go_upto_region 5 with fail;clear AQ yB Hz hfz;have bH:=S1.out.box;have hb:=bH.cell 0;have tS:O_.wrap ((LL:Int)+1-1)=(LL:Int):=by rw[C_];exact N_ _ (by omega)
 simp at hb;have l0:(0:Int)<=(LL:Int):=(by omega);have l1:(LL:Int)<(LL:Int)+1:=(by omega);go_upto_region 7 with fail;have k2:Ac w1 w2:=by rw[<- BM];exact(zr _ _).alloc _
 have bX:Am w2 w1.heap.size 489 #[i64 (q:Int),u64 ek]:=by rw[<- BM];exact zv _ _ _
 have CR:=k1.size;have S2:=zh (S1.out.grew k2);have hb:=S2.out.box.cell 0;have hfz:=S2.out.box.frozen 0;simp at hb;obtain⟨w3,Dj⟩:=zn (w2.setCell ⟨H,0,none⟩ (.slice (some ⟨g,0,none⟩) LL c));have S3:=zh (S2.out.popped HL.out);have vm:=bX.far (p:=⟨H,0,none⟩) (by simp;omega) (.slice (some ⟨g,0,none⟩) LL c);have k3:Kept (HB H A (.slice (some ⟨g,0,none⟩) (LL+1) c)) w (w2.setCell ⟨H,0,none⟩ (.slice (some ⟨g,0,none⟩) LL c)):=(k1.trans k2.kept).setCell (p:=⟨H,0,none⟩) (.inl (.inl rfl)) _;rw[Dj]at S3 vm k3;clear BM bX k2 k1 S1 f0 f1 bH;go_upto_region 8 with fail;clear Dj hb hfz;have hid:((i:Int)==(LL:Int))=false:=by simp;omega
 have hdl:l.dropLast.length=LL:=by rw[F_,HL.out];rfl
 have hRd:N4 N l.dropLast:=λ e he=>HR.out e ((List.dropLast_sublist l).subset he);have nW:=zh (qg w3 H A N _ _ _ S3.out i ((q:Int),ek) (by omega) LC hRd);obtain⟨n1,n2,n3⟩:=aZ N _ i l.dropLast (a.set p (-1)) ((q:Int),ek) rfl hRd LC;rw[hdl]at n1;rw[E_,S0.out.len]at n2;have hD:=HD0.out;obtain⟨⟨l2,a2⟩,hr⟩:∃ r,BU l.dropLast (a.set p (-1)) i ((q:Int),ek)=r:=⟨_,rfl⟩;rw[I3,hr]at hD;rw[hr]at n1 n2 n3 nW;have N1:=zh n1;have N2:=zh n2;have N3:=zh n3;have HD:=zh hD;obtain⟨x0,x1⟩:=CE vm;have hgw:=(S3.out.row.lt g rfl).2;have hgX:Hid (¬ HB H A (.slice (some ⟨g,0,none⟩) LL c) w1.heap.size):=by
  rintro (h | h | h)
  ·omega
  ·omega
  ·have h2:g=w1.heap.size:=H_ (show some g=some w1.heap.size from h);have:=(S0.out.row.lt g rfl).2;omega
 clear hdl hr hD n1 n2 n3 hRd hgw;go_wp2_with fail;refine nW.out.mono ?_;rintro r w4 ⟨rfl,s4,k4⟩;clear x0 x1 nW;obtain⟨z,hz⟩:=zx (l:=a2) (i:=q) (by rw[show a2.length=N from N2.out];exact hqN);have bX4':=vm.kept k4 hgX.out;have s4d:=s4.grew (zr (λ _=>False) _).drew;have sE:=s4d.box;have fq:=s4d.place hz;have vp:=bX4'.drew;have S4:=zh s4d;have HZ:=zh hz;have q0:(0:Int)<=(q:Int):=(by omega);have q1:(q:Int)<(N:Int):=(by omega);have k5:=(k3.trans k4).drew;clear s4 s4d hz bX4' k4 k3;go_wp2_with fail;refine rG [] (λ _=>False) ?_;refine pG 0 48 ?_;refine pG 1 49 ?_;refine pG 2 50 ?_;refine tG 3 51 (y:=λ w' Ah=>by have AM:=(sE.grew Ah).cell 1;have AX:=(vp.grew Ah).cell 0;have CN:=ze Ah fq;simp at AM AX;go_simp<;>with_reducible rfl) (h:=?_);refine pG 4 52 ?_;refine tG 5 53 (y:=λ w' Ah=>by have AM:=(sE.grew Ah).cell 1;have AX:=(vp.grew Ah).cell 0;have CN:=ze Ah fq;simp at AM AX;go_simp<;>with_reducible rfl) (h:=?_);refine pG 6 54 ?_;refine tG 7 55 (y:=λ w' Ah=>by have AM:=(sE.grew Ah).cell 1;have AX:=(vp.grew Ah).cell 0;have CN:=ze Ah fq;simp at AM AX;go_simp<;>with_reducible rfl) (h:=?_);refine pG 8 56 ?_;refine pG 9 57 ?_;refine dG ?_;by_cases hzi:z=(i:Int)
 ·subst hzi;have Mp:=zh (K8 _ H A N _ _ _ S4.out i ((q:Int),ek) (by rw[show l2.length=LL from N1.out];omega) LC N3.out);obtain⟨x0,x1⟩:=CE vp;clear sE fq;have hD2:Hid (Dl l2 a2 i ((q:Int),ek)=D):=by
   have h:=HD.out
   rw[if_pos (by exact HZ.out)]at h
   exact h
  clear HD;go_wp2_with fail;refine Mp.out.mono ?_;rintro r w5 ⟨rfl,s5,k6⟩;go_wp2_with fail;go_ret;rw[<- hD2.out];exact⟨rfl,_,s5,k5.trans k6,rfl⟩
 ·have hzb:(z==(i:Int))=false:=(by simpa using hzi);clear sE fq;have hD2:Hid ((l2,a2)=D):=by
   have h:=HD.out
   rw[if_neg (λ h=>hzi (by have:=HZ.out.symm.trans h;exact H_ this))]at h
   exact h
  clear HD;go_wp2_with fail;go_ret;rw[<- hD2.out];exact⟨rfl,_,S4.out,k5,rfl⟩
end Go.Proofs.YtepelooebggliaaGreatDoor.Hp
namespace Go.Proofs.YtepelooebggliaaGreatDoor.Hp
open Go.RowKit
theorem info_int:(A_.info? 3).map (λ i=>(i.zero,i.size,i.bytes))=some (some (i64 0),1,8):=by kernel_rfl
theorem made_zero (n:Nat):madeCells #[i64 0] n=((G_ n (0:Int)).map i64).toArray:=by
 apply Array.ext
 ·simp[size_madeCells]
 ·intro i h1 h2;simp[madeCells,Value.cells,Nat.mod_one]
theorem uq (n:Nat) (w:I_) (hn:n<=65536):K_ A_ 275 #[i64 (n:Int)] w λ e w'=>e=.returned (pt (w.heap.size+1))/\∃ a,BQ w' (w.heap.size+1) w.heap.size n (.slice none 0 0) [] a/\(∀ p,p<n->a[p]? = some (-1))/\Ac w w':=by
 obtain⟨i0,hi,Cu,BV,Cj⟩:=info_parts info_int;have Hu:=run_make (P:=A_) w 26 3 i0 _ Tryz.underlying26 hi Cu .i64 .i64 (n:Int) (n:Int) (by omega) (Int.le_refl _) (by rw[Cj];omega) (by omega);rw[Int.toNat_natCast,BV,Nat.mul_one]at Hu;have n0:(0:Int)<=(n:Int):=(by omega);have n1:(n:Int)<=65536:=(by omega);have bA:=zv w 3 (madeCells #[i64 0] n);have hK:Ac w (w.alloc (.cells (madeCells #[i64 0] n) 3)):=(zr _ _).alloc _;obtain⟨w1,AQ⟩:=zn (w.alloc (.cells (madeCells #[i64 0] n) 3));have CR:w1.heap.size=w.heap.size+1:=by rw[<- AQ];simp
 rw[AQ]at bA hK;rw[made_zero]at bA;have bH:=zv w1 456 #[.slice none 0 0,.slice (some ⟨w.heap.size,0,none⟩) n n];rw[CR]at bH;have bA2:=bA.alloc (.cells #[.slice none 0 0,.slice (some ⟨w.heap.size,0,none⟩) n n] 456);have fD:=hK.alloc (.cells #[.slice none 0 0,.slice (some ⟨w.heap.size,0,none⟩) n n] 456);have S0:Hid (BQ (w1.alloc (.cells #[.slice none 0 0,.slice (some ⟨w.heap.size,0,none⟩) n n] 456)) (w.heap.size+1) w.heap.size n (.slice none 0 0) [] (G_ n (0:Int))) :=
  zh ⟨bH,bA2,World.ownsRow_nil _ _ _ _,by omega,by simp,by simp,hn⟩
 obtain⟨w2,BM⟩:=zn (w1.alloc (.cells #[.slice none 0 0,.slice (some ⟨w.heap.size,0,none⟩) n n] 456));rw[BM]at S0 fD bH;have hc:=bH.cell 1;simp at hc;have hs:=zh CR;clear bA bA2 hK;go_enter Tryz.func275,Tryz.ntmps275;go_wp2_with fail;go_loopw [4,20] (λ _ i wr=>∃ (k:Nat) (a:List Int),i=.int .i64 k/\k<=n/\Hid (BQ wr (w.heap.size+1) w.heap.size n (.slice none 0 0) [] a)/\Hid (∀ p,p<k->a[p]? = some (-1))/\Ac w wr) (λ _ i _=>n-(intOf i).toNat)
 case atStart=>exact⟨0,_,rfl,by omega,S0,zh (λ p hp=>absurd hp (by omega)),fD⟩
 case round =>
  clear S0 fD hc bH AQ BM;obtain⟨k,a,rfl,hk,S1,hA,hK⟩:=hrel;by_cases AH:k<n
  ·have bH:=S1.out.box.cell 1;obtain⟨x,hx⟩:=zx (l:=a) (i:=k) (by rw[S1.out.len];exact AH);have hp:=S1.out.place hx;have hf:=S1.out.arr.frozen k;simp at bH;clear hx;go_wp2_with fail;go_roundw
   case rel=>exact⟨k+1,_,by go_num,by omega,zh (S1.out.mark k (-1)),zh (λ p hp=>by
    rw[List.getElem?_set];split
    ·rw[if_pos (by rw[S1.out.len];omega)]
    ·exact hA.out p (by omega)),hK.setCell (p:=⟨w.heap.size,k,none⟩) (.inr (zl _)) _⟩
   case measure=>simp[intOf];omega
  ·obtain rfl:k=n:=(by omega);go_wp2_with fail;go_ret;exact⟨rfl,a,S1.out,hA.out,hK⟩
def Hp (w:I_) (H A N:Nat) (v:J_) (l:List Itm):Prop:=∃ a,BQ w H A N v l a/\Good N l a
theorem Hp.kept {F:Nat->Prop} {w w':I_} {H A N:Nat} {v:J_} {l:List Itm} (s:Hp w H A N v l) (k:Kept F w w') (hF:∀ j,HB H A v j->¬ F j):Hp w' H A N v l:=by
 obtain⟨a,h,g⟩:=s;exact⟨a,h.kept k hF,g⟩
theorem Hp.grew {w w':I_} {H A N:Nat} {v:J_} {l:List Itm} (s:Hp w H A N v l) (k:Ac w w'):Hp w' H A N v l:=s.kept k λ _ _ h=>h
structure Turn (w w':I_) (H A N:Nat) (v v':J_) (l':List Itm):Prop where
 hp:Hp w' H A N v' l'
 kept:Kept (HB H A v) w w'
 old:∀ j,j<w.heap.size->v'.ownBlock=some j->v.ownBlock=some j
theorem Hp.rng {w:I_} {H A N:Nat} {v:J_} {l:List Itm} (s:Hp w H A N v l):N4 N l:=by
 obtain⟨a,_,g⟩:=s;exact g.1.rng
theorem Hp.one {w:I_} {H A N:Nat} {v:J_} {l:List Itm} (s:Hp w H A N v l) {i j:Nat} {e f:Itm} (hi:l[i]? = some e) (hj:l[j]? = some f) (hv:e.1=f.1):i=j:=by
 obtain⟨a,_,g⟩:=s;exact g.1.at_inj hi hj hv
theorem Hp.apart {w:I_} {H A N:Nat} {v:J_} {l:List Itm} (s:Hp w H A N v l) {g:Nat} {t:TypeId} {cs:Array J_} {r:Nat×Nat} (h:w.heap[g]? = some (.cells cs t r)) (h1:t≠456) (h2:t≠3) (h3:t≠489):¬ HB H A v g:=by
 obtain⟨a,s,_⟩:=s;rintro (rfl | rfl | h4)
 ·have:=s.box.symm.trans h;simp at this;exact h1 this.2.1.symm
 ·have:=s.arr.symm.trans h;simp at this;exact h2 this.2.1.symm
 ·rcases s.row.2 with ⟨h,_⟩ | ⟨g1,cap,cur,hv,hb,hg,_⟩
  ·rw[h]at h4;cases h4
  ·rw[hv]at h4;obtain rfl:g1=g:=H_ (show some g1=some g from h4);have:=hg.symm.trans h;simp at this;exact h3 this.2.1.symm
theorem ny (w:I_) (H A N:Nat) (v:J_) (l:List Itm) (s:Hp w H A N v l) (i:Nat) (e:Itm) (he:l[i]? = some e):K_ A_ 385 #[pt H,i64 e.1] w λ r w'=>r=.returned (.bool true)/\∃ v' l',l'.Perm (l.eraseIdx i)/\Turn w w' H A N v v' l':=by
 obtain⟨a,s,g⟩:=s;obtain⟨p,hp,_,js⟩:=g.1.num he;rw[hp];have D5:=get_lt he;by_cases hi:i+1=l.length
 ·refine(ja w H A N v l a s p i js hi).mono ?_;rintro r w' ⟨rfl,v',s',k,hv⟩;obtain⟨h1,h2⟩:=LN g he hp hi;exact⟨rfl,v',_,h2,⟨_,s',h1⟩,k,λ j _ h=>by rw[<- hv];exact h⟩
 ·obtain⟨x,hx⟩:=zx (l:=l) (i:=l.length-1) (by omega);refine(sT w H A N v l a s g.1.rng p i x js (by omega) hx).mono ?_;rintro r w' ⟨rfl,v',s',k,hv⟩;obtain⟨h1,h2⟩:=OH g he hp (by omega) hx;exact⟨rfl,v',_,h2,⟨_,s',h1⟩,k,λ j _ h=>by rw[<- hv];exact h⟩
theorem put_less2 (w:I_) (H A N:Nat) (v:J_) (l:List Itm) (s:Hp w H A N v l) (i:Nat) (e:Itm) (key:Int) (he:l[i]? = some e) (hk:key<e.2):K_ A_ 314 #[pt H,i64 e.1,u64 key] w λ r w'=>r=.returned (.bool true)/\∃ v' l',l'.Perm (l.set i (e.1,key))/\Turn w w' H A N v v' l':=by
 obtain⟨a,s,g⟩:=s;obtain⟨p,hp,_,js⟩:=g.1.num he;rw[hp];refine(pS w H A N v l a s g.1.rng p i key e js he hk).mono ?_;rintro r w' ⟨rfl,s',k⟩;have h:=NC g he hp hk;exact⟨rfl,v,_,h.perm,⟨_,s',h.good⟩,k,λ j _ h=>h⟩
theorem put_new2 (w:I_) (H A N:Nat) (v:J_) (l:List Itm) (s:Hp w H A N v l) (x key:Int) (h0:0<=x) (h1:x<(N:Int)) (hx:∀ e∈l,e.1≠x):K_ A_ 314 #[pt H,i64 x,u64 key] w λ r w'=>r=.returned (.bool true)/\∃ v' l',l'.Perm (l++[(x,key)])/\Turn w w' H A N v v' l':=by
 obtain⟨a,s,g⟩:=s;obtain⟨p,rfl⟩:=B_ h0;have rR:p<N:=(by omega);have dM:=g.1.fewer rR hx;have LU:=s.small;refine(uD w H A N v l a s g.1.rng p key (g.1.gone p rR hx) (by omega)).mono ?_;rintro r w' ⟨rfl,v',s',k,hv⟩;have h:=aJ g p key rR hx;exact⟨rfl,v',_,h.perm,⟨_,s',h.good⟩,k,hv⟩
theorem new2 (n:Nat) (w:I_) (hn:n<=65536):K_ A_ 275 #[i64 (n:Int)] w λ e w'=>e=.returned (pt (w.heap.size+1))/\Hp w' (w.heap.size+1) w.heap.size n (.slice none 0 0) []/\Ac w w':=by
 refine(uq n w hn).mono ?_;rintro r w' ⟨rfl,a,s,h,k⟩;exact⟨rfl,⟨a,s,Good.nil s.len h⟩,k⟩
theorem top2 (w:I_) (H A N:Nat) (v:J_) (l:List Itm) (s:Hp w H A N v l) (e:Itm) (he:e∈l) (hm:∀ f∈l,¬ lessI f e=true):K_ A_ 317 #[pt H] w λ r w'=>r=.returned (.tuple #[i64 e.1,u64 e.2,.bool true])/\Ac w w':=by
 obtain⟨a,s,g⟩:=s;obtain⟨i,hi⟩:=List.getElem?_of_mem he;have D5:=get_lt hi;obtain⟨f,hf⟩:=zx (l:=l) (i:=0) (by omega);obtain rfl:e=f:=ey (top_law g.2 hf i e hi) (hm f (zm hf));exact qm w H A N v l a s e hf
theorem top2_none (w:I_) (H A N:Nat) (v:J_) (s:Hp w H A N v []):K_ A_ 317 #[pt H] w λ r w'=>r=.returned (.tuple #[i64 0,u64 0,.bool false])/\w=w':=by
 obtain⟨a,s,g⟩:=s;exact ql w H A N v a s
theorem pop_none (w:I_) (H A N:Nat) (v:J_) (s:Hp w H A N v []):K_ A_ 316 #[pt H] w λ e w'=>e=.returned (.tuple #[i64 0,u64 0,.bool false])/\w=w':=by
 have hT:=zh (top2_none w H A N v s);go_enter Tryz.func316,Tryz.ntmps316;go_wp2_with fail;refine hT.out.mono ?_;rintro r w1 ⟨rfl,rfl⟩;go_wp2_with fail;go_ret3;exact⟨rfl,rfl⟩
theorem pop_some (w:I_) (H A N:Nat) (v:J_) (l:List Itm) (s:Hp w H A N v l) (i:Nat) (e:Itm) (he:l[i]? = some e) (hm:∀ f∈l,¬ lessI f e=true):K_ A_ 316 #[pt H] w λ r w'=>r=.returned (.tuple #[i64 e.1,u64 e.2,.bool true])/\∃ v' l',l'.Perm (l.eraseIdx i)/\Turn w w' H A N v v' l':=by
 have hT:=zh (top2 w H A N v l s e (zm he) hm);have hS:=zh s;have HE:=zh he;clear s he hm;go_enter Tryz.func316,Tryz.ntmps316;go_wp2_with fail;refine hT.out.mono ?_;rintro r w1 ⟨rfl,k1⟩;have hD:=zh (ny w1 H A N v l (hS.out.grew k1) i e HE.out);go_wp2_with fail;refine hD.out.mono ?_;rintro r w2 ⟨rfl,v',l',hp,ht⟩;go_wp2_with fail;go_ret3;exact⟨rfl,v',l',hp,ht.hp,k1.kept.trans ht.kept,λ j hj h=>ht.old j (Nat.lt_of_lt_of_le hj k1.size) h⟩
end Go.Proofs.YtepelooebggliaaGreatDoor.Hp
