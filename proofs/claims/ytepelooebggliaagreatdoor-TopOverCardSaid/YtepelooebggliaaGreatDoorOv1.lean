/- Walks of functions that the law reaches, and plain laws, part 2 of 20: lemmas for the proof in the last text; no condition. Shortened by program. -/
import Derived.Deep.AppendLies
import Derived.Deep.DeepCutAuto
import Derived.Test.YtepelooebggliaaGreatDoorOv0
open Go.Proofs.Tryz renaming prog->A_
open Int renaming eq_ofNat_of_zero_le->B_,add_sub_cancel->C_
open List renaming getElem?_eq_some_iff->D_,length_set->E_,length_dropLast->F_,replicate->G_
open Option.some renaming inj->H_
open Go renaming World->I_,Value->J_,Calls->K_
open Go.Exit renaming noGoto_normal->L_
open Go.Value renaming slice->M_
open Go.IntWalk renaming i64_in->N_
open Go.IntKind renaming i64->O_
set_option maxHeartbeats 16000000
set_option maxRecDepth 100000
set_option linter.unusedVariables false
set_option linter.unusedSimpArgs false
namespace Go.Proofs.YtepelooebggliaaGreatDoor.Hp
open Go.RowKit
theorem DF (w:I_) (H A N:Nat) (v:J_) (l:List Itm) (a:List Int) (s:BQ w H A N v l a) (i p:Nat) (k:Int) (hi:i<l.length) (hp:p<N) :
  K_ A_ 442 #[pt H,i64 (i:Int),.agg #[i64 (p:Int),u64 k]] w λ r w'=>r=.returned (.tuple #[])/\BQ w' H A N v (l.set i ((p:Int),k)) (a.set p (i:Int))/\Kept (HB H A v) w w':=by
 obtain⟨e,he⟩:∃ e,l[i]? = some e:=⟨_,zq hi⟩
 obtain⟨g,c,hv,hg,J4,Ju,hc⟩:=s.item he
 subst hv
 have hf:=s.few
 have Jd:=s.small
 have AI:=s.lt
 have i0:(0:Int)<=(i:Int):=by omega
 have i1:(i:Int)<(l.length:Int):=by omega
 have p0:(0:Int)<=(p:Int):=by omega
 have p1:(p:Int)<(N:Int):=by omega
 obtain⟨q,hq⟩:=zx (l:=a) (i:=p) (by rw[s.len];exact hp)
 have BX:Af w (w.alloc (.cells #[i64 (p:Int),u64 k] 489)):=(zr _ _).alloc _
 have bg:=zv w 489 #[i64 (p:Int),u64 k]
 have hAw:=s.arr.lt
 have hgw:=(s.row.lt g rfl).2
 obtain⟨w1,AT⟩:=zn (w.alloc (.cells #[i64 (p:Int),u64 k] 489))
 rw[AT]at BX bg
 have s0:=s.grew BX
 have d0:=BX.cell J4
 have d1:=BX.cell Ju
 have d2:=s0.place hq
 have f0:=World.ownsRow.frozenAt s0.row (i*2)
 have f1:=World.ownsRow.frozenAt s0.row (i*2+1)
 have f2:=s0.arr.frozen p
 have hK:Af w w1.drew:=BX.drew
 have s':=s.grew hK
 have bX:=bg.drew
 have bH:=s'.box
 have S':=zh s'
 have lH:Hid (g≠A):=show g≠A by omega
 have bo:¬ (H=g\/H=A):=by omega
 have vl:¬ (w.heap.size=g\/w.heap.size=A):=by omega
 clear s s' s0 BX bg hq he J4 Ju
 go_enter Tryz.func442,Tryz.ntmps442
 go_wp2_with fail
 clear AT
 refine rG [] (λ j=>j=g\/j=A) ?_
 refine pG 0 6 ?_
 refine pG 1 7 ?_
 refine pG 2 8 ?_
 refine tG 3 9 (y:=λ w' Aj=>by have AN:=(bH.kept Aj bo).cell 0;have AZ:=(bH.kept Aj bo).cell 1;have Dp:=(bX.kept Aj vl).cell 0;have Br:=(bX.kept Aj vl).cell 1;simp at AN AZ Dp Br;go_simp<;>with_reducible rfl) (h:=?_)
 refine pG 4 10 ?_
 refine pG 5 11 ?_
 refine pG 6 12 ?_
 refine pG 7 13 ?_
 refine tG 8 14 (y:=λ w' Aj=>by have AN:=(bH.kept Aj bo).cell 0;have AZ:=(bH.kept Aj bo).cell 1;have Dp:=(bX.kept Aj vl).cell 0;have Br:=(bX.kept Aj vl).cell 1;simp at AN AZ Dp Br;go_simp<;>with_reducible rfl) (h:=?_)
 refine pG 9 15 ?_
 refine tG 10 16 (y:=λ w' Aj=>by have AN:=(bH.kept Aj bo).cell 0;have AZ:=(bH.kept Aj bo).cell 1;have Dp:=(bX.kept Aj vl).cell 0;have Br:=(bX.kept Aj vl).cell 1;simp at AN AZ Dp Br;go_simp<;>with_reducible rfl) (h:=?_)
 refine tG 11 17 (y:=λ w' Aj=>by have AN:=(bH.kept Aj bo).cell 0;have AZ:=(bH.kept Aj bo).cell 1;have Dp:=(bX.kept Aj vl).cell 0;have Br:=(bX.kept Aj vl).cell 1;simp at AN AZ Dp Br;go_simp<;>with_reducible rfl) (h:=?_)
 refine pG 12 18 ?_
 refine pG 13 19 ?_
 refine Du 14 (λ K Al=>?_)
 go_simp
 refine Al _ (λ _=>((zr _ _).setCell (p:=⟨g,i*2,none⟩) (.inl (.inl rfl)) _).setCell (p:=⟨g,i*2+1,none⟩) (.inl (.inl rfl)) _) ?_
 clear Al
 refine pG 15 20 ?_
 refine Du 16 (λ K Al=>?_)
 go_simp
 refine Al _ (λ _=>(zr _ _).setCell (p:=⟨A,p,none⟩) (.inl (.inr rfl)) _) ?_
 clear Al
 refine dG ?_
 go_wp2_with fail
 go_end0
 have h1:=((World.ownsRow.stored S'.out.row (i*2) (i64 (p:Int))).1.stored (i*2+1) (u64 k)).1
 rw[JP l i ((p:Int),k) hi]at h1
 have Bn:g≠A:=lH.out
 have hHA:H≠A:=by omega
 have hHg:H≠g:=by omega
 have bA:=S'.out.arr
 refine⟨rfl,⟨((S'.out.box.far (p:=⟨g,i*2,none⟩) hHg _).far (p:=⟨g,i*2+1,none⟩) hHg _).far (p:=⟨A,p,none⟩) hHA _,?_,?_,AI,by rw[E_];exact S'.out.len,by rw[E_];exact hf,Jd⟩,?_⟩
 ·have h2:=((bA.far (p:=⟨g,i*2,none⟩) (Ne.symm Bn) (i64 (p:Int))).far (p:=⟨g,i*2+1,none⟩) (Ne.symm Bn) (u64 k)).set p (i64 (i:Int));have e:((a.map i64).toArray.setIfInBounds p (i64 (i:Int)))=((a.set p (i:Int)).map i64).toArray:=(by simp[List.map_set]);rw[e]at h2;exact h2
 ·rw[E_];exact Kept.own (F:=(·=A)) ((zr (·=A) _).setCell (p:=⟨A,p,none⟩) (.inl rfl) _) h1 (λ j hj h=>Bn ((H_ (show some g=some j from hj)).trans h))
 ·exact((hK.kept.setCell (p:=⟨g,i*2,none⟩) (.inl (.inr (.inr rfl))) _).setCell (p:=⟨g,i*2+1,none⟩) (.inl (.inr (.inr rfl))) _).setCell (p:=⟨A,p,none⟩) (.inl (.inr (.inl rfl))) _
end Go.Proofs.YtepelooebggliaaGreatDoor.Hp
namespace Go.Proofs.YtepelooebggliaaGreatDoor.Hp
open Go.RowKit
theorem KG (w:I_) (H A N:Nat) (v:J_) (l:List Itm) (a:List Int) (s:BQ w H A N v l a) (i:Nat) (x:Itm) (hi:i<l.length) (hx:0<=x.1/\x.1<(N:Int)) (hR:NH N l) :
  K_ A_ 383 #[pt H,i64 (i:Int),.agg #[i64 x.1,u64 x.2]] w λ r w'=>r=.returned (.tuple #[])/\BQ w' H A N v (Dt l a i x).1 (Dt l a i x).2/\Kept (HB H A v) w w':=by
 obtain⟨xv,xk⟩:=x
 obtain⟨p,rfl⟩:=B_ hx.1
 have hp:p<N:=by have:=hx.2;simp at this;omega
 obtain⟨V,c,hv⟩:=s.slice
 obtain⟨LL,hL⟩:=zn (l.length)
 rw[hL]at hi hv
 subst hv
 have hf:=s.few
 rw[hL]at hf
 have Jd:=s.small
 have AI:=s.lt
 have hAw:=s.arr.lt
 have hHw:=s.box.lt
 have oJ:=zh s.row
 have BX:Af w (w.alloc (.cells #[i64 (p:Int),u64 xk] 489)):=(zr _ _).alloc _
 have bg:=zv w 489 #[i64 (p:Int),u64 xk]
 obtain⟨w1,AT⟩:=zn (w.alloc (.cells #[i64 (p:Int),u64 xk] 489))
 rw[AT]at BX bg
 have S0:=zh (s.grew BX)
 obtain⟨R0,rp⟩:=zn (Dt l a i ((p:Int),xk))
 have hT:Hid (Dt l a i ((p:Int),xk)=R0/\NH N l/\l.length=LL):=zh ⟨rp,hR,hL⟩
 rw[rp]
 clear rp
 have fa:Kept (HB H A (.slice V LL c)) w w1:=BX.kept
 have hXV:Hid (∀ j,HB H A (.slice V LL c) j->¬ j=w.heap.size):=by
  intro j hj;rcases hj with rfl | rfl | hj
  ·omega
  ·omega
  ·have:=(oJ.out.lt j hj).2;omega
 clear s BX hR hL oJ
 go_enter Tryz.func383,Tryz.ntmps383
 go_wp2_with fail
 go_step3
 go_wp2_with fail
 go_step3
 go_wp2_with fail
 go_loopw [1] (λ s1 wr=>∃ (k:Nat) (l':List Itm) (a':List Int),s1=.int .i64 k/\k<LL/\Hid (BQ wr H A N (.slice V LL c) l' a')/\Hid (Dt l' a' k ((p:Int),xk)=R0/\NH N l'/\l'.length=LL)/\Ao wr w.heap.size 489 #[i64 (p:Int),u64 xk]/\Kept (HB H A (.slice V LL c)) w wr) (λ s1 _=>(intOf s1).toNat)
 case atStart=>exact⟨i,l,a,rfl,hi,S0,hT,bg,fa⟩
 case round =>
  clear S0 hT bg fa hi;obtain⟨k,l',a',rfl,hk,S1,hT,bg,fa⟩:=hrel;by_cases Fz:k=0
  ·subst Fz;obtain⟨e1,hR,hl⟩:=hT.out;have E3:=zh (DF _ H A N _ l' a' S1.out 0 p xk (by omega) hp);obtain⟨y0,y1⟩:=BP bg;go_wp2_with fail;refine E3.out.mono ?_;rintro r w3 ⟨rfl,s3,k3⟩;go_wp2_with fail;rw[L_];go_end0;rw[Dt,dif_neg (by omega)]at e1;rw[<- e1];exact⟨rfl,by simpa [Eg] using s3,fa.trans k3⟩
  ·obtain⟨m,rfl⟩:∃ m,k=m+1:=⟨k-1,by omega⟩;have hd:(m:Int)/2=((m/2:Nat):Int):=(by omega);obtain⟨u,hu⟩:=zn (m/2);rw[hu]at hd;have hum:u<=m:=(by omega);obtain⟨⟨ev,ek⟩,he⟩:∃ e,l'[u]? = some e:=⟨_,zq (by rw[hT.out.2.2];omega)⟩;have df:=hT.out.2.1 _ (zm he);obtain⟨q,rfl⟩:=B_ df.1;have hq:q<N:=by have:=df.2;simp at this;omega
   have jb:l'.getD u (0,0)=((q:Int),ek):=by rw[List.getD_eq_getElem?_getD,he];rfl
   have Er:=Dt.eq_1 l' a' (m+1) ((p:Int),xk);rw[dif_pos (by omega),show m+1-1=m by omega,hu,jb]at Er;have fc:∀ W,K_ A_ 441 #[.agg #[i64 (p:Int),u64 xk],.agg #[i64 (q:Int),u64 ek]] W λ e w'=>e=.returned (.bool (lessI ((p:Int),xk) ((q:Int),ek)))/\Af W w':=λ W=>OV ((p:Int),xk) ((q:Int),ek) W;obtain⟨b,hb⟩:=zn (lessI ((p:Int),xk) ((q:Int),ek));rw[hb]at fc Er;clear hb;replace fc:=zh fc;have hsd:=S1.out.grew (zr (λ _=>False) wr).drew;obtain⟨g,c',hv,hg,e0,e1,_⟩:=hsd.item he;rw[hT.out.2.2]at hv;cases hv;have bH:=hsd.box;have bX:=bg.drew;have u0:(0:Int)<=(u:Int):=(by omega);have u1:(u:Int)<(LL:Int):=(by omega);have HD:=zh Er;have HG:=zh he;clear df jb Er he;go_wp2_with fail;refine rG [] (λ _=>False) ?_;refine tG 0 12 (y:=λ w' Aj=>by have AN:=(bH.grew Aj).cell 0;have Dp:=(bX.grew Aj).cell 0;have Br:=(bX.grew Aj).cell 1;have BZ:=ze Aj e0;have BG:=ze Aj e1;simp at AN Dp Br;go_simp<;>with_reducible rfl) (h:=?_);refine pG 1 13 ?_;refine pG 2 14 ?_;refine pG 3 15 ?_;refine tG 4 16 (y:=λ w' Aj=>by have AN:=(bH.grew Aj).cell 0;have Dp:=(bX.grew Aj).cell 0;have Br:=(bX.grew Aj).cell 1;have BZ:=ze Aj e0;have BG:=ze Aj e1;simp at AN Dp Br;go_simp<;>with_reducible rfl) (h:=?_);refine pG 5 17 ?_;refine pG 6 18 ?_;refine tG 7 19 (y:=λ w' Aj=>by have AN:=(bH.grew Aj).cell 0;have Dp:=(bX.grew Aj).cell 0;have Br:=(bX.grew Aj).cell 1;have BZ:=ze Aj e0;have BG:=ze Aj e1;simp at AN Dp Br;go_simp<;>with_reducible rfl) (h:=?_);refine sG 8 20 (λ K Al=>?_);go_simp;refine(fc.out _).mono ?_;rintro e z1 ⟨rfl,kz⟩;refine Al _ _ (λ _=>kz) ?_;clear Al;simp only[sA];refine pG 9 21 ?_;refine dG ?_;have sz:=hsd.grew kz;have bZ:=sz.box.cell 0;have g0:=kz.cell e0;have g1:=kz.cell e1;have cx:=bX.grew kz;have x0:=cx.cell 0;have x1:=cx.cell 1;simp at bZ x0 x1;have iT:=(fa.trans (zr _ _).drew).trans kz.kept;cases b
   ·have E3:=zh (DF _ H A N _ l' a' sz (m+1) p xk (by rw[hT.out.2.2];exact hk) hp);go_wp2_with fail;refine E3.out.mono ?_;rintro r w3 ⟨rfl,s3,k3⟩;go_wp2_with fail;rw[L_];go_end0;have h1:=HD.out.symm.trans hT.out.1;rw[if_neg (by simp)]at h1;rw[<- h1];exact⟨rfl,by simpa [Eg] using s3,iT.trans k3⟩
   ·have E3:=zh (DF _ H A N _ l' a' sz (m+1) q ek (by rw[hT.out.2.2];exact hk) hq);go_wp2_with fail;refine E3.out.mono ?_;rintro r w3 ⟨rfl,s3,k3⟩;go_wp2_with fail;go_roundw
    case rel =>
     have h1:=HD.out.symm.trans hT.out.1;simp only[if_true]at h1;refine⟨u,l'.set (m+1) ((q:Int),ek),a'.set q ((m+1:Nat):Int),rfl,by omega,s3,⟨by simpa [Eg] using h1,hT.out.2.1.set _ ⟨by simp,by simp;omega⟩,by rw[E_];exact hT.out.2.2⟩,cx.kept k3 (λ hj=>hXV.out _ hj rfl),iT.trans k3⟩
    case measure=>simp[intOf];omega
end Go.Proofs.YtepelooebggliaaGreatDoor.Hp
namespace Go.Proofs.YtepelooebggliaaGreatDoor.Hp
open Go.RowKit
theorem pU (w:I_) (H A N:Nat) (v:J_) (l:List Itm) (a:List Int) (s:BQ w H A N v l a) (i:Nat) (x:Itm) (hi:i<l.length) (hx:0<=x.1/\x.1<(N:Int)) (hR:NH N l) :
  K_ A_ 444 #[pt H,i64 (i:Int),.agg #[i64 x.1,u64 x.2]] w λ r w'=>r=.returned (.tuple #[])/\BQ w' H A N v (BV l a i x).1 (BV l a i x).2/\Kept (HB H A v) w w':=by
 obtain⟨xv,xk⟩:=x
 obtain⟨p,rfl⟩:=B_ hx.1
 have hp:p<N:=by have:=hx.2;simp at this;omega
 obtain⟨V,c,hv⟩:=s.slice
 obtain⟨LL,hL⟩:=zn (l.length)
 rw[hL]at hi hv
 subst hv
 have hf:=s.few
 rw[hL]at hf
 have Jd:=s.small
 have AI:=s.lt
 have hAw:=s.arr.lt
 have hHw:=s.box.lt
 have oJ:=zh s.row
 have BX:Af w (w.alloc (.cells #[i64 (p:Int),u64 xk] 489)):=(zr _ _).alloc _
 have bg:=zv w 489 #[i64 (p:Int),u64 xk]
 obtain⟨w1,AT⟩:=zn (w.alloc (.cells #[i64 (p:Int),u64 xk] 489))
 rw[AT]at BX bg
 have S0:=zh (s.grew BX)
 obtain⟨R0,rp⟩:=zn (BV l a i ((p:Int),xk))
 have hT:Hid (BV l a i ((p:Int),xk)=R0/\NH N l/\l.length=LL):=zh ⟨rp,hR,hL⟩
 rw[rp]
 clear rp
 have fa:Kept (HB H A (.slice V LL c)) w w1:=BX.kept
 have hXV:Hid (∀ j,HB H A (.slice V LL c) j->¬ j=w.heap.size):=by
  intro j hj;rcases hj with rfl | rfl | hj
  ·omega
  ·omega
  ·have:=(oJ.out.lt j hj).2;omega
 clear s BX hR hL oJ
 go_enter Tryz.func444,Tryz.ntmps444
 go_wp2_with fail
 go_step3
 go_wp2_with fail
 go_step3
 go_wp2_with fail
 go_loopw [1] (λ s1 wr=>∃ (k:Nat) (l':List Itm) (a':List Int),s1=.int .i64 k/\k<LL/\Hid (BQ wr H A N (.slice V LL c) l' a')/\Hid (BV l' a' k ((p:Int),xk)=R0/\NH N l'/\l'.length=LL)/\Ao wr w.heap.size 489 #[i64 (p:Int),u64 xk]/\Kept (HB H A (.slice V LL c)) w wr) (λ s1 _=>LL-(intOf s1).toNat)
 case atStart=>exact⟨i,l,a,rfl,hi,S0,hT,bg,fa⟩
 case round =>
  clear S0 hT bg fa hi;obtain⟨k,l',a',rfl,hk,S1,hT,bg,fa⟩:=hrel;obtain⟨u,hu⟩:=zn (2*k+1);have hd:2*(k:Int)+1=(u:Int):=(by omega);have hku:k<u:=(by omega);have HU2:=zh hu;clear hu;have sw:=S1.out.grew (zr (λ _=>False) _).drew;have bH:=sw.box;have bX:=bg.drew;have hKw:=fa.trans (zr _ _).drew;have i0:(0:Int)<=(u:Int):=(by omega);by_cases rn:u+1<LL
  ·obtain⟨u1,OL⟩:=zn (u+1);have hd1:(u:Int)+1=(u1:Int):=(by omega);have huu:u<u1:=(by omega);have hul:u1<LL:=(by omega);have HU3:=zh OL;clear OL rn;have hlt1:decide ((u1:Int)<(LL:Int))=true:=zt (by omega);have i1:(u:Int)<(LL:Int):=(by omega);have i2:(0:Int)<=(u1:Int):=(by omega);have i3:(u1:Int)<(LL:Int):=(by omega);obtain⟨⟨ev,uX⟩,Fw⟩:∃ e,l'[u]? = some e:=⟨_,zq (by rw[hT.out.2.2];omega)⟩;have df:=hT.out.2.1 _ (zm Fw);obtain⟨q1,rfl⟩:=B_ df.1;have bI:q1<N:=by have:=df.2;simp at this;omega
   have aZ:=zh Fw;clear df Fw;obtain⟨⟨ev,ek2⟩,Fx⟩:∃ e,l'[u1]? = some e:=⟨_,zq (by rw[hT.out.2.2];omega)⟩;have df:=hT.out.2.1 _ (zm Fx);obtain⟨q2,rfl⟩:=B_ df.1;have fy:q2<N:=by have:=df.2;simp at this;omega
   have zV:=zh Fx;clear df Fx;obtain⟨b8,iY⟩:=zn (lessI ((q2:Int),ek2) ((q1:Int),uX));have xN:=zh (λ W=>M6 iY W);have HB8:=zh iY;clear iY;obtain⟨g',cg',hv,hgg',f10,f11,_⟩:=sw.item aZ.out;rw[hT.out.2.2]at hv;cases hv;obtain⟨g3,cg3,hv,hgg3,f20,f21,_⟩:=sw.item zV.out;rw[hT.out.2.2]at hv;cases hv;have hwu:O_.wrap (u1:Int)=(u1:Int):=N_ _ (by omega);go_wp2_with fail;refine rG [] (λ _=>False) ?_;refine pG 0 10 ?_;refine pG 1 11 ?_;refine pG 2 12 ?_;refine pG 3 13 ?_;refine pG 4 14 ?_;refine tG 5 15 (y:=λ w' Aj=>by have AN:=(bH.grew Aj).cell 0;have Dp:=(bX.grew Aj).cell 0;have Br:=(bX.grew Aj).cell 1;have fC:=ze Aj f10;have fD:=ze Aj f11;have fG:=ze Aj f20;have fH:=ze Aj f21;simp at AN Dp Br;go_simp<;>with_reducible rfl) (h:=?_);refine pG 6 16 ?_;refine pG 7 17 ?_;refine pG 8 18 ?_;refine pG 9 19 ?_;refine pG 10 20 ?_;refine pG 11 21 ?_;refine tG 12 22 (y:=λ w' Aj=>by have AN:=(bH.grew Aj).cell 0;have Dp:=(bX.grew Aj).cell 0;have Br:=(bX.grew Aj).cell 1;have fC:=ze Aj f10;have fD:=ze Aj f11;have fG:=ze Aj f20;have fH:=ze Aj f21;simp at AN Dp Br;go_simp<;>with_reducible rfl) (h:=?_);refine pG 13 23 ?_;refine pG 14 24 ?_;refine pG 15 25 ?_;refine tG 16 26 (y:=λ w' Aj=>by have AN:=(bH.grew Aj).cell 0;have Dp:=(bX.grew Aj).cell 0;have Br:=(bX.grew Aj).cell 1;have fC:=ze Aj f10;have fD:=ze Aj f11;have fG:=ze Aj f20;have fH:=ze Aj f21;simp at AN Dp Br;go_simp<;>with_reducible rfl) (h:=?_);refine pG 17 27 ?_;refine pG 18 28 ?_;refine pG 19 29 ?_;refine tG 20 30 (y:=λ w' Aj=>by have AN:=(bH.grew Aj).cell 0;have Dp:=(bX.grew Aj).cell 0;have Br:=(bX.grew Aj).cell 1;have fC:=ze Aj f10;have fD:=ze Aj f11;have fG:=ze Aj f20;have fH:=ze Aj f21;simp at AN Dp Br;go_simp<;>with_reducible rfl) (h:=?_);refine pG 21 31 ?_;refine pG 22 32 ?_;refine tG 23 33 (y:=λ w' Aj=>by have AN:=(bH.grew Aj).cell 0;have Dp:=(bX.grew Aj).cell 0;have Br:=(bX.grew Aj).cell 1;have fC:=ze Aj f10;have fD:=ze Aj f11;have fG:=ze Aj f20;have fH:=ze Aj f21;simp at AN Dp Br;go_simp<;>with_reducible rfl) (h:=?_);refine sG 24 34 (λ K Al=>?_);go_simp;refine(xN.out _).mono ?_;rintro e z8 ⟨rfl,kz8⟩;refine Al _ _ (λ _=>kz8) ?_;clear Al;simp only[sA];refine pG 25 35 ?_;refine dG ?_;have sc:=sw.grew kz8;have bXc:=bX.grew kz8;have hKc:=hKw.trans kz8.kept;clear f10 f11 f20 f21 hwu;cases b8
   ·have HL:=zh (fQ HU2.out HU3.out aZ.out zV.out HB8.out);simp only[Bool.false_eq_true,if_false]at HL;obtain⟨b9,nH⟩:=zn (lessI ((q1:Int),uX) ((p:Int),xk));have J1:=zh (λ W=>M6 nH W);have uC:=zh nH;clear nH;have NP:decide (LL<=u)=false:=zf (by omega);have sd:=sc.grew (zr (λ _=>False) _).drew;have bH:=sd.box;have bX:=bXc.drew;obtain⟨ga,cga,hv,hgga,f90,f91,_⟩:=sd.item aZ.out;rw[hT.out.2.2]at hv;cases hv;go_wp2_with fail;refine rG [] (λ _=>False) ?_;refine pG 0 38 ?_;refine pG 1 39 ?_;refine pG 2 40 ?_;refine pG 3 41 ?_;refine tG 4 42 (y:=λ w' Aj=>by have AN:=(bH.grew Aj).cell 0;have Dp:=(bX.grew Aj).cell 0;have Br:=(bX.grew Aj).cell 1;have FN:=ze Aj f90;have FO:=ze Aj f91;simp at AN Dp Br;go_simp<;>with_reducible rfl) (h:=?_);refine pG 5 43 ?_;refine pG 6 44 ?_;refine pG 7 45 ?_;refine pG 8 46 ?_;refine pG 9 47 ?_;refine pG 10 48 ?_;refine tG 11 49 (y:=λ w' Aj=>by have AN:=(bH.grew Aj).cell 0;have Dp:=(bX.grew Aj).cell 0;have Br:=(bX.grew Aj).cell 1;have FN:=ze Aj f90;have FO:=ze Aj f91;simp at AN Dp Br;go_simp<;>with_reducible rfl) (h:=?_);refine pG 12 50 ?_;refine pG 13 51 ?_;refine tG 14 52 (y:=λ w' Aj=>by have AN:=(bH.grew Aj).cell 0;have Dp:=(bX.grew Aj).cell 0;have Br:=(bX.grew Aj).cell 1;have FN:=ze Aj f90;have FO:=ze Aj f91;simp at AN Dp Br;go_simp<;>with_reducible rfl) (h:=?_);refine tG 15 53 (y:=λ w' Aj=>by have AN:=(bH.grew Aj).cell 0;have Dp:=(bX.grew Aj).cell 0;have Br:=(bX.grew Aj).cell 1;have FN:=ze Aj f90;have FO:=ze Aj f91;simp at AN Dp Br;go_simp<;>with_reducible rfl) (h:=?_);refine sG 16 54 (λ K Al=>?_);go_simp;refine(J1.out _).mono ?_;rintro e z9 ⟨rfl,Mc⟩;refine Al _ _ (λ _=>Mc) ?_;clear Al;simp only[sA];refine pG 17 55 ?_;refine pG 18 56 ?_;refine dG ?_;have sz:=sd.grew Mc;have bZ:=sz.box.cell 0;have y0:=Mc.cell f90;have y1:=Mc.cell f91;have cx:=bX.grew Mc;have x0:=cx.cell 0;have x1:=cx.cell 1;simp at bZ x0 x1;have iT:=(hKc.trans (zr _ _).drew).trans Mc.kept;cases b9
    ·have E3:=zh (DF _ H A N _ l' a' sz k p xk (by rw[hT.out.2.2];exact hk) hp);have Hr:=zh ((Nw (a:=a') HL.out aZ.out uC.out).symm.trans hT.out.1);go_wp2_with fail;refine E3.out.mono ?_;rintro r w3 ⟨rfl,s3,k3⟩;go_wp2_with fail;rw[L_];go_end0;have hr:=Hr.out;rw[<- hr];exact⟨rfl,by simpa [Eg] using s3,iT.trans k3⟩
    ·have E3:=zh (DF _ H A N _ l' a' sz k q1 uX (by rw[hT.out.2.2];exact hk) bI);have Hr:=zh ((KP (a:=a') HL.out aZ.out uC.out).symm.trans hT.out.1);go_wp2_with fail;refine E3.out.mono ?_;rintro r w3 ⟨rfl,s3,k3⟩;go_wp2_with fail;go_roundw
     case rel =>
      refine⟨u,l'.set k ((q1:Int),uX),a'.set q1 (k:Int),rfl,by omega,s3,⟨by have hr:=Hr.out;simpa using hr,hT.out.2.1.set _ ⟨by simp,by simp;omega⟩,by rw[E_];exact hT.out.2.2⟩,cx.kept k3 (λ hj=>hXV.out _ hj rfl),iT.trans k3⟩
     case measure=>simp[intOf];omega
   ·have HL:=zh (fQ HU2.out HU3.out aZ.out zV.out HB8.out);simp only[if_true]at HL;obtain⟨b9,nH⟩:=zn (lessI ((q2:Int),ek2) ((p:Int),xk));have J1:=zh (λ W=>M6 nH W);have uC:=zh nH;clear nH;have NP:decide (LL<=u1)=false:=zf (by omega);have sd:=sc.grew (zr (λ _=>False) _).drew;have bH:=sd.box;have bX:=bXc.drew;obtain⟨ga,cga,hv,hgga,f90,f91,_⟩:=sd.item zV.out;rw[hT.out.2.2]at hv;cases hv;go_wp2_with fail;refine rG [] (λ _=>False) ?_;refine pG 0 38 ?_;refine pG 1 39 ?_;refine pG 2 40 ?_;refine pG 3 41 ?_;refine tG 4 42 (y:=λ w' Aj=>by have AN:=(bH.grew Aj).cell 0;have Dp:=(bX.grew Aj).cell 0;have Br:=(bX.grew Aj).cell 1;have FN:=ze Aj f90;have FO:=ze Aj f91;simp at AN Dp Br;go_simp<;>with_reducible rfl) (h:=?_);refine pG 5 43 ?_;refine pG 6 44 ?_;refine pG 7 45 ?_;refine pG 8 46 ?_;refine pG 9 47 ?_;refine pG 10 48 ?_;refine tG 11 49 (y:=λ w' Aj=>by have AN:=(bH.grew Aj).cell 0;have Dp:=(bX.grew Aj).cell 0;have Br:=(bX.grew Aj).cell 1;have FN:=ze Aj f90;have FO:=ze Aj f91;simp at AN Dp Br;go_simp<;>with_reducible rfl) (h:=?_);refine pG 12 50 ?_;refine pG 13 51 ?_;refine tG 14 52 (y:=λ w' Aj=>by have AN:=(bH.grew Aj).cell 0;have Dp:=(bX.grew Aj).cell 0;have Br:=(bX.grew Aj).cell 1;have FN:=ze Aj f90;have FO:=ze Aj f91;simp at AN Dp Br;go_simp<;>with_reducible rfl) (h:=?_);refine tG 15 53 (y:=λ w' Aj=>by have AN:=(bH.grew Aj).cell 0;have Dp:=(bX.grew Aj).cell 0;have Br:=(bX.grew Aj).cell 1;have FN:=ze Aj f90;have FO:=ze Aj f91;simp at AN Dp Br;go_simp<;>with_reducible rfl) (h:=?_);refine sG 16 54 (λ K Al=>?_);go_simp;refine(J1.out _).mono ?_;rintro e z9 ⟨rfl,Mc⟩;refine Al _ _ (λ _=>Mc) ?_;clear Al;simp only[sA];refine pG 17 55 ?_;refine pG 18 56 ?_;refine dG ?_;have sz:=sd.grew Mc;have bZ:=sz.box.cell 0;have y0:=Mc.cell f90;have y1:=Mc.cell f91;have cx:=bX.grew Mc;have x0:=cx.cell 0;have x1:=cx.cell 1;simp at bZ x0 x1;have iT:=(hKc.trans (zr _ _).drew).trans Mc.kept;cases b9
    ·have E3:=zh (DF _ H A N _ l' a' sz k p xk (by rw[hT.out.2.2];exact hk) hp);have Hr:=zh ((Nw (a:=a') HL.out zV.out uC.out).symm.trans hT.out.1);go_wp2_with fail;refine E3.out.mono ?_;rintro r w3 ⟨rfl,s3,k3⟩;go_wp2_with fail;rw[L_];go_end0;have hr:=Hr.out;rw[<- hr];exact⟨rfl,by simpa [Eg] using s3,iT.trans k3⟩
    ·have E3:=zh (DF _ H A N _ l' a' sz k q2 ek2 (by rw[hT.out.2.2];exact hk) fy);have Hr:=zh ((KP (a:=a') HL.out zV.out uC.out).symm.trans hT.out.1);go_wp2_with fail;refine E3.out.mono ?_;rintro r w3 ⟨rfl,s3,k3⟩;go_wp2_with fail;go_roundw
     case rel =>
      refine⟨u1,l'.set k ((q2:Int),ek2),a'.set q2 (k:Int),rfl,by omega,s3,⟨by have hr:=Hr.out;simpa using hr,hT.out.2.1.set _ ⟨by simp,by simp;omega⟩,by rw[E_];exact hT.out.2.2⟩,cx.kept k3 (λ hj=>hXV.out _ hj rfl),iT.trans k3⟩
     case measure=>simp[intOf];omega
  ·have hlt1:decide ((u:Int)+1<(LL:Int))=false:=zf (by omega);have HL:Hid (BD l' k=u):=zh (tK HU2.out (by rw[hT.out.2.2];exact rn));have hwu:O_.wrap ((u:Int)+1)=(u:Int)+1:=N_ _ (by omega);go_wp2_with fail;refine rG [] (λ _=>False) ?_;refine pG 0 10 ?_;refine pG 1 11 ?_;refine pG 2 12 ?_;refine pG 3 13 ?_;refine pG 4 14 ?_;refine tG 5 15 (y:=λ w' Aj=>by have AN:=(bH.grew Aj).cell 0;have Dp:=(bX.grew Aj).cell 0;have Br:=(bX.grew Aj).cell 1;simp at AN Dp Br;go_simp<;>with_reducible rfl) (h:=?_);refine pG 6 16 ?_;refine pG 7 17 ?_;refine pG 8 18 ?_;refine qG 9 19 ?_;refine qG 10 20 ?_;refine qG 11 21 ?_;refine qG 12 22 ?_;refine qG 13 23 ?_;refine qG 14 24 ?_;refine qG 15 25 ?_;refine qG 16 26 ?_;refine qG 17 27 ?_;refine qG 18 28 ?_;refine qG 19 29 ?_;refine qG 20 30 ?_;refine qG 21 31 ?_;refine qG 22 32 ?_;refine qG 23 33 ?_;refine qG 24 34 ?_;refine pG 25 35 ?_;refine dG ?_;have sc:=sw;have bXc:=bX;have hKc:=hKw;clear hwu;by_cases bl:u<LL
   ·have i1:(u:Int)<(LL:Int):=(by omega);obtain⟨⟨ev,uX⟩,Fw⟩:∃ e,l'[u]? = some e:=⟨_,zq (by rw[hT.out.2.2];omega)⟩;have df:=hT.out.2.1 _ (zm Fw);obtain⟨q1,rfl⟩:=B_ df.1;have bI:q1<N:=by have:=df.2;simp at this;omega
    have aZ:=zh Fw;clear df Fw;obtain⟨b9,nH⟩:=zn (lessI ((q1:Int),uX) ((p:Int),xk));have J1:=zh (λ W=>M6 nH W);have uC:=zh nH;clear nH;have NP:decide (LL<=u)=false:=zf (by omega);have sd:=sc.grew (zr (λ _=>False) _).drew;have bH:=sd.box;have bX:=bXc.drew;obtain⟨ga,cga,hv,hgga,f90,f91,_⟩:=sd.item aZ.out;rw[hT.out.2.2]at hv;cases hv;go_wp2_with fail;refine rG [] (λ _=>False) ?_;refine pG 0 38 ?_;refine pG 1 39 ?_;refine pG 2 40 ?_;refine pG 3 41 ?_;refine tG 4 42 (y:=λ w' Aj=>by have AN:=(bH.grew Aj).cell 0;have Dp:=(bX.grew Aj).cell 0;have Br:=(bX.grew Aj).cell 1;have FN:=ze Aj f90;have FO:=ze Aj f91;simp at AN Dp Br;go_simp<;>with_reducible rfl) (h:=?_);refine pG 5 43 ?_;refine pG 6 44 ?_;refine pG 7 45 ?_;refine pG 8 46 ?_;refine pG 9 47 ?_;refine pG 10 48 ?_;refine tG 11 49 (y:=λ w' Aj=>by have AN:=(bH.grew Aj).cell 0;have Dp:=(bX.grew Aj).cell 0;have Br:=(bX.grew Aj).cell 1;have FN:=ze Aj f90;have FO:=ze Aj f91;simp at AN Dp Br;go_simp<;>with_reducible rfl) (h:=?_);refine pG 12 50 ?_;refine pG 13 51 ?_;refine tG 14 52 (y:=λ w' Aj=>by have AN:=(bH.grew Aj).cell 0;have Dp:=(bX.grew Aj).cell 0;have Br:=(bX.grew Aj).cell 1;have FN:=ze Aj f90;have FO:=ze Aj f91;simp at AN Dp Br;go_simp<;>with_reducible rfl) (h:=?_);refine tG 15 53 (y:=λ w' Aj=>by have AN:=(bH.grew Aj).cell 0;have Dp:=(bX.grew Aj).cell 0;have Br:=(bX.grew Aj).cell 1;have FN:=ze Aj f90;have FO:=ze Aj f91;simp at AN Dp Br;go_simp<;>with_reducible rfl) (h:=?_);refine sG 16 54 (λ K Al=>?_);go_simp;refine(J1.out _).mono ?_;rintro e z9 ⟨rfl,Mc⟩;refine Al _ _ (λ _=>Mc) ?_;clear Al;simp only[sA];refine pG 17 55 ?_;refine pG 18 56 ?_;refine dG ?_;have sz:=sd.grew Mc;have bZ:=sz.box.cell 0;have y0:=Mc.cell f90;have y1:=Mc.cell f91;have cx:=bX.grew Mc;have x0:=cx.cell 0;have x1:=cx.cell 1;simp at bZ x0 x1;have iT:=(hKc.trans (zr _ _).drew).trans Mc.kept;cases b9
    ·have E3:=zh (DF _ H A N _ l' a' sz k p xk (by rw[hT.out.2.2];exact hk) hp);have Hr:=zh ((Nw (a:=a') HL.out aZ.out uC.out).symm.trans hT.out.1);go_wp2_with fail;refine E3.out.mono ?_;rintro r w3 ⟨rfl,s3,k3⟩;go_wp2_with fail;rw[L_];go_end0;have hr:=Hr.out;rw[<- hr];exact⟨rfl,by simpa [Eg] using s3,iT.trans k3⟩
    ·have E3:=zh (DF _ H A N _ l' a' sz k q1 uX (by rw[hT.out.2.2];exact hk) bI);have Hr:=zh ((KP (a:=a') HL.out aZ.out uC.out).symm.trans hT.out.1);go_wp2_with fail;refine E3.out.mono ?_;rintro r w3 ⟨rfl,s3,k3⟩;go_wp2_with fail;go_roundw
     case rel =>
      refine⟨u,l'.set k ((q1:Int),uX),a'.set q1 (k:Int),rfl,by omega,s3,⟨by have hr:=Hr.out;simpa using hr,hT.out.2.1.set _ ⟨by simp,by simp;omega⟩,by rw[E_];exact hT.out.2.2⟩,cx.kept k3 (λ hj=>hXV.out _ hj rfl),iT.trans k3⟩
     case measure=>simp[intOf];omega
   ·have NP:decide (LL<=u)=true:=zt (by omega);have sd:=sc.grew (zr (λ _=>False) _).drew;have bH:=sd.box;have bX:=bXc.drew;go_wp2_with fail;refine rG [] (λ _=>False) ?_;refine pG 0 38 ?_;refine pG 1 39 ?_;refine pG 2 40 ?_;refine pG 3 41 ?_;refine tG 4 42 (y:=λ w' Aj=>by have AN:=(bH.grew Aj).cell 0;have Dp:=(bX.grew Aj).cell 0;have Br:=(bX.grew Aj).cell 1;simp at AN Dp Br;go_simp<;>with_reducible rfl) (h:=?_);refine pG 5 43 ?_;refine pG 6 44 ?_;refine pG 7 45 ?_;refine qG 8 46 ?_;refine qG 9 47 ?_;refine qG 10 48 ?_;refine qG 11 49 ?_;refine qG 12 50 ?_;refine qG 13 51 ?_;refine qG 14 52 ?_;refine qG 15 53 ?_;refine qG 16 54 ?_;refine qG 17 55 ?_;refine pG 18 56 ?_;refine dG ?_;obtain⟨x0,x1⟩:=BP bX;have iT:=hKc.trans (zr _ _).drew;have E3:=zh (DF _ H A N _ l' a' sd k p xk (by rw[hT.out.2.2];exact hk) hp);have Hr:=zh ((pV (a:=a') HL.out (by rw[hT.out.2.2];omega)).symm.trans hT.out.1);go_wp2_with fail;refine E3.out.mono ?_;rintro r w3 ⟨rfl,s3,k3⟩;go_wp2_with fail;rw[L_];go_end0;have hr:=Hr.out;rw[<- hr];exact⟨rfl,by simpa [Eg] using s3,iT.trans k3⟩
end Go.Proofs.YtepelooebggliaaGreatDoor.Hp
namespace Go.Proofs.YtepelooebggliaaGreatDoor.Hp
open Go.RowKit
theorem jv:(A_.info? 489).map (λ i=>(i.zero,i.size,i.bytes))=some (some (.agg #[i64 0,u64 0]),2,16):=by kernel_rfl
theorem Kept.realloc {F:Nat->Prop} {w:I_} {o o2:Obj} (h:F w.heap.size):Kept F (w.alloc o) (w.alloc o2) :=
 ⟨rfl,rfl,rfl,by simp,λ k hk hf=>by
  rcases Nat.lt_or_ge k w.heap.size with hl | hl
  ·rw[Below.heap_alloc w o2 k hl,Below.heap_alloc w o k hl]
  ·obtain rfl:k=w.heap.size:=by simp at hk;omega
   exact absurd h hf⟩
theorem Kept.alloc_drew {F:Nat->Prop} (w:I_) (o:Obj):Kept F w.drew (w.alloc o).drew:=⟨rfl,rfl,rfl,by simp,λ k hk _=>Below.heap_alloc w o k hk⟩
theorem Kept.realloc_drew {F:Nat->Prop} {w:I_} {o o2:Obj} (h:F w.heap.size):Kept F (w.alloc o).drew (w.alloc o2).drew:=by
 have k:=Kept.realloc (F:=F) (w:=w) (o:=o) (o2:=o2) h;exact⟨k.os,k.tape,k.output,k.size,k.block⟩
theorem pH (w:I_) (H A N:Nat) (v:J_) (l:List Itm) (a:List Int) (s:BQ w H A N v l a) (hR:NH N l) (p i:Nat) (key:Int) (e:Itm) (hp:a[p]? = some (i:Int)) (he:l[i]? = some e) (hk:key<e.2) :
  K_ A_ 314 #[pt H,i64 (p:Int),u64 key] w λ r w'=>r=.returned (.bool true)/\BQ w' H A N v (Dt l a i ((p:Int),key)).1 (Dt l a i ((p:Int),key)).2/\Kept (HB H A v) w w':=by
 have hc:w.cell? ⟨H,1,none⟩=some (.slice (some ⟨A,0,none⟩) N N):=s.box.cell 1
 have hs:=s.small
 have hf:=s.few
 have AI:=s.lt
 have hAw:=s.arr.lt
 have hHw:=s.box.lt
 have hl:=(D_.1 hp).1
 rw[s.len]at hl
 have vJ:=(s.grew (zr (λ _=>False) _).drew).place hp
 have p0:(0:Int)<=(p:Int):=by omega
 have p1:(p:Int)<(N:Int):=by omega
 have bH:=(s.grew (zr (λ _=>False) _).drew).box
 have d0:decide ((p:Int)<0)=false:=zf (by omega)
 have d1:decide (N<=p)=false:=zf (by omega)
 have bo:¬ w.heap.size<=H:=by omega
 have Js:¬ w.heap.size<=A:=by omega
 have S0:=zh s
 have HR:=zh hR
 clear s hp hR
 go_enter Tryz.func314,Tryz.ntmps314
 go_wp2_with fail
 refine rG [] (λ j=>w.heap.size<=j) ?_
 refine pG 0 24 ?_
 refine pG 1 25 ?_
 refine pG 2 26 ?_
 refine pG 3 27 ?_
 refine pG 4 28 ?_
 refine pG 5 29 ?_
 refine tG 6 30 (y:=λ w' Aj=>by have AN:=(bH.kept Aj bo).cell 1;have AZ:=Kept.cell Aj vJ Js;simp at AN;go_simp<;>with_reducible rfl) (h:=?_)
 refine pG 7 31 ?_
 refine pG 8 32 ?_
 refine tG 9 33 (y:=λ w' Aj=>by have AN:=(bH.kept Aj bo).cell 1;have AZ:=Kept.cell Aj vJ Js;simp at AN;go_simp<;>with_reducible rfl) (h:=?_)
 refine sG 10 7 (λ K Al=>?_)
 go_simp
 refine Al _ _ (λ _=>Kept.alloc_drew _ _) ?_
 clear Al
 simp only[sA]
 refine Du 11 (λ K Al=>?_)
 go_simp
 refine Al _ (λ _=>Kept.realloc_drew (zl _)) ?_
 clear Al
 refine pG 12 8 ?_
 refine dG ?_
 obtain⟨wb,oP⟩:=zn ((w.alloc (.cells #[i64 (p:Int),u64 key] 489)).drew)
 have hK:Af w wb:=by rw[<- oP];exact Af.alloc_drew _ _
 have bX:Ao wb w.heap.size 489 #[i64 (p:Int),u64 key]:=by rw[<- oP];exact(zv w _ _).drew
 rw[oP]
 clear oP vJ bH bo Js hc
 have s1:=S0.out.grew hK
 have D6:=(D_.1 he).1
 have LY:=zh (KG wb H A N v l a s1 i ((p:Int),key) D6 ⟨p0,p1⟩ HR.out)
 obtain⟨g,c',hv,hg,f0,f1,_⟩:=s1.item he
 subst hv
 have hb:=s1.box.cell 0
 have x0:=bX.cell 0
 have x1:=bX.cell 1
 simp at hb x0 x1
 have i0:(0:Int)<=(i:Int):=by omega
 have i1:(i:Int)<(l.length:Int):=by omega
 have ib:((i:Int)==-1)=false:=by simp
 have rA:decide (e.2<=key)=false:=zf (by omega)
 clear he
 go_wp2_with fail
 refine LY.out.mono ?_
 rintro r w3 ⟨rfl,s3,k3⟩
 go_wp2_with fail
 go_ret
 exact⟨rfl,s3,hK.kept.trans k3⟩
theorem uc (w:I_) (H A N:Nat) (v:J_) (l:List Itm) (a:List Int) (s:BQ w H A N v l a) (hR:NH N l) (p:Nat) (key:Int) (hp:a[p]? = some (-1)) (og:l.length<65536) :
  K_ A_ 314 #[pt H,i64 (p:Int),u64 key] w λ r w'=>r=.returned (.bool true)/\∃ v',BQ w' H A N v' (Dt (l++[((p:Int),key)]) a l.length ((p:Int),key)).1 (Dt (l++[((p:Int),key)]) a l.length ((p:Int),key)).2/\Kept (HB H A v) w w'/\∀ j,j<w.heap.size->v'.ownBlock=some j->v.ownBlock=some j:=by
 obtain⟨i0,hi,BZ,BG,B4⟩:=info_parts jv
 have hc:w.cell? ⟨H,1,none⟩=some (.slice (some ⟨A,0,none⟩) N N):=s.box.cell 1
 have hs:=s.small
 have hf:=s.few
 have AI:=s.lt
 have hAw:=s.arr.lt
 have hHw:=s.box.lt
 have hl:=(D_.1 hp).1
 rw[s.len]at hl
 have vJ:=(s.grew (zr (λ _=>False) _).drew).place hp
 have p0:(0:Int)<=(p:Int):=by omega
 have p1:(p:Int)<(N:Int):=by omega
 have bH:=(s.grew (zr (λ _=>False) _).drew).box
 have d0:decide ((p:Int)<0)=false:=zf (by omega)
 have d1:decide (N<=p)=false:=zf (by omega)
 have bo:¬ w.heap.size<=H:=by omega
 have Js:¬ w.heap.size<=A:=by omega
 have S0:=zh s
 have HR:=zh hR
 obtain⟨V,c,hv⟩:=s.slice
 obtain⟨LL,hL⟩:=zn (l.length)
 rw[hL]at hv og hf ⊢
 subst hv
 have HLen:=zh hL
 clear s hp hR hL
 go_enter Tryz.func314,Tryz.ntmps314
 go_wp2_with fail
 refine rG [] (λ j=>w.heap.size<=j) ?_
 refine pG 0 24 ?_
 refine pG 1 25 ?_
 refine pG 2 26 ?_
 refine pG 3 27 ?_
 refine pG 4 28 ?_
 refine pG 5 29 ?_
 refine tG 6 30 (y:=λ w' Aj=>by have AN:=(bH.kept Aj bo).cell 1;have AZ:=Kept.cell Aj vJ Js;simp at AN;go_simp<;>with_reducible rfl) (h:=?_)
 refine pG 7 31 ?_
 refine pG 8 32 ?_
 refine tG 9 33 (y:=λ w' Aj=>by have AN:=(bH.kept Aj bo).cell 1;have AZ:=Kept.cell Aj vJ Js;simp at AN;go_simp<;>with_reducible rfl) (h:=?_)
 refine sG 10 7 (λ K Al=>?_)
 go_simp
 refine Al _ _ (λ _=>Kept.alloc_drew _ _) ?_
 clear Al
 simp only[sA]
 refine Du 11 (λ K Al=>?_)
 go_simp
 refine Al _ (λ _=>Kept.realloc_drew (zl _)) ?_
 clear Al
 refine pG 12 8 ?_
 refine dG ?_
 obtain⟨wb,oP⟩:=zn ((w.alloc (.cells #[i64 (p:Int),u64 key] 489)).drew)
 have hK:Af w wb:=by rw[<- oP];exact Af.alloc_drew _ _
 have bX:Ao wb w.heap.size 489 #[i64 (p:Int),u64 key]:=by rw[<- oP];exact(zv w _ _).drew
 rw[oP]
 clear oP vJ bH bo Js hc
 have s1:=S0.out.grew hK
 have AX:=zh (show wb.ownsRow (H+1) 489 2 (.slice V LL c) LL (Ci l) from HLen.out▸s1.row)
 have C4:=zh (show (wb.drew.alloc (.cells #[i64 (p:Int),u64 key] 489)).ownsRow (H+1) 489 2 (.slice V LL c) LL (Ci l) from Af.own ((zr _ _).drew.alloc _) AX.out)
 have yq:¬ (M_ V LL c).ownBlock=some H:=λ h=>by have:=(AX.out.lt H h).1;omega
 have oq:¬ (M_ V LL c).ownBlock=some w.heap.size:=λ h=>by have:=(S0.out.row.lt w.heap.size h).2;omega
 have hneA:Hid (¬ (M_ V LL c).ownBlock=some A):=zh (λ h=>by have:=(AX.out.lt A h).1;omega)
 have bH2:=s1.box.drew
 have bX2:=bX.drew
 have hwbs:H<wb.heap.size:=s1.box.lt
 have S1:=zh s1
 have hb:=s1.box.cell 0
 simp at hb
 clear s1
 go_wp2_with fail
 refine rG [10] (λ j=>(M_ V LL c).ownBlock=some j) ?_
 refine pG 0 37 ?_
 refine pG 1 38 ?_
 refine pG 2 39 ?_
 refine pG 3 40 ?_
 refine tG 4 41 (y:=λ w' Aj=>by have AN:=(bH2.kept Aj yq).cell 0;have AZ:=(bX2.kept Aj oq).cell 0;have CM:=(bX2.kept Aj oq).cell 1;simp at AN AZ CM;go_simp<;>with_reducible rfl) (h:=?_)
 refine tG 5 42 (y:=λ w' Aj=>by have AN:=(bH2.kept Aj yq).cell 0;have AZ:=(bX2.kept Aj oq).cell 0;have CM:=(bX2.kept Aj oq).cell 1;simp at AN AZ CM;go_simp<;>with_reducible rfl) (h:=?_)
 refine sG 6 43 (λ K Al=>?_)
 go_simp
 refine Al _ _ (λ _=>(zr _ _).alloc _) ?_
 clear Al
 simp only[sA]
 refine sG 7 44 (λ K Al=>?_)
 refine wp_append_lies _ (.tmp 41) (.tmp 43) 454 (by rfl) (H+1) 489 i0 (.agg #[i64 0,u64 0]) 2 16 Tryz.underlying454 hi BZ BG B4 (by rfl) (by omega) (.slice V LL c) _ _ (by rfl) C4.out ⟨wb.heap.size,0,none⟩ 1 1 (Cy ((p:Int),key)) (by rfl) (by rfl) (World.news_of_block (heap_alloc_new _ _)) ?_ (by omega) ?_ ?_ ?_ _ rfl ?_
 ·intro u hu;simp[Cy]at hu;rcases hu with rfl | rfl<;>rfl
 ·unfold maxLen;omega
 ·omega
 ·have:=bH2.lt;simp;omega
 intro g cap wa Bj AQ hat1 hlt1
 have bH3:=(bH2.alloc (.cells #[i64 (p:Int),u64 key] 489)).grown AQ (λ h=>yq h.symm)
 have uT:=(bX2.alloc (.cells #[i64 (p:Int),u64 key] 489)).grown AQ (λ h=>oq h.symm)
 have hc1':=bH3.cell 0
 have hf1':=bH3.frozen 0
 simp at hc1'
 refine Al _ _ (λ _=>(zr _ _).grown AQ (λ k hk=>.inl hk)) ?_
 clear Al
 simp only[sA]
 refine pG 8 45 ?_
 refine pG 9 46 ?_
 refine Du 10 (λ K Al=>?_)
 go_simp
 refine Al _ (λ h=>absurd (by simp) h) ?_
 clear Al
 refine dG ?_
 have sp:=bH3.set 0 (.slice (some ⟨g,0,none⟩) (LL+1) cap)
 have hgX:¬ w.heap.size=H:=by omega
 have uU:=uT.far (p:=⟨H,0,none⟩) hgX (.slice (some ⟨g,0,none⟩) (LL+1) cap)
 have lH:¬ A=H:=by omega
 have bA4:=((S1.out.arr.alloc (.cells #[i64 (p:Int),u64 key] 489)).drew.grown AQ (λ h=>hneA.out h.symm)).far (p:=⟨H,0,none⟩) lH (.slice (some ⟨g,0,none⟩) (LL+1) cap)
 have hgb:H+1<=g:=(Bj.lt g rfl).1
 have hgH:¬ g=H:=by omega
 have oF:=Kept.own ((zr (·=H) _).setCell (p:=⟨H,0,none⟩) (.inl rfl) (.slice (some ⟨g,0,none⟩) (LL+1) cap)) Bj (λ k hk h=>hgH ((H_ (show some g=some k from hk)).trans h))
 have xL:Kept (HB H A (.slice V LL c)) w (wa.setCell ⟨H,0,none⟩ (.slice (some ⟨g,0,none⟩) (LL+1) cap)):=(((hK.kept (F:=HB H A (.slice V LL c))).alloc _).drew.grown AQ (λ k hk=>.inl (.inr (.inr hk)))).setCell (p:=⟨H,0,none⟩) (.inl (.inl rfl)) _
 have GQ:Ci (l++[((p:Int),key)])=Ci l++Cy ((p:Int),key):=by rw[Gn];rfl
 have fv:(l++[((p:Int),key)]).length=LL+1:=by rw[List.length_append,HLen.out];rfl
 have s4:BQ (wa.setCell ⟨H,0,none⟩ (.slice (some ⟨g,0,none⟩) (LL+1) cap)) H A N (.slice (some ⟨g,0,none⟩) (LL+1) cap) (l++[((p:Int),key)]) a :=
  ⟨sp,bA4,by rw[fv,GQ];exact oF,AI,S1.out.len,by rw[fv];omega,hs⟩
 have E6:Hid (∀ j,j<w.heap.size->(M_ (some ⟨g,0,none⟩) (LL+1) cap).ownBlock=some j->(M_ V LL c).ownBlock=some j):=by
  intro j hj h;obtain rfl:g=j:=H_ (show some g=some j from h);rcases hat1 with h1 | h1
  ·exact h1
  ·have:=hK.size;simp only[World.size_drew,World.size_alloc]at h1;omega
 have LY:=zh (KG _ H A N _ _ a s4 LL ((p:Int),key) (by omega) ⟨p0,p1⟩ (λ x hx=>by
  rcases List.mem_append.1 hx with h | h
  ·exact HR.out x h
  ·obtain rfl:=List.mem_singleton.1 h;exact⟨p0,p1⟩))
 have S4:=zh s4
 obtain⟨w4,Dn⟩:=zn (wa.setCell ⟨H,0,none⟩ (.slice (some ⟨g,0,none⟩) (LL+1) cap))
 rw[Dn]at sp uU bA4 oF xL LY s4
 rw[Dn]
 clear S4 C4 Bj AQ Dn fv GQ oF bA4 bH3 uT hc1' hf1' S1 s4 hat1
 have hb0:=sp.cell 0
 have x0:=uU.cell 0
 have x1:=uU.cell 1
 simp at hb0 x0 x1
 go_wp2_with fail
 refine LY.out.mono ?_
 rintro r w3 ⟨rfl,s3,k3⟩
 go_wp2_with fail
 go_ret
 exact⟨rfl,_,s3,xL.then k3 (λ j hj h=>by
  rcases h with h | h | h
  ·exact .inl h
  ·exact .inr (.inl h)
  ·exact .inr (.inr (E6.out j hj h))),E6.out⟩
end Go.Proofs.YtepelooebggliaaGreatDoor.Hp
namespace Go.Proofs.YtepelooebggliaaGreatDoor.Hp
open Go.RowKit
theorem p8 (w:I_) (H A N:Nat) (v:J_) (a:List Int) (s:BQ w H A N v [] a):K_ A_ 317 #[pt H] w λ e w'=>e=.returned (.tuple #[i64 0,u64 0,.bool false])/\w=w':=by
 have hW:=zh (len_any w H A N v [] a s);go_enter Tryz.func317,Tryz.ntmps317;go_wp2_with fail;refine hW.out.mono ?_;rintro e w1 ⟨rfl,rfl⟩;go_wp2_with fail;go_ret3;exact⟨rfl,rfl⟩
theorem p9 (w:I_) (H A N:Nat) (v:J_) (l:List Itm) (a:List Int) (s:BQ w H A N v l a) (e:Itm) (he:l[0]? = some e):K_ A_ 317 #[pt H] w λ r w'=>r=.returned (.tuple #[i64 e.1,u64 e.2,.bool true])/\Af w w':=by
 have hW:=zh (len_any w H A N v l a s);obtain⟨g,c,hv,hg,f0,f1,_⟩:=(s.grew (zr (λ _=>False) _).drew).item he;subst hv;have bH:=(s.grew (zr (λ _=>False) _).drew).box;have hl:=(D_.1 he).1;obtain⟨LL,hL⟩:=zn (l.length);rw[hL]at hl bH hW;have hf:=s.few;rw[hL]at hf;have hb:((LL:Int)==0)=false:=by
  have:¬ ((LL:Int)=0):=(by omega);simpa using this
 have h0:(0:Int)<(LL:Int):=(by omega);simp only[Nat.zero_mul,Nat.zero_add]at f0 f1;clear s hL he;go_enter Tryz.func317,Tryz.ntmps317;go_wp2_with fail;refine hW.out.mono ?_;rintro r w1 ⟨rfl,rfl⟩;go_wp2_with fail;refine rG [] (λ _=>False) ?_;refine pG 0 8 ?_;refine pG 1 9 ?_;refine pG 2 10 ?_;refine tG 3 11 (y:=λ w' Aj=>by have AN:=(bH.grew Aj).cell 0;have AZ:=ze Aj f0;have CM:=ze Aj f1;simp at AN;go_simp<;>with_reducible rfl) (h:=?_);refine pG 4 12 ?_;refine pG 5 13 ?_;refine tG 6 14 (y:=λ w' Aj=>by have AN:=(bH.grew Aj).cell 0;have AZ:=ze Aj f0;have CM:=ze Aj f1;simp at AN;go_simp<;>with_reducible rfl) (h:=?_);refine pG 7 15 ?_;refine pG 8 16 ?_;refine pG 9 17 ?_;refine tG 10 18 (y:=λ w' Aj=>by have AN:=(bH.grew Aj).cell 0;have AZ:=ze Aj f0;have CM:=ze Aj f1;simp at AN;go_simp<;>with_reducible rfl) (h:=?_);refine pG 11 19 ?_;refine pG 12 20 ?_;refine tG 13 21 (y:=λ w' Aj=>by have AN:=(bH.grew Aj).cell 0;have AZ:=ze Aj f0;have CM:=ze Aj f1;simp at AN;go_simp<;>with_reducible rfl) (h:=?_);refine pG 14 2 ?_;refine pG 15 3 ?_;refine pG 16 4 ?_;refine dG ?_;go_wp2_with fail;go_ret3;exact⟨rfl,(zr _ _).drew⟩
theorem BQ.mark {w:I_} {H A N:Nat} {v:J_} {l:List Itm} {a:List Int} (s:BQ w H A N v l a) (p:Nat) (k:Int):BQ (w.setCell ⟨A,p,none⟩ (i64 k)) H A N v l (a.set p k):=by
 have AI:=s.lt;refine⟨s.box.far (p:=⟨A,p,none⟩) (by simp;omega) _,?_,Kept.own ((zr (·=A) _).setCell (p:=⟨A,p,none⟩) (.inl rfl) _) s.row (λ k hk h=>by have:=(s.row.lt k hk).1;omega),AI,by rw[E_];exact s.len,s.few,s.small⟩;have h2:=s.arr.set p (i64 k);have e:((a.map i64).toArray.setIfInBounds p (i64 k))=((a.set p k).map i64).toArray:=(by simp[List.map_set]);rw[e]at h2;exact h2
theorem BQ.popped {w:I_} {H A N g LL c:Nat} {l:List Itm} {a:List Int} (s:BQ w H A N (.slice (some ⟨g,0,none⟩) (LL+1) c) l a) (hl:l.length=LL+1) :
  BQ (w.setCell ⟨H,0,none⟩ (.slice (some ⟨g,0,none⟩) LL c)) H A N (.slice (some ⟨g,0,none⟩) LL c) l.dropLast a:=by
 have AI:=s.lt
 have hf:=s.few
 have hd:l.dropLast.length=LL:=by rw[F_,hl];rfl
 refine⟨s.box.set 0 _,s.arr.far (p:=⟨H,0,none⟩) (by simp;omega) _,?_,AI,s.len,by omega,s.small⟩
 rw[hd]
 refine Kept.own ((zr (·=H) _).setCell (p:=⟨H,0,none⟩) (.inl rfl) _) ?_ (λ k hk h=>?_)
 ·have hr:=s.row;rw[hl]at hr;refine⟨by rw[EA,hd],?_⟩;rcases hr.2 with ⟨h,h0⟩ | ⟨g1,cap,cur,hv,hb,hg,h1,h2,h3,h4⟩
  ·cases h
  ·cases hv;refine .inr ⟨g,c,cur,rfl,hb,hg,by omega,h2,h3,?_⟩;have h5:=congrArg (List.take (LL*2)) h4;rw[List.take_take,Nat.min_eq_left (by omega)]at h5;rw[h5];have Bn:l≠[]:=by intro h;rw[h]at hl;simp at hl
   conv=>lhs;rw[<- List.dropLast_concat_getLast Bn]
   rw[Gn,List.take_append_of_le_length (by rw[EA,hd];exact zl _),List.take_of_length_le (by rw[EA,hd];exact zl _)]
 ·obtain rfl:g=k:=H_ (show some g=some k from hk);have:=(s.row.lt g rfl).1;omega
theorem iG (w:I_) (H A N:Nat) (v:J_) (l:List Itm) (a:List Int) (s:BQ w H A N v l a) (p i:Nat) (hp:a[p]? = some (i:Int)) (hi:i+1=l.length):K_ A_ 385 #[pt H,i64 (p:Int)] w λ r w'=>r=.returned (.bool true)/\∃ v',BQ w' H A N v' l.dropLast (a.set p (-1))/\Kept (HB H A v) w w'/\v'.ownBlock=v.ownBlock:=by
 have hW:=zh (aQ w H A N v l a s p _ hp);have hl:=(D_.1 hp).1;rw[s.len]at hl;have p0:(0:Int)<=(p:Int):=(by omega);have p1:(p:Int)<(N:Int):=(by omega);have ib:((i:Int)==-1)=false:=(by simp);have hL:l.length=i+1:=hi.symm;clear hi;obtain⟨⟨ev,ek⟩,he⟩:∃ e,l[i]? = some e:=⟨_,zq (by omega)⟩;obtain⟨g,c,hv,hg,f0,f1,Bi⟩:=(s.mark p (-1)).item he;rw[hL]at hv Bi;subst hv;have fj:c<=maxLen:=by
  have hr:=s.row;rw[hL]at hr;rcases hr.2 with ⟨h,h0⟩ | ⟨g1,cap,cur,hv,hb,hg,h1,h2,h3,h4⟩
  ·cases h
  ·cases hv;exact h2
 unfold maxLen at fj;have hf:=s.few;have Jd:=s.small;have AI:=s.lt;have hAw:=s.arr.lt;have hHw:=s.box.lt;rw[hL]at hf;have k1:Kept (HB H A (.slice (some ⟨g,0,none⟩) (i+1) c)) w (w.setCell ⟨A,p,none⟩ (i64 (-1))):=(zr _ _).setCell (p:=⟨A,p,none⟩) (.inl (.inr (.inl rfl))) _;have S0:=zh s;have S1:=zh (s.mark p (-1));have xY:=s.box.cell 1;have Hv:=s.place hp;have hfz:=s.arr.frozen p;simp at xY;obtain⟨w1,AT⟩:=zn (w.setCell ⟨A,p,none⟩ (i64 (-1)));rw[AT]at S1 f0 f1 k1;have HL:=zh hL;have HE:=zh he;clear s hp hL he;go_enter Tryz.func385,Tryz.ntmps385;go_wp2_with fail;refine hW.out.mono ?_;rintro e w1 ⟨rfl,rfl⟩;obtain⟨w2,Cc⟩:=zn (w1.alloc (.cells #[i64 ev,u64 ek] 489));go_upto_region 5 with fail;clear AT xY Hv hfz;have bH:=S1.out.box;have hb:=bH.cell 0;have tz:O_.wrap ((i:Int)+1-1)=(i:Int):=by rw[C_];exact N_ _ (by omega)
 simp at hb;have l0:(0:Int)<=(i:Int):=(by omega);have l1:(i:Int)<(i:Int)+1:=(by omega);go_upto_region 7 with fail;have k2:Af w1 w2:=by rw[<- Cc];exact(zr _ _).alloc _
 have bX:Ao w2 w1.heap.size 489 #[i64 ev,u64 ek]:=by rw[<- Cc];exact zv _ _ _
 have C5:=k1.size;have S2:=zh (S1.out.grew k2);have hb:=S2.out.box.cell 0;have hfz:=S2.out.box.frozen 0;simp at hb;obtain⟨w3,Db⟩:=zn (w2.setCell ⟨H,0,none⟩ (.slice (some ⟨g,0,none⟩) i c));have S3:=zh (S2.out.popped HL.out);have uT:=bX.far (p:=⟨H,0,none⟩) (by simp;omega) (.slice (some ⟨g,0,none⟩) i c);have k3:Kept (HB H A (.slice (some ⟨g,0,none⟩) (i+1) c)) w (w2.setCell ⟨H,0,none⟩ (.slice (some ⟨g,0,none⟩) i c)):=(k1.trans k2.kept).setCell (p:=⟨H,0,none⟩) (.inl (.inl rfl)) _;rw[Db]at S3 uT k3;clear Cc bX k2 k1 S1 f0 f1 bH;go_upto_region 8 with fail;clear Db hb hfz;go_wp2_with fail;go_ret;exact⟨rfl,_,S3.out,k3,rfl⟩
theorem sD (w:I_) (H A N:Nat) (v:J_) (l:List Itm) (a:List Int) (s:BQ w H A N v l a) (hR:NH N l) (p i:Nat) (x:Itm) (hp:a[p]? = some (i:Int)) (hi:i+1<l.length) (hx:l[l.length-1]? = some x):K_ A_ 385 #[pt H,i64 (p:Int)] w λ r w'=>r=.returned (.bool true)/\∃ v',BQ w' H A N v' (IQ l a p i x).1 (IQ l a p i x).2/\Kept (HB H A v) w w'/\v'.ownBlock=v.ownBlock:=by
 have hW:=zh (aQ w H A N v l a s p _ hp);have hl:=(D_.1 hp).1;rw[s.len]at hl;have p0:(0:Int)<=(p:Int):=(by omega);have p1:(p:Int)<(N:Int):=(by omega);have ib:((i:Int)==-1)=false:=(by simp);obtain⟨LL,hL⟩:∃ L,l.length=L+1:=⟨l.length-1,by omega⟩;rw[hL,Nat.add_sub_cancel]at hx;rw[hL]at hi;obtain⟨ev,ek⟩:=x;have Lm:=hR _ (zm hx);obtain⟨q,rfl⟩:=B_ Lm.1;have hqN:q<N:=by have:=Lm.2;simp at this;omega
 have he:=hx;clear hx;have HR:=zh hR;clear hR;obtain⟨D,hD⟩:=zn (IQ l a p i ((q:Int),ek));rw[hD];have HD0:=zh hD;clear hD;obtain⟨g,c,hv,hg,f0,f1,Bi⟩:=(s.mark p (-1)).item he;rw[hL]at hv Bi;subst hv;have fj:c<=maxLen:=by
  have hr:=s.row;rw[hL]at hr;rcases hr.2 with ⟨h,h0⟩ | ⟨g1,cap,cur,hv,hb,hg,h1,h2,h3,h4⟩
  ·cases h
  ·cases hv;exact h2
 unfold maxLen at fj;have hf:=s.few;have Jd:=s.small;have AI:=s.lt;have hAw:=s.arr.lt;have hHw:=s.box.lt;rw[hL]at hf;have k1:Kept (HB H A (.slice (some ⟨g,0,none⟩) (LL+1) c)) w (w.setCell ⟨A,p,none⟩ (i64 (-1))):=(zr _ _).setCell (p:=⟨A,p,none⟩) (.inl (.inr (.inl rfl))) _;have S0:=zh s;have S1:=zh (s.mark p (-1));have xY:=s.box.cell 1;have Hv:=s.place hp;have hfz:=s.arr.frozen p;simp at xY;obtain⟨w1,AT⟩:=zn (w.setCell ⟨A,p,none⟩ (i64 (-1)));rw[AT]at S1 f0 f1 k1;have HL:=zh hL;have HE:=zh he;clear s hp hL he;go_enter Tryz.func385,Tryz.ntmps385;go_wp2_with fail;refine hW.out.mono ?_;rintro e w1 ⟨rfl,rfl⟩;obtain⟨w2,Cc⟩:=zn (w1.alloc (.cells #[i64 (q:Int),u64 ek] 489));go_upto_region 5 with fail;clear AT xY Hv hfz;have bH:=S1.out.box;have hb:=bH.cell 0;have tz:O_.wrap ((LL:Int)+1-1)=(LL:Int):=by rw[C_];exact N_ _ (by omega)
 simp at hb;have l0:(0:Int)<=(LL:Int):=(by omega);have l1:(LL:Int)<(LL:Int)+1:=(by omega);go_upto_region 7 with fail;have k2:Af w1 w2:=by rw[<- Cc];exact(zr _ _).alloc _
 have bX:Ao w2 w1.heap.size 489 #[i64 (q:Int),u64 ek]:=by rw[<- Cc];exact zv _ _ _
 have C5:=k1.size;have S2:=zh (S1.out.grew k2);have hb:=S2.out.box.cell 0;have hfz:=S2.out.box.frozen 0;simp at hb;obtain⟨w3,Db⟩:=zn (w2.setCell ⟨H,0,none⟩ (.slice (some ⟨g,0,none⟩) LL c));have S3:=zh (S2.out.popped HL.out);have uT:=bX.far (p:=⟨H,0,none⟩) (by simp;omega) (.slice (some ⟨g,0,none⟩) LL c);have k3:Kept (HB H A (.slice (some ⟨g,0,none⟩) (LL+1) c)) w (w2.setCell ⟨H,0,none⟩ (.slice (some ⟨g,0,none⟩) LL c)):=(k1.trans k2.kept).setCell (p:=⟨H,0,none⟩) (.inl (.inl rfl)) _;rw[Db]at S3 uT k3;clear Cc bX k2 k1 S1 f0 f1 bH;go_upto_region 8 with fail;clear Db hb hfz;have hid:((i:Int)==(LL:Int))=false:=by simp;omega
 have hdl:l.dropLast.length=LL:=by rw[F_,HL.out];rfl
 have hRd:NH N l.dropLast:=λ e he=>HR.out e ((List.dropLast_sublist l).subset he);have nC:=zh (pU w3 H A N _ _ _ S3.out i ((q:Int),ek) (by omega) Lm hRd);obtain⟨n1,n2,n3⟩:=aK N _ i l.dropLast (a.set p (-1)) ((q:Int),ek) rfl hRd Lm;rw[hdl]at n1;rw[E_,S0.out.len]at n2;have hD:=HD0.out;obtain⟨⟨l2,a2⟩,hr⟩:∃ r,BV l.dropLast (a.set p (-1)) i ((q:Int),ek)=r:=⟨_,rfl⟩;rw[IQ,hr]at hD;rw[hr]at n1 n2 n3 nC;have N1:=zh n1;have N2:=zh n2;have N3:=zh n3;have HD:=zh hD;obtain⟨x0,x1⟩:=BP uT;have hgw:=(S3.out.row.lt g rfl).2;have hgX:Hid (¬ HB H A (.slice (some ⟨g,0,none⟩) LL c) w1.heap.size):=by
  rintro (h | h | h)
  ·omega
  ·omega
  ·have h2:g=w1.heap.size:=H_ (show some g=some w1.heap.size from h);have:=(S0.out.row.lt g rfl).2;omega
 clear hdl hr hD n1 n2 n3 hRd hgw;go_wp2_with fail;refine nC.out.mono ?_;rintro r w4 ⟨rfl,s4,k4⟩;clear x0 x1 nC;obtain⟨z,hz⟩:=zx (l:=a2) (i:=q) (by rw[show a2.length=N from N2.out];exact hqN);have bX4':=uT.kept k4 hgX.out;have s4d:=s4.grew (zr (λ _=>False) _).drew;have sp:=s4d.box;have fq:=s4d.place hz;have uU:=bX4'.drew;have S4:=zh s4d;have HZ:=zh hz;have q0:(0:Int)<=(q:Int):=(by omega);have q1:(q:Int)<(N:Int):=(by omega);have k5:=(k3.trans k4).drew;clear s4 s4d hz bX4' k4 k3;go_wp2_with fail;refine rG [] (λ _=>False) ?_;refine pG 0 48 ?_;refine pG 1 49 ?_;refine pG 2 50 ?_;refine tG 3 51 (y:=λ w' Aj=>by have AN:=(sp.grew Aj).cell 1;have AZ:=(uU.grew Aj).cell 0;have CM:=ze Aj fq;simp at AN AZ;go_simp<;>with_reducible rfl) (h:=?_);refine pG 4 52 ?_;refine tG 5 53 (y:=λ w' Aj=>by have AN:=(sp.grew Aj).cell 1;have AZ:=(uU.grew Aj).cell 0;have CM:=ze Aj fq;simp at AN AZ;go_simp<;>with_reducible rfl) (h:=?_);refine pG 6 54 ?_;refine tG 7 55 (y:=λ w' Aj=>by have AN:=(sp.grew Aj).cell 1;have AZ:=(uU.grew Aj).cell 0;have CM:=ze Aj fq;simp at AN AZ;go_simp<;>with_reducible rfl) (h:=?_);refine pG 8 56 ?_;refine pG 9 57 ?_;refine dG ?_;by_cases hzi:z=(i:Int)
 ·subst hzi;have LY:=zh (KG _ H A N _ _ _ S4.out i ((q:Int),ek) (by rw[show l2.length=LL from N1.out];omega) Lm N3.out);obtain⟨x0,x1⟩:=BP uU;clear sp fq;have hD2:Hid (Dt l2 a2 i ((q:Int),ek)=D):=by
   have h:=HD.out
   rw[if_pos (by exact HZ.out)]at h
   exact h
  clear HD;go_wp2_with fail;refine LY.out.mono ?_;rintro r w5 ⟨rfl,s5,k6⟩;go_wp2_with fail;go_ret;rw[<- hD2.out];exact⟨rfl,_,s5,k5.trans k6,rfl⟩
 ·have hzb:(z==(i:Int))=false:=(by simpa using hzi);clear sp fq;have hD2:Hid ((l2,a2)=D):=by
   have h:=HD.out
   rw[if_neg (λ h=>hzi (by have:=HZ.out.symm.trans h;exact H_ this))]at h
   exact h
  clear HD;go_wp2_with fail;go_ret;rw[<- hD2.out];exact⟨rfl,_,S4.out,k5,rfl⟩
end Go.Proofs.YtepelooebggliaaGreatDoor.Hp
namespace Go.Proofs.YtepelooebggliaaGreatDoor.Hp
open Go.RowKit
theorem info_int:(A_.info? 3).map (λ i=>(i.zero,i.size,i.bytes))=some (some (i64 0),1,8):=by kernel_rfl
theorem made_zero (n:Nat):madeCells #[i64 0] n=((G_ n (0:Int)).map i64).toArray:=by
 apply Array.ext
 ·simp[size_madeCells]
 ·intro i h1 h2;simp[madeCells,Value.cells,Nat.mod_one]
theorem tS (n:Nat) (w:I_) (hn:n<=65536):K_ A_ 275 #[i64 (n:Int)] w λ e w'=>e=.returned (pt (w.heap.size+1))/\∃ a,BQ w' (w.heap.size+1) w.heap.size n (.slice none 0 0) [] a/\(∀ p,p<n->a[p]? = some (-1))/\Af w w':=by
 obtain⟨i0,hi,BZ,BG,B4⟩:=info_parts info_int;have Li:=run_make (P:=A_) w 26 3 i0 _ Tryz.underlying26 hi BZ .i64 .i64 (n:Int) (n:Int) (by omega) (Int.le_refl _) (by rw[B4];omega) (by omega);rw[Int.toNat_natCast,BG,Nat.mul_one]at Li;have n0:(0:Int)<=(n:Int):=(by omega);have n1:(n:Int)<=65536:=(by omega);have bA:=zv w 3 (madeCells #[i64 0] n);have hK:Af w (w.alloc (.cells (madeCells #[i64 0] n) 3)):=(zr _ _).alloc _;obtain⟨w1,AT⟩:=zn (w.alloc (.cells (madeCells #[i64 0] n) 3));have C5:w1.heap.size=w.heap.size+1:=by rw[<- AT];simp
 rw[AT]at bA hK;rw[made_zero]at bA;have bH:=zv w1 456 #[.slice none 0 0,.slice (some ⟨w.heap.size,0,none⟩) n n];rw[C5]at bH;have bA2:=bA.alloc (.cells #[.slice none 0 0,.slice (some ⟨w.heap.size,0,none⟩) n n] 456);have e8:=hK.alloc (.cells #[.slice none 0 0,.slice (some ⟨w.heap.size,0,none⟩) n n] 456);have S0:Hid (BQ (w1.alloc (.cells #[.slice none 0 0,.slice (some ⟨w.heap.size,0,none⟩) n n] 456)) (w.heap.size+1) w.heap.size n (.slice none 0 0) [] (G_ n (0:Int))) :=
  zh ⟨bH,bA2,World.ownsRow_nil _ _ _ _,by omega,by simp,by simp,hn⟩
 obtain⟨w2,Cc⟩:=zn (w1.alloc (.cells #[.slice none 0 0,.slice (some ⟨w.heap.size,0,none⟩) n n] 456));rw[Cc]at S0 e8 bH;have hc:=bH.cell 1;simp at hc;have hs:=zh C5;clear bA bA2 hK;go_enter Tryz.func275,Tryz.ntmps275;go_wp2_with fail;go_loopw [4,20] (λ _ i wr=>∃ (k:Nat) (a:List Int),i=.int .i64 k/\k<=n/\Hid (BQ wr (w.heap.size+1) w.heap.size n (.slice none 0 0) [] a)/\Hid (∀ p,p<k->a[p]? = some (-1))/\Af w wr) (λ _ i _=>n-(intOf i).toNat)
 case atStart=>exact⟨0,_,rfl,by omega,S0,zh (λ p hp=>absurd hp (by omega)),e8⟩
 case round =>
  clear S0 e8 hc bH AT Cc;obtain⟨k,a,rfl,hk,S1,hA,hK⟩:=hrel;by_cases AI:k<n
  ·have bH:=S1.out.box.cell 1;obtain⟨x,hx⟩:=zx (l:=a) (i:=k) (by rw[S1.out.len];exact AI);have hp:=S1.out.place hx;have hf:=S1.out.arr.frozen k;simp at bH;clear hx;go_wp2_with fail;go_roundw
   case rel=>exact⟨k+1,_,by go_num,by omega,zh (S1.out.mark k (-1)),zh (λ p hp=>by
    rw[List.getElem?_set];split
    ·rw[if_pos (by rw[S1.out.len];omega)]
    ·exact hA.out p (by omega)),hK.setCell (p:=⟨w.heap.size,k,none⟩) (.inr (zl _)) _⟩
   case measure=>simp[intOf];omega
  ·obtain rfl:k=n:=(by omega);go_wp2_with fail;go_ret;exact⟨rfl,a,S1.out,hA.out,hK⟩
def Hp (w:I_) (H A N:Nat) (v:J_) (l:List Itm):Prop:=∃ a,BQ w H A N v l a/\Good N l a
theorem Hp.kept {F:Nat->Prop} {w w':I_} {H A N:Nat} {v:J_} {l:List Itm} (s:Hp w H A N v l) (k:Kept F w w') (hF:∀ j,HB H A v j->¬ F j):Hp w' H A N v l:=by
 obtain⟨a,h,g⟩:=s;exact⟨a,h.kept k hF,g⟩
theorem Hp.grew {w w':I_} {H A N:Nat} {v:J_} {l:List Itm} (s:Hp w H A N v l) (k:Af w w'):Hp w' H A N v l:=s.kept k λ _ _ h=>h
structure Turn (w w':I_) (H A N:Nat) (v v':J_) (l':List Itm):Prop where
 hp:Hp w' H A N v' l'
 kept:Kept (HB H A v) w w'
 old:∀ j,j<w.heap.size->v'.ownBlock=some j->v.ownBlock=some j
theorem Hp.rng {w:I_} {H A N:Nat} {v:J_} {l:List Itm} (s:Hp w H A N v l):NH N l:=by
 obtain⟨a,_,g⟩:=s;exact g.1.rng
theorem Hp.one {w:I_} {H A N:Nat} {v:J_} {l:List Itm} (s:Hp w H A N v l) {i j:Nat} {e f:Itm} (hi:l[i]? = some e) (hj:l[j]? = some f) (hv:e.1=f.1):i=j:=by
 obtain⟨a,_,g⟩:=s;exact g.1.at_inj hi hj hv
theorem Hp.apart {w:I_} {H A N:Nat} {v:J_} {l:List Itm} (s:Hp w H A N v l) {g:Nat} {t:TypeId} {cs:Array J_} {r:Nat×Nat} (h:w.heap[g]? = some (.cells cs t r)) (h1:t≠456) (h2:t≠3) (h3:t≠489):¬ HB H A v g:=by
 obtain⟨a,s,_⟩:=s;rintro (rfl | rfl | h4)
 ·have:=s.box.symm.trans h;simp at this;exact h1 this.2.1.symm
 ·have:=s.arr.symm.trans h;simp at this;exact h2 this.2.1.symm
 ·rcases s.row.2 with ⟨h,_⟩ | ⟨g1,cap,cur,hv,hb,hg,_⟩
  ·rw[h]at h4;cases h4
  ·rw[hv]at h4;obtain rfl:g1=g:=H_ (show some g1=some g from h4);have:=hg.symm.trans h;simp at this;exact h3 this.2.1.symm
theorem mZ (w:I_) (H A N:Nat) (v:J_) (l:List Itm) (s:Hp w H A N v l) (i:Nat) (e:Itm) (he:l[i]? = some e):K_ A_ 385 #[pt H,i64 e.1] w λ r w'=>r=.returned (.bool true)/\∃ v' l',l'.Perm (l.eraseIdx i)/\Turn w w' H A N v v' l':=by
 obtain⟨a,s,g⟩:=s;obtain⟨p,hp,_,LZ⟩:=g.1.num he;rw[hp];have D6:=get_lt he;by_cases hi:i+1=l.length
 ·refine(iG w H A N v l a s p i LZ hi).mono ?_;rintro r w' ⟨rfl,v',s',k,hv⟩;obtain⟨h1,h2⟩:=Lw g he hp hi;exact⟨rfl,v',_,h2,⟨_,s',h1⟩,k,λ j _ h=>by rw[<- hv];exact h⟩
 ·obtain⟨x,hx⟩:=zx (l:=l) (i:=l.length-1) (by omega);refine(sD w H A N v l a s g.1.rng p i x LZ (by omega) hx).mono ?_;rintro r w' ⟨rfl,v',s',k,hv⟩;obtain⟨h1,h2⟩:=Om g he hp (by omega) hx;exact⟨rfl,v',_,h2,⟨_,s',h1⟩,k,λ j _ h=>by rw[<- hv];exact h⟩
theorem put_less2 (w:I_) (H A N:Nat) (v:J_) (l:List Itm) (s:Hp w H A N v l) (i:Nat) (e:Itm) (key:Int) (he:l[i]? = some e) (hk:key<e.2):K_ A_ 314 #[pt H,i64 e.1,u64 key] w λ r w'=>r=.returned (.bool true)/\∃ v' l',l'.Perm (l.set i (e.1,key))/\Turn w w' H A N v v' l':=by
 obtain⟨a,s,g⟩:=s;obtain⟨p,hp,_,LZ⟩:=g.1.num he;rw[hp];refine(pH w H A N v l a s g.1.rng p i key e LZ he hk).mono ?_;rintro r w' ⟨rfl,s',k⟩;have h:=Nh g he hp hk;exact⟨rfl,v,_,h.perm,⟨_,s',h.good⟩,k,λ j _ h=>h⟩
theorem put_new2 (w:I_) (H A N:Nat) (v:J_) (l:List Itm) (s:Hp w H A N v l) (x key:Int) (h0:0<=x) (h1:x<(N:Int)) (hx:∀ e∈l,e.1≠x):K_ A_ 314 #[pt H,i64 x,u64 key] w λ r w'=>r=.returned (.bool true)/\∃ v' l',l'.Perm (l++[(x,key)])/\Turn w w' H A N v v' l':=by
 obtain⟨a,s,g⟩:=s;obtain⟨p,rfl⟩:=B_ h0;have rF:p<N:=(by omega);have Fy:=g.1.fewer rF hx;have Jd:=s.small;refine(uc w H A N v l a s g.1.rng p key (g.1.gone p rF hx) (by omega)).mono ?_;rintro r w' ⟨rfl,v',s',k,hv⟩;have h:=af g p key rF hx;exact⟨rfl,v',_,h.perm,⟨_,s',h.good⟩,k,hv⟩
theorem new2 (n:Nat) (w:I_) (hn:n<=65536):K_ A_ 275 #[i64 (n:Int)] w λ e w'=>e=.returned (pt (w.heap.size+1))/\Hp w' (w.heap.size+1) w.heap.size n (.slice none 0 0) []/\Af w w':=by
 refine(tS n w hn).mono ?_;rintro r w' ⟨rfl,a,s,h,k⟩;exact⟨rfl,⟨a,s,Good.nil s.len h⟩,k⟩
theorem top2 (w:I_) (H A N:Nat) (v:J_) (l:List Itm) (s:Hp w H A N v l) (e:Itm) (he:e∈l) (hm:∀ f∈l,¬ lessI f e=true):K_ A_ 317 #[pt H] w λ r w'=>r=.returned (.tuple #[i64 e.1,u64 e.2,.bool true])/\Af w w':=by
 obtain⟨a,s,g⟩:=s;obtain⟨i,hi⟩:=List.getElem?_of_mem he;have D6:=get_lt hi;obtain⟨f,hf⟩:=zx (l:=l) (i:=0) (by omega);obtain rfl:e=f:=dN (top_law g.2 hf i e hi) (hm f (zm hf));exact p9 w H A N v l a s e hf
theorem top2_none (w:I_) (H A N:Nat) (v:J_) (s:Hp w H A N v []):K_ A_ 317 #[pt H] w λ r w'=>r=.returned (.tuple #[i64 0,u64 0,.bool false])/\w=w':=by
 obtain⟨a,s,g⟩:=s;exact p8 w H A N v a s
theorem pop_none (w:I_) (H A N:Nat) (v:J_) (s:Hp w H A N v []):K_ A_ 316 #[pt H] w λ e w'=>e=.returned (.tuple #[i64 0,u64 0,.bool false])/\w=w':=by
 have hT:=zh (top2_none w H A N v s);go_enter Tryz.func316,Tryz.ntmps316;go_wp2_with fail;refine hT.out.mono ?_;rintro r w1 ⟨rfl,rfl⟩;go_wp2_with fail;go_ret3;exact⟨rfl,rfl⟩
theorem pop_some (w:I_) (H A N:Nat) (v:J_) (l:List Itm) (s:Hp w H A N v l) (i:Nat) (e:Itm) (he:l[i]? = some e) (hm:∀ f∈l,¬ lessI f e=true):K_ A_ 316 #[pt H] w λ r w'=>r=.returned (.tuple #[i64 e.1,u64 e.2,.bool true])/\∃ v' l',l'.Perm (l.eraseIdx i)/\Turn w w' H A N v v' l':=by
 have hT:=zh (top2 w H A N v l s e (zm he) hm);have hS:=zh s;have HE:=zh he;clear s he hm;go_enter Tryz.func316,Tryz.ntmps316;go_wp2_with fail;refine hT.out.mono ?_;rintro r w1 ⟨rfl,k1⟩;have hD:=zh (mZ w1 H A N v l (hS.out.grew k1) i e HE.out);go_wp2_with fail;refine hD.out.mono ?_;rintro r w2 ⟨rfl,v',l',hp,ht⟩;go_wp2_with fail;go_ret3;exact⟨rfl,v',l',hp,ht.hp,k1.kept.trans ht.kept,λ j hj h=>ht.old j (Nat.lt_of_lt_of_le hj k1.size) h⟩
end Go.Proofs.YtepelooebggliaaGreatDoor.Hp
