/- Walks of functions that the law reaches, and plain laws, part 14 of 20: lemmas for the proof in the last text; no condition. Shortened by program. -/
import Derived.Deep.Slices
import Derived.Deep.Fields
import Derived.ChangeSame
import Derived.ProofKit
import Derived.OpenShut
import Derived.Lib.SmallJoins
import Derived.Test.YtepelooebggliaaGreatDoorOv0
import Derived.Test.YtepelooebggliaaGreatDoorOv3
import Derived.Test.YtepelooebggliaaGreatDoorOv5
import Derived.Test.YtepelooebggliaaGreatDoorOv10
import Derived.Test.YtepelooebggliaaGreatDoorOv12
open Go.World renaming size_alloc->A_,heap->B_,news_of_block->C_,size_drew->D_,ownsRow->E_
open Go.Proofs.Tryz renaming prog->F_,underlying22->G_,ntmps45->H_,results16->I_,func45->J_,underlying26->K_,underlying3->L_
open Option.some renaming inj->M_
open Go.Value renaming slice->N_,oneCell'->O_
open Go renaming World->Pa,Calls->Pb,Value->Pc,Addr->Pd,MemPlace->Pe
open List renaming length_take->Pf,take_add_one->Pg,length->Ph,nil_append->Pj,take_of_length_le->Pk,length_drop->Pm,length_map->Pn
open List.cons renaming injEq->Po
open Nat renaming zero_add->Pp
open Int renaming lt_or_le->Pq
open Go.DataW renaming trod->Pr
set_option maxHeartbeats 16000000
set_option maxRecDepth 100000
set_option linter.unusedVariables false
set_option linter.unusedSimpArgs false
namespace Go.Proofs.YtepelooebggliaaGreatDoor
open Go.RowKit
theorem Kept.realloc {F:Nat->Prop} {w:Pa} {o o2:Obj} (h:F w.heap.size):Kept F (w.alloc o) (w.alloc o2) :=
 ⟨rfl,rfl,rfl,by simp,λ k hk hf=>by
  rcases Nat.lt_or_ge k w.heap.size with hl | hl
  ·rw[Below.heap_alloc w o2 k hl,Below.heap_alloc w o k hl]
  ·obtain rfl:k=w.heap.size:=by simp at hk;omega
   exact absurd h hf⟩
theorem aB (n:Int) (A:Option Pd) (c:Nat) (es:List AJ) (e:Nat) (x:Int) (w:Pa) (h:Bo w A es) (hl:es.length<=100000) (hr:Au n es=0) (he:e<es.length) (hx:1<=x/\x<=4294967296) :
  Pb F_ 16 #[.agg #[i64 n,.slice A es.length c],i64 e,u64 x] w λ r w'=>∃ v,r=.returned (.tuple #[.agg #[i64 n,v],i64 0])/\AP w' w.heap.size v (Cl es e x)/\Af w w':=by
 have b0:Ao ((w.alloc (.cells #[i64 n,.slice A es.length c] 24)).alloc (.cells #[i64 0,.slice none 0 0] 24)) w.heap.size 24 #[i64 n,.slice A es.length c]:=(zv w _ _).alloc _
 have b1:Ao ((w.alloc (.cells #[i64 n,.slice A es.length c] 24)).alloc (.cells #[i64 0,.slice none 0 0] 24)) (w.heap.size+1) 24 #[i64 0,.slice none 0 0]:=by
  have h:=zv (w.alloc (.cells #[i64 n,.slice A es.length c] 24)) 24 #[i64 0,.slice none 0 0];rw[A_]at h;exact h
 have BX:Af w ((w.alloc (.cells #[i64 n,.slice A es.length c] 24)).alloc (.cells #[i64 0,.slice none 0 0] 24)):=((zr _ _).alloc _).alloc _
 have hE:=zh (h.grew BX)
 have hC:=zh (D7 n A c es _ (h.grew BX) hl)
 rw[hr]at hC
 have fh:=zh (λ W=>DJ x W)
 rw[zt hx]at fh
 obtain⟨L,hL⟩:=zn (es.length)
 have HL:=zh hL
 have Jv:=zh he
 rw[hL]at b0 b1 BX hC he hE 
 rw[hL]
 have hl9:L<=100000:=by omega
 clear h hr hL hx
 obtain⟨c0,c1⟩:=BP b0
 have Fw:¬ (e:Int)<0:=by omega
 have Fx:¬ L<=e:=by omega
 have fk:¬ (L:Int)<=(e:Int):=by omega
 go_enter Tryz.func16,Tryz.ntmps16
 go_wp2_with fail
 refine hC.out.mono ?_
 rintro e w1 ⟨rfl,k1⟩
 replace b0:=b0.grew k1
 replace b1:=b1.grew k1
 replace c0:=b0.cell 0
 replace c1:=b0.cell 1
 simp at c0 c1
 go_wp2_with fail
 refine(fh.out _).mono ?_
 rintro e w9 ⟨rfl,rfl⟩
 have bn:=zh (hE.out.grew k1)
 obtain⟨b,off,hA,hb,_⟩:=bn.out e _ (zq Jv.out)
 subst hA
 obtain⟨i0,jd,BZ,BG,B4⟩:=info_parts F4
 have hlen:Hid ((cellsOf es).length=L*3):=by show _=_;rw[Cv,HL.out]
 have Kc:=zh (EX es)
 have hK1:=BX.trans k1
 have C5:=k1.size
 simp at C5
 have hb0l:=b0.lt
 clear hE hC
 go_upto_region 7 with fail
 go_cut [8] (λ s8 wx=>∃ gG g cc:Nat,s8=.pointer (some ⟨gG,0,none⟩)/\Ao wx gG 24 #[i64 n,.slice (some ⟨g,0,none⟩) L cc]/\w1.heap.size<=gG/\Hid (E_ wx w1.heap.size 65 3 (.slice (some ⟨g,0,none⟩) L cc) L (cellsOf es))/\gG≠g/\Af w1 wx)
 case first =>
  refine rG [] (λ j=>w1.heap.size<=j) ?_;refine pG 0 27 ?_;refine tG 1 28 (y:=λ w' Aj=>by have AN:=(b0.drew.kept Aj (by omega)).cell 0;have AZ:=(b0.drew.kept Aj (by omega)).cell 1;simp at AN AZ;go_simp<;>with_reducible rfl) (h:=?_);refine pG 3 30 ?_;refine tG 4 31 (y:=λ w' Aj=>by have AN:=(b0.drew.kept Aj (by omega)).cell 0;have AZ:=(b0.drew.kept Aj (by omega)).cell 1;simp at AN AZ;go_simp<;>with_reducible rfl) (h:=?_);refine AO 2 29 7 8 rfl rfl (by kernel_rfl) rfl rfl (by rfl) (by rfl) (λ K Al=>?_) (λ K Al=>?_)
  ·go_simp;refine Al _ _ (λ _=>(zr _ _).alloc _) ?_;clear Al;simp only[sA];refine AO 5 32 7 8 rfl rfl (by kernel_rfl) rfl rfl (by rfl) (by rfl) (λ K Al=>?_) (λ K Al=>?_)
   ·skip;refine wp_append_lies _ (.tmp 29) (.tmp 31) 22 (by rfl) w1.heap.size 65 i0 (.agg #[i64 0,i64 0,u64 0]) 3 24 G_ jd BZ BG B4 (by rfl) (by omega) _ 0 [] (by rfl) (AP.empty w1.drew w1.heap.size (zl _)) ⟨b,off,none⟩ L c (cellsOf es) (by rfl) hlen.out ((bn.out.grew ((zr _ _).drew.alloc _)).news) Kc.out (by omega) (by unfold maxLen;omega) (by omega) (by simp;try omega) _ rfl ?_;intro g cc wb AV Cn Iy AI;rw[Pp]at AV;simp only[Pp];rw[Pj]at AV;refine Al _ _ (λ _=>(zr _ _).grown Cn (λ j hj=>by cases hj;exact .inl (zl _))) ?_;clear Al;simp only[sA];refine pG 6 33 ?_;refine sG 7 8 (λ K Al=>?_);go_simp;refine Al _ _ (λ _=>(zr _ _).alloc _) ?_;clear Al;simp only[sA];refine Du 8 (λ K Al=>?_);go_simp;refine Al _ (λ _=>Kept.realloc (by show w1.heap.size<=wb.heap.size;have:=Cn.size;simp at this;omega)) ?_;clear Al;refine dG ?_;go_wp2_with fail;go_meet;have tm:Af w1 wb:=(((zr (λ _=>False) w1).drew).alloc _).grown Cn (λ j hj=>.inr (by cases hj;exact zl _));exact⟨wb.heap.size,g,cc,rfl,zv _ _ _,by have:=tm.size;omega,Af.own ((zr (λ _=>False) wb).alloc _) AV,by omega,tm.alloc _⟩
   ·go_simp;refine Al _ _ (λ _=>(zr _ _).alloc _) ?_;clear Al;simp only[sA];refine sG 5 32 (λ K Al=>?_);refine wp_append_lies _ (.tmp 29) (.tmp 31) 22 (by rfl) w1.heap.size 65 i0 (.agg #[i64 0,i64 0,u64 0]) 3 24 G_ jd BZ BG B4 (by rfl) (by omega) _ 0 [] (by rfl) (Af.own ((zr (λ _=>False) _).alloc _) (AP.empty w1.drew w1.heap.size (zl _))) ⟨b,off,none⟩ L c (cellsOf es) (by rfl) hlen.out ((bn.out.grew (((zr _ _).drew.alloc _).alloc _)).news) Kc.out (by omega) (by unfold maxLen;omega) (by omega) (by simp;try omega) _ rfl ?_;intro g cc wb AV Cn Iy AI;rw[Pp]at AV;simp only[Pp];rw[Pj]at AV;have bW:=(show Ao _ (w1.heap.size+1) _ _ from (by have h:=zv (w1.drew.alloc (.cells #[] 65)) 24 #[i64 0,.slice none 0 0];rw[A_,D_]at h;exact h)).grown Cn (λ h=>absurd (M_ (show some (w1.heap.size+1)=some (w1.heap.size) from h)) (by omega));have x0:=bW.cell 0;have x1:=bW.cell 1;have y0:=bW.frozen 0;have y1:=bW.frozen 1;simp at x0 x1;refine Al _ _ (λ _=>(zr _ _).grown Cn (λ j hj=>by cases hj;exact .inl (by show w1.heap.size<=_;simp))) ?_;clear Al;simp only[sA];refine pG 6 33 ?_;refine Du 8 (λ K Al=>?_);go_simp;refine Al _ (λ _=>((zr _ _).setCell (p:=⟨(w1.heap.size+1),0,none⟩) (.inl (by show w1.heap.size<=(w1.heap.size+1);omega)) _).setCell (p:=⟨(w1.heap.size+1),1,none⟩) (.inl (by show w1.heap.size<=(w1.heap.size+1);omega)) _) ?_;clear Al;refine dG ?_;go_wp2_with fail;go_meet;have vw:=AV.lt g rfl;have tm:Af w1 wb:=((((zr (λ _=>False) w1).drew).alloc _).alloc _).grown Cn (λ j hj=>.inr (by cases hj;simp));have nW:g≠(w1.heap.size+1):=by
     rcases Iy with h | h
     ·have h':w1.heap.size=g:=M_ (show some w1.heap.size=some g from h);omega
     ·simp at h;omega
    refine⟨(w1.heap.size+1),g,cc,rfl,(bW.set 0 (i64 n)).set 1 _,by omega,?_,λ h=>nW h.symm,(tm.setCell (p:=⟨(w1.heap.size+1),0,none⟩) (.inr (by show w1.heap.size<=(w1.heap.size+1);omega)) _).setCell (p:=⟨(w1.heap.size+1),1,none⟩) (.inr (by show w1.heap.size<=(w1.heap.size+1);omega)) _⟩;exact Kept.own (F:=(·=(w1.heap.size+1))) (((zr (·=(w1.heap.size+1)) wb).setCell (p:=⟨(w1.heap.size+1),0,none⟩) (.inl rfl) _).setCell (p:=⟨(w1.heap.size+1),1,none⟩) (.inl rfl) _) AV (λ j hj h=>nW ((M_ (show some g=some j from hj)).trans h))
  ·go_simp;refine Al _ _ (λ _=>(zr _ _).alloc _) ?_;clear Al;simp only[sA];refine sG 2 29 (λ K Al=>?_);go_simp;refine Al _ _ (λ _=>(zr _ _).alloc _) ?_;clear Al;simp only[sA];refine sG 5 32 (λ K Al=>?_);refine wp_append_lies _ (.tmp 29) (.tmp 31) 22 (by rfl) w1.heap.size 65 i0 (.agg #[i64 0,i64 0,u64 0]) 3 24 G_ jd BZ BG B4 (by rfl) (by omega) _ 0 [] (by rfl) ((show E_ _ w1.heap.size _ 3 (.slice (some ⟨w1.heap.size+1,0,none⟩) 0 0) 0 [] from (by have h:=AP.empty (w1.drew.alloc (.cells #[i64 0,.slice none 0 0] 24)) w1.heap.size (by simp);rw[A_,D_]at h;exact h))) ⟨b,off,none⟩ L c (cellsOf es) (by rfl) hlen.out ((bn.out.grew (((zr _ _).drew.alloc _).alloc _)).news) Kc.out (by omega) (by unfold maxLen;omega) (by omega) (by simp;try omega) _ rfl ?_;intro g cc wb AV Cn Iy AI;rw[Pp]at AV;simp only[Pp];rw[Pj]at AV;have bW:=(show Ao _ w1.heap.size _ _ from ((zv w1.drew 24 #[i64 0,.slice none 0 0]).alloc (.cells #[] 65))).grown Cn (λ h=>absurd (M_ (show some (w1.heap.size)=some (w1.heap.size+1) from h)) (by omega));have x0:=bW.cell 0;have x1:=bW.cell 1;have y0:=bW.frozen 0;have y1:=bW.frozen 1;simp at x0 x1;refine Al _ _ (λ _=>(zr _ _).grown Cn (λ j hj=>by cases hj;exact .inl (by show w1.heap.size<=_;simp))) ?_;clear Al;simp only[sA];refine pG 6 33 ?_;refine Du 8 (λ K Al=>?_);go_simp;refine Al _ (λ _=>((zr _ _).setCell (p:=⟨w1.heap.size,0,none⟩) (.inl (by show w1.heap.size<=w1.heap.size;omega)) _).setCell (p:=⟨w1.heap.size,1,none⟩) (.inl (by show w1.heap.size<=w1.heap.size;omega)) _) ?_;clear Al;refine dG ?_;go_wp2_with fail;go_meet;have vw:=AV.lt g rfl;have tm:Af w1 wb:=((((zr (λ _=>False) w1).drew).alloc _).alloc _).grown Cn (λ j hj=>.inr (by cases hj;simp));have nW:g≠w1.heap.size:=by
    rcases Iy with h | h
    ·have h':(w1.heap.size+1)=g:=M_ (show some (w1.heap.size+1)=some g from h);omega
    ·simp at h;omega
   refine⟨w1.heap.size,g,cc,rfl,(bW.set 0 (i64 n)).set 1 _,by omega,?_,λ h=>nW h.symm,(tm.setCell (p:=⟨w1.heap.size,0,none⟩) (.inr (by show w1.heap.size<=w1.heap.size;omega)) _).setCell (p:=⟨w1.heap.size,1,none⟩) (.inr (by show w1.heap.size<=w1.heap.size;omega)) _⟩;exact Kept.own (F:=(·=w1.heap.size)) (((zr (·=w1.heap.size) wb).setCell (p:=⟨w1.heap.size,0,none⟩) (.inl rfl) _).setCell (p:=⟨w1.heap.size,1,none⟩) (.inl rfl) _) AV (λ j hj h=>nW ((M_ (show some g=some j from hj)).trans h))
 case rest =>
  obtain⟨gG,g,cc,rfl,bG,hgG,HO,Bn,k2⟩:=hcut;have hg:=World.ownsRow.lt HO.out g rfl;obtain⟨g0,g1⟩:=BP bG;have x2:wc.cell? ⟨g,e*3+2,none⟩=some (u64 ((es.getD e (0,0,0)).2.2)):=by
   have h:=World.ownsRow.cellAt HO.out (e*3+2) (by omega);rw[h,BM es e 2 _ (zq Jv.out) (by omega),List.getD_eq_getElem?_getD,zq Jv.out];rfl
  have y2:=World.ownsRow.frozenAt HO.out (e*3+2);have EG:¬ w.heap.size+1=g:=(by omega);have Hs:¬ g=w.heap.size+1:=(by omega);have hn3:¬ gG=g:=Bn;have hn4:¬ g=gG:=λ h=>Bn h.symm;have eU:=(b1.grew k2).far (p:=⟨g,e*3+2,none⟩) EG (u64 x);have d0:=eU.cell 0;have d1:=eU.cell 1;have f0:=eU.frozen 0;have f1:=eU.frozen 1;simp only[List.getElem?_toArray,List.getElem?_cons_zero,List.getElem?_cons_succ]at d0 d1;obtain⟨q0,q1⟩:=BP (((eU.set 0 (i64 n)).set 1 (.slice (some ⟨g,0,none⟩) L cc)));have bGx:=bG.far (p:=⟨g,e*3+2,none⟩) hn3 (u64 x);obtain⟨z0,z1⟩:=BP bGx;have e8:=hK1.trans k2;clear Bn k2 hK1;go_wp2_with fail;refine zy (v:=.tuple #[.agg #[i64 n,.slice (some ⟨g,0,none⟩) L cc],i64 0]) (by simp[results,I_,go_sem,q0,q1]) rfl ⟨_,rfl,?_,?_⟩
  ·have h1:=(World.ownsRow.stored HO.out (e*3+2) (u64 x)).1;rw[Fg es e x Jv.out]at h1;have h2:AP (wc.setCell ⟨g,e*3+2,none⟩ (u64 x)) w1.heap.size (.slice (some ⟨g,0,none⟩) L cc) (Cl es e x):=by
    unfold AP
    rw[BF,HL.out]
    exact h1
   refine AD (Kept.own (F:=(·=w.heap.size+1)) (((zr (·=w.heap.size+1) _).setCell (p:=⟨w.heap.size+1,0,none⟩) (.inl rfl) _).setCell (p:=⟨w.heap.size+1,1,none⟩) (.inl rfl) _) h2 (λ k hk h=>?_)) (by omega);have h3:k=w.heap.size+1:=h;have h4:g=k:=M_ (show some g=some k from hk);omega
  ·exact((e8.setCell (p:=⟨g,e*3+2,none⟩) (.inr (by show w.heap.size<=g;omega)) _).setCell (p:=⟨w.heap.size+1,0,none⟩) (.inr (by show w.heap.size<=w.heap.size+1;omega)) _).setCell (p:=⟨w.heap.size+1,1,none⟩) (.inr (by show w.heap.size<=w.heap.size+1;omega)) _
theorem aS {N:Nat} {es:List AJ} {k p q r:Nat} (h:es[k]? = some ((p:Int),(q:Int),(r:Int))):(AK N es).take (2+3*(k+1))=(AK N es).take (2+3*k)++[dec p,dec q,dec r]:=by
 obtain⟨h1,h2,h3⟩:=K7 (n:=N) h;rw[show 2+3*(k+1)=2+3*k+1+1+1 by omega,Pg,Pg,Pg,h1,h2,show 2+3*k+1+1=2+3*k+2 by omega,h3];simp
structure RwS (w:Pa) (A:Option Pd) (c N L:Nat) (es:List AJ) (k:Nat) (v:Pc) (wr:Pa):Prop where
 row:wr.ownsRow (w.heap.size+1) 9 1 v (2+3*k) (((AK N es).take (2+3*k)).map str)
 gr:Ao wr w.heap.size 24 #[i64 N,.slice A L c]
 kept:Af w wr
theorem No (A:Option Pd) (c N:Nat) (es:List AJ) (w:Pa) (he:Bo w A es) (hr:Au N es=0) (hm:es.length<=1000) :
  Pb F_ 27 #[.agg #[i64 N,.slice A es.length c]] w λ e w'=>∃ v,e=.returned (.tuple #[v,i64 0])/\Bv w' w.heap.size v (AK N es)/\Af w w':=by
 obtain⟨i0,hi,BZ,BG,B4⟩:=info_parts Cx
 have hrz:=right_zero hr
 obtain⟨w1,AT,g1,b1⟩:=zb w #[i64 N,.slice A es.length c] 24 rfl
 have HR:=zh (D7 (N:Int) A c es w1 (he.grew g1) (by omega))
 have HN1:=zh (λ W=>Ev N (by omega) W)
 have wU:=zh (λ W=>Ev es.length (by omega) W)
 obtain⟨L,hL⟩:=zn (es.length)
 rw[hL]at b1 HR wU AT hm ⊢
 rw[hr]at HR
 obtain⟨x0,x1⟩:=BP b1
 have hN4:=hrz.2.1
 have H0:=Fo he hr hL g1 b1
 have l1:(L:Int)<=1000:=by omega
 clear he hr hrz hL g1 b1
 go_enter Tryz.func27,Tryz.ntmps27
 go_wp2_with fail
 refine HR.out.mono ?_
 rintro e w2 ⟨rfl,k2⟩
 have b2:=H0.out.2.2.2.2.grew k2
 obtain⟨x0,x1⟩:=BP b2
 have H2:=BO (H0.out.2.2.2.1.trans k2) b2
 clear HR k2 b2
 go_upto_region 5 with fail
 have HC:Hid (∀ w',Af w2 w'->w'.cell? ⟨w.heap.size,0,none⟩=some (i64 N)/\w'.cell? ⟨w.heap.size,1,none⟩=some (.slice A L c)):=λ w' k=>⟨k.cell x0,k.cell x1⟩
 have gz:Af w2 w2.drew:=(zr _ _).drew
 refine rG [] (λ _=>False) ?_
 refine pG 0 15 ?_
 refine tF 1 16 HC.out ((gz)) ?_
 refine pG 3 18 ?_
 refine tF 4 19 HC.out ((gz)) ?_
 refine pG 5 20 ?_
 refine sG 2 17 (λ K Al=>?_)
 go_simp
 refine(HN1.out _).mono ?_
 rintro e y1 ⟨rfl,k1⟩
 refine Al (str (dec N)) _ (λ _=>k1) ?_
 clear Al
 simp only[sA]
 refine sG 6 21 (λ K Al=>?_)
 go_simp
 refine(wU.out _).mono ?_
 rintro e y2 ⟨rfl,k2⟩
 refine Al (str (dec L)) _ (λ _=>k2) ?_
 clear Al
 simp only[sA]
 refine sG 7 22 (λ K Al=>?_)
 go_simp
 obtain⟨y3,CR⟩:=zn (World.alloc y2 (.cells #[str (dec N),str (dec L)] 9))
 have k3:Af y2 y3:=by rw[<- CR];exact(zr _ _).alloc _
 have bv:Ao y3 (B_ y2).size 9 #[str (dec N),str (dec L)]:=by rw[<- CR];exact zv _ _ _
 rw[CR]
 refine Al (.slice (some ⟨(B_ y2).size,0,none⟩) 2 2) _ (λ _=>k3) ?_
 clear Al
 simp only[sA]
 refine pG 8 4 ?_
 refine dG ?_
 have kk:Af w2 y3:=((gz.trans k1).trans k2).trans k3
 have S0:Hid (RwS w A c N L es 0 (.slice (some ⟨(B_ y2).size,0,none⟩) 2 2) y3):=by
  refine⟨?_,H2.out.2.grew kk,H2.out.1.trans kk⟩;rw[show (AK N es).take (2+3*0)=[dec N,dec L] by unfold AK;rw[H0.out.2.2.1];rfl];refine⟨rfl,.inr ⟨_,2,#[str (dec N),str (dec L)],rfl,?_,bv,zl _,by unfold maxLen;omega,rfl,rfl⟩⟩;have q1:=H2.out.2.lt;have q2:=((gz.trans k1).trans k2).size;omega
 clear k1 k2 k3 bv gz kk HC HN1 wU
 go_wp2_with fail
 go_loopw [4,5] (λ u4 i wr=>∃ (k:Nat) (A2:Option Pd) (c2:Nat),k<=L/\i=.int .i64 k/\u4=.slice A2 (2+3*k) c2/\Hid (RwS w A c N L es k (.slice A2 (2+3*k) c2) wr)) (λ _ i _=>L-(intOf i).toNat)
 case atStart=>exact⟨0,_,2,by omega,rfl,rfl,S0⟩
 case round =>
  clear S0 x0 x1;obtain⟨k,A2,c2,hk,rfl,rfl,hS⟩:=hrel;have r1:=hS.out.gr.cell 1;simp at r1;by_cases AI:k<L
  ·as_aux_lemma =>
   have k0:(0:Int)<=(k:Int):=(by omega);have k1':(k:Int)<(L:Int):=(by omega);obtain⟨x,hx⟩:=zx (l:=es) (i:=k) (by rw[H0.out.2.2.1];exact AI);obtain⟨p,q,r,rfl,hp,hq,Gu,NQ,L8⟩:=O0 H0.out.2.1 hx;have HTk:=zh (aS (N:=N) hx);have eJ:=zh (λ W=>Ev p (by omega) W);have HP2:=zh (λ W=>Ev q (by omega) W);have HP3:=zh (λ W=>Dk r (by omega) W);obtain⟨b,off,hA,hb,c0,c1,c2'⟩:=(H0.out.1.grew hS.out.kept) k _ hx;subst hA;obtain⟨n2,Hs⟩:=zn (2+3*k);have AX:=hS.out.row;rw[Hs]at AX hS ⊢;have hlenb:n2<=3002:=(by omega);have wU:=zh Hs;have HO:=zh AX;have HG:=zh hS.out.gr;have HK:=zh hS.out.kept;have hbw:b<w.heap.size:=by
    obtain⟨b',jV,Js,IT,_⟩:=H0.out.1 k _ hx;cases Js;exact IT
   have zU:Hid (∀ w',Kept (λ j=>(N_ A2 n2 c2).ownBlock=some j) wr w'->w'.cell? ⟨w.heap.size,1,none⟩=some (.slice (some ⟨b,off,none⟩) L c)/\w'.cell? ⟨b,off+k*3,none⟩=some (i64 p)/\w'.cell? ⟨b,off+k*3+1,none⟩=some (i64 q)/\w'.cell? ⟨b,off+k*3+2,none⟩=some (u64 r)):=λ w' kk=>by
    have no:∀ j,j<=w.heap.size->¬ (N_ A2 n2 c2).ownBlock=some j:=λ j hj h=>by have:=(HO.out.lt _ h).1;omega
    exact⟨kk.cell r1 (no _ (zl _)),kk.cell c0 (no b (by omega)),kk.cell c1 (no b (by omega)),kk.cell c2' (no b (by omega))⟩
   have gz:Kept (λ j=>(N_ A2 n2 c2).ownBlock=some j) wr wr.drew:=(zr _ _).drew;have J0:Af wr wr.drew:=(zr _ _).drew;clear hx hp hq Gu NQ L8 c0 c1 c2' hb AX hS hbw Hs;go_upto_region 9 with fail;refine rG [] (λ j=>(N_ A2 n2 c2).ownBlock=some j) ?_;refine pG 0 30 ?_;refine pG 1 31 ?_;refine tF 2 32 zU.out ((gz)) ?_;refine pG 3 33 ?_;refine pG 4 34 ?_;refine pG 5 35 ?_;refine tF 6 36 zU.out ((gz)) ?_;refine pG 8 38 ?_;refine tF 9 39 zU.out ((gz)) ?_;refine pG 10 40 ?_;refine pG 11 41 ?_;refine pG 12 42 ?_;refine tF 13 43 zU.out ((gz)) ?_;refine pG 15 45 ?_;refine tF 16 46 zU.out ((gz)) ?_;refine pG 17 47 ?_;refine pG 18 48 ?_;refine pG 19 49 ?_;refine tF 20 50 zU.out ((gz)) ?_;refine sG 7 37 (λ K Al=>?_);go_simp;refine(eJ.out _).mono ?_;rintro e y1 ⟨rfl,oZ⟩;have k1:=Af.kept (F:=λ j=>(N_ A2 n2 c2).ownBlock=some j) oZ;refine Al (str (dec p)) _ (λ _=>k1) ?_;clear Al;simp only[sA];refine sG 14 44 (λ K Al=>?_);go_simp;refine(HP2.out _).mono ?_;rintro e y2 ⟨rfl,o6⟩;have k2:=Af.kept (F:=λ j=>(N_ A2 n2 c2).ownBlock=some j) o6;refine Al (str (dec q)) _ (λ _=>k2) ?_;clear Al;simp only[sA];refine sG 21 51 (λ K Al=>?_);go_simp;refine(HP3.out _).mono ?_;rintro e y3 ⟨rfl,FE⟩;have k3:=Af.kept (F:=λ j=>(N_ A2 n2 c2).ownBlock=some j) FE;refine Al (str (dec r)) _ (λ _=>k3) ?_;clear Al;simp only[sA];refine sG 22 52 (λ K Al=>?_);go_simp;obtain⟨y4,FB⟩:=zn (World.alloc y3 (.cells #[str (dec p),str (dec q),str (dec r)] 9));have kG4:Af y3 y4:=by rw[<- FB];exact(zr _ _).alloc _
   have k4:=Af.kept (F:=λ j=>(N_ A2 n2 c2).ownBlock=some j) kG4;have hN:Hid (∀ j u,([str (dec p),str (dec q),str (dec r)]:List Pc)[j]? = some u->y4.cell? ((⟨(B_ y3).size,0,none⟩:Pd).add j)=some u):=by rw[<- FB];exact C_ (heap_alloc_new _ (.cells #[str (dec p),str (dec q),str (dec r)] 9))
   have kG:Af wr y4:=((J0.trans oZ).trans o6 |>.trans FE).trans kG4;have oS:Hid (y4.ownsRow (w.heap.size+1) 9 1 (.slice A2 n2 c2) n2 (((AK N es).take n2).map str)):=Af.own kG HO.out;rw[FB];refine Al (.slice (some ⟨(B_ y3).size,0,none⟩) 3 3) _ (λ _=>k4) ?_;clear Al;simp only[sA];refine sG 23 53 (λ K Al=>?_);refine wp_append_lies _ (.tmp 30) (.tmp 52) 40 (by rfl) (w.heap.size+1) 9 i0 (.string ⟨#[]⟩) 1 16 Tryz.underlying40 hi BZ BG B4 (by rfl) (by omega) (.slice A2 n2 c2) n2 (((AK N es).take n2).map str) (by rfl) oS.out ⟨(B_ y3).size,0,none⟩ 3 3 [str (dec p),str (dec q),str (dec r)] (by rfl) (by rfl) hN.out ?_ (by omega) ?_ ?_ ?_ _ rfl ?_
   ·intro u hu;simp at hu;rcases hu with rfl | rfl | rfl<;>rfl
   ·unfold maxLen;omega
   ·omega
   ·have:=kG.size;have:=HG.out.lt;omega
   intro g cp wa Bj AQ _ _;refine Al _ _ (λ _=>(zr _ _).grown AQ (λ k hk=>.inl hk)) ?_;clear Al;simp only[sA];refine pG 24 4 ?_;refine dG ?_;have kA:Kept (λ j=>(N_ A2 n2 c2).ownBlock=some j) wr wa:=(Af.kept kG).grown AQ (λ k hk=>.inl hk);have CH:Hid (RwS w (some ⟨b,off,none⟩) c N L es (k+1) (.slice (some ⟨g,0,none⟩) (n2+3) cp) wa):=by
    refine⟨?_,HG.out.kept kA (λ h=>by have:=(HO.out.lt _ h).1;omega),HK.out.then kA (λ i hi h=>by have:=(HO.out.lt i h).1;omega)⟩;rw[HTk.out,wU.out,show 2+3*(k+1)=n2+3 by have:=wU.out;omega,List.map_append];exact Bj
   have vB:2+3*(k+1)=n2+3:=by have:=wU.out;omega
   clear Bj AQ kA oS hN kG;go_wp2_with fail;go_roundw
   case rel=>exact⟨k+1,some ⟨g,0,none⟩,cp,by omega,by go_num,by rw[vB],by rw[vB];exact CH⟩
   case measure=>simp[intOf];omega
  ·as_aux_lemma =>
   obtain rfl:k=L:=(by omega);have hlen:(AK N es).length=2+3*k:=(by rw[CY,H0.out.2.2.1]);have AX:=hS.out.row;rw[show (AK N es).take (2+3*k)=AK N es from Pk (by omega)]at AX;have HF:Hid (Bv wr w.heap.size (.slice A2 (2+3*k) c2) (AK N es)/\Af w wr):=⟨by unfold Bv;rw[hlen];exact AD AX (Nat.le_succ _),hS.out.kept⟩;clear AX hlen hS;go_wp2_with fail;go_ret2;exact⟨_,rfl,HF.out⟩
theorem KF (n:Int) (A:Option Pd) (c:Nat) (es:List AJ) (e x:Int) (w:Pa) (h:Bo w A es) (hl:es.length<=100000) (hr:Au n es=0) (f:Nat) (hf:(¬ (0<=e/\e<es.length)/\f=8)\/(0<=e/\e<es.length)/\¬ (1<=x/\x<=4294967296)/\f=2) :
  Pb F_ 16 #[.agg #[i64 n,.slice A es.length c],i64 e,u64 x] w λ r w'=>r=.returned (.tuple #[.agg #[i64 0,.slice none 0 0],i64 f])/\Af w w':=by
 obtain⟨T,hT⟩:=zn (w.heap.size)
 obtain⟨w1,AT⟩:=zn ((w.alloc (.cells #[i64 n,.slice A es.length c] 24)).alloc (.cells #[i64 0,.slice none 0 0] 24))
 have g1:Af w w1:=by rw[<- AT];exact((zr _ _).alloc _).alloc _
 have b0:Ao w1 T 24 #[i64 n,.slice A es.length c]:=by rw[<- AT,<-hT];exact(zv w _ _).alloc _
 have b1:Ao w1 (T+1) 24 #[i64 0,.slice none 0 0]:=by
  rw[<- AT,<-hT];have h:=zv (w.alloc (.cells #[i64 n,.slice A es.length c] 24)) 24 #[i64 0,.slice none 0 0];rw[A_]at h;exact h
 have hC:=zh (D7 n A c es w1 (h.grew g1) hl)
 rw[hr]at hC
 have fh:=zh (λ W=>DJ x W)
 obtain⟨L,hL⟩:=zn (es.length)
 rw[hL]at hC b0 AT hf hl ⊢
 obtain⟨c0,c1⟩:=BP b0
 have fin:Hid (∀ w2,Af w1 w2->Ao w2 (T+1) 24 #[i64 0,.slice none 0 0]/\Ao w2 T 24 #[i64 n,.slice A L c]/\Af w (w2.setCell ⟨T+1,0,none⟩ (i64 0) |>.setCell ⟨T+1,1,none⟩ (.slice none 0 0))/\Ao ((w2.setCell ⟨T+1,0,none⟩ (i64 0)).setCell ⟨T+1,1,none⟩ (.slice none 0 0)) (T+1) 24 #[i64 0,.slice none 0 0]):=λ w2 k=>by
  refine⟨b1.grew k,b0.grew k,((g1.trans k).setCell (p:=⟨T+1,0,none⟩) (.inr (by show w.heap.size<=T+1;omega)) _).setCell (p:=⟨T+1,1,none⟩) (.inr (by show w.heap.size<=T+1;omega)) _,?_⟩;have:=((b1.grew k).set 0 (i64 0)).set 1 (.slice none 0 0);simpa using this
 clear h hr b0 b1 g1 hL
 go_enter Tryz.func16,Tryz.ntmps16
 go_wp2_with fail
 have e0:(w.alloc (.cells #[.int .i64 n,.slice A L c] 24)).alloc (.cells #[.int .i64 0,.slice none 0 0] 24)=w1:=AT
 try rw [e0]
 try rw [hT]
 clear e0 AT
 refine hC.out.mono ?_
 rintro r w2 ⟨rfl,k2⟩
 obtain⟨d1,d0,hg,hb⟩:=fin.out w2 k2
 have x0:=d1.cell 0
 have x1:=d1.cell 1
 have x2:=d1.frozen 0
 have x3:=(d1.set 0 (i64 0)).frozen 1
 have y1:=d0.cell 1
 simp at x0 x1 y1
 obtain⟨r0,r1⟩:=BP hb
 rcases hf with ⟨he,rfl⟩ | ⟨he,hx,rfl⟩
 ·have HF:=zh hg;rcases Pq e 0 with h0 | h0
  ·have a1:decide (e<0)=true:=zt h0;clear he hg hb d1 d0 fin hC fh c0 c1;go_wp2_with fail;exact zy (v:=.tuple #[.agg #[i64 0,.slice none 0 0],i64 8]) (by simp[results,I_,go_sem,r0,r1]) rfl ⟨rfl,HF.out⟩
  ·have a1:decide (e<0)=false:=zf (by omega);have a2:(L:Int)<=e:=(by omega);clear he hg hb d1 d0 fin hC fh c0 c1;go_wp2_with fail;exact zy (v:=.tuple #[.agg #[i64 0,.slice none 0 0],i64 8]) (by simp[results,I_,go_sem,r0,r1]) rfl ⟨rfl,HF.out⟩
 ·rw[zf hx]at fh;have a1:decide (e<0)=false:=zf (by omega);have a2:¬ (L:Int)<=e:=(by omega);have HF:=zh hg;have HW:=zh (fh.out w2);clear he hg hb d1 d0 fin hC fh c0 c1 hx;go_wp2_with fail;refine HW.out.mono ?_;rintro r w3 ⟨rfl,rfl⟩;go_wp2_with fail;exact zy (v:=.tuple #[.agg #[i64 0,.slice none 0 0],i64 2]) (by simp[results,I_,go_sem,r0,r1]) rfl ⟨rfl,HF.out⟩
def jC (n:Int) (L:Nat):Bool:=decide ((n<=100\/4096<n)/\L<=300)
theorem tH (n:Int) (A:Option Pd) (L c:Nat) (w:Pa) (h:n<=100\/4096<n) (hL:L<=300):Pb F_ 45 #[.agg #[i64 n,.slice A L c]] w λ e w'=>e=.returned (.bool true)/\Af w w':=by
 have hK:Af w (w.alloc (.cells #[i64 n,.slice A L c] 24)):=(zr _ _).alloc _;rcases Pq 100 n with h1 | h1
 ·have h2:4096<n:=(by omega);clear h;go_enter J_,H_;go_wp2;go_ret;exact⟨by simp<;>omega,hK⟩
 ·clear h;go_enter J_,H_;go_wp2;go_ret;exact⟨by simp<;>omega,hK⟩
theorem yX (n:Int) (A:Option Pd) (L c:Nat) (w:Pa) (hm:L<=9223372036854775807) (h:¬ ((n<=100\/4096<n)/\L<=300)):Pb F_ 45 #[.agg #[i64 n,.slice A L c]] w λ e w'=>e=.returned (.bool false)/\Af w w':=by
 have hK:Af w (w.alloc (.cells #[i64 n,.slice A L c] 24)):=(zr _ _).alloc _;rcases Pq 100 n with h1 | h1
 ·rcases Pq 4096 n with h2 | h2
  ·have h3:¬ L<=300:=(by omega);have h4:(300:Int)<(L:Int):=(by omega);clear h;go_enter J_,H_;go_wp2;go_ret;exact⟨by simp<;>omega,hK⟩
  ·clear h;go_enter J_,H_;go_wp2;go_ret;exact⟨by simp<;>omega,hK⟩
 ·have h3:¬ L<=300:=(by omega);have h4:(300:Int)<(L:Int):=(by omega);clear h;go_enter J_,H_;go_wp2;go_ret;exact⟨by simp<;>omega,hK⟩
theorem tE (n:Int) (A:Option Pd) (L c:Nat) (w:Pa) (hm:L<=9223372036854775807):Pb F_ 45 #[.agg #[i64 n,.slice A L c]] w λ e w'=>e=.returned (.bool (jC n L))/\Af w w':=by
 by_cases h:(n<=100\/4096<n)/\L<=300
 ·rw[jC,zt h];exact tH n A L c w h.1 h.2
 ·rw[jC,zf h];exact yX n A L c w hm h
def jD (n:Int) (L:Nat):Bool:=jC n L&&(decide (n<=7)||decide (4096<n))&&decide (L<=22)
theorem fN (n:Int) (A:Option Pd) (L c:Nat) (w:Pa) (hm:L<=9223372036854775807):Pb F_ 23 #[.agg #[i64 n,.slice A L c]] w λ e w'=>e=.returned (.bool (jD n L))/\Af w w':=by
 have hK:Af w (w.alloc (.cells #[i64 n,.slice A L c] 24)):=(zr _ _).alloc _;have b0:=zv w 24 #[i64 n,.slice A L c];have HL:=zh (tE n A L c (w.alloc (.cells #[i64 n,.slice A L c] 24)) hm);obtain⟨w1,AT⟩:=zn (w.alloc (.cells #[i64 n,.slice A L c] 24));obtain⟨T,hT⟩:=zn (w.heap.size);rw[AT]at hK b0 HL;rw[hT]at b0;have HB:=BO hK b0;obtain⟨c0,c1⟩:=BP b0;have hd:decide ((L:Int)<=22)=decide (L<=22):=decide_eq_decide.2 (by omega);unfold jD;obtain⟨b5,Jt⟩:=zn (jC n L);rw[Jt]at HL ⊢;clear hK b0 Jt;go_enter Tryz.func23,Tryz.ntmps23;go_wp2_with fail;have e1:w.alloc (.cells #[.int .i64 n,.slice A L c] 24)=w1:=AT;try rw [e1]
 try rw [hT]
 clear e1 AT hT;refine HL.out.mono ?_;rintro e w2 ⟨rfl,k2⟩;have b2:=HB.out.2.grew k2;obtain⟨x0,x1⟩:=BP b2;have HF:Hid (Af w w2):=HB.out.1.trans k2;clear k2 b2 HL;cases b5 with
 | false =>
  go_wp2_with fail;go_ret;exact⟨by simp,HF.out⟩
 | true =>
  rcases Pq 7 n with h1 | h1
  ·have a1:decide (n<=7)=false:=zf (by omega);have a1':¬ n<=7:=(by omega);rcases Pq 4096 n with h2 | h2
   ·have a2:decide (4096<n)=true:=zt h2;go_wp2_with fail;go_ret;exact⟨by simp[a1,a2,hd],HF.out⟩
   ·have a2:decide (4096<n)=false:=zf (by omega);go_wp2_with fail;go_ret;exact⟨by simp[a1,a2],HF.out⟩
  ·have a1:decide (n<=7)=true:=zt h1;go_wp2_with fail;go_ret;exact⟨by simp[a1,hd],HF.out⟩
structure uP (w:Pa) (k:Nat) (v:Pc) (wr:Pa) (zs:List Int):Prop where
 own:AS wr w.heap.size v zs
 few:zs.length<=k
 kept:Af w wr
theorem uP.more {w wr w5:Pa} {k:Nat} {v v':Pc} {zs:List Int} {x:Int} (h:uP w k v wr zs) (A8:w5.ownsRow w.heap.size 3 1 v' (zs.length+1) (zs.map i64++[i64 x])) (Cn:(wr.alloc (.cells #[i64 x] 3)).grownBy w5 v.ownBlock):uP w (k+1) v' w5 (zs++[x]):=by
 refine⟨?_,by have:=h.few;simp;omega,(h.kept.trans (DL _ _ _)).grown Cn λ j hj=>.inr (Ap h.own hj).1⟩;unfold AS;simpa using A8
def RkE (w:Pa) (e:Ending) (w':Pa):Prop:=∃ (A':Option Pd) (L' c':Nat) (f:Int),e=.returned (.tuple #[.slice A' L' c',i64 f])/\Af w w'
theorem RkE.of {w wx:Pa} (A':Option Pd) (L' c':Nat) (f:Int) (g:Af w wx):RkE w (.returned (.tuple #[.slice A' L' c',i64 f])) wx:=⟨_,_,_,_,rfl,g⟩
theorem KD (l:List UInt8) (hl:l.length<=500) (w:Pa):Pb F_ 76 #[str l] w (RkE w):=by
 obtain⟨i0,hi,BZ,BG,B4⟩:=info_parts info_int;have HP:=zh (λ (x:List UInt8) (hx:x.length<=500) W=>CS x (by omega) W);obtain⟨L,hL⟩:=zn (l.length);have Da:(bs l).size=L:=(by rw[Bb,hL]);have H0:=zh hL;rw[hL]at hl;clear hL;have S0:Hid (∃ zs,uP w 0 (.slice none 0 0) w zs):=⟨[],⟨rfl,.inl ⟨rfl,rfl⟩⟩,zl _,zr _ _⟩;go_enter Tryz.func76,Tryz.ntmps76;go_wp2_with fail;go_loopw [4,5,6,7,8,9] (λ v4 v5 v6 v7 v8 v9 wr=>∃ (k m:Nat) (b:Bool),k<=L+1/\m<=k/\v7=.int .i64 k/\v5=.int .i64 m/\v6=.bool b/\Hid (∃ zs,uP w k v4 wr zs)) (λ _ _ _ v7 _ _ _=>L+1-(intOf v7).toNat)
 case atStart=>exact⟨0,0,false,by omega,by omega,rfl,rfl,rfl,S0⟩
 case round =>
  clear S0;obtain⟨k,m,b,hk,hm,rfl,rfl,rfl,hS⟩:=hrel;by_cases hgo:k<=L/\0<L
  ·obtain⟨hle,fb⟩:=hgo;have k8:(0:Int)<(L:Int):=(by omega);have k9:decide ((k:Int)<=(L:Int))=true:=zt (by omega);by_cases AI:k<L
   ·have k0:(0:Int)<=(k:Int):=(by omega);have k1:(k:Int)<(L:Int):=(by omega);obtain⟨c,hc⟩:=zx (l:=l) (i:=k) (by rw[H0.out];exact AI);have LZ:=Cr l k hc;clear hc;by_cases fj:(c.toNat:Int)=44
    ·have y1:((c.toNat:Int) != 44)=false:=(by simpa using fj);clear fj;obtain⟨pc,yA⟩:=zn ((l.drop m).take (k-m));have lF:=Ff l m k (by omega) (by rw[H0.out];omega);rw[yA]at lF;have HPc:=zh (λ W=>HP.out pc (by rw[<- yA,Pf,Pm,H0.out];omega) W);obtain⟨zs,S⟩:=hS.out;obtain⟨A,cc,rfl⟩:=At S.own;have HS:=zh S;have Fy:zs.length<=501:=Nat.le_trans S.few (by omega);have hb0:w.heap.size<=wr.heap.size:=S.kept.size;clear S hS yA;go_wp2_with fail;refine(HPc.out _).mono ?_;rintro e w9 ⟨n,f,rfl,rfl⟩;clear HPc;by_cases ru:f=3
     ·subst ru;have HF:=zh (RkE.of none 0 0 3 HS.out.kept);go_wp2_with fail;go_ret2;exact HF.out
     ·have y3:(f==3)=false:=(by simpa using ru);obtain⟨n',rB⟩:∃ n',IntKind.i64.wrap n=n':=⟨_,rfl⟩;obtain⟨x1,d1⟩:=zn ((f != 0));obtain⟨x2,d2⟩:=zn (decide (4611686018427387904<n));have HA:Hid (AS (wr.alloc (.cells #[i64 n'] 3)) w.heap.size (.slice A zs.length cc) zs/\(∀ j u,([i64 n']:List Pc)[j]? = some u->(wr.alloc (.cells #[i64 n'] 3)).cell? ((⟨wr.heap.size,0,none⟩:Pd).add j)=some u)/\(∀ u∈([i64 n']:List Pc),u.oneCell'=true)/\w.heap.size<=(wr.alloc (.cells #[i64 n'] 3)).heap.size):=⟨Af.own (DL _ _ _) HS.out.own,C_ (heap_alloc_new _ (.cells #[i64 n'] 3)),(by simp[O_]),by rw[A_];omega⟩;clear ru;cases b<;>cases x1<;>cases x2 <;>
      ·go_wp2_with (at_builtin;refine wpList_append_own _ rfl (.tmp 50) (.tmp 53) 26 (by rfl) w.heap.size 3 i0 (.int .i64 0) 1 8 K_ hi BZ BG B4 (by rfl) (by omega) _ _ _ rfl HA.out.1 ⟨wr.heap.size,0,none⟩ 1 1 [i64 n'] rfl (by rfl) HA.out.2.1 HA.out.2.2.1 (by unfold maxLen;omega) (by omega) HA.out.2.2.2 ?_;intro v' w5 A8 Cn _;have S':=zh (⟨_,HS.out.more A8 Cn⟩:∃ zs,uP w (k+1) v' w5 zs);clear A8 Cn);go_roundw
       case rel=>exact⟨k+1,k+1,_,by first | done | omega,by first | done | omega,by go_num,by go_num,rfl,S'⟩
       case measure=>simp[intOf]<;>omega
    ·have y1:((c.toNat:Int) != 44)=true:=(by simpa using fj);have S':Hid (∃ zs,uP w (k+1) u4 wr zs):=hS.out.imp λ zs h=>{ h with few:=Nat.le_succ_of_le h.few };clear fj hS;go_wp2_with fail;go_roundw
     case rel=>exact⟨k+1,m,b,by omega,by omega,by go_num,rfl,rfl,S'⟩
     case measure=>simp[intOf];omega
   ·obtain rfl:k=L:=(by omega);have k0:(0:Int)<=(k:Int):=(by omega);have y0:decide ((k:Int)<(k:Int))=false:=zf (by omega);obtain⟨pc,yA⟩:=zn ((l.drop m).take (k-m));have lF:=Ff l m k (by omega) (by rw[H0.out];omega);rw[yA]at lF;have HPc:=zh (λ W=>HP.out pc (by rw[<- yA,Pf,Pm,H0.out];omega) W);obtain⟨zs,S⟩:=hS.out;obtain⟨A,cc,rfl⟩:=At S.own;have HS:=zh S;have Fy:zs.length<=501:=Nat.le_trans S.few (by omega);have hb0:w.heap.size<=wr.heap.size:=S.kept.size;clear S hS yA;go_wp2_with fail;refine(HPc.out _).mono ?_;rintro e w9 ⟨n,f,rfl,rfl⟩;clear HPc;by_cases ru:f=3
    ·subst ru;have HF:=zh (RkE.of none 0 0 3 HS.out.kept);go_wp2_with fail;go_ret2;exact HF.out
    ·have y3:(f==3)=false:=(by simpa using ru);obtain⟨n',rB⟩:∃ n',IntKind.i64.wrap n=n':=⟨_,rfl⟩;obtain⟨x1,d1⟩:=zn ((f != 0));obtain⟨x2,d2⟩:=zn (decide (4611686018427387904<n));have HA:Hid (AS (wr.alloc (.cells #[i64 n'] 3)) w.heap.size (.slice A zs.length cc) zs/\(∀ j u,([i64 n']:List Pc)[j]? = some u->(wr.alloc (.cells #[i64 n'] 3)).cell? ((⟨wr.heap.size,0,none⟩:Pd).add j)=some u)/\(∀ u∈([i64 n']:List Pc),u.oneCell'=true)/\w.heap.size<=(wr.alloc (.cells #[i64 n'] 3)).heap.size):=⟨Af.own (DL _ _ _) HS.out.own,C_ (heap_alloc_new _ (.cells #[i64 n'] 3)),(by simp[O_]),by rw[A_];omega⟩;clear ru;cases b<;>cases x1<;>cases x2 <;>
     ·go_wp2_with (at_builtin;refine wpList_append_own _ rfl (.tmp 50) (.tmp 53) 26 (by rfl) w.heap.size 3 i0 (.int .i64 0) 1 8 K_ hi BZ BG B4 (by rfl) (by omega) _ _ _ rfl HA.out.1 ⟨wr.heap.size,0,none⟩ 1 1 [i64 n'] rfl (by rfl) HA.out.2.1 HA.out.2.2.1 (by unfold maxLen;omega) (by omega) HA.out.2.2.2 ?_;intro v' w5 A8 Cn _;have S':=zh (⟨_,HS.out.more A8 Cn⟩:∃ zs,uP w (k+1) v' w5 zs);clear A8 Cn);go_roundw
      case rel=>exact⟨k+1,k+1,_,by first | done | omega,by first | done | omega,by go_num,by go_num,rfl,S'⟩
      case measure=>simp[intOf]<;>omega
  ·have kx:(k=0/\L=0)\/(decide ((k:Int)<=(L:Int))=false/\¬ k<=L/\decide (k<=L)=false):=by
    by_cases h:k<=L
    ·exact .inl ⟨by omega,by omega⟩
    ·exact .inr ⟨zf (by omega),h,zf h⟩
   obtain⟨zs,S⟩:=hS.out;obtain⟨A,cc,rfl,AX⟩:=AS.row S.own;have HR:=zh (FX A cc zs wr AX (by have:=S.few;omega));have HF:=zh (λ A' L' c' f=>RkE.of A' L' c' f S.kept);obtain⟨rb,fz⟩:=zn (Gz zs);rw[fz]at HR;obtain⟨M,hM⟩:=zn (zs.length);rw[hM]at HR ⊢;clear S hS AX fz hM hgo;cases b
   ·rcases kx with ⟨rfl,rfl⟩ | ⟨k9,k10,k11⟩<;>cases rb <;>
    ·go_wp2_with fail;refine HR.out.mono ?_;rintro e w9 ⟨rfl,rfl⟩;clear HR;go_wp2_with fail;go_ret2;exact HF.out _ _ _ _
   ·rcases kx with ⟨rfl,rfl⟩ | ⟨k9,k10,k11⟩ <;>
    ·go_wp2_with fail;go_ret2;exact HF.out _ _ _ _
end Go.Proofs.YtepelooebggliaaGreatDoor
namespace Go.Proofs.YtepelooebggliaaGreatDoor
open Go.ChangeShapes Go.WideShapes Go.RowKit Go.Deep
def fZ (w:Pa) (A:Option Pd) (n:Nat):Int :=
 match A with
 | some a=>intOf ((w.cell? (a.add n)).getD (.bool false))
 | none=>0
section
variable {H:Type} {enc:TypeId×Pc->H} {P:Program} {w:Pa} {base:Nat} {spare:Nat->Bool} {held:Bool}
theorem Ie {t e:TypeId} {fs:Array Field} {fuel:Nat} {A:Option Pd} {len cap:Nat} {x:DataW H×List Pe} (ht:P.underlying t=some (.slice e)) (he:P.underlying e=some (.struct fs))
  (Kc:oneCellFields P fs=true) (hC:P.cellsOf e=fs.size) (BR:0<fs.size) (h:Pr enc P w base spare held fuel t [.slice A len cap]=some x) :
  len<=cap/\cap<=maxLen/\(A=none->len=0)/\∀ i,i<len->∃ b off,A=some ⟨b,off,none⟩/\b<w.heap.size /\
   ∀ (j:Nat) (f:Field),fs[j]? = some f->∃ (v:Pc) (y:DataW H×List Pe) (n:Nat),w.cell? ⟨b,off+(i*fs.size+j),none⟩=some v/\Pr enc P w base spare held n f.type [v]=some y:=by
 rcases open_slice ht h with ⟨DR,_⟩ | ⟨a,len',su,m,n,D,Pl,DR,hb,hl,hm,Jy,hx,hi⟩
 ·simp only[Po,Value.slice.injEq,and_true]at DR;obtain⟨rfl,rfl,rfl⟩:=DR;exact⟨zl _,by unfold maxLen;omega,λ _=>rfl,λ i hi=>absurd hi (by omega)⟩
 ·simp only[Po,Value.slice.injEq,and_true]at DR;obtain⟨rfl,rfl,rfl⟩:=DR;have hmle:len<=m:=by rw[Jy];split<;>omega
  have key:∀ i,i<len->∀ (j:Nat) (f:Field),fs[j]? = some f->∃ (v:Pc) (y:DataW H×List Pe) (n:Nat),w.cell? (a.add (i*fs.size+j))=some v/\Pr enc P w base spare held n f.type [v]=some y:=by
   intro i D6 j f hj;obtain⟨lA,hc,ht'⟩:=hi i (by omega);rw[hC]at hc;obtain⟨ys,n',rB,hy,hlen,hyl,hf⟩:=DataW.trod_struct he ht';obtain⟨_,hcl,LZ⟩:=World.cells?_some hc;obtain⟨ho,hk⟩:=hone_of Kc j f hj;have tj:j<fs.size:=(Array.getElem?_eq_some_iff.1 hj).1;have BI:=LZ j tj;have hv:lA[j]? = some (lA[j]'(by omega)):=zq (by omega);have h1:=hf j f hj;rw[ho,hk]at h1;have zAr:(lA.drop j).take 1=[lA[j]'(by omega)]:=by
    rw[List.drop_eq_getElem_cons (by omega)];rfl
   rw[zAr]at h1;have hys:ys[j]? = some (ys[j]'(by omega)):=zq (by omega);refine⟨_,_,_,?_,h1.trans hys⟩;rw[<- Go.Deep.add_add,BI,hv]
  refine⟨hl,hm,(λ h=>by cases h),λ i D6=>?_⟩;obtain⟨f0,dh⟩:∃ f,fs[0]? = some f:=⟨_,Array.getElem?_eq_getElem BR⟩;obtain⟨v0,_,_,J4,_⟩:=key 0 (by omega) 0 f0 dh;rw[Nat.zero_mul,Nat.add_zero]at J4;obtain⟨b,off,rfl⟩:=ED J4;refine⟨b,off,rfl,?_,λ j f hj=>?_⟩
  ·have:=World.block_lt_of_cell? _ _ (Hm J4);simpa using this
  ·obtain⟨v,y,n2,hc,hy⟩:=key i D6 j f hj;exact⟨v,y,n2,Hm hc,hy⟩
theorem zo {b off n:Nat} {k:IntKind} {x:Int} (h:w.cell? ⟨b,off+n,none⟩=some (.int k x)):fZ w (some ⟨b,off,none⟩) n=x:=by
 have e:(⟨b,off,none⟩:Pd).add n=⟨b,off+n,none⟩:=by unfold Addr.add;split<;>simp_all
 simp only[fZ,e,h,Option.getD_some,intOf]
theorem Kg {t:TypeId} {k:IntKind} {b off n m:Nat} {v:Pc} {y:DataW H×List Pe} (ht:P.underlying t=some (.int k)) (hc:w.cell? ⟨b,off+n,none⟩=some v) (h:Pr enc P w base spare held m t [v]=some y) :
  w.cell? ⟨b,off+n,none⟩=some (.int k (fZ w (some ⟨b,off,none⟩) n))/\(Lit.int k (fZ w (some ⟨b,off,none⟩) n)).wf=true:=by
 obtain⟨x,hx,_,hw⟩:=DataW.trod_int ht h
 simp only[Po,and_true]at hx
 subst hx
 rw[zo hc]
 exact⟨hc,hw⟩
end
end Go.Proofs.YtepelooebggliaaGreatDoor
namespace Go.Proofs.YtepelooebggliaaGreatDoor
open Go.RowKit
def Kl (n:Int) (L M R:Nat):Bool:=jD n L&&decide (M<=20)&&decide (R<=60)
theorem jJ (n:Int) (A A2 A3:Option Pd) (L c M c2 R c3:Nat) (w:Pa) (hm:L<=9223372036854775807):Pb F_ 5 #[.agg #[i64 n,.slice A L c,.slice A2 M c2,.slice A3 R c3]] w λ e w'=>e=.returned (.bool (Kl n L M R))/\Af w w':=by
 have b0:=zv w 28 #[i64 n,.slice A L c,.slice A2 M c2,.slice A3 R c3];obtain⟨w1,AT,hK⟩:=zg w (.cells #[i64 n,.slice A L c,.slice A2 M c2,.slice A3 R c3] 28);obtain⟨bb,IU⟩:=zn (jD n L);have HL:=zh (fN n A L c w1 hm);rw[IU]at HL;rw[AT]at b0;obtain⟨T,hT⟩:=zn (w.heap.size);rw[hT]at b0;have x0:=b0.cell 0;have x1:=b0.cell 1;simp at x0 x1;have HB:=BO b0 hK;have vy:Kl n L M R=(bb&&decide (M<=20)&&decide (R<=60)):=by unfold Kl;rw[IU]
 rw[vy];clear b0 hK IU vy;obtain⟨p,hp⟩:=zn (decide (M<=20));obtain⟨q,hq⟩:=zn (decide (R<=60));rw[hp,hq];have rE:decide ((M:Int)<=20)=p:=by rw[<- hp];congr 1;simp;omega
 have tu:decide ((R:Int)<=60)=q:=by rw[<- hq];congr 1;simp;omega
 clear hp hq;go_enter Tryz.func5,Tryz.ntmps5;go_wp2_with fail;refine HL.out.mono ?_;rintro e w2 ⟨rfl,g2⟩;have b2:=HB.out.1.grew g2;have y2:=b2.cell 2;have y3:=b2.cell 3;simp at y2 y3;have G2:Hid (Af w w2):=HB.out.2.trans g2;clear b2 g2 HL HB AT hT x0 x1;cases bb
 ·go_wp2_with fail;go_ret;exact⟨rfl,G2.out⟩
 ·cases p
  ·go_wp2_with fail;go_ret;exact⟨rfl,G2.out⟩
  ·go_wp2_with fail;go_ret;exact⟨rfl,G2.out⟩
end Go.Proofs.YtepelooebggliaaGreatDoor
namespace Go.Proofs.YtepelooebggliaaGreatDoor
open Go.ChangeShapes Go.WideShapes Go.RowKit Go.Deep Go.Joins
theorem dR {H:Type} {enc:TypeId×Pc->H} {w:Pa} {fuel:Nat} {v:Pc} {x:DataW H×List Pe} (h:Pr enc F_ w 0 (λ _=>true) true fuel 22 [v]=some x) :
  ∃ A c es,v=.slice A (Ph es) c/\Bo w A es/\(Ph es)<=9223372036854775807:=by
 have nU:∃ A len c,v=.slice A len c:=by
  rcases open_slice G_ h with ⟨DR,_⟩ | ⟨a,len,cap,m,n,D,Pl,DR,_⟩
  ·simp only[Po,and_true]at DR;exact⟨_,_,_,DR⟩
  ·simp only[Po,and_true]at DR;exact⟨_,_,_,DR⟩
 obtain⟨A,len,cap,rfl⟩:=nU
 obtain⟨h1,h2,_,h3⟩:=Ie G_ Tryz.underlying65 (by kernel_rfl) (by kernel_rfl) (by decide) h
 unfold maxLen at h2
 refine⟨A,cap,(List.range len).map λ i=>(fZ w A (i*3+0),fZ w A (i*3+1),fZ w A (i*3+2)),by simp,λ i e he=>?_,by simp;omega⟩
 have hi:i<len:=by
  have:=(List.getElem?_eq_some_iff.1 he).1;simpa using this
 simp[List.getElem?_range hi]at he
 subst he
 obtain⟨b,off,rfl,hb,hc⟩:=h3 i hi
 obtain⟨v0,y0,n0,c0,t0⟩:=hc 0 _ rfl
 obtain⟨v1,y1,n1,c1,t1⟩:=hc 1 _ rfl
 obtain⟨v2,y2,n2,c2,t2⟩:=hc 2 _ rfl
 have e0:=(Kg L_ c0 t0).1
 have e1:=(Kg L_ c1 t1).1
 have e2:=(Kg Tryz.underlying29 c2 t2).1
 exact⟨b,off,rfl,hb,e0,e1,e2⟩
end Go.Proofs.YtepelooebggliaaGreatDoor
namespace Go.Proofs.YtepelooebggliaaGreatDoor
open Go.RowKit
theorem OP (zs:List Nat) (hz:∀ n∈zs,n<18446744073709551616):(Bm (zs.map dec)).length<=zs.length*21:=by
 have h1:=Ma (zs.map dec);have h2:∀ l:List Nat,(∀ n∈l,n<18446744073709551616)->((l.map dec).map Ph).sum<=l.length*20:=λ l=>by
  induction l with
  | nil=>intro _;simp
  | cons n l ih =>
   intro h;have h1:=ih (λ m hm=>h m (by simp[hm]));have h2:=EL (h n (by simp));simp at h1 ⊢;omega
 have h3:=h2 zs hz;rw[Pn]at h1;omega
theorem ay (A:Option Pd) (c:Nat) (zs:List Nat) (w:Pa) (h:RowI w A (Bc zs)) (Be:Gz (Bc zs)=true) (hz:∀ n∈zs,n<9223372036854775808) (hl:zs.length<=1000) :
  Pb F_ 30 #[.slice A zs.length c] w λ e w'=>e=.returned (str (Bm (zs.map dec)))/\Af w w':=by
 obtain⟨L,hL⟩:=zn (zs.length)
 have fe:(Bc zs).length=L:=by simp[Bc,hL]
 have HR:=zh (λ W (k:Af w W)=>FX A c (Bc zs) W (h.grew k) (by omega))
 rw[fe,Be]at HR
 have H0:=DU h hz hL
 rw[hL]at hl ⊢
 clear h Be hz hL fe
 go_enter Tryz.func30,Tryz.ntmps30
 go_wp2_with fail
 go_loopw [3,4] (λ u3 i wr=>∃ k:Nat,k<=L/\i=.int .i64 k/\u3=str (Bm ((zs.take k).map dec))/\Hid (Af w wr)) (λ _ i _=>L-(intOf i).toNat)
 case atStart=>exact⟨0,by omega,rfl,rfl,zh (zr _ _)⟩
 case round =>
  obtain⟨k,hk,rfl,rfl,hg⟩:=hrel;by_cases AI:k<L
  ·have k0:(0:Int)<=(k:Int):=(by omega);have k1:(k:Int)<(L:Int):=(by omega);have k2:decide ((k:Int)<(L:Int))=true:=zt k1;obtain⟨x,hx⟩:=zx (l:=zs) (i:=k) (by rw[H0.out.2.2];exact AI);have hxi:(Bc zs)[k]? = some (x:Int):=by unfold Bc;rw[List.getElem?_map,hx];rfl
   have yO:=H0.out.2.1 x (zm hx);have Lz:(zs.take (k+1)).map dec=(zs.take k).map dec++[dec x]:=by rw[Pg,hx];simp
   have uI:=zh (HR.out wr hg.out);have HP:=zh (λ W=>Dk x (by omega) W);have wx:IntKind.u64.wrap (x:Int)=(x:Int):=wrapN _ (by omega);have hlen:=OP (zs.take k) (λ n hn=>by have:=H0.out.2.1 n (List.mem_of_mem_take hn);omega);have rH:(zs.take k).length<=1000:=by rw[Pf];omega
   have hdx:=EL (n:=x) (by omega);obtain⟨b,off,hA,hb,hc⟩:=(H0.out.1.grew hg.out) k _ hxi;subst hA;have HC:Hid (∀ W',Af wr W'->W'.cell? ⟨b,off+k,none⟩=some (i64 (x:Int))):=λ W' k=>k.cell hc;have HX:=BO Lz hg.out;clear hxi hx hb rH;by_cases hz:k=0
   ·subst hz;have d0:decide ((0:Int)<((0:Nat):Int))=false:=(by decide);rw[show Bm ((zs.take 0).map dec)=[] from rfl];obtain⟨z1,z2⟩:=Ez (a:=[]) (b:=dec x) (by simp;omega);have z3:bs []++bs (dec x)=bs (dec x):=by rw[By];rfl
    clear hlen;go_wp2_with fail;refine uI.out.mono ?_;rintro e w2 ⟨rfl,rfl⟩;have y:=HC.out _ (zr _ _);simp only[Nat.add_zero]at y;go_wp2_with fail;refine(HP.out _).mono ?_;rintro e w3 ⟨rfl,g3⟩;have G3:Hid (Af w w3):=hg.out.trans g3;clear g3;go_wp2_with fail;go_roundw
    case rel=>exact⟨0+1,by omega,by go_num,by rw[HX.out.1];simp[Bm,EB],G3⟩
    case measure=>simp[intOf];omega
   ·have d0:decide ((0:Int)<(k:Int))=true:=zt (by omega);have Bn:(zs.take k).map dec≠[]:=λ e=>by
     have:=congrArg Ph e
     rw[Pn,Pf,H0.out.2.2]at this
     simp at this
     omega
    have hsn:=dH Bn (dec x);obtain⟨t,ht⟩:=zn (Bm ((zs.take k).map dec));rw[ht]at hlen hsn ⊢;obtain⟨z1,z2⟩:=Ez (a:=t) (b:=[44]) (by simp;rw[Pf]at hlen;omega);obtain⟨y1,y2⟩:=Ez (a:=t++[44]) (b:=dec x) (by simp;rw[Pf]at hlen;omega);have z3:bs t++bs [44]=bs (t++[44]):=By _ _;have z4:bs (t++[44])++bs (dec x)=bs ((t++[44])++dec x):=By _ _;have e44:(⟨#[44]⟩:ByteArray)=bs [44]:=rfl;have HS:=zh hsn;clear hlen hsn Bn ht;go_wp2_with fail;refine uI.out.mono ?_;rintro e w2 ⟨rfl,rfl⟩;have y:=HC.out _ (zr _ _);go_wp2_with fail;refine(HP.out _).mono ?_;rintro e w3 ⟨rfl,g3⟩;have G3:Hid (Af w w3):=hg.out.trans g3;clear g3;go_wp2_with fail;go_roundw
    case rel=>exact⟨k+1,by omega,by go_num,by rw[HX.out.1,HS.out,List.append_cons],G3⟩
    case measure=>simp[intOf];omega
  ·obtain rfl:k=L:=(by omega);have Lz:zs.take k=zs:=Pk (by rw[H0.out.2.2];omega);rw[Lz];go_wp2_with fail;go_ret;exact⟨rfl,hg.out⟩
theorem pz (f:Int) (nm:List UInt8) (A A2 A3:Option Pd) (n c n2 c2 n3 c3:Nat) (w:Pa):Pb F_ 21 #[.agg #[i64 f,str nm,.slice A n c,.slice A2 n2 c2,.slice A3 n3 c3]] w λ e w'=>e=.returned (.agg #[i64 f,str nm,.slice A n c,.slice A2 n2 c2,.slice A3 n3 c3])/\Af w w':=by
 obtain⟨T,hT⟩:=zn (w.heap.size);obtain⟨w1,AT⟩:=zn ((w.alloc (.cells #[i64 f,str nm,.slice A n c,.slice A2 n2 c2,.slice A3 n3 c3] 42)).alloc (.cells #[.int .i64 0,.string ⟨#[]⟩,.slice none 0 0,.slice none 0 0,.slice none 0 0] 58));have g1:Af w w1:=by rw[<- AT];exact((zr _ _).alloc _).alloc _
 have b0:Ao w1 T 42 #[i64 f,str nm,.slice A n c,.slice A2 n2 c2,.slice A3 n3 c3]:=by rw[<- AT,<-hT];exact(zv w _ _).alloc _
 have b1:Ao w1 (T+1) 58 #[.int .i64 0,.string ⟨#[]⟩,.slice none 0 0,.slice none 0 0,.slice none 0 0]:=by
  rw[<- AT,<-hT];have h:=zv (w.alloc (.cells #[i64 f,str nm,.slice A n c,.slice A2 n2 c2,.slice A3 n3 c3] 42)) 58 #[.int .i64 0,.string ⟨#[]⟩,.slice none 0 0,.slice none 0 0,.slice none 0 0];rw[A_]at h;exact h
 obtain⟨x0,x1,x2,x3,x4⟩:=Lo b0;have H0:=DU g1 b1 hT;clear g1 b0 b1;go_enter Tryz.func21,Tryz.ntmps21;go_wp2_with (refine wpList_store_rowTo rfl 58 (.tmp 2) (.tmp 13) rfl rfl (T+1) #[i64 f,str nm,.slice A n c,.slice A2 n2 c2,.slice A3 n3 c3] (by rfl) (by rfl) 58 _ H0.out.2.1 (by kernel_rfl) rfl (Ay (by simp[O_])) ?_);have t:=H0.out.2.1.setRow #[i64 f,str nm,.slice A n c,.slice A2 n2 c2,.slice A3 n3 c3];obtain⟨r0,r1,r2,r3,r4⟩:=Lo t;exact zy (v:=.agg #[i64 f,str nm,.slice A n c,.slice A2 n2 c2,.slice A3 n3 c3]) (by simp[results,Tryz.results21,go_sem,r0,r1,r2,r3,r4]) rfl ⟨rfl,H0.out.1.setRow (.inr (by have:=H0.out.2.2;omega)) _⟩
theorem ee (w:Pa):Pb F_ 42 #[.slice none 0 0,.slice none 0 0] w λ e w'=>e=.returned (.bool true)/\w=w':=by
 go_enter Tryz.func42,Tryz.ntmps42;go_wp2_with fail;go_loop [5] (λ i=>i=.int .i64 0) (λ _=>0)
 case atStart=>rfl
 case round =>
  subst hrel;go_wp2_with fail;go_ret;exact⟨rfl,rfl⟩
theorem lh (w:Pa):Pb F_ 43 #[.slice none 0 0,.slice none 0 0] w λ e w'=>e=.returned (.bool true)/\w=w':=by
 go_enter Tryz.func43,Tryz.ntmps43;go_wp2_with fail;go_loop [5] (λ i=>i=.int .i64 0) (λ _=>0)
 case atStart=>rfl
 case round =>
  subst hrel;go_wp2_with fail;go_ret;exact⟨rfl,rfl⟩
theorem eh (f:Int) (w:Pa):Pb F_ 20 #[BN f,BN f] w λ e w'=>e=.returned (.bool true)/\Af w w':=by
 obtain⟨T,hT⟩:=zn (w.heap.size);have HWi:=zh (λ W=>az none none 0 0 [] W (λ i x h=>by simp at h) (λ i x h=>by simp at h) (by simp));have HRo:=zh ee;have HWo:=zh lh;obtain⟨w1,AT⟩:=zn ((w.alloc (.cells #[i64 f,.string ⟨#[]⟩,.slice none 0 0,.slice none 0 0,.slice none 0 0] 58)).alloc (.cells #[i64 f,.string ⟨#[]⟩,.slice none 0 0,.slice none 0 0,.slice none 0 0] 58));have g1:Af w w1:=by rw[<- AT];exact((zr _ _).alloc _).alloc _
 have b0:Ao w1 T 58 #[i64 f,.string ⟨#[]⟩,.slice none 0 0,.slice none 0 0,.slice none 0 0]:=by rw[<- AT,<-hT];exact(zv w _ _).alloc _
 have b1:Ao w1 (T+1) 58 #[i64 f,.string ⟨#[]⟩,.slice none 0 0,.slice none 0 0,.slice none 0 0]:=by
  rw[<- AT,<-hT];have h:=zv (w.alloc (.cells #[i64 f,.string ⟨#[]⟩,.slice none 0 0,.slice none 0 0,.slice none 0 0] 58)) 58 #[i64 f,.string ⟨#[]⟩,.slice none 0 0,.slice none 0 0,.slice none 0 0];rw[A_]at h;exact h
 have x0:=b0.cell 0;have x1:=b0.cell 1;have x2:=b0.cell 2;have x3:=b0.cell 3;have x4:=b0.cell 4;have y0:=b1.cell 0;have y1:=b1.cell 1;have y2:=b1.cell 2;have y3:=b1.cell 3;have y4:=b1.cell 4;simp at x0 x1 x2 x3 x4 y0 y1 y2 y3 y4;have H0:=zh g1;clear g1 b0 b1;unfold BN;go_enter Tryz.func20,Tryz.ntmps20;go_wp2_with fail;refine(HWi.out _).mono ?_;rintro e w2 ⟨rfl,g2⟩;have x3:=g2.cell x3;have x4:=g2.cell x4;have y3:=g2.cell y3;have y4:=g2.cell y4;have H2:Hid (Af w w2):=H0.out.trans g2;clear g2 x0 x1 x2 y0 y1 y2 AT;go_wp2_with fail;refine(HRo.out _).mono ?_;rintro e w9 ⟨rfl,rfl⟩;go_wp2_with fail;refine(HWo.out _).mono ?_;rintro e w9 ⟨rfl,rfl⟩;go_wp2_with fail;go_ret;exact⟨rfl,H2.out⟩
end Go.Proofs.YtepelooebggliaaGreatDoor
