/- Walks of functions that the law reaches, and plain laws, part 14 of 21: lemmas for the proof in the last text; no condition. Shortened by program. -/
import Derived.Deep.Slices
import Derived.Deep.Fields
import Derived.ChangeSame
import Derived.ProofKit
import Derived.OpenShut
import Derived.Lib.SmallJoins
import Derived.Test.YtepelooebggliaaGreatDoorSu0
import Derived.Test.YtepelooebggliaaGreatDoorSu3
import Derived.Test.YtepelooebggliaaGreatDoorSu5
import Derived.Test.YtepelooebggliaaGreatDoorSu10
open Option.some renaming inj->A_
open Go.Value renaming slice->B_
open Go.Proofs.Tryz renaming prog->C_,underlying22->D_,ntmps45->E_,results16->F_,func45->G_,underlying3->H_
open List.cons renaming injEq->I_
open Nat renaming zero_add->J_
open Int renaming lt_or_le->K_
open List renaming take_add_one->L_,length_take->M_,length->N_,nil_append->O_,take_of_length_le->Pa,length_map->Pb
open Go.World renaming size_alloc->Pc,heap->Pd,size_drew->Pe,ownsRow->Pf
open Go renaming World->Pg,Addr->Ph,Calls->Pj,MemPlace->Pk,Value->Pm
open Go.DataW renaming trod->Pn
set_option maxHeartbeats 16000000
set_option maxRecDepth 100000
set_option linter.unusedVariables false
set_option linter.unusedSimpArgs false
namespace Go.Proofs.YtepelooebggliaaGreatDoor
open Go.RowKit
theorem Kept.realloc {F:Nat->Prop} {w:Pg} {o o2:Obj} (h:F w.heap.size):Kept F (w.alloc o) (w.alloc o2) :=
 ⟨rfl,rfl,rfl,by simp,λ k hk hf=>by
  rcases Nat.lt_or_ge k w.heap.size with hl | hl
  ·rw[Below.heap_alloc w o2 k hl,Below.heap_alloc w o k hl]
  ·obtain rfl:k=w.heap.size:=by simp at hk;omega
   exact absurd h hf⟩
theorem Jg (n:Int) (A:Option Ph) (c:Nat) (es:List AB) (e:Nat) (x:Int) (w:Pg) (h:Bj w A es) (hl:es.length<=100000) (hr:Aq n es=0) (he:e<es.length) (hx:1<=x/\x<=4294967296) :
  Pj C_ 16 #[.agg #[i64 n,.slice A es.length c],i64 e,u64 x] w λ r w'=>∃ v,r=.returned (.tuple #[.agg #[i64 n,v],i64 0])/\Bc w' w.heap.size v (BX es e x)/\Ac w w':=by
 have b0:Am ((w.alloc (.cells #[i64 n,.slice A es.length c] 24)).alloc (.cells #[i64 0,.slice none 0 0] 24)) w.heap.size 24 #[i64 n,.slice A es.length c]:=(zv w _ _).alloc _
 have b1:Am ((w.alloc (.cells #[i64 n,.slice A es.length c] 24)).alloc (.cells #[i64 0,.slice none 0 0] 24)) (w.heap.size+1) 24 #[i64 0,.slice none 0 0]:=by
  have h:=zv (w.alloc (.cells #[i64 n,.slice A es.length c] 24)) 24 #[i64 0,.slice none 0 0];rw[Pc]at h;exact h
 have BY:Ac w ((w.alloc (.cells #[i64 n,.slice A es.length c] 24)).alloc (.cells #[i64 0,.slice none 0 0] 24)):=((zr _ _).alloc _).alloc _
 have hE:=zh (h.grew BY)
 have hC:=zh (Dg n A c es _ (h.grew BY) hl)
 rw[hr]at hC
 have fL:=zh (λ W=>DG x W)
 rw[zt hx]at fL
 obtain⟨L,hL⟩:=zn (es.length)
 have HL:=zh hL
 have JH:=zh he
 rw[hL]at b0 b1 BY hC he hE 
 rw[hL]
 have hl9:L<=100000:=by omega
 clear h hr hL hx
 obtain⟨c0,c1⟩:=CE b0
 have LR:¬ (e:Int)<0:=by omega
 have Ms:¬ L<=e:=by omega
 have lR:¬ (L:Int)<=(e:Int):=by omega
 go_enter Tryz.func16,Tryz.ntmps16
 go_wp2_with fail
 refine hC.out.mono ?_
 rintro e w1 ⟨rfl,k1⟩
 replace b0:=b0.grew k1
 replace b1:=b1.grew k1
 replace c0:=b0.cell 0
 replace c1:=b0.cell 1
 simp at c0 c1
 go_wp2_with fail
 refine(fL.out _).mono ?_
 rintro e w9 ⟨rfl,rfl⟩
 have cl:=zh (hE.out.grew k1)
 obtain⟨b,off,hA,hb,_⟩:=cl.out e _ (zq JH.out)
 subst hA
 obtain⟨i0,Mt,Cu,BV,Cj⟩:=info_parts IP
 have hlen:Hid ((cellsOf es).length=L*3):=by show _=_;rw[Da,HL.out]
 have F8:=zh (Hl es)
 have hK1:=BY.trans k1
 have CR:=k1.size
 simp at CR
 have hb0l:=b0.lt
 clear hE hC
 go_upto_region 7 with fail
 go_cut [8] (λ s8 wx=>∃ gG g cc:Nat,s8=.pointer (some ⟨gG,0,none⟩)/\Am wx gG 24 #[i64 n,.slice (some ⟨g,0,none⟩) L cc]/\w1.heap.size<=gG/\Hid (Pf wx w1.heap.size 65 3 (.slice (some ⟨g,0,none⟩) L cc) L (cellsOf es))/\gG≠g/\Ac w1 wx)
 case first =>
  refine rG [] (λ j=>w1.heap.size<=j) ?_;refine pG 0 27 ?_;refine tG 1 28 (y:=λ w' Ah=>by have AM:=(b0.drew.kept Ah (by omega)).cell 0;have AX:=(b0.drew.kept Ah (by omega)).cell 1;simp at AM AX;go_simp<;>with_reducible rfl) (h:=?_);refine pG 3 30 ?_;refine tG 4 31 (y:=λ w' Ah=>by have AM:=(b0.drew.kept Ah (by omega)).cell 0;have AX:=(b0.drew.kept Ah (by omega)).cell 1;simp at AM AX;go_simp<;>with_reducible rfl) (h:=?_);refine AP 2 29 7 8 rfl rfl (by kernel_rfl) rfl rfl (by rfl) (by rfl) (λ K Aj=>?_) (λ K Aj=>?_)
  ·go_simp;refine Aj _ _ (λ _=>(zr _ _).alloc _) ?_;clear Aj;simp only[sA];refine AP 5 32 7 8 rfl rfl (by kernel_rfl) rfl rfl (by rfl) (by rfl) (λ K Aj=>?_) (λ K Aj=>?_)
   ·skip;refine wp_append_lies _ (.tmp 29) (.tmp 31) 22 (by rfl) w1.heap.size 65 i0 (.agg #[i64 0,i64 0,u64 0]) 3 24 D_ Mt Cu BV Cj (by rfl) (by omega) _ 0 [] (by rfl) (Bc.empty w1.drew w1.heap.size (zl _)) ⟨b,off,none⟩ L c (cellsOf es) (by rfl) hlen.out ((cl.out.grew ((zr _ _).drew.alloc _)).news) F8.out (by omega) (by unfold maxLen;omega) (by omega) (by simp;try omega) _ rfl ?_;intro g cc wb AV Kl Iv AH;rw[J_]at AV;simp only[J_];rw[O_]at AV;refine Aj _ _ (λ _=>(zr _ _).grown Kl (λ j hj=>by cases hj;exact .inl (zl _))) ?_;clear Aj;simp only[sA];refine pG 6 33 ?_;refine sG 7 8 (λ K Aj=>?_);go_simp;refine Aj _ _ (λ _=>(zr _ _).alloc _) ?_;clear Aj;simp only[sA];refine DH 8 (λ K Aj=>?_);go_simp;refine Aj _ (λ _=>Kept.realloc (by show w1.heap.size<=wb.heap.size;have:=Kl.size;simp at this;omega)) ?_;clear Aj;refine dG ?_;go_wp2_with fail;go_meet;have tC:Ac w1 wb:=(((zr (λ _=>False) w1).drew).alloc _).grown Kl (λ j hj=>.inr (by cases hj;exact zl _));exact⟨wb.heap.size,g,cc,rfl,zv _ _ _,by have:=tC.size;omega,Ac.own ((zr (λ _=>False) wb).alloc _) AV,by omega,tC.alloc _⟩
   ·go_simp;refine Aj _ _ (λ _=>(zr _ _).alloc _) ?_;clear Aj;simp only[sA];refine sG 5 32 (λ K Aj=>?_);refine wp_append_lies _ (.tmp 29) (.tmp 31) 22 (by rfl) w1.heap.size 65 i0 (.agg #[i64 0,i64 0,u64 0]) 3 24 D_ Mt Cu BV Cj (by rfl) (by omega) _ 0 [] (by rfl) (Ac.own ((zr (λ _=>False) _).alloc _) (Bc.empty w1.drew w1.heap.size (zl _))) ⟨b,off,none⟩ L c (cellsOf es) (by rfl) hlen.out ((cl.out.grew (((zr _ _).drew.alloc _).alloc _)).news) F8.out (by omega) (by unfold maxLen;omega) (by omega) (by simp;try omega) _ rfl ?_;intro g cc wb AV Kl Iv AH;rw[J_]at AV;simp only[J_];rw[O_]at AV;have bW:=(show Am _ (w1.heap.size+1) _ _ from (by have h:=zv (w1.drew.alloc (.cells #[] 65)) 24 #[i64 0,.slice none 0 0];rw[Pc,Pe]at h;exact h)).grown Kl (λ h=>absurd (A_ (show some (w1.heap.size+1)=some (w1.heap.size) from h)) (by omega));have x0:=bW.cell 0;have x1:=bW.cell 1;have y0:=bW.frozen 0;have y1:=bW.frozen 1;simp at x0 x1;refine Aj _ _ (λ _=>(zr _ _).grown Kl (λ j hj=>by cases hj;exact .inl (by show w1.heap.size<=_;simp))) ?_;clear Aj;simp only[sA];refine pG 6 33 ?_;refine DH 8 (λ K Aj=>?_);go_simp;refine Aj _ (λ _=>((zr _ _).setCell (p:=⟨(w1.heap.size+1),0,none⟩) (.inl (by show w1.heap.size<=(w1.heap.size+1);omega)) _).setCell (p:=⟨(w1.heap.size+1),1,none⟩) (.inl (by show w1.heap.size<=(w1.heap.size+1);omega)) _) ?_;clear Aj;refine dG ?_;go_wp2_with fail;go_meet;have vO:=AV.lt g rfl;have tC:Ac w1 wb:=((((zr (λ _=>False) w1).drew).alloc _).alloc _).grown Kl (λ j hj=>.inr (by cases hj;simp));have oq:g≠(w1.heap.size+1):=by
     rcases Iv with h | h
     ·have h':w1.heap.size=g:=A_ (show some w1.heap.size=some g from h);omega
     ·simp at h;omega
    refine⟨(w1.heap.size+1),g,cc,rfl,(bW.set 0 (i64 n)).set 1 _,by omega,?_,λ h=>oq h.symm,(tC.setCell (p:=⟨(w1.heap.size+1),0,none⟩) (.inr (by show w1.heap.size<=(w1.heap.size+1);omega)) _).setCell (p:=⟨(w1.heap.size+1),1,none⟩) (.inr (by show w1.heap.size<=(w1.heap.size+1);omega)) _⟩;exact Kept.own (F:=(·=(w1.heap.size+1))) (((zr (·=(w1.heap.size+1)) wb).setCell (p:=⟨(w1.heap.size+1),0,none⟩) (.inl rfl) _).setCell (p:=⟨(w1.heap.size+1),1,none⟩) (.inl rfl) _) AV (λ j hj h=>oq ((A_ (show some g=some j from hj)).trans h))
  ·go_simp;refine Aj _ _ (λ _=>(zr _ _).alloc _) ?_;clear Aj;simp only[sA];refine sG 2 29 (λ K Aj=>?_);go_simp;refine Aj _ _ (λ _=>(zr _ _).alloc _) ?_;clear Aj;simp only[sA];refine sG 5 32 (λ K Aj=>?_);refine wp_append_lies _ (.tmp 29) (.tmp 31) 22 (by rfl) w1.heap.size 65 i0 (.agg #[i64 0,i64 0,u64 0]) 3 24 D_ Mt Cu BV Cj (by rfl) (by omega) _ 0 [] (by rfl) ((show Pf _ w1.heap.size _ 3 (.slice (some ⟨w1.heap.size+1,0,none⟩) 0 0) 0 [] from (by have h:=Bc.empty (w1.drew.alloc (.cells #[i64 0,.slice none 0 0] 24)) w1.heap.size (by simp);rw[Pc,Pe]at h;exact h))) ⟨b,off,none⟩ L c (cellsOf es) (by rfl) hlen.out ((cl.out.grew (((zr _ _).drew.alloc _).alloc _)).news) F8.out (by omega) (by unfold maxLen;omega) (by omega) (by simp;try omega) _ rfl ?_;intro g cc wb AV Kl Iv AH;rw[J_]at AV;simp only[J_];rw[O_]at AV;have bW:=(show Am _ w1.heap.size _ _ from ((zv w1.drew 24 #[i64 0,.slice none 0 0]).alloc (.cells #[] 65))).grown Kl (λ h=>absurd (A_ (show some (w1.heap.size)=some (w1.heap.size+1) from h)) (by omega));have x0:=bW.cell 0;have x1:=bW.cell 1;have y0:=bW.frozen 0;have y1:=bW.frozen 1;simp at x0 x1;refine Aj _ _ (λ _=>(zr _ _).grown Kl (λ j hj=>by cases hj;exact .inl (by show w1.heap.size<=_;simp))) ?_;clear Aj;simp only[sA];refine pG 6 33 ?_;refine DH 8 (λ K Aj=>?_);go_simp;refine Aj _ (λ _=>((zr _ _).setCell (p:=⟨w1.heap.size,0,none⟩) (.inl (by show w1.heap.size<=w1.heap.size;omega)) _).setCell (p:=⟨w1.heap.size,1,none⟩) (.inl (by show w1.heap.size<=w1.heap.size;omega)) _) ?_;clear Aj;refine dG ?_;go_wp2_with fail;go_meet;have vO:=AV.lt g rfl;have tC:Ac w1 wb:=((((zr (λ _=>False) w1).drew).alloc _).alloc _).grown Kl (λ j hj=>.inr (by cases hj;simp));have oq:g≠w1.heap.size:=by
    rcases Iv with h | h
    ·have h':(w1.heap.size+1)=g:=A_ (show some (w1.heap.size+1)=some g from h);omega
    ·simp at h;omega
   refine⟨w1.heap.size,g,cc,rfl,(bW.set 0 (i64 n)).set 1 _,by omega,?_,λ h=>oq h.symm,(tC.setCell (p:=⟨w1.heap.size,0,none⟩) (.inr (by show w1.heap.size<=w1.heap.size;omega)) _).setCell (p:=⟨w1.heap.size,1,none⟩) (.inr (by show w1.heap.size<=w1.heap.size;omega)) _⟩;exact Kept.own (F:=(·=w1.heap.size)) (((zr (·=w1.heap.size) wb).setCell (p:=⟨w1.heap.size,0,none⟩) (.inl rfl) _).setCell (p:=⟨w1.heap.size,1,none⟩) (.inl rfl) _) AV (λ j hj h=>oq ((A_ (show some g=some j from hj)).trans h))
 case rest =>
  obtain⟨gG,g,cc,rfl,bG,hgG,HO,Bm,k2⟩:=hcut;have hg:=World.ownsRow.lt HO.out g rfl;obtain⟨g0,g1⟩:=CE bG;have x2:wc.cell? ⟨g,e*3+2,none⟩=some (u64 ((es.getD e (0,0,0)).2.2)):=by
   have h:=World.ownsRow.cellAt HO.out (e*3+2) (by omega);rw[h,C0 es e 2 _ (zq JH.out) (by omega),List.getD_eq_getElem?_getD,zq JH.out];rfl
  have y2:=World.ownsRow.frozenAt HO.out (e*3+2);have EI:¬ w.heap.size+1=g:=(by omega);have Hv:¬ g=w.heap.size+1:=(by omega);have hn3:¬ gG=g:=Bm;have hn4:¬ g=gG:=λ h=>Bm h.symm;have fv:=(b1.grew k2).far (p:=⟨g,e*3+2,none⟩) EI (u64 x);have d0:=fv.cell 0;have d1:=fv.cell 1;have f0:=fv.frozen 0;have f1:=fv.frozen 1;simp only[List.getElem?_toArray,List.getElem?_cons_zero,List.getElem?_cons_succ]at d0 d1;obtain⟨q0,q1⟩:=CE (((fv.set 0 (i64 n)).set 1 (.slice (some ⟨g,0,none⟩) L cc)));have bGx:=bG.far (p:=⟨g,e*3+2,none⟩) hn3 (u64 x);obtain⟨z0,z1⟩:=CE bGx;have fD:=hK1.trans k2;clear Bm k2 hK1;go_wp2_with fail;refine zy (v:=.tuple #[.agg #[i64 n,.slice (some ⟨g,0,none⟩) L cc],i64 0]) (by simp[results,F_,go_sem,q0,q1]) rfl ⟨_,rfl,?_,?_⟩
  ·have h1:=(World.ownsRow.stored HO.out (e*3+2) (u64 x)).1;rw[GS es e x JH.out]at h1;have h2:Bc (wc.setCell ⟨g,e*3+2,none⟩ (u64 x)) w1.heap.size (.slice (some ⟨g,0,none⟩) L cc) (BX es e x):=by
    unfold Bc
    rw[BO,HL.out]
    exact h1
   refine Az (Kept.own (F:=(·=w.heap.size+1)) (((zr (·=w.heap.size+1) _).setCell (p:=⟨w.heap.size+1,0,none⟩) (.inl rfl) _).setCell (p:=⟨w.heap.size+1,1,none⟩) (.inl rfl) _) h2 (λ k hk h=>?_)) (by omega);have h3:k=w.heap.size+1:=h;have h4:g=k:=A_ (show some g=some k from hk);omega
  ·exact((fD.setCell (p:=⟨g,e*3+2,none⟩) (.inr (by show w.heap.size<=g;omega)) _).setCell (p:=⟨w.heap.size+1,0,none⟩) (.inr (by show w.heap.size<=w.heap.size+1;omega)) _).setCell (p:=⟨w.heap.size+1,1,none⟩) (.inr (by show w.heap.size<=w.heap.size+1;omega)) _
theorem bu {N:Nat} {es:List AB} {k p q r:Nat} (h:es[k]? = some ((p:Int),(q:Int),(r:Int))):(AJ N es).take (2+3*(k+1))=(AJ N es).take (2+3*k)++[dec p,dec q,dec r]:=by
 obtain⟨h1,h2,h3⟩:=Lo (n:=N) h;rw[show 2+3*(k+1)=2+3*k+1+1+1 by omega,L_,L_,L_,h1,h2,show 2+3*k+1+1=2+3*k+2 by omega,h3];simp
structure RwS (w:Pg) (A:Option Ph) (c N L:Nat) (es:List AB) (k:Nat) (v:Pm) (wr:Pg):Prop where
 row:wr.ownsRow (w.heap.size+1) 9 1 v (2+3*k) (((AJ N es).take (2+3*k)).map str)
 gr:Am wr w.heap.size 24 #[i64 N,.slice A L c]
 kept:Ac w wr
theorem NH (A:Option Ph) (c N:Nat) (es:List AB) (w:Pg) (he:Bj w A es) (hr:Aq N es=0) (hm:es.length<=1000) :
  Pj C_ 27 #[.agg #[i64 N,.slice A es.length c]] w λ e w'=>∃ v,e=.returned (.tuple #[v,i64 0])/\BD w' w.heap.size v (AJ N es)/\Ac w w':=by
 obtain⟨i0,hi,Cu,BV,Cj⟩:=info_parts C6
 have hrz:=right_zero hr
 obtain⟨w1,AQ,g1,b1⟩:=zb w #[i64 N,.slice A es.length c] 24 rfl
 have HR:=zh (Dg (N:Int) A c es w1 (he.grew g1) (by omega))
 have HN1:=zh (λ W=>Ex N (by omega) W)
 have xq:=zh (λ W=>Ex es.length (by omega) W)
 obtain⟨L,hL⟩:=zn (es.length)
 rw[hL]at b1 HR xq AQ hm ⊢
 rw[hr]at HR
 obtain⟨x0,x1⟩:=CE b1
 have hN4:=hrz.2.1
 have H0:=Gt he hr hL g1 b1
 have l1:(L:Int)<=1000:=by omega
 clear he hr hrz hL g1 b1
 go_enter Tryz.func27,Tryz.ntmps27
 go_wp2_with fail
 refine HR.out.mono ?_
 rintro e w2 ⟨rfl,k2⟩
 have b2:=H0.out.2.2.2.2.grew k2
 obtain⟨x0,x1⟩:=CE b2
 have H2:=BP (H0.out.2.2.2.1.trans k2) b2
 clear HR k2 b2
 go_upto_region 5 with fail
 have HC:Hid (∀ w',Ac w2 w'->w'.cell? ⟨w.heap.size,0,none⟩=some (i64 N)/\w'.cell? ⟨w.heap.size,1,none⟩=some (.slice A L c)):=λ w' k=>⟨k.cell x0,k.cell x1⟩
 have gz:Ac w2 w2.drew:=(zr _ _).drew
 refine rG [] (λ _=>False) ?_
 refine pG 0 15 ?_
 refine tF 1 16 HC.out ((gz)) ?_
 refine pG 3 18 ?_
 refine tF 4 19 HC.out ((gz)) ?_
 refine pG 5 20 ?_
 refine sG 2 17 (λ K Aj=>?_)
 go_simp
 refine(HN1.out _).mono ?_
 rintro e y1 ⟨rfl,k1⟩
 refine Aj (str (dec N)) _ (λ _=>k1) ?_
 clear Aj
 simp only[sA]
 refine sG 6 21 (λ K Aj=>?_)
 go_simp
 refine(xq.out _).mono ?_
 rintro e y2 ⟨rfl,k2⟩
 refine Aj (str (dec L)) _ (λ _=>k2) ?_
 clear Aj
 simp only[sA]
 refine sG 7 22 (λ K Aj=>?_)
 go_simp
 obtain⟨y3,DQ⟩:=zn (World.alloc y2 (.cells #[str (dec N),str (dec L)] 9))
 have k3:Ac y2 y3:=by rw[<- DQ];exact(zr _ _).alloc _
 have bv:Am y3 (Pd y2).size 9 #[str (dec N),str (dec L)]:=by rw[<- DQ];exact zv _ _ _
 rw[DQ]
 refine Aj (.slice (some ⟨(Pd y2).size,0,none⟩) 2 2) _ (λ _=>k3) ?_
 clear Aj
 simp only[sA]
 refine pG 8 4 ?_
 refine dG ?_
 have kk:Ac w2 y3:=((gz.trans k1).trans k2).trans k3
 have S0:Hid (RwS w A c N L es 0 (.slice (some ⟨(Pd y2).size,0,none⟩) 2 2) y3):=by
  refine⟨?_,H2.out.2.grew kk,H2.out.1.trans kk⟩;rw[show (AJ N es).take (2+3*0)=[dec N,dec L] by unfold AJ;rw[H0.out.2.2.1];rfl];refine⟨rfl,.inr ⟨_,2,#[str (dec N),str (dec L)],rfl,?_,bv,zl _,by unfold maxLen;omega,rfl,rfl⟩⟩;have q1:=H2.out.2.lt;have q2:=((gz.trans k1).trans k2).size;omega
 clear k1 k2 k3 bv gz kk HC HN1 xq
 go_wp2_with fail
 go_loopw [4,5] (λ u4 i wr=>∃ (k:Nat) (A2:Option Ph) (c2:Nat),k<=L/\i=.int .i64 k/\u4=.slice A2 (2+3*k) c2/\Hid (RwS w A c N L es k (.slice A2 (2+3*k) c2) wr)) (λ _ i _=>L-(intOf i).toNat)
 case atStart=>exact⟨0,_,2,by omega,rfl,rfl,S0⟩
 case round =>
  clear S0 x0 x1;obtain⟨k,A2,c2,hk,rfl,rfl,hS⟩:=hrel;have r1:=hS.out.gr.cell 1;simp at r1;by_cases AH:k<L
  ·as_aux_lemma =>
   have k0:(0:Int)<=(k:Int):=(by omega);have k1':(k:Int)<(L:Int):=(by omega);obtain⟨x,hx⟩:=zx (l:=es) (i:=k) (by rw[H0.out.2.2.1];exact AH);obtain⟨p,q,r,rfl,hp,hq,Gh,Ob,Kq⟩:=az H0.out.2.1 hx;have HTk:=zh (bu (N:=N) hx);have fi:=zh (λ W=>Ex p (by omega) W);have HP2:=zh (λ W=>Ex q (by omega) W);have HP3:=zh (λ W=>CG r (by omega) W);obtain⟨b,off,hA,hb,c0,c1,c2'⟩:=(H0.out.1.grew hS.out.kept) k _ hx;subst hA;obtain⟨n2,Hv⟩:=zn (2+3*k);have AY:=hS.out.row;rw[Hv]at AY hS ⊢;have hlenb:n2<=3002:=(by omega);have xq:=zh Hv;have HO:=zh AY;have HG:=zh hS.out.gr;have HK:=zh hS.out.kept;have hbw:b<w.heap.size:=by
    obtain⟨b',uv,Mo,Lx,_⟩:=H0.out.1 k _ hx;cases Mo;exact Lx
   have HCx:Hid (∀ w',Kept (λ j=>(B_ A2 n2 c2).ownBlock=some j) wr w'->w'.cell? ⟨w.heap.size,1,none⟩=some (.slice (some ⟨b,off,none⟩) L c)/\w'.cell? ⟨b,off+k*3,none⟩=some (i64 p)/\w'.cell? ⟨b,off+k*3+1,none⟩=some (i64 q)/\w'.cell? ⟨b,off+k*3+2,none⟩=some (u64 r)):=λ w' kk=>by
    have no:∀ j,j<=w.heap.size->¬ (B_ A2 n2 c2).ownBlock=some j:=λ j hj h=>by have:=(HO.out.lt _ h).1;omega
    exact⟨kk.cell r1 (no _ (zl _)),kk.cell c0 (no b (by omega)),kk.cell c1 (no b (by omega)),kk.cell c2' (no b (by omega))⟩
   have gz:Kept (λ j=>(B_ A2 n2 c2).ownBlock=some j) wr wr.drew:=(zr _ _).drew;have LO:Ac wr wr.drew:=(zr _ _).drew;clear hx hp hq Gh Ob Kq c0 c1 c2' hb AY hS hbw Hv;go_upto_region 9 with fail;refine rG [] (λ j=>(B_ A2 n2 c2).ownBlock=some j) ?_;refine pG 0 30 ?_;refine pG 1 31 ?_;refine tF 2 32 HCx.out ((gz)) ?_;refine pG 3 33 ?_;refine pG 4 34 ?_;refine pG 5 35 ?_;refine tF 6 36 HCx.out ((gz)) ?_;refine pG 8 38 ?_;refine tF 9 39 HCx.out ((gz)) ?_;refine pG 10 40 ?_;refine pG 11 41 ?_;refine pG 12 42 ?_;refine tF 13 43 HCx.out ((gz)) ?_;refine pG 15 45 ?_;refine tF 16 46 HCx.out ((gz)) ?_;refine pG 17 47 ?_;refine pG 18 48 ?_;refine pG 19 49 ?_;refine tF 20 50 HCx.out ((gz)) ?_;refine sG 7 37 (λ K Aj=>?_);go_simp;refine(fi.out _).mono ?_;rintro e y1 ⟨rfl,pj⟩;have k1:=Ac.kept (F:=λ j=>(B_ A2 n2 c2).ownBlock=some j) pj;refine Aj (str (dec p)) _ (λ _=>k1) ?_;clear Aj;simp only[sA];refine sG 14 44 (λ K Aj=>?_);go_simp;refine(HP2.out _).mono ?_;rintro e y2 ⟨rfl,pn⟩;have k2:=Ac.kept (F:=λ j=>(B_ A2 n2 c2).ownBlock=some j) pn;refine Aj (str (dec q)) _ (λ _=>k2) ?_;clear Aj;simp only[sA];refine sG 21 51 (λ K Aj=>?_);go_simp;refine(HP3.out _).mono ?_;rintro e y3 ⟨rfl,Gl⟩;have k3:=Ac.kept (F:=λ j=>(B_ A2 n2 c2).ownBlock=some j) Gl;refine Aj (str (dec r)) _ (λ _=>k3) ?_;clear Aj;simp only[sA];refine sG 22 52 (λ K Aj=>?_);go_simp;obtain⟨y4,Fs⟩:=zn (World.alloc y3 (.cells #[str (dec p),str (dec q),str (dec r)] 9));have kG4:Ac y3 y4:=by rw[<- Fs];exact(zr _ _).alloc _
   have k4:=Ac.kept (F:=λ j=>(B_ A2 n2 c2).ownBlock=some j) kG4;have hN:Hid (∀ j u,([str (dec p),str (dec q),str (dec r)]:List Pm)[j]? = some u->y4.cell? ((⟨(Pd y3).size,0,none⟩:Ph).add j)=some u):=by rw[<- Fs];exact World.news_of_block (heap_alloc_new _ (.cells #[str (dec p),str (dec q),str (dec r)] 9))
   have kG:Ac wr y4:=((LO.trans pj).trans pn |>.trans Gl).trans kG4;have oS:Hid (y4.ownsRow (w.heap.size+1) 9 1 (.slice A2 n2 c2) n2 (((AJ N es).take n2).map str)):=Ac.own kG HO.out;rw[Fs];refine Aj (.slice (some ⟨(Pd y3).size,0,none⟩) 3 3) _ (λ _=>k4) ?_;clear Aj;simp only[sA];refine sG 23 53 (λ K Aj=>?_);refine wp_append_lies _ (.tmp 30) (.tmp 52) 40 (by rfl) (w.heap.size+1) 9 i0 (.string ⟨#[]⟩) 1 16 Tryz.underlying40 hi Cu BV Cj (by rfl) (by omega) (.slice A2 n2 c2) n2 (((AJ N es).take n2).map str) (by rfl) oS.out ⟨(Pd y3).size,0,none⟩ 3 3 [str (dec p),str (dec q),str (dec r)] (by rfl) (by rfl) hN.out ?_ (by omega) ?_ ?_ ?_ _ rfl ?_
   ·intro u hu;simp at hu;rcases hu with rfl | rfl | rfl<;>rfl
   ·unfold maxLen;omega
   ·omega
   ·have:=kG.size;have:=HG.out.lt;omega
   intro g cp wa Bb AD _ _;refine Aj _ _ (λ _=>(zr _ _).grown AD (λ k hk=>.inl hk)) ?_;clear Aj;simp only[sA];refine pG 24 4 ?_;refine dG ?_;have kA:Kept (λ j=>(B_ A2 n2 c2).ownBlock=some j) wr wa:=(Ac.kept kG).grown AD (λ k hk=>.inl hk);have Ci:Hid (RwS w (some ⟨b,off,none⟩) c N L es (k+1) (.slice (some ⟨g,0,none⟩) (n2+3) cp) wa):=by
    refine⟨?_,HG.out.kept kA (λ h=>by have:=(HO.out.lt _ h).1;omega),HK.out.then kA (λ i hi h=>by have:=(HO.out.lt i h).1;omega)⟩;rw[HTk.out,xq.out,show 2+3*(k+1)=n2+3 by have:=xq.out;omega,List.map_append];exact Bb
   have vR:2+3*(k+1)=n2+3:=by have:=xq.out;omega
   clear Bb AD kA oS hN kG;go_wp2_with fail;go_roundw
   case rel=>exact⟨k+1,some ⟨g,0,none⟩,cp,by omega,by go_num,by rw[vR],by rw[vR];exact Ci⟩
   case measure=>simp[intOf];omega
  ·as_aux_lemma =>
   obtain rfl:k=L:=(by omega);have hlen:(AJ N es).length=2+3*k:=(by rw[CX,H0.out.2.2.1]);have AY:=hS.out.row;rw[show (AJ N es).take (2+3*k)=AJ N es from Pa (by omega)]at AY;have HF:Hid (BD wr w.heap.size (.slice A2 (2+3*k) c2) (AJ N es)/\Ac w wr):=⟨by unfold BD;rw[hlen];exact Az AY (Nat.le_succ _),hS.out.kept⟩;clear AY hlen hS;go_wp2_with fail;go_ret2;exact⟨_,rfl,HF.out⟩
theorem KZ (n:Int) (A:Option Ph) (c:Nat) (es:List AB) (e x:Int) (w:Pg) (h:Bj w A es) (hl:es.length<=100000) (hr:Aq n es=0) (f:Nat) (hf:(¬ (0<=e/\e<es.length)/\f=8)\/(0<=e/\e<es.length)/\¬ (1<=x/\x<=4294967296)/\f=2) :
  Pj C_ 16 #[.agg #[i64 n,.slice A es.length c],i64 e,u64 x] w λ r w'=>r=.returned (.tuple #[.agg #[i64 0,.slice none 0 0],i64 f])/\Ac w w':=by
 obtain⟨T,hT⟩:=zn (w.heap.size)
 obtain⟨w1,AQ⟩:=zn ((w.alloc (.cells #[i64 n,.slice A es.length c] 24)).alloc (.cells #[i64 0,.slice none 0 0] 24))
 have g1:Ac w w1:=by rw[<- AQ];exact((zr _ _).alloc _).alloc _
 have b0:Am w1 T 24 #[i64 n,.slice A es.length c]:=by rw[<- AQ,<-hT];exact(zv w _ _).alloc _
 have b1:Am w1 (T+1) 24 #[i64 0,.slice none 0 0]:=by
  rw[<- AQ,<-hT];have h:=zv (w.alloc (.cells #[i64 n,.slice A es.length c] 24)) 24 #[i64 0,.slice none 0 0];rw[Pc]at h;exact h
 have hC:=zh (Dg n A c es w1 (h.grew g1) hl)
 rw[hr]at hC
 have fL:=zh (λ W=>DG x W)
 obtain⟨L,hL⟩:=zn (es.length)
 rw[hL]at hC b0 AQ hf hl ⊢
 obtain⟨c0,c1⟩:=CE b0
 have fin:Hid (∀ w2,Ac w1 w2->Am w2 (T+1) 24 #[i64 0,.slice none 0 0]/\Am w2 T 24 #[i64 n,.slice A L c]/\Ac w (w2.setCell ⟨T+1,0,none⟩ (i64 0) |>.setCell ⟨T+1,1,none⟩ (.slice none 0 0))/\Am ((w2.setCell ⟨T+1,0,none⟩ (i64 0)).setCell ⟨T+1,1,none⟩ (.slice none 0 0)) (T+1) 24 #[i64 0,.slice none 0 0]):=λ w2 k=>by
  refine⟨b1.grew k,b0.grew k,((g1.trans k).setCell (p:=⟨T+1,0,none⟩) (.inr (by show w.heap.size<=T+1;omega)) _).setCell (p:=⟨T+1,1,none⟩) (.inr (by show w.heap.size<=T+1;omega)) _,?_⟩;have:=((b1.grew k).set 0 (i64 0)).set 1 (.slice none 0 0);simpa using this
 clear h hr b0 b1 g1 hL
 go_enter Tryz.func16,Tryz.ntmps16
 go_wp2_with fail
 have e0:(w.alloc (.cells #[.int .i64 n,.slice A L c] 24)).alloc (.cells #[.int .i64 0,.slice none 0 0] 24)=w1:=AQ
 try rw [e0]
 try rw [hT]
 clear e0 AQ
 refine hC.out.mono ?_
 rintro r w2 ⟨rfl,k2⟩
 obtain⟨d1,d0,hg,hb⟩:=fin.out w2 k2
 have x0:=d1.cell 0
 have x1:=d1.cell 1
 have x2:=d1.frozen 0
 have x3:=(d1.set 0 (i64 0)).frozen 1
 have y1:=d0.cell 1
 simp at x0 x1 y1
 obtain⟨r0,r1⟩:=CE hb
 rcases hf with ⟨he,rfl⟩ | ⟨he,hx,rfl⟩
 ·have HF:=zh hg;rcases K_ e 0 with h0 | h0
  ·have a1:decide (e<0)=true:=zt h0;clear he hg hb d1 d0 fin hC fL c0 c1;go_wp2_with fail;exact zy (v:=.tuple #[.agg #[i64 0,.slice none 0 0],i64 8]) (by simp[results,F_,go_sem,r0,r1]) rfl ⟨rfl,HF.out⟩
  ·have a1:decide (e<0)=false:=zf (by omega);have a2:(L:Int)<=e:=(by omega);clear he hg hb d1 d0 fin hC fL c0 c1;go_wp2_with fail;exact zy (v:=.tuple #[.agg #[i64 0,.slice none 0 0],i64 8]) (by simp[results,F_,go_sem,r0,r1]) rfl ⟨rfl,HF.out⟩
 ·rw[zf hx]at fL;have a1:decide (e<0)=false:=zf (by omega);have a2:¬ (L:Int)<=e:=(by omega);have HF:=zh hg;have HW:=zh (fL.out w2);clear he hg hb d1 d0 fin hC fL c0 c1 hx;go_wp2_with fail;refine HW.out.mono ?_;rintro r w3 ⟨rfl,rfl⟩;go_wp2_with fail;exact zy (v:=.tuple #[.agg #[i64 0,.slice none 0 0],i64 2]) (by simp[results,F_,go_sem,r0,r1]) rfl ⟨rfl,HF.out⟩
def jV (n:Int) (L:Nat):Bool:=decide ((n<=100\/4096<n)/\L<=300)
theorem uc (n:Int) (A:Option Ph) (L c:Nat) (w:Pg) (h:n<=100\/4096<n) (hL:L<=300):Pj C_ 45 #[.agg #[i64 n,.slice A L c]] w λ e w'=>e=.returned (.bool true)/\Ac w w':=by
 have hK:Ac w (w.alloc (.cells #[i64 n,.slice A L c] 24)):=(zr _ _).alloc _;rcases K_ 100 n with h1 | h1
 ·have h2:4096<n:=(by omega);clear h;go_enter G_,E_;go_wp2;go_ret;exact⟨by simp<;>omega,hK⟩
 ·clear h;go_enter G_,E_;go_wp2;go_ret;exact⟨by simp<;>omega,hK⟩
theorem zT (n:Int) (A:Option Ph) (L c:Nat) (w:Pg) (hm:L<=9223372036854775807) (h:¬ ((n<=100\/4096<n)/\L<=300)):Pj C_ 45 #[.agg #[i64 n,.slice A L c]] w λ e w'=>e=.returned (.bool false)/\Ac w w':=by
 have hK:Ac w (w.alloc (.cells #[i64 n,.slice A L c] 24)):=(zr _ _).alloc _;rcases K_ 100 n with h1 | h1
 ·rcases K_ 4096 n with h2 | h2
  ·have h3:¬ L<=300:=(by omega);have h4:(300:Int)<(L:Int):=(by omega);clear h;go_enter G_,E_;go_wp2;go_ret;exact⟨by simp<;>omega,hK⟩
  ·clear h;go_enter G_,E_;go_wp2;go_ret;exact⟨by simp<;>omega,hK⟩
 ·have h3:¬ L<=300:=(by omega);have h4:(300:Int)<(L:Int):=(by omega);clear h;go_enter G_,E_;go_wp2;go_ret;exact⟨by simp<;>omega,hK⟩
theorem ua (n:Int) (A:Option Ph) (L c:Nat) (w:Pg) (hm:L<=9223372036854775807):Pj C_ 45 #[.agg #[i64 n,.slice A L c]] w λ e w'=>e=.returned (.bool (jV n L))/\Ac w w':=by
 by_cases h:(n<=100\/4096<n)/\L<=300
 ·rw[jV,zt h];exact uc n A L c w h.1 h.2
 ·rw[jV,zf h];exact zT n A L c w hm h
def pw (n:Int) (L:Nat):Bool:=jV n L&&(decide (n<=7)||decide (4096<n))&&decide (L<=22)
theorem ue (n:Int) (A:Option Ph) (L c:Nat) (w:Pg) (hm:L<=9223372036854775807):Pj C_ 23 #[.agg #[i64 n,.slice A L c]] w λ e w'=>e=.returned (.bool (pw n L))/\Ac w w':=by
 have hK:Ac w (w.alloc (.cells #[i64 n,.slice A L c] 24)):=(zr _ _).alloc _;have b0:=zv w 24 #[i64 n,.slice A L c];have HL:=zh (ua n A L c (w.alloc (.cells #[i64 n,.slice A L c] 24)) hm);obtain⟨w1,AQ⟩:=zn (w.alloc (.cells #[i64 n,.slice A L c] 24));obtain⟨T,hT⟩:=zn (w.heap.size);rw[AQ]at hK b0 HL;rw[hT]at b0;have HB:=BP hK b0;obtain⟨c0,c1⟩:=CE b0;have hd:decide ((L:Int)<=22)=decide (L<=22):=decide_eq_decide.2 (by omega);unfold pw;obtain⟨b5,JG⟩:=zn (jV n L);rw[JG]at HL ⊢;clear hK b0 JG;go_enter Tryz.func23,Tryz.ntmps23;go_wp2_with fail;have e1:w.alloc (.cells #[.int .i64 n,.slice A L c] 24)=w1:=AQ;try rw [e1]
 try rw [hT]
 clear e1 AQ hT;refine HL.out.mono ?_;rintro e w2 ⟨rfl,k2⟩;have b2:=HB.out.2.grew k2;obtain⟨x0,x1⟩:=CE b2;have HF:Hid (Ac w w2):=HB.out.1.trans k2;clear k2 b2 HL;cases b5 with
 | false =>
  go_wp2_with fail;go_ret;exact⟨by simp,HF.out⟩
 | true =>
  rcases K_ 7 n with h1 | h1
  ·have a1:decide (n<=7)=false:=zf (by omega);have a1':¬ n<=7:=(by omega);rcases K_ 4096 n with h2 | h2
   ·have a2:decide (4096<n)=true:=zt h2;go_wp2_with fail;go_ret;exact⟨by simp[a1,a2,hd],HF.out⟩
   ·have a2:decide (4096<n)=false:=zf (by omega);go_wp2_with fail;go_ret;exact⟨by simp[a1,a2],HF.out⟩
  ·have a1:decide (n<=7)=true:=zt h1;go_wp2_with fail;go_ret;exact⟨by simp[a1,hd],HF.out⟩
end Go.Proofs.YtepelooebggliaaGreatDoor
namespace Go.Proofs.YtepelooebggliaaGreatDoor
open Go.ChangeShapes Go.WideShapes Go.RowKit Go.Deep
def gO (w:Pg) (A:Option Ph) (n:Nat):Int :=
 match A with
 | some a=>intOf ((w.cell? (a.add n)).getD (.bool false))
 | none=>0
section
variable {H:Type} {enc:TypeId×Pm->H} {P:Program} {w:Pg} {base:Nat} {spare:Nat->Bool} {held:Bool}
theorem Ih {t e:TypeId} {fs:Array Field} {fuel:Nat} {A:Option Ph} {len cap:Nat} {x:DataW H×List Pk} (ht:P.underlying t=some (.slice e)) (he:P.underlying e=some (.struct fs))
  (F8:oneCellFields P fs=true) (hC:P.cellsOf e=fs.size) (BH:0<fs.size) (h:Pn enc P w base spare held fuel t [.slice A len cap]=some x) :
  len<=cap/\cap<=maxLen/\(A=none->len=0)/\∀ i,i<len->∃ b off,A=some ⟨b,off,none⟩/\b<w.heap.size /\
   ∀ (j:Nat) (f:Field),fs[j]? = some f->∃ (v:Pm) (y:DataW H×List Pk) (n:Nat),w.cell? ⟨b,off+(i*fs.size+j),none⟩=some v/\Pn enc P w base spare held n f.type [v]=some y:=by
 rcases open_slice ht h with ⟨Et,_⟩ | ⟨a,len',sM,m,n,D,Pl,Et,hb,hl,hm,JJ,hx,hi⟩
 ·simp only[I_,Value.slice.injEq,and_true]at Et;obtain⟨rfl,rfl,rfl⟩:=Et;exact⟨zl _,by unfold maxLen;omega,λ _=>rfl,λ i hi=>absurd hi (by omega)⟩
 ·simp only[I_,Value.slice.injEq,and_true]at Et;obtain⟨rfl,rfl,rfl⟩:=Et;have hmle:len<=m:=by rw[JJ];split<;>omega
  have key:∀ i,i<len->∀ (j:Nat) (f:Field),fs[j]? = some f->∃ (v:Pm) (y:DataW H×List Pk) (n:Nat),w.cell? (a.add (i*fs.size+j))=some v/\Pn enc P w base spare held n f.type [v]=some y:=by
   intro i D5 j f hj;obtain⟨lN,hc,ht'⟩:=hi i (by omega);rw[hC]at hc;obtain⟨ys,n',yU,hy,hlen,hyl,hf⟩:=DataW.trod_struct he ht';obtain⟨_,hcl,js⟩:=World.cells?_some hc;obtain⟨ho,hk⟩:=hone_of F8 j f hj;have rN:j<fs.size:=(Array.getElem?_eq_some_iff.1 hj).1;have BS:=js j rN;have hv:lN[j]? = some (lN[j]'(by omega)):=zq (by omega);have h1:=hf j f hj;rw[ho,hk]at h1;have zAH:(lN.drop j).take 1=[lN[j]'(by omega)]:=by
    rw[List.drop_eq_getElem_cons (by omega)];rfl
   rw[zAH]at h1;have hys:ys[j]? = some (ys[j]'(by omega)):=zq (by omega);refine⟨_,_,_,?_,h1.trans hys⟩;rw[<- Go.Deep.add_add,BS,hv]
  refine⟨hl,hm,(λ h=>by cases h),λ i D5=>?_⟩;obtain⟨f0,dL⟩:∃ f,fs[0]? = some f:=⟨_,Array.getElem?_eq_getElem BH⟩;obtain⟨v0,_,_,Mq,_⟩:=key 0 (by omega) 0 f0 dL;rw[Nat.zero_mul,Nat.add_zero]at Mq;obtain⟨b,off,rfl⟩:=Gn Mq;refine⟨b,off,rfl,?_,λ j f hj=>?_⟩
  ·have:=World.block_lt_of_cell? _ _ (J1 Mq);simpa using this
  ·obtain⟨v,y,n2,hc,hy⟩:=key i D5 j f hj;exact⟨v,y,n2,J1 hc,hy⟩
theorem zAb {b off n:Nat} {k:IntKind} {x:Int} (h:w.cell? ⟨b,off+n,none⟩=some (.int k x)):gO w (some ⟨b,off,none⟩) n=x:=by
 have e:(⟨b,off,none⟩:Ph).add n=⟨b,off+n,none⟩:=by unfold Addr.add;split<;>simp_all
 simp only[gO,e,h,Option.getD_some,intOf]
theorem Kw {t:TypeId} {k:IntKind} {b off n m:Nat} {v:Pm} {y:DataW H×List Pk} (ht:P.underlying t=some (.int k)) (hc:w.cell? ⟨b,off+n,none⟩=some v) (h:Pn enc P w base spare held m t [v]=some y) :
  w.cell? ⟨b,off+n,none⟩=some (.int k (gO w (some ⟨b,off,none⟩) n))/\(Lit.int k (gO w (some ⟨b,off,none⟩) n)).wf=true:=by
 obtain⟨x,hx,_,hw⟩:=DataW.trod_int ht h
 simp only[I_,and_true]at hx
 subst hx
 rw[zAb hc]
 exact⟨hc,hw⟩
end
end Go.Proofs.YtepelooebggliaaGreatDoor
namespace Go.Proofs.YtepelooebggliaaGreatDoor
open Go.RowKit
def KB (n:Int) (L M R:Nat):Bool:=pw n L&&decide (M<=20)&&decide (R<=60)
theorem j8 (n:Int) (A A2 A3:Option Ph) (L c M c2 R c3:Nat) (w:Pg) (hm:L<=9223372036854775807):Pj C_ 5 #[.agg #[i64 n,.slice A L c,.slice A2 M c2,.slice A3 R c3]] w λ e w'=>e=.returned (.bool (KB n L M R))/\Ac w w':=by
 have b0:=zv w 28 #[i64 n,.slice A L c,.slice A2 M c2,.slice A3 R c3];obtain⟨w1,AQ,hK⟩:=zg w (.cells #[i64 n,.slice A L c,.slice A2 M c2,.slice A3 R c3] 28);obtain⟨bb,I5⟩:=zn (pw n L);have HL:=zh (ue n A L c w1 hm);rw[I5]at HL;rw[AQ]at b0;obtain⟨T,hT⟩:=zn (w.heap.size);rw[hT]at b0;have x0:=b0.cell 0;have x1:=b0.cell 1;simp at x0 x1;have HB:=BP b0 hK;have vP:KB n L M R=(bb&&decide (M<=20)&&decide (R<=60)):=by unfold KB;rw[I5]
 rw[vP];clear b0 hK I5 vP;obtain⟨p,hp⟩:=zn (decide (M<=20));obtain⟨q,hq⟩:=zn (decide (R<=60));rw[hp,hq];have rQ:decide ((M:Int)<=20)=p:=by rw[<- hp];congr 1;simp;omega
 have tQ:decide ((R:Int)<=60)=q:=by rw[<- hq];congr 1;simp;omega
 clear hp hq;go_enter Tryz.func5,Tryz.ntmps5;go_wp2_with fail;refine HL.out.mono ?_;rintro e w2 ⟨rfl,g2⟩;have b2:=HB.out.1.grew g2;have y2:=b2.cell 2;have y3:=b2.cell 3;simp at y2 y3;have G2:Hid (Ac w w2):=HB.out.2.trans g2;clear b2 g2 HL HB AQ hT x0 x1;cases bb
 ·go_wp2_with fail;go_ret;exact⟨rfl,G2.out⟩
 ·cases p
  ·go_wp2_with fail;go_ret;exact⟨rfl,G2.out⟩
  ·go_wp2_with fail;go_ret;exact⟨rfl,G2.out⟩
end Go.Proofs.YtepelooebggliaaGreatDoor
namespace Go.Proofs.YtepelooebggliaaGreatDoor
open Go.ChangeShapes Go.WideShapes Go.RowKit Go.Deep Go.Joins
theorem eD {H:Type} {enc:TypeId×Pm->H} {w:Pg} {fuel:Nat} {v:Pm} {x:DataW H×List Pk} (h:Pn enc C_ w 0 (λ _=>true) true fuel 22 [v]=some x) :
  ∃ A c es,v=.slice A (N_ es) c/\Bj w A es/\(N_ es)<=9223372036854775807:=by
 have oo:∃ A len c,v=.slice A len c:=by
  rcases open_slice D_ h with ⟨Et,_⟩ | ⟨a,len,cap,m,n,D,Pl,Et,_⟩
  ·simp only[I_,and_true]at Et;exact⟨_,_,_,Et⟩
  ·simp only[I_,and_true]at Et;exact⟨_,_,_,Et⟩
 obtain⟨A,len,cap,rfl⟩:=oo
 obtain⟨h1,h2,_,h3⟩:=Ih D_ Tryz.underlying65 (by kernel_rfl) (by kernel_rfl) (by decide) h
 unfold maxLen at h2
 refine⟨A,cap,(List.range len).map λ i=>(gO w A (i*3+0),gO w A (i*3+1),gO w A (i*3+2)),by simp,λ i e he=>?_,by simp;omega⟩
 have hi:i<len:=by
  have:=(List.getElem?_eq_some_iff.1 he).1;simpa using this
 simp[List.getElem?_range hi]at he
 subst he
 obtain⟨b,off,rfl,hb,hc⟩:=h3 i hi
 obtain⟨v0,y0,n0,c0,t0⟩:=hc 0 _ rfl
 obtain⟨v1,y1,n1,c1,t1⟩:=hc 1 _ rfl
 obtain⟨v2,y2,n2,c2,t2⟩:=hc 2 _ rfl
 have e0:=(Kw H_ c0 t0).1
 have e1:=(Kw H_ c1 t1).1
 have e2:=(Kw Tryz.underlying29 c2 t2).1
 exact⟨b,off,rfl,hb,e0,e1,e2⟩
end Go.Proofs.YtepelooebggliaaGreatDoor
namespace Go.Proofs.YtepelooebggliaaGreatDoor
open Go.RowKit
theorem aa (zs:List Nat) (hz:∀ n∈zs,n<18446744073709551616):(Bl (zs.map dec)).length<=zs.length*21:=by
 have h1:=My (zs.map dec);have h2:∀ l:List Nat,(∀ n∈l,n<18446744073709551616)->((l.map dec).map N_).sum<=l.length*20:=λ l=>by
  induction l with
  | nil=>intro _;simp
  | cons n l ih =>
   intro h;have h1:=ih (λ m hm=>h m (by simp[hm]));have h2:=BL (h n (by simp));simp at h1 ⊢;omega
 have h3:=h2 zs hz;rw[Pb]at h1;omega
theorem aP (A:Option Ph) (c:Nat) (zs:List Nat) (w:Pg) (h:RowI w A (Be zs)) (Ba:Im (Be zs)=true) (hz:∀ n∈zs,n<9223372036854775808) (hl:zs.length<=1000) :
  Pj C_ 30 #[.slice A zs.length c] w λ e w'=>e=.returned (str (Bl (zs.map dec)))/\Ac w w':=by
 obtain⟨L,hL⟩:=zn (zs.length)
 have fI:(Be zs).length=L:=by simp[Be,hL]
 have HR:=zh (λ W (k:Ac w W)=>Jf A c (Be zs) W (h.grew k) (by omega))
 rw[fI,Ba]at HR
 have H0:=DK h hz hL
 rw[hL]at hl ⊢
 clear h Ba hz hL fI
 go_enter Tryz.func30,Tryz.ntmps30
 go_wp2_with fail
 go_loopw [3,4] (λ u3 i wr=>∃ k:Nat,k<=L/\i=.int .i64 k/\u3=str (Bl ((zs.take k).map dec))/\Hid (Ac w wr)) (λ _ i _=>L-(intOf i).toNat)
 case atStart=>exact⟨0,by omega,rfl,rfl,zh (zr _ _)⟩
 case round =>
  obtain⟨k,hk,rfl,rfl,hg⟩:=hrel;by_cases AH:k<L
  ·have k0:(0:Int)<=(k:Int):=(by omega);have k1:(k:Int)<(L:Int):=(by omega);have k2:decide ((k:Int)<(L:Int))=true:=zt k1;obtain⟨x,hx⟩:=zx (l:=zs) (i:=k) (by rw[H0.out.2.2];exact AH);have hxi:(Be zs)[k]? = some (x:Int):=by unfold Be;rw[List.getElem?_map,hx];rfl
   have hxl:=H0.out.2.1 x (zm hx);have LW:(zs.take (k+1)).map dec=(zs.take k).map dec++[dec x]:=by rw[L_,hx];simp
   have cN:=zh (HR.out wr hg.out);have HP:=zh (λ W=>CG x (by omega) W);have wx:IntKind.u64.wrap (x:Int)=(x:Int):=wrapN _ (by omega);have hlen:=aa (zs.take k) (λ n hn=>by have:=H0.out.2.1 n (List.mem_of_mem_take hn);omega);have htl:(zs.take k).length<=1000:=by rw[M_];omega
   have hdx:=BL (n:=x) (by omega);obtain⟨b,off,hA,hb,hc⟩:=(H0.out.1.grew hg.out) k _ hxi;subst hA;have HC:Hid (∀ W',Ac wr W'->W'.cell? ⟨b,off+k,none⟩=some (i64 (x:Int))):=λ W' k=>k.cell hc;have HX:=BP LW hg.out;clear hxi hx hb htl;by_cases hz:k=0
   ·subst hz;have d0:decide ((0:Int)<((0:Nat):Int))=false:=(by decide);rw[show Bl ((zs.take 0).map dec)=[] from rfl];obtain⟨z1,z2⟩:=DU (a:=[]) (b:=dec x) (by simp;omega);have z3:bs []++bs (dec x)=bs (dec x):=by rw[AI];rfl
    clear hlen;go_wp2_with fail;refine cN.out.mono ?_;rintro e w2 ⟨rfl,rfl⟩;have y:=HC.out _ (zr _ _);simp only[Nat.add_zero]at y;go_wp2_with fail;refine(HP.out _).mono ?_;rintro e w3 ⟨rfl,g3⟩;have G3:Hid (Ac w w3):=hg.out.trans g3;clear g3;go_wp2_with fail;go_roundw
    case rel=>exact⟨0+1,by omega,by go_num,by rw[HX.out.1];simp[Bl,EC],G3⟩
    case measure=>simp[intOf];omega
   ·have d0:decide ((0:Int)<(k:Int))=true:=zt (by omega);have Bm:(zs.take k).map dec≠[]:=λ e=>by
     have:=congrArg N_ e
     rw[Pb,M_,H0.out.2.2]at this
     simp at this
     omega
    have hsn:=ef Bm (dec x);obtain⟨t,ht⟩:=zn (Bl ((zs.take k).map dec));rw[ht]at hlen hsn ⊢;obtain⟨z1,z2⟩:=DU (a:=t) (b:=[44]) (by simp;rw[M_]at hlen;omega);obtain⟨y1,y2⟩:=DU (a:=t++[44]) (b:=dec x) (by simp;rw[M_]at hlen;omega);have z3:bs t++bs [44]=bs (t++[44]):=AI _ _;have z4:bs (t++[44])++bs (dec x)=bs ((t++[44])++dec x):=AI _ _;have e44:(⟨#[44]⟩:ByteArray)=bs [44]:=rfl;have HS:=zh hsn;clear hlen hsn Bm ht;go_wp2_with fail;refine cN.out.mono ?_;rintro e w2 ⟨rfl,rfl⟩;have y:=HC.out _ (zr _ _);go_wp2_with fail;refine(HP.out _).mono ?_;rintro e w3 ⟨rfl,g3⟩;have G3:Hid (Ac w w3):=hg.out.trans g3;clear g3;go_wp2_with fail;go_roundw
    case rel=>exact⟨k+1,by omega,by go_num,by rw[HX.out.1,HS.out,List.append_cons],G3⟩
    case measure=>simp[intOf];omega
  ·obtain rfl:k=L:=(by omega);have LW:zs.take k=zs:=Pa (by rw[H0.out.2.2];omega);rw[LW];go_wp2_with fail;go_ret;exact⟨rfl,hg.out⟩
end Go.Proofs.YtepelooebggliaaGreatDoor
