/- Walks of functions that the law reaches, and plain laws, part 12 of 21: lemmas for the proof in the last text; no condition. Shortened by program. -/
import Derived.Great.BuildSlice
import Derived.RangeFuncNested
import Derived.RangeFuncBox
import Derived.RegionTactic
import Derived.Sort.CutIn
import Derived.Deep.AppendLies
import Derived.Deep.LoopGhost
import Derived.Test.YtepelooebggliaaGreatDoorSu0
import Derived.Test.YtepelooebggliaaGreatDoorSu2
import Derived.Test.YtepelooebggliaaGreatDoorSu4
import Derived.Test.YtepelooebggliaaGreatDoorSu6
import Derived.Test.YtepelooebggliaaGreatDoorSu7
import Derived.Test.YtepelooebggliaaGreatDoorSu9
import Derived.Test.YtepelooebggliaaGreatDoorSu10
open Go.IntKind renaming i64->A_
open Go.World renaming setCell->B_,size_alloc->C_
open Go renaming World->D_,Value->E_,Calls->F_,TypeId->G_
open Go.Proofs.Tryz renaming prog->H_,results138->I_,ntmps138->J_,func138->K_
open List renaming length_nil->L_,length_cons->M_,getElem?_eq_some_iff->N_,size_toArray->O_,eq_nil_of_length_eq_zero->Pa,flatMap_cons->Pb,nodup_nil->Pc,getElem?_toArray->Pd,append_toArray->Pe,length_attach->Pf,length_append->Pg,push_toArray->Ph,cons_append->Pj,nil_append->Pk,nodup_cons->Pm
open Nat renaming le_trans->Pn
open Array renaming getElem?_eq_some_iff->Po,replicate_succ->Pp,replicate_zero->Pq
open Go.Ending renaming returned->Pr
open Go.Oper renaming semAt_some->Ps
set_option maxHeartbeats 16000000
set_option maxRecDepth 100000
set_option linter.unusedVariables false
set_option linter.unusedSimpArgs false
namespace Go.Proofs.YtepelooebggliaaGreatDoor
open Go.RowKit
structure Hx where
 es:List AB
 rk:List Int
 ss:List Sc
 out:List Int
def iD (w:D_) (B N:Nat):Option Hx->E_->Prop
 | none,hv=>hv=.pointer none
 | some x,hv=>∃ H,hv=pt H/\Ca w H B N x.es x.rk x.ss/\lJ N x.es x.rk x.ss x.out/\x.es.length<=800
structure StE (w:D_) (Y B:Nat) (hops settles:Int) (ph N:Nat) (es:List AB) (hx:Option Hx) (Ak:Option Addr) (ck:Nat) (ev hv:E_) (c0 c1 c2:Int):Prop where
 lt:Y<B
 opt:(1<=hops/\hops<=1000)/\1<=settles/\settles<=1000
 blk:iH w Y hops settles (.slice Ak 0 ck) ph N ev hv c0 c1 c2
 edg:Bc w B ev es
 hier:iD w B N hx hv
def BN (w:D_) (Y B:Nat) (hops settles:Int) (ph N:Nat) (es:List AB) (hx:Option Hx):Prop:=∃ Ak ck ev hv c0 c1 c2,StE w Y B hops settles ph N es hx Ak ck ev hv c0 c1 c2
theorem iD.kept {F:Nat->Prop} {w w':D_} {B N:Nat} {hx:Option Hx} {hv:E_} (h:iD w B N hx hv) (g:Kept F w w') (hF:∀ j,B<=j->¬ F j):iD w' B N hx hv:=by
 cases hx with
 | none=>exact h
 | some x =>
  obtain⟨H,h1,h2,h3,h4⟩:=h;exact⟨H,h1,h2.kept g hF,h3,h4⟩
theorem StE.kept {F:Nat->Prop} {w w':D_} {Y B:Nat} {hops settles:Int} {ph N:Nat} {es:List AB} {hx:Option Hx} {Ak:Option Addr} {ck:Nat} {ev hv:E_} {c0 c1 c2:Int} (h:StE w Y B hops settles ph N es hx Ak ck ev hv c0 c1 c2) (g:Kept F w w') (hY:¬ F Y) (hF:∀ j,B<=j->¬ F j):StE w' Y B hops settles ph N es hx Ak ck ev hv c0 c1 c2 :=
 ⟨h.lt,h.opt,Am.kept h.blk g hY,Kept.own g h.edg λ j hj=>hF j (Ao h.edg hj).1,h.hier.kept g hF⟩
theorem BN.kept {F:Nat->Prop} {w w':D_} {Y B:Nat} {hops settles:Int} {ph N:Nat} {es:List AB} {hx:Option Hx} (h:BN w Y B hops settles ph N es hx) (g:Kept F w w') (hY:¬ F Y) (hF:∀ j,B<=j->¬ F j):BN w' Y B hops settles ph N es hx:=by
 obtain⟨Ak,ck,ev,hv,c0,c1,c2,h⟩:=h;exact⟨Ak,ck,ev,hv,c0,c1,c2,h.kept g hY hF⟩
theorem BN.grew {w w':D_} {Y B:Nat} {hops settles:Int} {ph N:Nat} {es:List AB} {hx:Option Hx} (h:BN w Y B hops settles ph N es hx) (g:Ac w w'):BN w' Y B hops settles ph N es hx:=h.kept g (λ h=>h) (λ _ _ h=>h)
section
variable {w:D_} {Y B:Nat} {hops settles:Int}
theorem lj (hops settles:Int) (w:D_) (h1:1<=hops/\hops<=1000) (h2:1<=settles/\settles<=1000) :
  F_ H_ 46 #[.agg #[i64 hops,i64 settles,.slice none 0 0]] w λ e w'=>∃ Y,e=.returned (.tuple #[pt Y,i64 0])/\w.heap.size<=Y/\(∀ B,Y<B->BN w' Y B hops settles 0 0 [] none)/\Ac w w':=by
 have bO:Am (w.alloc (.cells #[i64 hops,i64 settles,.slice none 0 0] 70)) w.heap.size 70 #[i64 hops,i64 settles,.slice none 0 0]:=zv _ _ _
 obtain⟨w1,AQ,g1⟩:=zg w (.cells #[i64 hops,i64 settles,.slice none 0 0] 70)
 rw[AQ]at bO
 have HR:=zh (Ii hops settles [] none 0 w1 (λ i x hx=>by simp at hx) (by simp) ⟨λ x hx=>by simp at hx,Pc⟩ h1 h2)
 have HC:=zh (λ (w':D_)=>Gz none 0 [] w' (λ i x hx=>by simp at hx) (by simp))
 simp only[L_]at HR HC
 have H0:=DS g1 bO h1 h2
 obtain⟨x0,x1,x2⟩:=mu bO
 clear bO g1 h1 h2
 go_enter Tryz.func46,Tryz.ntmps46
 go_wp2_with fail
 refine HR.out.mono ?_
 rintro e w2 ⟨rfl,g2⟩
 have b2:=H0.out.2.1.grew g2
 have y2:=b2.cell 2
 simp at y2
 have H2:=BP g2 b2
 clear HR g2 b2
 go_wp2_with fail
 refine(HC.out _).mono ?_
 rintro e w3 ⟨v,rfl,ho,g3⟩
 obtain⟨A1,c1,hv⟩:=Ap ho
 simp only[L_]at hv
 subst hv
 have z0:=H2.out.2.frozen 2
 have b3:=H2.out.2.grew g3
 have z1:=b3.frozen 2
 have z2:=b3.cell 2
 have t1:=b3.set 2 (.slice A1 0 c1)
 simp only[sA]at t1
 have x5:=t1.cell 0
 have x6:=t1.cell 1
 have x7:=t1.cell 2
 simp at z2 x5 x6 x7
 have g4:Ac w (w3.setCell ⟨w.heap.size,2,none⟩ (.slice A1 0 c1)):=(((H0.out.1.trans H2.out.1).trans g3).setCell (p:=⟨w.heap.size,2,none⟩) (.inr (zl _)) _)
 obtain⟨w4,D6⟩:=zn (w3.setCell ⟨w.heap.size,2,none⟩ (.slice A1 0 c1))
 rw[D6]at t1 x5 x6 x7 g4
 have HF:=BP g4 H0.out.2.2
 clear HC ho g3 b3 t1 H2 H0 g4
 go_wp2_with fail
 go_ret2
 refine⟨_,rfl,HF.out.1.size,λ B hB=>⟨A1,c1,.slice none 0 0,.pointer none,0,0,0,hB,HF.out.2,zv _ _ _,⟨rfl,.inl ⟨rfl,rfl⟩⟩,rfl⟩,HF.out.1.alloc _⟩
end
section
variable {w:D_} {Y B:Nat} {hops settles:Int}
theorem pz (ph N0:Nat) (es0:List AB) (AM:Option Hx) (h:BN w Y B hops settles ph N0 es0 AM) (DP:ph<=3) (A:Option Addr) (c N:Nat) (es:List AB) (he:Bj w A es) (hr:Aq N es=0) (hl:es.length<=800) (hB:B<=w.heap.size) :
  F_ H_ 94 #[pt Y,.agg #[i64 N,.slice A es.length c]] w λ e w'=>e=.returned (i64 0)/\BN w' Y B hops settles 1 N es none/\Kept (λ j=>j=Y) w w':=by
 obtain⟨Ak,ck,ev,hv,c0,c1,c2,h⟩:=h
 have bN:Am (w.alloc (.cells #[i64 N,.slice A es.length c] 24)) w.heap.size 24 #[i64 N,.slice A es.length c]:=zv _ _ _
 obtain⟨w1,AQ,g1⟩:=zg w (.cells #[i64 N,.slice A es.length c] 24)
 rw[AQ]at bN
 have hm:Ft ph 0=0:=by
  have:ph=0\/ph=1\/ph=2\/ph=3:=(by omega);rcases this with rfl | rfl | rfl | rfl<;>decide
 have h1:=h.kept g1 (λ h=>h) (λ _ _ h=>h)
 have HM:=zh (E8 ph 0 (by omega) (by omega) h1.blk)
 rw[hm]at HM
 have HR:=zh (CH (N:Int) A c es w1 (he.grew g1) (by omega))
 obtain⟨L,hL⟩:=zn (es.length)
 have H0:=JQ h1 g1 bN (he.grew g1) hL hl
 rw[hL,hr]at HR
 rw[hL]at AQ ⊢
 obtain⟨x0,x1⟩:=CE bN
 rw[hL]at x1
 clear h bN g1 hm h1 he hr hl hL
 go_enter Tryz.func94,Tryz.ntmps94
 go_wp2_with fail
 refine HM.out.mono ?_
 rintro e w9 ⟨rfl,rfl⟩
 clear HM
 go_wp2_with fail
 refine HR.out.mono ?_
 rintro e w2 ⟨rfl,g2⟩
 have HC:=zh (C4 (N:Int) A c es w2 (H0.out.2.2.2.1.grew g2) (by have:=H0.out.2.2.2.2.2;omega))
 rw[H0.out.2.2.2.2.1]at HC
 have b2:=H0.out.2.2.1.grew g2
 obtain⟨x0,x1⟩:=CE b2
 rw[H0.out.2.2.2.2.1]at x1
 have H2:=DK (H0.out.2.1.trans g2) (H0.out.1.kept g2 (λ h=>h) (λ _ _ h=>h)) H0.out.2.2.2.2.1
 clear HR b2 g2 H0
 go_wp2_with fail
 refine HC.out.mono ?_
 rintro e w3 ⟨v,rfl,ho,g3⟩
 obtain⟨A1,Gw,Gk⟩:=Ap ho
 rw[H2.out.2.2]at Gk
 subst Gk
 have h3:=H2.out.2.1.kept g3 (λ h=>h) (λ _ _ h=>h)
 have b0:=h3.blk
 unfold iH NP at b0
 have b1:=b0.set 4 (i64 N)
 have b2:=b1.set 5 (.slice A1 L Gw)
 have b3:=b2.set 6 (.pointer none)
 have b4:=b3.set 3 (i64 1)
 simp only[sA]at b1 b2 b3 b4
 have f0:=b0.frozen 4
 have f1:=b1.frozen 5
 have f2:=b2.frozen 6
 have f3:=b3.frozen 3
 have y0:=b0.cell 4
 have y1:=b1.cell 5
 have y2:=b2.cell 6
 have y3:=b3.cell 3
 simp at y0 y1 y2 y3
 have kk:Kept (λ j=>j=Y) w3 ((((w3.setCell ⟨Y,4,none⟩ (i64 N)).setCell ⟨Y,5,none⟩ (.slice A1 L Gw)).setCell ⟨Y,6,none⟩ (.pointer none)).setCell ⟨Y,3,none⟩ (i64 1)) :=
  ((((zr (λ j=>j=Y) w3).setCell (p:=⟨Y,4,none⟩) (.inl rfl) _).setCell (p:=⟨Y,5,none⟩) (.inl rfl) _).setCell (p:=⟨Y,6,none⟩) (.inl rfl) _).setCell (p:=⟨Y,3,none⟩) (.inl rfl) _
 obtain⟨w4,D6⟩:=zn (((((w3.setCell ⟨Y,4,none⟩ (i64 N)).setCell ⟨Y,5,none⟩ (.slice A1 L Gw)).setCell ⟨Y,6,none⟩ (.pointer none)).setCell ⟨Y,3,none⟩ (i64 1)))
 have H3:=Gt ho h3 g3 (D6▸kk) (D6▸b4)
 clear HC ho h3 g3 b0 b1 b2 b3 b4 kk
 go_upto_region 7 with fail
 have e4:((((w3.setCell ⟨Y,4,none⟩ (.int .i64 N)).setCell ⟨Y,5,none⟩ (.slice A1 L Gw)).setCell ⟨Y,6,none⟩ (.pointer none)).setCell ⟨Y,3,none⟩ (.int .i64 1))=w4:=D6
 try rw [e4]
 clear e4 D6 f0 f1 f2 f3 y0 y1 y2 y3
 have HK:Hid (∀ w',Ac w4 w'->w'.cell? ⟨Y,7,none⟩=some (i64 c0)):=λ w' k=>by
  have:=(Am.grew H3.out.2.2.2.2 k).cell 7;simpa using this
 have f7:=Am.frozen H3.out.2.2.2.2 7
 have y7:=HK.out w4 (zr _ _)
 refine rG [9] (λ _=>False) ?_
 refine pG 0 25 ?_
 refine pG 1 26 ?_
 refine pG 2 27 ?_
 refine pG 3 28 ?_
 refine tF 4 29 HK.out ((zr (λ _=>False) _).drew) ?_
 refine pG 5 30 ?_
 refine pG 6 31 ?_
 refine pG 7 32 ?_
 refine pG 8 33 ?_
 refine DH 9 (λ K Aj=>?_)
 go_simp
 refine Aj _ (λ h=>absurd (by simp) h) ?_
 clear Aj
 refine dG ?_
 have H4:Hid (BN (w4.setCell ⟨Y,7,none⟩ (i64 (A_.wrap (c0+1)))).drew Y B hops settles 1 N es none/\Kept (λ j=>j=Y) w (w4.setCell ⟨Y,7,none⟩ (i64 (A_.wrap (c0+1)))).drew):=by
  obtain⟨ho,h3,g3,k4,b4⟩:=H3.out;have k5:Kept (λ j=>j=Y) w3 (w4.setCell ⟨Y,7,none⟩ (i64 (A_.wrap (c0+1)))).drew:=(k4.setCell (p:=⟨Y,7,none⟩) (.inl rfl) _).drew;have b5:=b4.set 7 (i64 (A_.wrap (c0+1)));simp only[sA]at b5;have FY:B<=w2.heap.size:=Pn hB H2.out.1.size;have AH:=h3.lt;refine⟨⟨Ak,ck,.slice A1 L Gw,.pointer none,A_.wrap (c0+1),c1,c2,h3.lt,h3.opt,b5,Az (Kept.own k5 ho λ j hj e=>?_) FY,rfl⟩,(Ac.kept (H2.out.1.trans g3)).then k5 (λ _ _ h=>h)⟩;have h1:=(Ao ho hj).1;omega
 clear H3 HK f7 y7
 go_wp2_with fail
 go_ret
 exact⟨rfl,H4.out⟩
theorem uI (ph N:Nat) (es:List AB) (hx:Option Hx) (h:BN w Y B hops settles ph N es hx) (DP:1<=ph/\ph<=3) (hr:Aq N es=0) (hl:es.length<=800) (e x:Int) (hb:BW es e x≠0) :
  F_ H_ 97 #[pt Y,i64 e,u64 x] w λ r w'=>r=.returned (i64 (BW es e x))/\Ac w w':=by
 obtain⟨Ak,ck,ev,hv,c0,c1,c2,h⟩:=h
 obtain⟨A,c,rfl,he⟩:=h.edg.row
 have hm:Ft ph 1=0:=by
  have:ph=1\/ph=2\/ph=3:=(by omega);rcases this with rfl | rfl | rfl<;>decide
 have HM:=zh (E8 ph 1 (by omega) (by omega) h.blk)
 rw[hm]at HM
 have y4:=Am.cell h.blk 4
 have y5:=Am.cell h.blk 5
 simp[NP]at y4 y5
 obtain⟨w1,AQ,g1,b1⟩:=zb w #[i64 e,u64 x] 216 rfl
 have HA:=zh (mQ (N:Int) A c w.heap.size es e x w1 (he.grew g1) (by omega) hr hb (b1.cell 0) (b1.cell 1))
 obtain⟨L,hL⟩:=zn (es.length)
 obtain⟨code,Kj⟩:=zn (BW es e x)
 rw[hL,Kj]at HA
 rw[hL]at y5
 rw[Kj]at hb ⊢
 have hcz2:((code:Int) != 0)=true:=by simp;omega
 have G1:=zh g1
 clear h he hm g1 b1 hr hl hL Kj hb
 go_enter Tryz.func97,Tryz.ntmps97
 go_wp2_with fail
 refine HM.out.mono ?_
 rintro r w9 ⟨rfl,rfl⟩
 clear HM
 go_wp2_with fail
 refine HA.out.mono ?_
 rintro r w2 ⟨rfl,g2⟩
 have HF:Hid (Ac w (w2.alloc (.cells #[i64 0,.slice none 0 0] 24))):=(G1.out.trans g2).alloc _
 clear HA g2 G1
 go_wp2_with fail
 go_ret
 exact⟨rfl,HF.out⟩
theorem qe (ph N:Nat) (es:List AB) (hx:Option Hx) (h:BN w Y B hops settles ph N es hx) (DP:1<=ph/\ph<=3) (hr:Aq N es=0) (hl:es.length<=800) (e:Nat) (x:Int) (hb:e<es.length/\1<=x/\x<=4294967296) (hB:B<=w.heap.size) :
  F_ H_ 97 #[pt Y,i64 e,u64 x] w λ r w'=>r=.returned (i64 0)/\BN w' Y B hops settles (if ph=2 then 3 else ph) N (BX es e x) hx/\Kept (λ j=>j=Y) w w':=by
 obtain⟨wQ,OZ⟩:∃ p,(if ph=2 then 3 else ph)=p:=⟨_,rfl⟩
 rw[OZ]
 obtain⟨Ak,ck,ev,hv,c0,c1,c2,h⟩:=h
 obtain⟨A,c,rfl,he⟩:=h.edg.row
 have hm:Ft ph 1=0:=by
  have:ph=1\/ph=2\/ph=3:=(by omega);rcases this with rfl | rfl | rfl<;>decide
 have HM:=zh (E8 ph 1 (by omega) (by omega) h.blk)
 rw[hm]at HM
 have y4:=Am.cell h.blk 4
 have y5:=Am.cell h.blk 5
 simp[NP]at y4 y5
 obtain⟨w1,AQ,g1,b1⟩:=zb w #[i64 (e:Int),u64 x] 216 rfl
 have HA:=zh (iP (N:Int) A c w.heap.size es e x w1 (he.grew g1) (by omega) hr hb (b1.cell 0) (b1.cell 1))
 obtain⟨L,hL⟩:=zn (es.length)
 have H0:=DS g1 h hL (Pn hB g1.size)
 rw[hL]at HA
 rw[hL]at y5
 clear h he hm g1 b1 hr hl hL hb
 go_enter Tryz.func97,Tryz.ntmps97
 go_wp2_with fail
 refine HM.out.mono ?_
 rintro r w9 ⟨rfl,rfl⟩
 clear HM
 go_wp2_with fail
 refine HA.out.mono ?_
 rintro r w2 ⟨v,rfl,ho,g2⟩
 obtain⟨A1,Gw,Gk⟩:=Ap ho
 rw[BO,H0.out.2.2.1]at Gk
 subst Gk
 obtain⟨w3,Dj,g3,b3⟩:=zb w2 #[i64 N,.slice A1 L Gw] 24 rfl
 obtain⟨z0,z1⟩:=CE b3
 have h3:=H0.out.2.1.kept ((H0.out.1.trans g2).trans g3) (λ h=>h) (λ _ _ h=>h)
 have b0:=h3.blk
 unfold iH NP at b0
 have b1:=b0.set 4 (i64 N)
 have b2:=b1.set 5 (.slice A1 L Gw)
 simp only[sA]at b1 b2
 have f0:=b0.frozen 4
 have f1:=b1.frozen 5
 have y0:=b0.cell 4
 have y1:=b1.cell 5
 simp at y0 y1
 have kk:Kept (λ j=>j=Y) w3 ((w3.setCell ⟨Y,4,none⟩ (i64 N)).setCell ⟨Y,5,none⟩ (.slice A1 L Gw)) :=
  (((zr (λ j=>j=Y) w3).setCell (p:=⟨Y,4,none⟩) (.inl rfl) _).setCell (p:=⟨Y,5,none⟩) (.inl rfl) _)
 obtain⟨w4,D6⟩:=zn (((w3.setCell ⟨Y,4,none⟩ (i64 N)).setCell ⟨Y,5,none⟩ (.slice A1 L Gw)))
 rw[D6]at kk b2
 have y6:=b2.cell 3
 have f6:=b2.frozen 3
 simp at y6
 have b5:=b2.set 3 (i64 3)
 simp only[sA]at b5
 have H3:=JQ ho h3 ((H0.out.1.trans g2).trans g3) kk b2 b5
 have lF:=BP ((Pn H0.out.2.2.2 (zl _):B<=w1.heap.size)) g3
 clear HA ho h3 g3 g2 b0 b1 b2 b3 kk b5 H0
 go_upto_region 8 with fail
 have e4:((w3.setCell ⟨Y,4,none⟩ (.int .i64 N)).setCell ⟨Y,5,none⟩ (.slice A1 L Gw))=w4:=D6
 try rw [e4]
 clear e4 D6 f0 f1 y0 y1
 by_cases Jq:ph=2
 ·subst Jq;rw[if_pos rfl]at OZ;subst OZ;go_upto_region 10 with fail;have HK:Hid (∀ w',Ac (B_ w4 ⟨Y,3,none⟩ (i64 3)) w'->w'.cell? ⟨Y,9,none⟩=some (i64 c2)):=λ w' k=>by
   have:=(Am.grew (H3.out.2.2.2.2.2) k).cell 9
   simpa using this
  have f7:=Am.frozen (H3.out.2.2.2.2.2) 9;have y7:=HK.out _ (zr _ _);refine rG [9] (λ _=>False) ?_;refine pG 0 44 ?_;refine pG 1 45 ?_;refine pG 2 46 ?_;refine pG 3 47 ?_;refine tF 4 48 HK.out ((zr (λ _=>False) _).drew) ?_;refine pG 5 49 ?_;refine pG 6 50 ?_;refine pG 7 51 ?_;refine pG 8 52 ?_;refine DH 9 (λ K Aj=>?_);go_simp;refine Aj _ (λ h=>absurd (by simp) h) ?_;clear Aj;refine dG ?_;have H4:Hid (BN (B_ (B_ w4 ⟨Y,3,none⟩ (i64 3)) ⟨Y,9,none⟩ (i64 (A_.wrap (c2+1)))).drew Y B hops settles 3 N (BX es e x) hx/\Kept (λ j=>j=Y) w (B_ (B_ w4 ⟨Y,3,none⟩ (i64 3)) ⟨Y,9,none⟩ (i64 (A_.wrap (c2+1)))).drew):=by
   obtain⟨ho,h3,g3,k4,b4,b5⟩:=H3.out
   have k5:Kept (λ j=>j=Y) w3 (B_ (B_ w4 ⟨Y,3,none⟩ (i64 3)) ⟨Y,9,none⟩ (i64 (A_.wrap (c2+1)))).drew:=((k4.setCell (p:=⟨Y,3,none⟩) (.inl rfl) _).setCell (p:=⟨Y,9,none⟩) (.inl rfl) _).drew
   have b6:=(H3.out.2.2.2.2.2).set 9 (i64 (A_.wrap (c2+1)))
   simp only[sA]at b6
   have AH:=h3.lt
   refine⟨⟨Ak,ck,.slice A1 L Gw,hv,c0,c1,A_.wrap (c2+1),h3.lt,h3.opt,b6,Az (Kept.own k5 (Ac.own lF.out.2 ho) λ j hj e=>?_) lF.out.1,h3.hier.kept k5 λ j hj e=>?_⟩,(Ac.kept g3).then k5 (λ _ _ h=>h)⟩
   ·have h1:=(Ao ho hj).1;have h2:=lF.out.1;omega
   ·have e:j=Y:=e;omega
  clear H3 HK f7 y7;go_wp2_with fail;go_ret;exact⟨rfl,H4.out⟩
 ·have lU:((ph:Int)==2)=false:=by simp;omega
  rw[if_neg Jq]at OZ;subst OZ;go_upto_region 10 with fail;have HK:Hid (∀ w',Ac w4 w'->w'.cell? ⟨Y,9,none⟩=some (i64 c2)):=λ w' k=>by
   have:=(Am.grew (H3.out.2.2.2.2.1) k).cell 9
   simpa using this
  have f7:=Am.frozen (H3.out.2.2.2.2.1) 9;have y7:=HK.out _ (zr _ _);refine rG [9] (λ _=>False) ?_;refine pG 0 44 ?_;refine pG 1 45 ?_;refine pG 2 46 ?_;refine pG 3 47 ?_;refine tF 4 48 HK.out ((zr (λ _=>False) _).drew) ?_;refine pG 5 49 ?_;refine pG 6 50 ?_;refine pG 7 51 ?_;refine pG 8 52 ?_;refine DH 9 (λ K Aj=>?_);go_simp;refine Aj _ (λ h=>absurd (by simp) h) ?_;clear Aj;refine dG ?_;have H4:Hid (BN (B_ w4 ⟨Y,9,none⟩ (i64 (A_.wrap (c2+1)))).drew Y B hops settles ph N (BX es e x) hx/\Kept (λ j=>j=Y) w (B_ w4 ⟨Y,9,none⟩ (i64 (A_.wrap (c2+1)))).drew):=by
   obtain⟨ho,h3,g3,k4,b4,b5⟩:=H3.out
   have k5:Kept (λ j=>j=Y) w3 (B_ w4 ⟨Y,9,none⟩ (i64 (A_.wrap (c2+1)))).drew:=((k4).setCell (p:=⟨Y,9,none⟩) (.inl rfl) _).drew
   have b6:=(H3.out.2.2.2.2.1).set 9 (i64 (A_.wrap (c2+1)))
   simp only[sA]at b6
   have AH:=h3.lt
   refine⟨⟨Ak,ck,.slice A1 L Gw,hv,c0,c1,A_.wrap (c2+1),h3.lt,h3.opt,b6,Az (Kept.own k5 (Ac.own lF.out.2 ho) λ j hj e=>?_) lF.out.1,h3.hier.kept k5 λ j hj e=>?_⟩,(Ac.kept g3).then k5 (λ _ _ h=>h)⟩
   ·have h1:=(Ao ho hj).1;have h2:=lF.out.1;omega
   ·have e:j=Y:=e;omega
  clear H3 HK f7 y7;go_wp2_with fail;go_ret;exact⟨rfl,H4.out⟩
end
theorem eJ (A A2:Option Addr) (n c n2 c2:Nat) (w:D_):(Instr.field 87 (.agg #[.slice A n c,.slice A2 n2 c2]) 0).run H_ w=.ok (.slice A n c) w:=by kernel_rfl
section
variable {w:D_} {Y B:Nat} {hops settles:Int} {Rk:Option Addr} {nr cr:Nat}
theorem NF (ph N:Nat) (es:List AB) (hx:Option Hx) (h:BN w Y B hops settles ph N es hx) (CB:List Int) (hR:RowI w Rk CB) (hl:CB.length=nr) (hn:nr=N) (hN:1<=N) :
  F_ H_ 138 #[pt Y,.slice Rk nr cr] w λ e w'=>∃ A' c' rk,e=.returned (.agg #[i64 hops,i64 settles,.slice A' rk.length c'])/\RowI w' A' rk/\rk=CB/\Ac w w':=by
 obtain⟨Ak,ck,ev,hv,c0,c1,c2,h⟩:=h
 obtain⟨w1,AQ,g1,b1⟩:=zb w #[i64 0,i64 0,.slice none 0 0] 70 rfl
 have s1:w1.heap.size=w.heap.size+1:=by rw[<- AQ];simp
 have h1:=h.kept g1 (λ h=>h) (λ _ _ h=>h)
 have x0:=Am.cell h1.blk 0
 have x1:=Am.cell h1.blk 1
 have x2:=Am.cell h1.blk 2
 have x4:=Am.cell h1.blk 4
 have x6:=Am.cell h1.blk 6
 simp[NP]at x0 x1 x2 x4 x6
 obtain⟨w2,BM,g2,b2⟩:=zb w1 #[i64 hops,i64 settles,.slice Ak 0 ck] 70 rfl
 have y0:=b2.cell 0
 have y1:=b2.cell 1
 have y2:=b2.cell 2
 have yf:=b2.frozen 2
 simp at y0 y1 y2
 have z4:=ze g2 x4
 have z6:=ze g2 x6
 have b3:=b2.set 2 (.slice Rk nr cr)
 simp only[sA]at b3
 have k3:Kept (λ j=>j=w1.heap.size) w2 (w2.setCell ⟨w1.heap.size,2,none⟩ (.slice Rk nr cr)):=(zr (λ j=>j=w1.heap.size) w2).setCell (p:=⟨w1.heap.size,2,none⟩) (.inl rfl) _
 have g3:Ac w (w2.setCell ⟨w1.heap.size,2,none⟩ (.slice Rk nr cr)):=(g1.trans g2).setCell (.inr (by show w.heap.size<=w1.heap.size;omega)) _
 obtain⟨w3,Dj⟩:=zn (w2.setCell ⟨w1.heap.size,2,none⟩ (.slice Rk nr cr))
 rw[Dj]at b3 k3 g3
 have h3:=h.kept g3 (λ h=>h) (λ _ _ h=>h)
 have n4:=Am.cell h3.blk 4
 have m2:=b3.cell 2
 simp[NP]at n4 m2
 have sF:Am w3 w.heap.size 70 #[i64 0,i64 0,.slice none 0 0]:=(b1.grew g2).kept k3 (λ e=>by omega)
 have yX:(0:Int)<(nr:Int):=by omega
 have hnr2:0<nr:=by omega
 have hbe:((nr:Int) != (N:Int))=false:=by simp[hn]
 have H0:=BP hR hl
 clear g1 b1 h1 g2 z4 z6 k3 b2 h h3 hR hl hn hN s1
 go_enter K_,J_
 have t0:=sF
 have p0:=(b3).cell 0
 have p1:=(b3).cell 1
 have p2:=(b3).cell 2
 have u0:=t0.frozen 0
 have v0:=t0.cell 0
 have t1:=t0.set 0 (i64 hops)
 have u1:=t1.frozen 1
 have v1:=t1.cell 1
 have t2:=t1.set 1 (i64 settles)
 have u2:=t2.frozen 2
 have v2:=t2.cell 2
 have t3:=t2.set 2 (.slice Rk nr cr)
 have r0:=t3.cell 0
 have r1:=t3.cell 1
 have r2:=t3.cell 2
 simp at p0 p1 p2 v0 v1 v2 r0 r1 r2
 have g5:Ac w (((B_ w3 ⟨w.heap.size,0,none⟩ (i64 hops)).setCell ⟨w.heap.size,1,none⟩ (i64 settles)).setCell ⟨w.heap.size,2,none⟩ (.slice Rk nr cr)) :=
  (((Kept.setCell g3 (p:=⟨w.heap.size,0,none⟩) (.inr (zl _)) _).setCell (p:=⟨w.heap.size,1,none⟩) (.inr (zl _)) _).setCell (p:=⟨w.heap.size,2,none⟩) (.inr (zl _)) _)
 have HF:Hid (∃ A' c' rk,Pr (.agg #[i64 hops,i64 settles,.slice Rk nr cr])=.returned (.agg #[i64 hops,i64 settles,.slice A' rk.length c'])/\RowI (((B_ w3 ⟨w.heap.size,0,none⟩ (i64 hops)).setCell ⟨w.heap.size,1,none⟩ (i64 settles)).setCell ⟨w.heap.size,2,none⟩ (.slice Rk nr cr)) A' rk/\rk=CB/\Ac w (((B_ w3 ⟨w.heap.size,0,none⟩ (i64 hops)).setCell ⟨w.heap.size,1,none⟩ (i64 settles)).setCell ⟨w.heap.size,2,none⟩ (.slice Rk nr cr))):=⟨Rk,cr,CB,by rw[H0.out.2],H0.out.1.grew g5,rfl,g5⟩
 clear H0 b3 sF g3 t0 t1 t2 t3 g5
 go_wp2_with fail
 exact zy (v:=.agg #[i64 hops,i64 settles,.slice Rk nr cr]) (by simp[results,I_,go_sem,r0,r1,r2]) rfl HF.out
theorem aK (ph N:Nat) (es:List AB) (hx:Option Hx) (h:BN w Y B hops settles ph N es hx) (AM:hx=none) (hn:nr=0) (hN:1<=N) :
  F_ H_ 138 #[pt Y,.slice Rk nr cr] w λ e w'=>∃ A' c' rk,e=.returned (.agg #[i64 hops,i64 settles,.slice A' rk.length c'])/\RowI w' A' rk/\rk=[]/\Ac w w':=by
 obtain⟨Ak,ck,ev,hv,c0,c1,c2,h⟩:=h
 obtain⟨w1,AQ,g1,b1⟩:=zb w #[i64 0,i64 0,.slice none 0 0] 70 rfl
 have s1:w1.heap.size=w.heap.size+1:=by rw[<- AQ];simp
 have h1:=h.kept g1 (λ h=>h) (λ _ _ h=>h)
 have x0:=Am.cell h1.blk 0
 have x1:=Am.cell h1.blk 1
 have x2:=Am.cell h1.blk 2
 have x4:=Am.cell h1.blk 4
 have x6:=Am.cell h1.blk 6
 simp[NP]at x0 x1 x2 x4 x6
 obtain⟨w2,BM,g2,b2⟩:=zb w1 #[i64 hops,i64 settles,.slice Ak 0 ck] 70 rfl
 have y0:=b2.cell 0
 have y1:=b2.cell 1
 have y2:=b2.cell 2
 have yf:=b2.frozen 2
 simp at y0 y1 y2
 have z4:=ze g2 x4
 have z6:=ze g2 x6
 subst AM hn
 have sF:Am w2 w.heap.size 70 #[i64 0,i64 0,.slice none 0 0]:=b1.grew g2
 have g3:Ac w w2:=g1.trans g2
 obtain rfl:hv=.pointer none:=h.hier
 have h2:=h1.kept g2 (λ h=>h) (λ _ _ h=>h)
 have n4:=Am.cell h2.blk 4
 simp[NP]at n4
 have hNN:((0:Int) != (N:Int))=true:=by simp;omega
 have so:=DS sF b2 g3 s1
 clear g1 b1 h1 g2 h s1 h2 sF b2 g3
 go_enter K_,J_
 go_upto_region 6 with fail
 go_quiet (fail)
 have gq:Ac w2 (w2.drewN nq):=(zr _ _).drewN _
 obtain⟨w3,Dj⟩:=zn (w2.drewN nq)
 rw[Dj]at gq ⊢
 clear Dj
 have b3:=so.out.2.1.grew gq
 have yf:=b3.frozen 2
 have yc:=b3.cell 2
 have b4:=b3.set 2 (.slice none 0 0)
 simp only[sA]at b4
 simp at yc
 have k4:Kept (λ j=>j=w1.heap.size) w3 (w3.setCell ⟨w1.heap.size,2,none⟩ (.slice none 0 0)):=(zr (λ j=>j=w1.heap.size) w3).setCell (p:=⟨w1.heap.size,2,none⟩) (.inl rfl) _
 have g4:Ac w (w3.setCell ⟨w1.heap.size,2,none⟩ (.slice none 0 0)):=(so.out.2.2.1.trans gq).setCell (.inr (by show w.heap.size<=w1.heap.size;have:=so.out.2.2.2;omega)) _
 have bR4:Am (w3.setCell ⟨w1.heap.size,2,none⟩ (.slice none 0 0)) w.heap.size 70 #[i64 0,i64 0,.slice none 0 0]:=(so.out.1.grew gq).kept k4 (λ e=>by have:=so.out.2.2.2;omega)
 clear b3 k4 gq
 have t0:=bR4
 have p0:=(b4).cell 0
 have p1:=(b4).cell 1
 have p2:=(b4).cell 2
 have u0:=t0.frozen 0
 have v0:=t0.cell 0
 have t1:=t0.set 0 (i64 hops)
 have u1:=t1.frozen 1
 have v1:=t1.cell 1
 have t2:=t1.set 1 (i64 settles)
 have u2:=t2.frozen 2
 have v2:=t2.cell 2
 have t3:=t2.set 2 (.slice none 0 0)
 have r0:=t3.cell 0
 have r1:=t3.cell 1
 have r2:=t3.cell 2
 simp at p0 p1 p2 v0 v1 v2 r0 r1 r2
 have g5:Ac w (((B_ (w3.setCell ⟨w1.heap.size,2,none⟩ (.slice none 0 0)) ⟨w.heap.size,0,none⟩ (i64 hops)).setCell ⟨w.heap.size,1,none⟩ (i64 settles)).setCell ⟨w.heap.size,2,none⟩ (.slice none 0 0)) :=
  (((Kept.setCell g4 (p:=⟨w.heap.size,0,none⟩) (.inr (zl _)) _).setCell (p:=⟨w.heap.size,1,none⟩) (.inr (zl _)) _).setCell (p:=⟨w.heap.size,2,none⟩) (.inr (zl _)) _)
 have HF:Hid (∃ A' c' rk,Pr (.agg #[i64 hops,i64 settles,.slice none 0 0])=.returned (.agg #[i64 hops,i64 settles,.slice A' rk.length c'])/\RowI (((B_ (w3.setCell ⟨w1.heap.size,2,none⟩ (.slice none 0 0)) ⟨w.heap.size,0,none⟩ (i64 hops)).setCell ⟨w.heap.size,1,none⟩ (i64 settles)).setCell ⟨w.heap.size,2,none⟩ (.slice none 0 0)) A' rk/\rk=[]/\Ac w (((B_ (w3.setCell ⟨w1.heap.size,2,none⟩ (.slice none 0 0)) ⟨w.heap.size,0,none⟩ (i64 hops)).setCell ⟨w.heap.size,1,none⟩ (i64 settles)).setCell ⟨w.heap.size,2,none⟩ (.slice none 0 0))):=⟨none,0,[],rfl,λ i x hx=>by simp at hx,rfl,g5⟩
 clear b4 bR4 g4 so t0 t1 t2 t3 g5
 go_wp2_with fail
 exact zy (v:=.agg #[i64 hops,i64 settles,.slice none 0 0]) (by simp[results,I_,go_sem,r0,r1,r2]) rfl HF.out
theorem aL (ph N:Nat) (es:List AB) (hx:Option Hx) (h:BN w Y B hops settles ph N es hx) (x:Hx) (AM:hx=some x) (hn:nr=0) (hN:N<=12) :
  F_ H_ 138 #[pt Y,.slice Rk nr cr] w λ e w'=>∃ A' c' rk,e=.returned (.agg #[i64 hops,i64 settles,.slice A' rk.length c'])/\RowI w' A' rk/\rk=x.rk/\Ac w w':=by
 obtain⟨Ak,ck,ev,hv,c0,c1,c2,h⟩:=h
 obtain⟨w1,AQ,g1,b1⟩:=zb w #[i64 0,i64 0,.slice none 0 0] 70 rfl
 have s1:w1.heap.size=w.heap.size+1:=by rw[<- AQ];simp
 have h1:=h.kept g1 (λ h=>h) (λ _ _ h=>h)
 have x0:=Am.cell h1.blk 0
 have x1:=Am.cell h1.blk 1
 have x2:=Am.cell h1.blk 2
 have x4:=Am.cell h1.blk 4
 have x6:=Am.cell h1.blk 6
 simp[NP]at x0 x1 x2 x4 x6
 obtain⟨w2,BM,g2,b2⟩:=zb w1 #[i64 hops,i64 settles,.slice Ak 0 ck] 70 rfl
 have y0:=b2.cell 0
 have y1:=b2.cell 1
 have y2:=b2.cell 2
 have yf:=b2.frozen 2
 simp at y0 y1 y2
 have z4:=ze g2 x4
 have z6:=ze g2 x6
 subst AM hn
 obtain⟨H,rfl,hH,Ko,hel⟩:=h.hier
 have HH:=zh (FH (hH.kept (g1.trans g2) (λ _ _ h=>h)) (by rw[Ko.rlen];omega) (by obtain⟨gg,CW⟩:=Ko.st;have:=CW.lenS hN hel;omega))
 have H0:=JQ (b1.grew g2) b2 ((g1.trans g2)) s1 Ko h
 have w1e:Hid (w2.heap.size=w.heap.size+2):=by show _=_;rw[<- BM];simp[s1]
 clear g1 b1 h1 g2 h s1 hH Ko b2
 go_enter K_,J_
 go_wp2_with fail
 refine HH.out.mono ?_
 rintro e w3 ⟨v1,v2,rfl,CQ,Cr,g3⟩
 obtain⟨A1,Gw,Gk,Ob⟩:=CQ.row
 obtain⟨A2,c2',rfl⟩:=Ap Cr
 rw[H0.out.2.2.2.2.1.rlen]at Gk
 subst Gk
 have b3:=H0.out.2.1.grew g3
 have yf3:=b3.frozen 2
 have y23:=b3.cell 2
 have b4:=b3.set 2 (.slice A1 N Gw)
 simp only[sA]at b4
 have k4:Kept (λ j=>j=w1.heap.size) w3 (w3.setCell ⟨w1.heap.size,2,none⟩ (.slice A1 N Gw)):=(zr (λ j=>j=w1.heap.size) w3).setCell (p:=⟨w1.heap.size,2,none⟩) (.inl rfl) _
 have g4:Ac w (w3.setCell ⟨w1.heap.size,2,none⟩ (.slice A1 N Gw)):=(H0.out.2.2.1.trans g3).setCell (.inr (by show w.heap.size<=w1.heap.size;have:=H0.out.2.2.2.1;omega)) _
 obtain⟨w4,D6⟩:=zn (w3.setCell ⟨w1.heap.size,2,none⟩ (.slice A1 N Gw))
 rw[D6]at b4 k4 g4
 have bR4:Am w4 w.heap.size 70 #[i64 0,i64 0,.slice none 0 0]:=(H0.out.1.grew g3).kept k4 (λ e=>by have:=H0.out.2.2.2.1;omega)
 have h4:=H0.out.2.2.2.2.2.kept g4 (λ h=>h) (λ _ _ h=>h)
 have n4:=Am.cell h4.blk 4
 have m2:=b4.cell 2
 simp[NP]at n4 m2 y23
 have hr4:RowI w4 A1 x.rk:=Ob.kept k4 (λ a ha e=>by
  subst ha;have h1:=(Ao CQ (show Value.ownBlock _=some a.block from rfl)).1;have h2:=w1e.out;have h3:=H0.out.2.2.2.1;omega)
 have HR4:=zh (show _/\_/\_ from ⟨hr4,H0.out.2.2.2.2.1,(λ a ha e=>by
  subst ha;have h1:=(Ao CQ (show Value.ownBlock _=some a.block from rfl)).1;have h2:=w1e.out;omega:∀ a,A1=some a->¬ a.block=w.heap.size)⟩)
 clear HH CQ Cr g3 Ob b3 k4 h4 hr4 H0
 have hfl:=eJ A1 A2 N Gw x.ss.length c2' w3
 have t0:=bR4
 have p0:=(b4).cell 0
 have p1:=(b4).cell 1
 have p2:=(b4).cell 2
 have u0:=t0.frozen 0
 have v0:=t0.cell 0
 have t1:=t0.set 0 (i64 hops)
 have u1:=t1.frozen 1
 have v1:=t1.cell 1
 have t2:=t1.set 1 (i64 settles)
 have u2:=t2.frozen 2
 have v2:=t2.cell 2
 have t3:=t2.set 2 (.slice A1 N Gw)
 have r0:=t3.cell 0
 have r1:=t3.cell 1
 have r2:=t3.cell 2
 simp at p0 p1 p2 v0 v1 v2 r0 r1 r2
 have g5:Ac w (((B_ w4 ⟨w.heap.size,0,none⟩ (i64 hops)).setCell ⟨w.heap.size,1,none⟩ (i64 settles)).setCell ⟨w.heap.size,2,none⟩ (.slice A1 N Gw)) :=
  (((Kept.setCell g4 (p:=⟨w.heap.size,0,none⟩) (.inr (zl _)) _).setCell (p:=⟨w.heap.size,1,none⟩) (.inr (zl _)) _).setCell (p:=⟨w.heap.size,2,none⟩) (.inr (zl _)) _)
 have HF:Hid (∃ A' c' rk,Pr (.agg #[i64 hops,i64 settles,.slice A1 N Gw])=.returned (.agg #[i64 hops,i64 settles,.slice A' rk.length c'])/\RowI (((B_ w4 ⟨w.heap.size,0,none⟩ (i64 hops)).setCell ⟨w.heap.size,1,none⟩ (i64 settles)).setCell ⟨w.heap.size,2,none⟩ (.slice A1 N Gw)) A' rk/\rk=x.rk/\Ac w (((B_ w4 ⟨w.heap.size,0,none⟩ (i64 hops)).setCell ⟨w.heap.size,1,none⟩ (i64 settles)).setCell ⟨w.heap.size,2,none⟩ (.slice A1 N Gw))):=⟨A1,Gw,x.rk,by rw[HR4.out.2.1.rlen],HR4.out.1.kept ((((zr (λ j=>j=w.heap.size) w4).setCell (p:=⟨w.heap.size,0,none⟩) (.inl rfl) _).setCell (p:=⟨w.heap.size,1,none⟩) (.inl rfl) _).setCell (p:=⟨w.heap.size,2,none⟩) (.inl rfl) _) HR4.out.2.2,rfl,g5⟩
 clear g4 b4 bR4 HR4 t0 t1 t2 t3 g5
 go_wp2_with fail
 exact zy (v:=.agg #[i64 hops,i64 settles,.slice A1 N Gw]) (by simp[results,I_,go_sem,r0,r1,r2]) rfl HF.out
end
def Ix (rk:List Int) (hx:Option Hx):List Int:=if rk=[] then (match hx with | none=>[] | some x=>x.rk) else rk
section
variable {w:D_} {Y B:Nat} {hops settles:Int} {Rk:Option Addr} {nr cr:Nat}
theorem KV (ph N:Nat) (es:List AB) (hx:Option Hx) (h:BN w Y B hops settles ph N es hx) (CB:List Int) (hR:RowI w Rk CB) (hl:CB.length=nr) (hn:nr=0\/nr=N) (hN:N<=12) (Nd:1<=N) :
  F_ H_ 138 #[pt Y,.slice Rk nr cr] w λ e w'=>∃ A' c' rk,e=.returned (.agg #[i64 hops,i64 settles,.slice A' rk.length c'])/\RowI w' A' rk/\rk=Ix CB hx/\Ac w w':=by
 rcases hn with hn | hn
 ·have h0:CB=[]:=Pa (by omega);unfold Ix;rw[if_pos h0];cases hx with
  | none=>exact aK ph N es none h rfl hn Nd
  | some x=>exact aL ph N es (some x) h x rfl hn hN
 ·unfold Ix;rw[if_neg (λ e=>by rw[e]at hl;simp at hl;omega)];exact NF ph N es hx h CB hR hl hn Nd
theorem p9 {ph N:Nat} {es:List AB} {hx:Option Hx} {CB:List Int} (h:BN w Y B hops settles ph N es hx) (Ba:Bq CB) (hn:nr=0\/nr=N) (hl:CB.length=nr):Bq (Ix CB hx)/\(Ix CB hx=[]\/(Ix CB hx).length=N):=by
 unfold Ix;by_cases h0:CB=[]
 ·rw[if_pos h0];obtain⟨Ak,ck,ev,hv,c0,c1,c2,h⟩:=h;cases hx with
  | none=>exact⟨⟨λ x hx=>by simp at hx,Pc⟩,.inl rfl⟩
  | some x =>
   obtain⟨H,_,_,Ko,_⟩:=h.hier;exact⟨Ko.rok,.inr Ko.rlen⟩
 ·rw[if_neg h0];refine⟨Ba,.inr ?_⟩;rcases hn with hn | hn
  ·exact absurd (Pa (by omega)) h0
  ·omega
theorem NQ (ph N:Nat) (es:List AB) (hx:Option Hx) (h:BN w Y B hops settles ph N es hx) (DP:1<=ph/\ph<=3) (hr:Aq N es=0) (hl:es.length<=800) (hN:N<=12) (hB:B<=w.heap.size) (CB:List Int) (hR:RowI w Rk CB) (Ba:Bq CB) (GM:CB.length=nr) (hn:nr=0) :
  F_ H_ 95 #[pt Y,.slice Rk nr cr] w λ e w'=>e=.returned (i64 0)/\(∃ x,BN w' Y B hops settles 2 N es (some x)/\x.es=es/\(Ix CB hx=x.rk\/Ix CB hx=[]))/\Kept (λ j=>j=Y) w w':=by
 have Nd:(1:Int)<=(N:Int):=(right_zero hr).1
 have mA:=zh (λ (w':D_) (k:Ac w w')=>KV (Rk:=Rk) (nr:=nr) (cr:=cr) ph N es hx (h.grew k) CB (hR.grew k) GM (by omega) hN (by omega))
 have oN:=p9 h Ba (by omega) GM
 obtain⟨Ak,ck,ev,hv,c0,c1,c2,h⟩:=h
 obtain⟨A,c,rfl,he⟩:=h.edg.row
 have hm:Ft ph 1=0:=by
  have:ph=1\/ph=2\/ph=3:=(by omega);rcases this with rfl | rfl | rfl<;>decide
 have HM:=zh (E8 ph 1 (by omega) (by omega) h.blk)
 rw[hm]at HM
 have HR:=zh (Ck CB Rk cr w hR (by omega))
 rw[GM]at HR
 obtain⟨L,hL⟩:=zn (es.length)
 have H0:=zh (show _/\_/\_/\_/\_/\_/\_/\_ from ⟨h,hB,he,hr,hl,hL,Ba,oN⟩)
 subst hn
 clear h he hm hr hl hL hR Ba GM hB oN
 go_enter Tryz.func95,Tryz.ntmps95
 go_wp2_with fail
 refine HM.out.mono ?_
 rintro e w9 ⟨rfl,rfl⟩
 clear HM
 go_wp2_with fail
 refine HR.out.mono ?_
 rintro e w1 ⟨⟨b,rfl,hb⟩,g1⟩
 obtain rfl:b=true:=hb.2 H0.out.2.2.2.2.2.2.1
 have h1:=H0.out.1.kept g1 (λ h=>h) (λ _ _ h=>h)
 have x4:=Am.cell h1.blk 4
 have x5:=Am.cell h1.blk 5
 simp[NP]at x4 x5
 have HRa:=zh (mA.out w1.drew (g1.trans (zr (λ _=>False) w1).drew))
 have HC8:Hid (∀ w',Ac w1 w'->w'.cell? ⟨Y,4,none⟩=some (i64 N)/\w'.cell? ⟨Y,5,none⟩=some (.slice A L c)):=λ w' k=>by
  have x4:=(Am.grew h1.blk k).cell 4;have x5:=(Am.grew h1.blk k).cell 5;simp at x4 x5;rw[H0.out.2.2.2.2.2.1]at x5;exact⟨x4,x5⟩
 have HW:=zh g1
 clear HR hb h1 mA x5 g1
 go_upto_region 8 with fail
 refine rG [] (λ _=>False) ?_
 refine pG 0 32 ?_
 refine pG 1 33 ?_
 refine pG 2 34 ?_
 refine tF 3 35 HC8.out ((zr (λ _=>False) _).drew) ?_
 refine pG 4 36 ?_
 refine pG 5 37 ?_
 refine sG 6 38 (λ K Aj=>?_)
 go_simp
 refine HRa.out.mono ?_
 rintro e wa ⟨A',c',rkx,rfl,hrx,O3,ga⟩
 have HX:=zh O3
 clear O3
 show K _ _
 refine Aj _ _ (λ _=>ga) ?_
 clear Aj
 simp only[sA]
 refine sG 7 39 (λ K Aj=>?_)
 go_simp
 have xg:=zh (Kh A A' c N c' es rkx hops settles wa (H0.out.2.2.1.grew (HW.out.trans ((zr (λ _=>False) _).drew.trans ga))) H0.out.2.2.2.1 H0.out.2.2.2.2.1 hN hrx (by rw[HX.out];exact H0.out.2.2.2.2.2.2.2.1) (by rw[HX.out];exact H0.out.2.2.2.2.2.2.2.2) H0.out.1.opt.1 H0.out.1.opt.2)
 rw[H0.out.2.2.2.2.2.1]at xg
 refine xg.out.mono ?_
 rintro e wb ⟨H,rk',ss,out,rfl,hH,Ko,IK,gb⟩
 clear xg
 show K _ _
 refine Aj _ _ (λ _=>gb) ?_
 clear Aj
 simp only[sA]
 refine pG 8 31 ?_
 refine pG 9 40 ?_
 refine pG 10 41 ?_
 refine pG 11 6 ?_
 refine pG 12 7 ?_
 refine dG ?_
 have h2:=H0.out.1.kept (HW.out.trans ((zr (λ _=>False) _).drew.trans (ga.trans gb))) (λ h=>h) (λ _ _ h=>h)
 have b0:=h2.blk
 unfold iH NP at b0
 have b1:=b0.set 6 (pt H)
 have b2:=b1.set 3 (i64 2)
 simp only[sA]at b1 b2
 have f0:=b0.frozen 6
 have f1:=b1.frozen 3
 have y0:=b0.cell 6
 have y1:=b1.cell 3
 simp at y0 y1
 have kk:Kept (λ j=>j=Y) wb ((wb.setCell ⟨Y,6,none⟩ (pt H)).setCell ⟨Y,3,none⟩ (i64 2)) :=
  (((zr (λ j=>j=Y) wb).setCell (p:=⟨Y,6,none⟩) (.inl rfl) _).setCell (p:=⟨Y,3,none⟩) (.inl rfl) _)
 obtain⟨w4,D6⟩:=zn (((wb.setCell ⟨Y,6,none⟩ (pt H)).setCell ⟨Y,3,none⟩ (i64 2)))
 rw[D6]at kk b2
 have H3:=JQ h2 kk b2 hH Ko ((by rw[<- HX.out];exact IK:Ix CB hx=rk'\/Ix CB hx=[]))
 have lF:=BP ((HW.out.trans ((zr (λ _=>False) _).drew.trans ga))) ((HW.out.trans ((zr (λ _=>False) _).drew.trans (ga.trans gb)):Ac w wb))
 clear h2 kk b0 b1 b2 hH Ko IK ga gb hrx HRa HC8 HX
 go_upto_region 12 with fail
 have e4:((wb.setCell ⟨Y,6,none⟩ (pt H)).setCell ⟨Y,3,none⟩ (.int .i64 2))=w4:=D6
 try rw [e4]
 clear e4 D6 f0 f1 y0 y1
 have HK:Hid (∀ w',Ac w4 w'->w'.cell? ⟨Y,8,none⟩=some (i64 c1)):=λ w' k=>by
  have:=(Am.grew H3.out.2.2.1 k).cell 8;simpa using this
 have f7:=Am.frozen H3.out.2.2.1 8
 have y7:=HK.out w4 (zr _ _)
 refine rG [9] (λ _=>False) ?_
 refine pG 0 52 ?_
 refine pG 1 53 ?_
 refine pG 2 54 ?_
 refine pG 3 55 ?_
 refine tF 4 56 HK.out ((zr (λ _=>False) _).drew) ?_
 refine pG 5 57 ?_
 refine pG 6 58 ?_
 refine pG 7 59 ?_
 refine pG 8 60 ?_
 refine DH 9 (λ K Aj=>?_)
 go_simp
 refine Aj _ (λ h=>absurd (by simp) h) ?_
 clear Aj
 refine dG ?_
 have H4:Hid ((∃ x,BN (w4.setCell ⟨Y,8,none⟩ (i64 (A_.wrap (c1+1)))).drew Y B hops settles 2 N es (some x)/\x.es=es/\(Ix CB hx=x.rk\/Ix CB hx=[]))/\Kept (λ j=>j=Y) w (w4.setCell ⟨Y,8,none⟩ (i64 (A_.wrap (c1+1)))).drew):=by
  obtain⟨h2,k4,b4,hH,Ko,IK⟩:=H3.out;have k5:Kept (λ j=>j=Y) wb (w4.setCell ⟨Y,8,none⟩ (i64 (A_.wrap (c1+1)))).drew:=(k4.setCell (p:=⟨Y,8,none⟩) (.inl rfl) _).drew;have b5:=b4.set 8 (i64 (A_.wrap (c1+1)));simp only[sA]at b5;have AH:=h2.lt;have e1:Bc (w4.setCell ⟨Y,8,none⟩ (i64 (A_.wrap (c1+1)))).drew B (.slice A es.length c) es:=Kept.own k5 h2.edg λ j hj e=>by
   have h1:=(Ao h2.edg hj).1;omega
  have e2:Ca (w4.setCell ⟨Y,8,none⟩ (i64 (A_.wrap (c1+1)))).drew H B N es rk' ss:=(hH.down (Pn H0.out.2.1 lF.out.1.size)).kept k5 (λ j hj e=>by
   have e:j=Y:=e;omega)
  have e3:iD (w4.setCell ⟨Y,8,none⟩ (i64 (A_.wrap (c1+1)))).drew B N (some ⟨es,rk',ss,out⟩) (pt H):=⟨H,rfl,e2,Ko,H0.out.2.2.2.2.1⟩;exact⟨⟨⟨es,rk',ss,out⟩,⟨Ak,ck,.slice A es.length c,pt H,c0,A_.wrap (c1+1),c2,⟨h2.lt,h2.opt,b5,e1,e3⟩⟩,rfl,IK⟩,(Ac.kept lF.out.2).then k5 (λ _ _ h=>h)⟩
 clear H3 HK f7 y7
 go_wp2_with fail
 go_ret
 exact⟨rfl,H4.out⟩
theorem L7 (ph N:Nat) (es:List AB) (hx:Option Hx) (h:BN w Y B hops settles ph N es hx) (DP:1<=ph/\ph<=3) (hr:Aq N es=0) (hl:es.length<=800) (hN:N<=12) (hB:B<=w.heap.size) (CB:List Int) (hR:RowI w Rk CB) (Ba:Bq CB) (GM:CB.length=nr) (hn:nr=N) :
  F_ H_ 95 #[pt Y,.slice Rk nr cr] w λ e w'=>e=.returned (i64 0)/\(∃ x,BN w' Y B hops settles 2 N es (some x)/\x.es=es/\(Ix CB hx=x.rk\/Ix CB hx=[]))/\Kept (λ j=>j=Y) w w':=by
 have Nd:(1:Int)<=(N:Int):=(right_zero hr).1
 have mA:=zh (λ (w':D_) (k:Ac w w')=>KV (Rk:=Rk) (nr:=nr) (cr:=cr) ph N es hx (h.grew k) CB (hR.grew k) GM (by omega) hN (by omega))
 have oN:=p9 h Ba (by omega) GM
 obtain⟨Ak,ck,ev,hv,c0,c1,c2,h⟩:=h
 obtain⟨A,c,rfl,he⟩:=h.edg.row
 have hm:Ft ph 1=0:=by
  have:ph=1\/ph=2\/ph=3:=(by omega);rcases this with rfl | rfl | rfl<;>decide
 have HM:=zh (E8 ph 1 (by omega) (by omega) h.blk)
 rw[hm]at HM
 have HR:=zh (Ck CB Rk cr w hR (by omega))
 rw[GM]at HR
 obtain⟨L,hL⟩:=zn (es.length)
 have H0:=zh (show _/\_/\_/\_/\_/\_/\_/\_ from ⟨h,hB,he,hr,hl,hL,Ba,oN⟩)
 obtain rfl:N=nr:=hn.symm
 have yX:(0:Int)<(N:Int):=by omega
 have hnr2:0<N:=by omega
 clear h he hm hr hl hL hR Ba GM hB oN
 go_enter Tryz.func95,Tryz.ntmps95
 go_wp2_with fail
 refine HM.out.mono ?_
 rintro e w9 ⟨rfl,rfl⟩
 clear HM
 go_wp2_with fail
 refine HR.out.mono ?_
 rintro e w1 ⟨⟨b,rfl,hb⟩,g1⟩
 obtain rfl:b=true:=hb.2 H0.out.2.2.2.2.2.2.1
 have h1:=H0.out.1.kept g1 (λ h=>h) (λ _ _ h=>h)
 have x4:=Am.cell h1.blk 4
 have x5:=Am.cell h1.blk 5
 simp[NP]at x4 x5
 have HRa:=zh (mA.out w1.drew (g1.trans (zr (λ _=>False) w1).drew))
 have HC8:Hid (∀ w',Ac w1 w'->w'.cell? ⟨Y,4,none⟩=some (i64 N)/\w'.cell? ⟨Y,5,none⟩=some (.slice A L c)):=λ w' k=>by
  have x4:=(Am.grew h1.blk k).cell 4;have x5:=(Am.grew h1.blk k).cell 5;simp at x4 x5;rw[H0.out.2.2.2.2.2.1]at x5;exact⟨x4,x5⟩
 have HW:=zh g1
 clear HR hb h1 mA x5 g1
 go_upto_region 8 with fail
 refine rG [] (λ _=>False) ?_
 refine pG 0 32 ?_
 refine pG 1 33 ?_
 refine pG 2 34 ?_
 refine tF 3 35 HC8.out ((zr (λ _=>False) _).drew) ?_
 refine pG 4 36 ?_
 refine pG 5 37 ?_
 refine sG 6 38 (λ K Aj=>?_)
 go_simp
 refine HRa.out.mono ?_
 rintro e wa ⟨A',c',rkx,rfl,hrx,O3,ga⟩
 have HX:=zh O3
 clear O3
 show K _ _
 refine Aj _ _ (λ _=>ga) ?_
 clear Aj
 simp only[sA]
 refine sG 7 39 (λ K Aj=>?_)
 go_simp
 have xg:=zh (Kh A A' c N c' es rkx hops settles wa (H0.out.2.2.1.grew (HW.out.trans ((zr (λ _=>False) _).drew.trans ga))) H0.out.2.2.2.1 H0.out.2.2.2.2.1 hN hrx (by rw[HX.out];exact H0.out.2.2.2.2.2.2.2.1) (by rw[HX.out];exact H0.out.2.2.2.2.2.2.2.2) H0.out.1.opt.1 H0.out.1.opt.2)
 rw[H0.out.2.2.2.2.2.1]at xg
 refine xg.out.mono ?_
 rintro e wb ⟨H,rk',ss,out,rfl,hH,Ko,IK,gb⟩
 clear xg
 show K _ _
 refine Aj _ _ (λ _=>gb) ?_
 clear Aj
 simp only[sA]
 refine pG 8 31 ?_
 refine pG 9 40 ?_
 refine pG 10 41 ?_
 refine pG 11 6 ?_
 refine pG 12 7 ?_
 refine dG ?_
 have h2:=H0.out.1.kept (HW.out.trans ((zr (λ _=>False) _).drew.trans (ga.trans gb))) (λ h=>h) (λ _ _ h=>h)
 have b0:=h2.blk
 unfold iH NP at b0
 have b1:=b0.set 6 (pt H)
 have b2:=b1.set 3 (i64 2)
 simp only[sA]at b1 b2
 have f0:=b0.frozen 6
 have f1:=b1.frozen 3
 have y0:=b0.cell 6
 have y1:=b1.cell 3
 simp at y0 y1
 have kk:Kept (λ j=>j=Y) wb ((wb.setCell ⟨Y,6,none⟩ (pt H)).setCell ⟨Y,3,none⟩ (i64 2)) :=
  (((zr (λ j=>j=Y) wb).setCell (p:=⟨Y,6,none⟩) (.inl rfl) _).setCell (p:=⟨Y,3,none⟩) (.inl rfl) _)
 obtain⟨w4,D6⟩:=zn (((wb.setCell ⟨Y,6,none⟩ (pt H)).setCell ⟨Y,3,none⟩ (i64 2)))
 rw[D6]at kk b2
 have H3:=JQ h2 kk b2 hH Ko ((by rw[<- HX.out];exact IK:Ix CB hx=rk'\/Ix CB hx=[]))
 have lF:=BP ((HW.out.trans ((zr (λ _=>False) _).drew.trans ga))) ((HW.out.trans ((zr (λ _=>False) _).drew.trans (ga.trans gb)):Ac w wb))
 clear h2 kk b0 b1 b2 hH Ko IK ga gb hrx HRa HC8 HX
 go_upto_region 12 with fail
 have e4:((wb.setCell ⟨Y,6,none⟩ (pt H)).setCell ⟨Y,3,none⟩ (.int .i64 2))=w4:=D6
 try rw [e4]
 clear e4 D6 f0 f1 y0 y1
 have HK:Hid (∀ w',Ac w4 w'->w'.cell? ⟨Y,8,none⟩=some (i64 c1)):=λ w' k=>by
  have:=(Am.grew H3.out.2.2.1 k).cell 8;simpa using this
 have f7:=Am.frozen H3.out.2.2.1 8
 have y7:=HK.out w4 (zr _ _)
 refine rG [9] (λ _=>False) ?_
 refine pG 0 52 ?_
 refine pG 1 53 ?_
 refine pG 2 54 ?_
 refine pG 3 55 ?_
 refine tF 4 56 HK.out ((zr (λ _=>False) _).drew) ?_
 refine pG 5 57 ?_
 refine pG 6 58 ?_
 refine pG 7 59 ?_
 refine pG 8 60 ?_
 refine DH 9 (λ K Aj=>?_)
 go_simp
 refine Aj _ (λ h=>absurd (by simp) h) ?_
 clear Aj
 refine dG ?_
 have H4:Hid ((∃ x,BN (w4.setCell ⟨Y,8,none⟩ (i64 (A_.wrap (c1+1)))).drew Y B hops settles 2 N es (some x)/\x.es=es/\(Ix CB hx=x.rk\/Ix CB hx=[]))/\Kept (λ j=>j=Y) w (w4.setCell ⟨Y,8,none⟩ (i64 (A_.wrap (c1+1)))).drew):=by
  obtain⟨h2,k4,b4,hH,Ko,IK⟩:=H3.out;have k5:Kept (λ j=>j=Y) wb (w4.setCell ⟨Y,8,none⟩ (i64 (A_.wrap (c1+1)))).drew:=(k4.setCell (p:=⟨Y,8,none⟩) (.inl rfl) _).drew;have b5:=b4.set 8 (i64 (A_.wrap (c1+1)));simp only[sA]at b5;have AH:=h2.lt;have e1:Bc (w4.setCell ⟨Y,8,none⟩ (i64 (A_.wrap (c1+1)))).drew B (.slice A es.length c) es:=Kept.own k5 h2.edg λ j hj e=>by
   have h1:=(Ao h2.edg hj).1;omega
  have e2:Ca (w4.setCell ⟨Y,8,none⟩ (i64 (A_.wrap (c1+1)))).drew H B N es rk' ss:=(hH.down (Pn H0.out.2.1 lF.out.1.size)).kept k5 (λ j hj e=>by
   have e:j=Y:=e;omega)
  have e3:iD (w4.setCell ⟨Y,8,none⟩ (i64 (A_.wrap (c1+1)))).drew B N (some ⟨es,rk',ss,out⟩) (pt H):=⟨H,rfl,e2,Ko,H0.out.2.2.2.2.1⟩;exact⟨⟨⟨es,rk',ss,out⟩,⟨Ak,ck,.slice A es.length c,pt H,c0,A_.wrap (c1+1),c2,⟨h2.lt,h2.opt,b5,e1,e3⟩⟩,rfl,IK⟩,(Ac.kept lF.out.2).then k5 (λ _ _ h=>h)⟩
 clear H3 HK f7 y7
 go_wp2_with fail
 go_ret
 exact⟨rfl,H4.out⟩
end
section
variable {w:D_} {Y B:Nat} {hops settles:Int}
theorem be (ph N:Nat) (es:List AB) (hx:Option Hx) (h:BN w Y B hops settles ph N es hx) (DP:1<=ph/\ph<=3) (hl:es.length<=800) :
  F_ H_ 96 #[pt Y] w λ e w'=>∃ v,e=.returned (.tuple #[.agg #[i64 N,v],i64 0])/\Bc w' w.heap.size v es/\Ac w w':=by
 obtain⟨Ak,ck,ev,hv,c0,c1,c2,h⟩:=h
 obtain⟨A,c,rfl,he⟩:=h.edg.row
 have bR:Am (w.alloc (.cells #[i64 0,.slice none 0 0] 24)) w.heap.size 24 #[i64 0,.slice none 0 0]:=zv _ _ _
 obtain⟨w1,AQ,g1⟩:=zg w (.cells #[i64 0,.slice none 0 0] 24)
 have s1:w1.heap.size=w.heap.size+1:=by rw[<- AQ];simp
 rw[AQ]at bR
 have hm:Ft ph 1=0:=by
  have:ph=1\/ph=2\/ph=3:=(by omega);rcases this with rfl | rfl | rfl<;>decide
 have h1:=h.kept g1 (λ h=>h) (λ _ _ h=>h)
 have HM:=zh (E8 ph 1 (by omega) (by omega) h1.blk)
 rw[hm]at HM
 have HC:=zh (C4 (N:Int) A c es w1 (he.grew g1) (by omega))
 have x0:=Am.cell h1.blk 4
 have x1:=Am.cell h1.blk 5
 simp[NP]at x0 x1
 obtain⟨n1,EI⟩:=zn (es.length)
 rw[EI]at HC x1
 have H0:=DK bR g1 EI
 have LI:=zh s1
 clear bR g1 s1 h1 h he hm hl EI
 go_enter Tryz.func96,Tryz.ntmps96
 go_wp2_with fail
 refine HM.out.mono ?_
 rintro e w9 ⟨rfl,rfl⟩
 clear HM
 go_wp2_with fail
 refine HC.out.mono ?_
 rintro e w2 ⟨p1,rfl,CQ,g2⟩
 obtain⟨A1,Gw,ET⟩:=Ap CQ
 rw[H0.out.2.2]at ET
 subst ET
 have hb:=H0.out.1.grew g2
 obtain⟨t5,t6⟩:=F3 hb (i64 N) (.slice A1 n1 Gw)
 have z0:=hb.frozen 0
 have z1:=(hb.set 0 (i64 N)).frozen 1
 have z2:=hb.cell 0
 have z3:=(hb.set 0 (i64 N)).cell 1
 have q0:=t5.cell 0
 have q1:=t5.cell 1
 simp at z2 z3 q0 q1
 have HF:=zh (show _/\_ from ⟨(Az (Kept.own t6 CQ (λ j hj lT=>by
   have h1:=(Ao CQ hj).1;have h2:=LI.out;omega)) (show w.heap.size<=w1.heap.size from H0.out.2.1.size):Bc _ w.heap.size _ es),((H0.out.2.1.trans g2).then t6 (λ i hi h=>by omega):Ac w _)⟩)
 clear HC H0 LI CQ g2 hb t5 t6
 go_wp2_with fail
 exact zy (v:=.tuple #[.agg #[i64 N,.slice A1 n1 Gw],i64 0]) (by simp[results,Tryz.results96,go_sem,q0,q1]) rfl ⟨_,rfl,HF.out⟩
end
section
variable {w:D_} {Y B:Nat} {hops settles:Int}
theorem dH {H N:Nat} {es:List AB} {rk:List Int} {ss:List Sc} (h:Ca w H B N es rk ss) (i:Nat) (s:Sc) (hi:ss[i]? = some s) (hl:ss.length<=100000) :
  F_ H_ 423 #[pt H,i64 i] w λ e w'=>e=.returned (.tuple #[scV s,.bool true])/\Ac w w':=by
 obtain⟨w1,AQ,g1,b1⟩:=zb w #[i64 0,i64 0,.int .u64 0,i64 0,i64 0,i64 0] 150 rfl
 have h1:=h.grew g1
 have HS:=zh (jr h1)
 obtain⟨v1,v2,v3,U,D,us,ds,h1⟩:=h1
 obtain⟨As,cs,rfl,hs,Et⟩:=h1.cuts.row
 have x3:=h1.blk.cell 3
 simp at x3
 obtain⟨b,off,rfl,I5,e0,e1,e2,e3,e4,e5⟩:=hs i s hi
 have D5:=(N_.1 hi).1
 have i0:(0:Int)<=(i:Int):=by omega
 have i1:(i:Int)<(ss.length:Int):=by omega
 have HB:=BP b1 g1
 obtain⟨n,hn⟩:=zn (ss.length)
 rw[hn]at HS x3 i1
 have hA:decide ((i:Int)<0)=false:=by simp
 have hB:decide (n<=i)=false:=by simp;omega
 have hC:¬ n<=i:=by omega
 clear b1 h h1 hs g1 hi Et D5 hl hn I5
 go_enter Tryz.func423,Tryz.ntmps423
 go_wp2_with fail
 refine HS.out.mono ?_
 rintro e w9 ⟨rfl,rfl⟩
 clear HS AQ
 have t6:=HB.out.1.setRow (CC s)
 have r0:(w9.setRow w.heap.size (CC s)).cell? ⟨w.heap.size,0,none⟩=some (i64 s.from'):=t6.cell 0
 have r1:(w9.setRow w.heap.size (CC s)).cell? ⟨w.heap.size,1,none⟩=some (i64 s.to'):=t6.cell 1
 have r2:(w9.setRow w.heap.size (CC s)).cell? ⟨w.heap.size,2,none⟩=some (.int .u64 s.w):=t6.cell 2
 have r3:(w9.setRow w.heap.size (CC s)).cell? ⟨w.heap.size,3,none⟩=some (i64 s.edge):=t6.cell 3
 have r4:(w9.setRow w.heap.size (CC s)).cell? ⟨w.heap.size,4,none⟩=some (i64 s.a):=t6.cell 4
 have r5:(w9.setRow w.heap.size (CC s)).cell? ⟨w.heap.size,5,none⟩=some (i64 s.b):=t6.cell 5
 have HF:Hid (Ac w (w9.setRow w.heap.size (CC s))):=HB.out.2.setRow (.inr (zl _)) _
 clear t6
 go_wp2_with (refine wpList_store_rowTo rfl 150 (.tmp 4) (.tmp 22) rfl rfl w.heap.size (CC s) (by rfl) (by rfl) 150 _ HB.out.1 (by kernel_rfl) rfl (AF (by simp[CC,Value.oneCell'])) ?_)
 go_wp2_with fail
 exact zy (v:=.tuple #[scV s,.bool true]) (by simp[results,Tryz.results423,go_sem,r0,r1,r2,r3,r4,r5]) rfl ⟨rfl,HF.out⟩
end
end Go.Proofs.YtepelooebggliaaGreatDoor
namespace Go.Proofs.YtepelooebggliaaGreatDoor
open Go.RowKit Go.Shelf
attribute [local go_sem] Ps
theorem Cb.keptC {w w':D_} {H B N:Nat} {es:List AB} {rk:List Int} {ss:List Sc} {k:Nat} {v1 v2 v3:E_} {U D:Nat} {us ds:List E_} (h:Cb w H B N es rk ss k v1 v2 v3 U D us ds) (g:Bs (λ j=>w.heap.size<=j) w w'):Cb w' H B N es rk ss k v1 v2 v3 U D us ds:=by
 have nb:∀ {g:Nat} {t:G_} {cs:Array E_},Am w g t cs->¬ w.heap.size<=g:=λ hb hle=>by have:=hb.lt;omega
 have no:∀ {base n size:Nat} {e:G_} {v:E_} {xs:List E_},w.ownsRow base e size v n xs->∀ j,v.ownBlock=some j->¬ w.heap.size<=j:=λ ho j hj hle=>by have:=(ho.lt j hj).2;omega
 exact { h with
  blk:=g.blk h.blk (nb h.blk)
  edg:=g.own h.edg (no h.edg)
  rank:=g.own h.rank (no h.rank)
  cuts:=g.own h.cuts (no h.cuts)
  ub:=g.blk h.ub (nb h.ub)
  db:=g.blk h.db (nb h.db)
  ur:=λ u v hv=>g.own (h.ur u v hv) (no (h.ur u v hv))
  dr:=λ u v hv=>g.own (h.dr u v hv) (no (h.dr u v hv)) }
theorem Ca.keptC {w w':D_} {H B N:Nat} {es:List AB} {rk:List Int} {ss:List Sc} (h:Ca w H B N es rk ss) (k:Bs (λ j=>w.heap.size<=j) w w'):Ca w' H B N es rk ss:=by
 obtain⟨v1,v2,v3,U,D,us,ds,h⟩:=h;exact⟨v1,v2,v3,U,D,us,ds,h.keptC k⟩
theorem tg {w:D_} {H B N:Nat} {es:List AB} {rk:List Int} {ss:List Sc} {v1 v2 v3:E_} {U D:Nat} {us ds:List E_} (h:Cb w H B N es rk ss ss.length v1 v2 v3 U D us ds) (u:Nat) (hu:u<N) (hN:N<=4096) (b:Bool) :
  ∃ v,AO w B v (if b then cd rk ss ss.length u else cH rk ss ss.length u)/\∀ W,Bs (λ j=>w.heap.size<=j) w W->F_ H_ 422 #[pt H,i64 u,.bool b] W λ e w'=>e=.returned v/\W=w':=by
 obtain⟨vu,hvu⟩:=zx (l:=us) (i:=u) (by have:=h.ul;omega)
 obtain⟨vd,hvd⟩:=zx (l:=ds) (i:=u) (by have:=h.dl;omega)
 have CQ:=h.ur u vu hvu
 have Cr:=h.dr u vd hvd
 obtain⟨A1,c1,ET⟩:=Ap CQ
 obtain⟨A2,c2,Jq⟩:=Ap Cr
 refine⟨if b then vd else vu,by cases b;exact CQ;exact Cr,λ W hW=>?_⟩
 replace h:=h.keptC hW
 have HN:=zh (GG (w:=W) ⟨_,_,_,_,_,_,_,h⟩)
 have x4:=h.blk.cell 4
 have x5:=h.blk.cell 5
 simp at x4 x5
 have y0:=h.ub.cell u
 have y1:=h.db.cell u
 rw[Pd,hvu]at y0
 rw[Pd,hvd]at y1
 subst ET Jq
 have u0:(0:Int)<=(u:Int):=by omega
 have u1:(u:Int)<(N:Int):=by omega
 clear CQ Cr hvu hvd h hW
 cases b with
 | true =>
  simp only[if_true];go_enter Tryz.func422,Tryz.ntmps422;go_wp2_with fail;refine HN.out.mono ?_;rintro e w1 ⟨rfl,rfl⟩;clear HN;go_wp2_with fail;go_ret;exact⟨rfl,rfl⟩
 | false =>
  simp only[Bool.false_eq_true,if_false];go_enter Tryz.func422,Tryz.ntmps422;go_wp2_with fail;refine HN.out.mono ?_;rintro e w1 ⟨rfl,rfl⟩;clear HN;go_wp2_with fail;go_ret;exact⟨rfl,rfl⟩
abbrev Nr:=Int×Int×Int
abbrev wL (x:Nr):Array E_:=#[i64 x.1,.agg #[i64 0,i64 x.2.1,.int .u64 x.2.2,i64 0,i64 0,i64 0]]
def E9 (ss:List Sc) (v:Int) (i:Int):Nr:=match ss[i.toNat]? with | some s=>(i,s.from'+s.to'-v,s.w) | none=>(i,0,0)
def Ld (b:Bool) (rk:List Int) (ss:List Sc) (v:Int):List Int:=if b then cd rk ss ss.length v else cH rk ss ss.length v
def Cg (b:Bool) (rk:List Int) (ss:List Sc) (v:Int):List Nr:=(Ld b rk ss v).map (E9 ss v)
theorem aW {b:Bool} {rk:List Int} {ss:List Sc} {v i:Int} (h:i∈Ld b rk ss v):∃ (k:Nat) (s:Sc),i=(k:Int)/\ss[k]? = some s:=by
 unfold Ld cH cd at h;cases b<;>simp only[Bool.false_eq_true,if_false,if_true,List.mem_map,List.mem_filter,List.mem_range]at h <;>
 ·obtain⟨k,⟨hk,_⟩,rfl⟩:=h;exact⟨k,_,rfl,zq hk⟩
theorem aV (b:Bool) (rk:List Int) (ss:List Sc) (v:Int):(Ld b rk ss v).length<=ss.length:=by
 unfold Ld;cases b
 ·exact ij _ _ _ _
 ·exact fy _ _ _ _
theorem OI (H:Nat) (back down:Bool) (v:Int) (w:D_) :
  F_ H_ 354 #[.agg #[pt H,.bool back],i64 v,.bool down] w λ e w'=>e=.returned (.func (.func 421) #[] #[pt w.heap.size,pt (w.heap.size+1),pt (w.heap.size+1+1)])/\w'=((w.alloc (.cells #[pt H,.bool back] 377)).alloc (.cells #[i64 v] 3)).alloc (.cells #[.bool down] 4):=by
 go_enter Tryz.func354,Tryz.ntmps354
 go_wp2_with fail
 go_ret
 exact⟨by simp,rfl⟩
structure Ec (w:D_) (b1 b2 b3 H:Nat) (v:Int) (back down:Bool):Prop where
 way:Am w b1 377 #[pt H,.bool back]
 node:Am w b2 3 #[i64 v]
 dn:Am w b3 4 #[.bool down]
def Iz (n b1 b2 b3:Nat):Nat->Prop:=λ k=>n<=k/\k≠b1/\k≠b2/\k≠b3
theorem Ec.keptC {w w':D_} {n b1 b2 b3 H:Nat} {v:Int} {back down:Bool} (h:Ec w b1 b2 b3 H v back down) (k:Bs (Iz n b1 b2 b3) w w'):Ec w' b1 b2 b3 H v back down :=
 ⟨k.blk h.way (λ e=>e.2.1 rfl),k.blk h.node (λ e=>e.2.2.1 rfl),k.blk h.dn (λ e=>e.2.2.2 rfl)⟩
theorem Ec.grew {w w':D_} {b1 b2 b3 H:Nat} {v:Int} {back down:Bool} (h:Ec w b1 b2 b3 H v back down) (k:Ac w w'):Ec w' b1 b2 b3 H v back down :=
 ⟨h.way.grew k,h.node.grew k,h.dn.grew k⟩
end Go.Proofs.YtepelooebggliaaGreatDoor
namespace Go.Proofs.YtepelooebggliaaGreatDoor
open Go.RowKit Go.Shelf
attribute [local go_sem] Ps
theorem jc (m l b1 b2 b3 H B N v:Nat) (back down:Bool) (es:List AB) (rk:List Int) (ss:List Sc) (w0:D_) (hH:Ca w0 H B N es rk ss) (hv:v<N) (hN:N<=4096) (DY:ss.length<=60000) (BF:∀ s∈ss,inN N s)
  (LL:List Nr) (jn:Cg (back != down) rk ss v=LL) (J Jx:List {x:Nr // x∈LL}->D_->Prop) (W:D_) (EH:Bs (λ j=>w0.heap.size<=j) w0 W) (hE:Ec W b1 b2 b3 H v back down) (hJ:AbidesFrom W.heap.size J)
  (hY:∀ pre (x:{x:Nr // x∈LL}) W1,J pre W1->pre.length<ss.length->YieldAt Fence.wide (m-1) H_ l (wL x.1) W1 λ e W' =>
   (e=.returned (.bool true)/\J (pre++[x]) W'/\Bs (Iz w0.heap.size b1 b2 b3) W1 W')\/(e=.returned (.bool false)/\Jx (pre++[x]) W'))
  (h0:J [] W) :
  CallsIn Fence.wide m H_ 421 #[.func (.yield l) #[] #[],pt b1,pt b2,pt b3] W λ e W'=>(∃ u,e=.returned u) /\
   (J LL.attach W'\/(∃ pre,pre <+: LL.attach/\Jx pre W')):=by
 obtain⟨bb,I5⟩:=zn ((back != down))
 have FY:Hid ((!back==down)=bb):=by
  show _=_;rw[<- I5];cases back<;>cases down<;>rfl
 rw[I5]at jn
 clear I5
 obtain⟨v1,v2,v3,U,D,us,ds,hH⟩:=hH
 obtain⟨vr,ho,hR⟩:=tg hH v hv hN bb
 have HR:=zh (hR W EH)
 clear hR
 replace ho:AO w0 B vr (Ld bb rk ss v):=ho
 have dP:∀ i∈Ld bb rk ss v,∃ (k:Nat) (s:Sc),i=(k:Int)/\ss[k]? = some s:=λ i hi=>aW hi
 have vT:=aV bb rk ss v
 unfold Cg at jn
 obtain⟨zs,dX⟩:=zn (Ld bb rk ss v)
 rw[dX]at ho dP vT jn
 clear dX
 have x0:=hE.way.cell 0
 have x1:=hE.way.cell 1
 have x2:=hE.node.cell 0
 have x3:=hE.dn.cell 0
 simp at x0 x1 x2 x3
 obtain⟨A,c,rfl⟩:=Ap ho
 obtain⟨L,hL⟩:=zn (zs.length)
 rw[hL]at ho vT HR
 have HZ:=DS ho dP hL DY
 have uV:=zh jn
 have rA:=DS hH EH hE BF
 have hLs:L<=60000:=by omega
 clear hH EH hE DY BF ho dP hL jn
 have hY:=zh hY
 refine callsIn_of_wp Tryz.func421 rfl trivial ?_ rfl
 simp only[Tryz.ntmps421,O_,M_,L_,Nat.reduceAdd,Nat.reduceSub,Pp,Pq,Ph,Pe,Pk,Pj]
 refine wpIn_wide.2 ?_
 go_wp2_with fail
 rw[FY.out]
 refine HR.out.mono ?_
 rintro r w1 ⟨rfl,rfl⟩
 clear HR x0 x1 x3
 go_wp2_with fail
 refine(wpIn_wide (n:=m)).1 ?_
 gi_loopw [6,7,8,18] (λ u6 u7 u8 i wr=>∃ q:Nat,q<=L/\i=.int .i64 q/\J (LL.attach.take q) wr/\Hid (Bs (Iz w0.heap.size b1 b2 b3) W wr)) (λ u6 u7 u8 i wr=>L-(intOf i).toNat)
 case atStart=>exact⟨0,Nat.zero_le _,rfl,h0,Bs.refl _ _⟩
 case round =>
  clear h0;obtain⟨q,hq,rfl,dE,hk⟩:=hrel;by_cases hql:q<L
  ·obtain⟨z,hz⟩:=zx (l:=zs) (i:=q) (by rw[HZ.out.2.2.1];exact hql);obtain⟨i,sc,rfl,Oc⟩:=HZ.out.2.1 z (zm hz);have hwr:Bs (λ j=>w0.heap.size<=j) w0 wr:=rA.out.2.1.trans (hk.out.mono λ j hj=>hj.1);have hH:=rA.out.1.keptC hwr;have dC:=rA.out.2.2.1.keptC hk.out;obtain⟨A',c',hv',AY⟩:=AO.row (show AO wr B (.slice A L c) zs from hwr.own HZ.out.1 (λ j hj hle=>by have:=(HZ.out.1.lt j hj).2;omega));obtain rfl:A=A':=(by injection hv');obtain⟨b,off,rfl,hb,BS⟩:=AY q _ hz;have HS:=zh (dH (w:=wr) ⟨_,_,_,_,_,_,_,hH⟩ i sc Oc (by have:=HZ.out.2.2.2;omega));have y0:=dC.way.cell 0;have y2:=dC.node.cell 0;simp at y0 y2;have BF:=rA.out.2.2.2 sc (zm Oc);obtain⟨jB,oy,yJ,hi4⟩:=BF;have q0:(0:Int)<=(q:Int):=(by omega);have q1:(q:Int)<(L:Int):=(by omega);have hN':(N:Int)<=4096:=(by omega);obtain⟨x,hx,Iw⟩:∃ x:{x:Nr // x∈LL},LL.attach[q]? = some x/\x.1=((i:Int),sc.from'+sc.to'-v,sc.w):=by
    have h1:LL[q]? = some ((i:Int),sc.from'+sc.to'-v,sc.w):=by
     rw[<- uV.out,List.getElem?_map,hz];simp[E9,Oc]
    have fU:=(N_.1 h1).1
    refine⟨LL.attach[q]'(by rw[Pf];exact fU),zq _,?_⟩
    rw[List.getElem_attach]
    exact(N_.1 h1).2
   have JK:LL.attach.take (q+1)=LL.attach.take q++[x]:=by rw[List.take_add_one,hx];rfl
   have HX:=BP JK dC;have Hz:(LL.attach.take q).length<ss.length:=by rw[List.length_take];omega
   clear hz Oc hwr hH dC hv' AY hb JK hx;gi_wp2;refine⟨trivial,(λ h=>by cases h),?_⟩;refine(callsIn_wide.2 HS.out).mono ?_;rintro r w2 ⟨rfl,g2⟩;have y2:=(HX.out.2.grew g2).node.cell 0;simp at y2;obtain⟨w3,Dj⟩:=zn (w2.alloc (.cells (CC sc) 150));have g3:Ac wr w3:=by rw[<- Dj];exact g2.alloc _
   have hJ3:=hJ _ _ _ none dE ⟨g3.os,g3.tape,g3.output,g3.size,λ k hk _=>g3.block k hk (λ h=>h)⟩ (λ r e=>by cases e);have B3:Am w3 w2.heap.size 150 (CC sc):=by rw[<- Dj];exact zv _ _ _
   have z0:w3.cell? ⟨w2.heap.size,0,none⟩=some (i64 sc.from'):=B3.cell 0;have z1:w3.cell? ⟨w2.heap.size,1,none⟩=some (i64 sc.to'):=B3.cell 1;have z2:w3.cell? ⟨w2.heap.size,2,none⟩=some (.int .u64 sc.w):=B3.cell 2;have y3:=(HX.out.2.grew g3).node.cell 0;simp at y3;unfold CC at Dj;have n1:¬ (sc.from'+sc.to' < -9223372036854775808):=(by omega);have k3:=zh (Kept.keptC (G:=Iz w0.heap.size b1 b2 b3) g3 (λ _ h=>h.elim));have mD:=hY.out _ x _ hJ3 Hz;rw[Iw,<-HX.out.1]at mD;obtain⟨fn,tmps,assign,body,hy,hR⟩:=mD;clear HS BS y0 g2 g3 dE hJ3 B3 Iw;gi_wp2;refine⟨(λ h=>by cases h),?_⟩;refine hR.mono ?_;rintro e W3 (⟨rfl,vE,tB⟩ | ⟨rfl,hJx⟩)
   ·have hk5:=zh ((hk.out.trans k3.out).trans tB);clear Dj z0 z1 z2 y2 y3;gi_wp2;go_roundw
    case rel=>exact⟨q+1,by omega,by go_num,vE,hk5⟩
    case measure=>simp[intOf];omega
   ·clear Dj z0 z1 z2 y2 y3;gi_wp2;refine zy (results_none rfl _ _ _) rfl ?_;refine⟨⟨_,rfl⟩,.inr ⟨_,?_,hJx⟩⟩;exact List.take_prefix _ _
  ·obtain rfl:L=q:=(by omega);have hJe:J LL.attach wr:=by rw[List.take_of_length_le (by rw[Pf,<-uV.out,List.length_map,HZ.out.2.2.1];exact zl _)]at dE;exact dE
   gi_wp2;go_end0;exact⟨⟨_,rfl⟩,.inl hJe⟩
theorem Ll (m b1 b2 b3 H B N v:Nat) (back down:Bool) (es:List AB) (rk:List Int) (ss:List Sc) (LL:List Nr) (jn:Cg (back != down) rk ss v=LL) (w0 w:D_) (hH:Ca w0 H B N es rk ss) (hv:v<N) (hN:N<=4096) (DY:ss.length<=60000) (BF:∀ s∈ss,inN N s) (hk:Bs (λ j=>w0.heap.size<=j) w0 w) (hE:Ec w b1 b2 b3 H v back down) :
  SeqStopsK Fence.wide m H_ 421 #[pt b1,pt b2,pt b3] (λ x:{x:Nr // x∈LL}=>wL x.1) (Bs (Iz w0.heap.size b1 b2 b3)) (λ xs=>xs=LL.attach) (λ pre=>pre <+: LL.attach) ss.length w:=λ l J Jx W hW hJ _ hY h0=>by
 have hg:Ac w W:=Ac.of_below hW
 refine(jc m l b1 b2 b3 H B N v back down es rk ss w0 hH hv hN DY BF LL jn J Jx W (hk.trans (Kept.keptC hg (λ _ h=>h.elim))) (hE.grew hg) hJ hY h0).mono ?_
 rintro e W' ⟨he,hj | ⟨pre,hp,hj⟩⟩
 ·exact⟨he,.inl ⟨_,rfl,hj⟩⟩
 ·exact⟨he,.inr ⟨pre,hp,hj⟩⟩
end Go.Proofs.YtepelooebggliaaGreatDoor
namespace Go.Proofs.YtepelooebggliaaGreatDoor
open Go.RowKit Go.Shelf
attribute [local go_sem] Ps
abbrev upV (H R gS Hq N:Nat) (back:Bool):Array E_:=#[pt H,.bool back,pt R,.slice (some ⟨gS,0,none⟩) N N,pt Hq]
theorem eU (X H B N R C gS Hq v:Nat) (back:Bool) (es:List AB) (rk:List Int) (ss:List Sc) (far:Int->Option Int) (now many d:Int) (w:D_) (hX:Am w X 383 (upV H R gS Hq N back)) (hH:Ca w H B N es rk ss) (hS:Sm.Stamp w R C N far now many)
  (hv:v<N) (hN:N<=4096) (DY:ss.length<=60000) (BF:∀ s∈ss,inN N s/\0<=s.w/\s.w<=1152921504606846976) (DO:∀ u a,far u=some a->0<=a/\a<=1152921504606846976) :
  F_ H_ 353 #[pt X,i64 v,u64 d] w λ e w'=>∃ b,e=.returned (.bool b)/\Ac w w'/\(b=true->∃ x∈Cg (back != true) rk ss v,∃ a,far x.2.1=some a/\a+x.2.2<d):=by
 obtain⟨T,hT⟩:=zn (w.heap.size)
 obtain⟨W0,EH⟩:=zn (((w.alloc (.cells #[pt X] 375)).alloc (.cells #[u64 d] 29)).alloc (.cells #[.bool false] 4))
 have k0:Ac w W0:=by rw[<- EH];exact(((zr _ _).alloc _).alloc _).alloc _
 have T3:Am W0 T 375 #[pt X]:=by rw[<- EH,<-hT];exact((zv w _ _).alloc _).alloc _
 have T5:Am W0 (T+1) 29 #[u64 d]:=by
  rw[<- EH,<-hT];have h:=zv (w.alloc (.cells #[pt X] 375)) 29 #[u64 d];rw[C_]at h;exact h.alloc _
 have T6:Am W0 (T+1+1) 4 #[.bool false]:=by
  rw[<- EH,<-hT];have h:=zv ((w.alloc (.cells #[pt X] 375)).alloc (.cells #[u64 d] 29)) 4 #[.bool false];rw[C_,C_]at h;exact h
 have hz:W0.heap.size=T+3:=by rw[<- EH,<-hT];simp
 have x0:=(hX.grew k0).cell 0
 have x1:=(hX.grew k0).cell 1
 have x2:=(hX.grew k0).cell 2
 have y3:=T3.cell 0
 simp at x0 x1 x2 y3
 have HM:=zh (OI H back true v)
 have HK:=Gt hX hH hS BF DO
 have hXl:=hX.lt
 clear hX hH hS BF DO
 refine(callsIn_wide (n:=9)).1 ?_
 refine callsIn_of_wp_marks Tryz.func353 rfl trivial ?_ rfl
 simp only[Tryz.ntmps353,O_,M_,L_,Nat.reduceAdd,Nat.reduceSub,Pp,Pq,Ph,Pe,Pk,Pj]
 refine wpIn_wide.2 ?_
 go_wp2_with fail
 refine(HM.out _).mono ?_
 rintro e w2 ⟨rfl,rfl⟩
 clear HM
 go_wp2_with fail
 obtain⟨W1,N8⟩:=zn (((W0.alloc (.cells #[pt H,.bool back] 377)).alloc (.cells #[i64 v] 3)).alloc (.cells #[.bool true] 4))
 have k1:Ac W0 W1:=by rw[<- N8];exact(((zr _ _).alloc _).alloc _).alloc _
 have hE:Ec W1 (T+3) (T+3+1) (T+3+1+1) H v back true:=by
  rw[<- N8,<-hz];refine⟨((zv _ _ _).alloc _).alloc _,?_,?_⟩
  ·have h:=zv (W0.alloc (.cells #[pt H,.bool back] 377)) 3 #[i64 v];rw[C_]at h;exact h.alloc _
  ·have h:=zv ((W0.alloc (.cells #[pt H,.bool back] 377)).alloc (.cells #[i64 v] 3)) 4 #[.bool true];rw[C_,C_]at h;exact h
 have BV:W1.heap.size=T+6:=by rw[<- N8];simp[hz]
 rw[N8]
 have lZ:=k0.trans k1
 have HB:=DK (T3.grew k1) (T5.grew k1) (T6.grew k1)
 clear N8 EH x0 x1 x2 y3
 refine(wpIn_wide (n:=9)).1 ?_
 refine wpIn_rangeFunc_ownH rfl (by omega) (gf:=421) (lb:=#[pt (T+3),pt (T+3+1),pt (T+3+1+1)]) rfl trivial (enters_of Tryz.func421 (by kernel_rfl) rfl)
  (Ll _ (T+3) (T+3+1) (T+3+1+1) H B N v back true es rk ss _ rfl w W1 HK.out.2.1 hv hN DY (λ s h=>(HK.out.2.2.2.1 s h).1) (Kept.keptC lZ (λ _ h=>h.elim)) hE)
  Bs.trans (λ W l o o' _ hl ho _=>Bs.put W l o o' hl ho) (Below.refl _ _) (λ _=>rfl)
  (λ pre W=>Ac W1 W)
  (λ c pre W=>c=.ret/\Kept (λ j=>j=T+1+1) W1 W/\Am W (T+1+1) 4 #[.bool true]/\∃ x∈pre,∃ a,far x.1.2.1=some a/\a+x.1.2.2<d)
  (KN (zl _))
  (λ c s A W row hs hg hr=>⟨hs.1,aF (F:=λ j=>j=T+1+1) (λ k h1 h2=>absurd h2 (by omega)) s A W row hs.2.1 hg hr,Ek _ _ _ (λ _=>#[.bool true]) s A W row hs.2.2.1 hg hr,hs.2.2.2⟩)
  (zr _ _)
  (λ (x:{x:Nr // x∈Cg (back != true) rk ss v}) a' W=>∃ T8,a'={ tmps:=#[pt X,i64 v,u64 d,pt T,undef,pt (T+1),pt (T+1+1),undef,pt T8,undef,undef,pt X,pt X,pt X,.agg #[pt H,.bool back],i64 v,.func (.func 421) #[] #[pt (T+3),pt (T+3+1),pt (T+3+1+1)],i64 x.1.1,.agg #[i64 0,i64 x.1.2.1,.int .u64 x.1.2.2,i64 0,i64 0,i64 0],
   undef,undef,undef,undef,undef,undef,undef,undef,undef,undef,undef,undef,undef,undef,undef,undef,undef,undef,undef],defers:=[] }/\Am W T8 150 #[i64 0,i64 x.1.2.1,.int .u64 x.1.2.2,i64 0,i64 0,i64 0])
  (λ x a' s A W row hs hg hr=>hs.imp λ T8 h=>⟨h.1,Ek _ _ _ (λ _=>#[i64 0,i64 x.1.2.1,.int .u64 x.1.2.2,i64 0,i64 0,i64 0]) s A W row h.2 hg hr⟩)
  ?assign ?body ?done ?stop
 case assign =>
  rintro l pre x W K hg hK;gi_wp2;exact hK _ _ ((KeepsOthers.alloc _ _).from _) (Kept.keptC (F:=λ _=>False) ((zr _ _).alloc _) (λ _ h=>h.elim)) (hg.alloc _) ⟨W.heap.size,rfl,zv _ _ _⟩
 case body =>
  rintro l pre ⟨⟨i,u,c⟩,hx⟩ a' W _ _ hG ⟨T8,rfl,hb⟩ hlen;dsimp only at hb ⊢;have Nc:=zh (λ W' (k:Ac W W')=>Sm.get_any W' R C N far now many u (HK.out.2.2.1.kept ((lZ.trans hG).trans k) (λ h=>h) (λ h=>h)));have dI:0<=c/\c<=1152921504606846976:=by
   unfold Cg at hx;obtain⟨r,hr,he⟩:=List.mem_map.1 hx;obtain⟨k,sc,rfl,Oc⟩:=aW hr;rw[E9,Int.toNat_natCast,Oc]at he;cases he;exact(HK.out.2.2.2.1 sc (zm Oc)).2
  obtain⟨px,Fv⟩:=zn (pre++[⟨(i,u,c),hx⟩]);have HX:Hid (∃ y∈px,y.1=(i,u,c)):=⟨⟨(i,u,c),hx⟩,by rw[<- Fv];simp,rfl⟩;rw[Fv];clear Fv hx;cases hf:far u with
  | none =>
   rw[hf]at Nc;unfold Sm.getE at Nc;dsimp only [Option.getD,Option.isSome]at Nc;gi_upto_region 3 with fail;refine Dx [] (λ _=>False) (by kernel_rfl) (by kernel_rfl) ?_;simp only[O_,M_,L_,Nat.reduceAdd];refine tG 0 20 (y:=λ w' Ah=>by have t3':=(((HB.out.1.grew hG).drew).grew Ah).cell 0;simp at t3';go_simp<;>with_reducible rfl) (h:=?_);refine pG 1 21 ?_;refine pG 2 22 ?_;refine tG 3 23 (y:=λ w' Ah=>by have x0':=((((HK.out.1.grew lZ).grew hG).drew).grew Ah).cell 2;simp at x0';go_simp<;>with_reducible rfl) (h:=?_);refine pG 4 24 ?_;refine tG 5 25 (y:=λ w' Ah=>by have z1':=((hb.drew).grew Ah).cell 1;simp at z1';go_simp<;>with_reducible rfl) (h:=?_);refine sG 6 26 (λ K Aj=>?_);go_simp;refine(Nc.out _ ((zr _ _).drew)).mono ?_;rintro e w3 ⟨rfl,g3⟩;refine Aj (.tuple #[u64 0,.bool false]) _ (λ _=>g3) ?_;clear Aj;simp only[sA];refine pG 7 19 ?_;refine pG 8 27 ?_;refine pG 9 28 ?_;refine pG 10 9 ?_;refine pG 11 10 ?_;refine dG ?_;dsimp only [JV];gi_wp2;exact⟨((Kept.others (((zr (λ _=>False) _).drew).trans g3) (λ _ h=>h.elim)).from _),Kept.keptC (((zr _ _).drew).trans g3) (λ _ h=>h.elim),hG.trans (((zr _ _).drew).trans g3)⟩
  | some a =>
   have ha:=HK.out.2.2.2.2 u a hf;have HFa:=zh hf;rw[hf]at Nc;unfold Sm.getE at Nc;dsimp only [Option.getD,Option.isSome]at Nc;by_cases AH:a+c<d
   ·have hd1:decide (a+c<d)=true:=zt AH;gi_upto_region 3 with fail;refine Dx [] (λ _=>False) (by kernel_rfl) (by kernel_rfl) ?_;simp only[O_,M_,L_,Nat.reduceAdd];refine tG 0 20 (y:=λ w' Ah=>by have t3':=(((HB.out.1.grew hG).drew).grew Ah).cell 0;simp at t3';go_simp<;>with_reducible rfl) (h:=?_);refine pG 1 21 ?_;refine pG 2 22 ?_;refine tG 3 23 (y:=λ w' Ah=>by have x0':=((((HK.out.1.grew lZ).grew hG).drew).grew Ah).cell 2;simp at x0';go_simp<;>with_reducible rfl) (h:=?_);refine pG 4 24 ?_;refine tG 5 25 (y:=λ w' Ah=>by have z1':=((hb.drew).grew Ah).cell 1;simp at z1';go_simp<;>with_reducible rfl) (h:=?_);refine sG 6 26 (λ K Aj=>?_);go_simp;refine(Nc.out _ ((zr _ _).drew)).mono ?_;rintro e w3 ⟨rfl,g3⟩;refine Aj (.tuple #[u64 a,.bool true]) _ (λ _=>g3) ?_;clear Aj;simp only[sA];refine pG 7 19 ?_;refine pG 8 27 ?_;refine pG 9 28 ?_;refine pG 10 9 ?_;refine pG 11 10 ?_;refine dG ?_;dsimp only [JV];have q2:=((hb.drew).grew g3).cell 2;have q5:=(((HB.out.2.1.grew hG).drew).grew g3).cell 0;have q6:=((HB.out.2.2.grew hG).drew).grew g3;have f6:=q6.frozen 0;have c6:=q6.cell 0;simp at q2 q5 c6;gi_wp2;refine⟨?_,rfl,?_,q6.set 0 (.bool true),HX.out.elim λ y hy=>⟨y,hy.1,a,by rw[hy.2];exact HFa.out,by rw[hy.2];exact AH⟩⟩
    ·exact((Kept.others (((zr (λ _=>False) _).drew).trans g3) (λ _ h=>h.elim)).trans (KeepsOthers.setCell _ _ _)).from _
    ·exact(Ac.kept (F:=λ j=>j=T+1+1) (hG.trans (((zr _ _).drew).trans g3))).setCell (p:=⟨T+1+1,0,none⟩) (.inl rfl) _
   ·have hd1:decide (a+c<d)=false:=zf AH;gi_upto_region 3 with fail;refine Dx [] (λ _=>False) (by kernel_rfl) (by kernel_rfl) ?_;simp only[O_,M_,L_,Nat.reduceAdd];refine tG 0 20 (y:=λ w' Ah=>by have t3':=(((HB.out.1.grew hG).drew).grew Ah).cell 0;simp at t3';go_simp<;>with_reducible rfl) (h:=?_);refine pG 1 21 ?_;refine pG 2 22 ?_;refine tG 3 23 (y:=λ w' Ah=>by have x0':=((((HK.out.1.grew lZ).grew hG).drew).grew Ah).cell 2;simp at x0';go_simp<;>with_reducible rfl) (h:=?_);refine pG 4 24 ?_;refine tG 5 25 (y:=λ w' Ah=>by have z1':=((hb.drew).grew Ah).cell 1;simp at z1';go_simp<;>with_reducible rfl) (h:=?_);refine sG 6 26 (λ K Aj=>?_);go_simp;refine(Nc.out _ ((zr _ _).drew)).mono ?_;rintro e w3 ⟨rfl,g3⟩;refine Aj (.tuple #[u64 a,.bool true]) _ (λ _=>g3) ?_;clear Aj;simp only[sA];refine pG 7 19 ?_;refine pG 8 27 ?_;refine pG 9 28 ?_;refine pG 10 9 ?_;refine pG 11 10 ?_;refine dG ?_;dsimp only [JV];have q2:=((hb.drew).grew g3).cell 2;have q5:=(((HB.out.2.1.grew hG).drew).grew g3).cell 0;simp at q2 q5;gi_wp2;exact⟨((Kept.others (((zr (λ _=>False) _).drew).trans g3) (λ _ h=>h.elim)).from _),Kept.keptC (((zr _ _).drew).trans g3) (λ _ h=>h.elim),hG.trans (((zr _ _).drew).trans g3)⟩
 case stop =>
  rintro D c pre W hD hp ⟨rfl,hk,hb,⟨x,hx⟩,_,a,h1,h2⟩ fC;have d0:=hb.cell 0;have f0:=hb.frozen 0;simp at d0;gi_wp2;have hDn:T+1+1≠D:=by have:=BV;omega
  have T7:=hb.grown (grownBy_putObj' _ D (.deferred none)) (λ e=>hDn (Option.some.inj e));have c7:=T7.cell 0;simp at c7;refine⟨by simp,.inl ⟨_,_,rfl,run_takeDeferred fC,?_⟩⟩;refine⟨.bool true,by simp[results,Tryz.f353,go_sem,c7],.inr ⟨rfl,?_,x.1,x.2.1,x.2.2,by simpa using hx,a,h1,h2⟩⟩;exact((Ac.kept (F:=λ j=>j=T+1+1) lZ).then hk (λ _ _ h=>h) |>.then (zr _ _) (λ _ _ h=>h)) |> λ q=>(Kept.then (F:=λ _=>False) (zr _ _) q (λ i hi e=>by omega)).putObj D _ (.inr (by omega))
 case done =>
  rintro D ys W hD rfl hG fC;have t6:=HB.out.2.2.grew hG;have d0:=t6.cell 0;have f0:=t6.frozen 0;simp at d0;go_wp2_with fail;have hDn:T+1+1≠D:=by have:=BV;omega
  have hx:(W.setCell ⟨T+1+1,0,none⟩ (.bool false)).heap[D]? = some (.deferred (some [])):=(Below.heap_setCell W ⟨T+1+1,0,none⟩ (.bool false) D (λ e=>hDn e.symm)).trans fC;have T5:=(t6.set 0 (.bool false)).grown (grownBy_putObj' _ D (.deferred none)) (λ e=>hDn (Option.some.inj e));have c5:=T5.cell 0;simp at c5;refine⟨by simp,.inl ⟨_,_,rfl,run_takeDeferred hx,?_⟩⟩;refine⟨.bool false,by simp[results,Tryz.f353,go_sem,c5],false,rfl,?_,λ h=>by cases h⟩;exact((lZ.trans hG).setCell (p:=⟨T+1+1,0,none⟩) (.inr (by show w.heap.size<=T+1+1;omega)) _).putObj D _ (.inr (by omega))
end Go.Proofs.YtepelooebggliaaGreatDoor
namespace Go.Proofs.YtepelooebggliaaGreatDoor
open Go.RowKit Go.Shelf
structure US (w wr:D_) (R C N gS H A2 X:Nat) (v:E_) (HH:Nat) (back:Bool) (far:Int->Option Int) (st:Int->Int) (l:List (Int×Int)) (many:Int):Prop where
 stamp:Sm.Stamp wr R C N far 1 many
 steps:IntsF wr gS N st
 heap:Hp.Hp wr H A2 N v l
 box:Am wr X 383 (upV HH R gS H N back)
 kept:Ac w wr
 new:w.heap.size<=R/\w.heap.size<=C/\w.heap.size<=gS/\w.heap.size<=H/\w.heap.size<=A2/\w.heap.size<=X
 ne:gS≠A2
 vb:∀ j,v.ownBlock=some j->w.heap.size<=j
section
variable {w wr w':D_} {R C N gS H A2 X:Nat} {v v':E_} {HH:Nat} {back:Bool} {far Dc:Int->Option Int} {st:Int->Int} {l l':List (Int×Int)} {many Bn:Int}
theorem US.grew (s:US w wr R C N gS H A2 X v HH back far st l many) (k:Ac wr w'):US w w' R C N gS H A2 X v HH back far st l many :=
 ⟨s.stamp.kept k (λ h=>h) (λ h=>h),s.steps.grew k,s.heap.grew k,s.box.grew k,s.kept.trans k,s.new,s.ne,s.vb⟩
theorem US.turn (s:US w wr R C N gS H A2 X v HH back far st l many) (t:Hp.Turn wr w' H A2 N v v' l'):US w w' R C N gS H A2 X v' HH back far st l' many:=by
 obtain⟨cs,hc,_⟩:=s.stamp.cells;refine⟨s.stamp.kept t.kept (s.heap.apart s.stamp.row (by decide) (by decide) (by decide)) (s.heap.apart hc (by decide) (by decide) (by decide)),s.steps.kept t.kept (Hy s.heap s.steps s.ne),t.hp,
  s.box.kept t.kept (s.heap.apart s.box (by decide) (by decide) (by decide)),s.kept.then t.kept (λ i hi h=>?_),s.new,s.ne,λ j hj=>?_⟩
 ·rcases h with h | h | h
  ·have:=s.new.2.2.2.1;omega
  ·have:=s.new.2.2.2.2.1;omega
  ·have:=s.vb i h;omega
 ·rcases Nat.lt_or_ge j wr.heap.size with h1 | h1
  ·exact s.vb j (t.old j h1 hj)
  ·have:=s.kept.size;omega
theorem US.two (s:US w wr R C N gS H A2 X v HH back far st l many) (k:Kept (Sm.Two R C) wr w') (h:Sm.Stamp w' R C N Dc 1 Bn):US w w' R C N gS H A2 X v HH back Dc st l Bn:=by
 obtain⟨cs,hc,_⟩:=s.stamp.cells;obtain⟨cur,hs,_⟩:=s.steps;have a1:=s.heap.apart s.stamp.row (by decide) (by decide) (by decide);have a2:=s.heap.apart hc (by decide) (by decide) (by decide);refine⟨h,s.steps.kept k (λ e=>?_),s.heap.kept k (λ j hj e=>?_),s.box.kept k (λ e=>?_),s.kept.then k (λ i hi e=>?_),s.new,s.ne,s.vb⟩
 ·rcases e with e | e
  ·exact Ay hs s.stamp.row (by decide) e
  ·exact Ay hs hc (by decide) e
 ·rcases e with rfl | rfl
  ·exact a1 hj
  ·exact a2 hj
 ·rcases e with e | e
  ·exact Ay s.box s.stamp.row (by decide) e
  ·exact Ay s.box hc (by decide) e
 ·rcases e with e | e
  ·have:=s.new.1;omega
  ·have:=s.new.2.1;omega
theorem US.step (s:US w wr R C N gS H A2 X v HH back far st l many) {i:Nat} (hi:i<N) (b:Int):US w (wr.setCell ⟨gS,i,none⟩ (i64 b)) R C N gS H A2 X v HH back far (upd st (i:Int) b) l many:=by
 obtain⟨cs,hc,_⟩:=s.stamp.cells;obtain⟨cur,hs,_⟩:=s.steps;have k:Kept (·=gS) wr (wr.setCell ⟨gS,i,none⟩ (i64 b)):=(zr (·=gS) wr).setCell (p:=⟨gS,i,none⟩) (.inl rfl) _;have a1:=Hy s.heap s.steps s.ne;refine⟨s.stamp.kept k (λ e=>?_) (λ e=>?_),s.steps.set hi b,s.heap.kept k (λ j hj e=>?_),s.box.kept k (λ e=>?_),s.kept.then k (λ i hi e=>?_),s.new,s.ne,s.vb⟩
 ·exact Ay hs s.stamp.row (by decide) e.symm
 ·exact Ay hs hc (by decide) e.symm
 ·have e':j=gS:=e;subst e';exact a1 hj
 ·exact Ay hs s.box (by decide) e.symm
 ·have e':i=gS:=e;have:=s.new.2.2.1;omega
end
abbrev UF (R C gS H A2:Nat) (v:E_):Nat->Prop:=λ k=>(k=R\/k=C\/k=gS)\/Hp.HB H A2 v k
theorem pR {N:Nat} {Q:List Int} {far:Int->Option Int} (w:D_) (H A:Nat) (v:E_) (l:List Hp.Itm) (s:Hp.Hp w H A N v l) (hk:∀ u x,(u,x)∈l↔far u=some x/\u∉Q) (u nd:Int) (h0:0<=u) (h1:u<(N:Int)) (hu:u∉Q) (AH:∀ y,far u=some y->nd<y) :
  F_ H_ 314 #[pt H,i64 u,u64 nd] w λ r w'=>r=.returned (.bool true)/\∃ v' l',(∀ e,e∈l'↔(e∈l/\e.1≠u)\/e=(u,nd))/\Hp.Turn w w' H A N v v' l':=by
 cases hf:far u with
 | none =>
  have Cx:∀ e∈l,e.1≠u:=λ e he h=>by
   have:=((hk e.1 e.2).1 he).1;rw[h,hf]at this;cases this
  refine(Hp.put_new2 w H A N v l s u nd h0 h1 Cx).mono ?_;rintro r w' ⟨rfl,v',l',hp,ht⟩;refine⟨rfl,v',l',λ e=>?_,ht⟩;rw[hp.mem_iff,List.mem_append,List.mem_singleton];constructor
  ·rintro (h | h)
   ·exact .inl ⟨h,Cx e h⟩
   ·exact .inr h
  ·rintro (h | h)
   ·exact .inl h.1
   ·exact .inr h
 | some y =>
  obtain⟨i,hi⟩:=List.mem_iff_getElem?.1 ((hk u y).2 ⟨hf,hu⟩);refine(Hp.put_less2 w H A N v l s i (u,y) nd hi (AH y hf)).mono ?_;rintro r w' ⟨rfl,v',l',hp,ht⟩;exact⟨rfl,v',l',λ e=>by rw[hp.mem_iff];exact gZ s hi nd e,ht⟩
def mI (w wr:D_) (R C N gS H A2 X:Nat) (v:E_) (HH:Nat) (back:Bool) (far:Int->Option Int) (st:Int->Int) (l:List (Int×Int)) (many u nd b:Int) (w':D_):Prop :=
 Kept (UF R C gS H A2 v) wr w' /\
 (((∀ y,far u=some y->nd<y)/\∃ v' l' Bn,Bn<=many+1/\(∀ e,e∈l'↔(e∈l/\e.1≠u)\/e=(u,nd))/\(∀ j,v'.ownBlock=some j->v.ownBlock=some j\/wr.heap.size<=j)/\US w w' R C N gS H A2 X v' HH back (upd far u (some nd)) (upd st u b) l' Bn) \/
  ((∃ y,far u=some y/\y<=nd)/\∃ Bn,Bn<=many+1/\US w w' R C N gS H A2 X v HH back far st l Bn))
theorem MF (w wr:D_) (R C N gS H A2 X:Nat) (v:E_) (HH:Nat) (back:Bool) (far:Int->Option Int) (st:Int->Int) (l:List (Int×Int)) (many b nd:Int) (u:Nat) (Q:List Int) (s:US w wr R C N gS H A2 X v HH back far st l many)
  (hk:∀ u x,(u,x)∈l↔far u=some x/\u∉Q) (hu:(u:Int)∈Q->∃ y,far u=some y/\y<=nd) (wE:u<N) (hm:many<1000000) :
  F_ H_ 352 #[pt X,i64 u,u64 nd,i64 b] wr λ e w'=>(∃ q,e=.returned q)/\mI w wr R C N gS H A2 X v HH back far st l many u nd b w':=by
 have x0:=s.box.cell 2
 simp at x0
 have HL:=zh (Sm.least_any wr R C N far 1 many u nd s.stamp hm)
 have HS:=zh s
 have HK:=zh hk
 have HU:=zh hu
 have u0:(0:Int)<=(u:Int):=by omega
 have u1:(u:Int)<(N:Int):=by omega
 rcases Ja N far u nd many u0 u1 with ⟨hb,AH,DO,hmy⟩ | ⟨hb,Oa,DO,hmy⟩
 ·rw[hb]at HL;rw[DO]at HL;have hQ:(u:Int)∉Q:=λ h=>by
   obtain⟨y,h1,h2⟩:=hu h
   have:=AH y h1
   omega
  have uW:=BP AH hQ;obtain⟨Bn,JJ⟩:∃ m,Sm.leastM N far u nd many=m:=⟨_,rfl⟩;rw[JJ]at HL hmy;clear s hk hu hb AH DO JJ hQ;go_enter Tryz.func352,Tryz.ntmps352;go_wp2_with fail;refine HL.out.mono ?_;rintro e w1 ⟨rfl,CW,Ly⟩;have s1:=HS.out.two Ly CW;have CR:=zh s1;have y0:=s1.box.cell 3;have y1:=s1.box.cell 4;simp at y0 y1;have y3:=s1.steps.cell (i:=u) wE;have fr:=s1.steps.frozen u;have s2:=s1.step wE b;have z1:=s2.box.cell 4;simp at z1;have HP:=zh (pR _ H A2 v l s2.heap HK.out u nd u0 u1 uW.out.2 uW.out.1);have Ly:=zh Ly;have He:=zh s2;clear HL CW s1 s2 x0;go_wp2_with fail;refine HP.out.mono ?_;rintro e w3 ⟨rfl,v',l',LA,ht⟩;go_wp2_with fail;go_end0;have k2:Kept (UF R C gS H A2 v) wr (w1.setCell ⟨gS,u,none⟩ (i64 b)):=(Ly.out.mono (G:=UF R C gS H A2 v) (λ j _ hj=>.inl (by rcases hj with h | h;exact .inl h;exact .inr (.inl h)))).setCell (p:=⟨gS,u,none⟩) (.inl (.inl (.inr (.inr rfl)))) _;refine⟨⟨_,rfl⟩,k2.trans (ht.kept.mono (λ j _ hj=>.inr hj)),.inl ⟨uW.out.1,v',l',Bn,hmy,LA,λ j hj=>?_,He.out.turn ht⟩⟩;rcases Nat.lt_or_ge j (w1.setCell ⟨gS,u,none⟩ (i64 b)).heap.size with h1 | h1
  ·exact .inl (ht.old j h1 hj)
  ·exact .inr (Pn k2.size h1)
 ·rw[hb]at HL;rw[DO]at HL;have uW:=zh Oa;obtain⟨Bn,JJ⟩:∃ m,Sm.leastM N far u nd many=m:=⟨_,rfl⟩;rw[JJ]at HL hmy;clear s hk hu hb Oa DO JJ;go_enter Tryz.func352,Tryz.ntmps352;go_wp2_with fail;refine HL.out.mono ?_;rintro e w1 ⟨rfl,CW,Ly⟩;have s1:=HS.out.two Ly CW;go_wp2_with fail;go_end0;exact⟨⟨_,rfl⟩,Ly.mono (λ j _ hj=>.inl (by rcases hj with h | h;exact .inl h;exact .inr (.inl h))),.inr ⟨uW.out,Bn,hmy,s1⟩⟩
end Go.Proofs.YtepelooebggliaaGreatDoor
namespace Go.Proofs.YtepelooebggliaaGreatDoor
open Go.RowKit Go.Shelf
abbrev Lb:=Int×Int×Int
def py (x:Lb):List E_:=[i64 x.1,u64 x.2.1,i64 x.2.2]
def Ee (ls:List Lb):List E_:=ls.flatMap py
theorem J2 (ls:List Lb):(Ee ls).length=ls.length*3:=by
 induction ls with
 | nil=>rfl
 | cons e es ih=>simp only[Ee,Pb,Pg,M_]at ih ⊢;rw[ih];simp[py];omega
theorem OA (ls:List Lb) (x:Lb):Ee (ls++[x])=Ee ls++py x:=by simp[Ee,List.flatMap_append]
theorem EY:∀ (ls:List Lb) (i j:Nat) (x:Lb),ls[i]? = some x->j<3->(Ee ls)[i*3+j]? = (py x)[j]?
 | [],i,j,e,h,_=>by simp at h
 | x::l,0,j,e,h,hj=>by
  simp only[List.getElem?_cons_zero,Option.some.injEq]at h;subst h;rw[Ee,Pb,Nat.zero_mul,Nat.zero_add,List.getElem?_append_left (by simp[py];omega)]
 | x::l,i+1,j,e,h,hj=>by
  rw[List.getElem?_cons_succ]at h;have ih:=EY l i j e h hj;have e2:(py x).length=3:=rfl;rw[Ee,Pb,List.getElem?_append_right (by omega),e2,show (i+1)*3+j-3=i*3+j by omega];exact ih
def CJ (w:D_) (B:Nat) (v:E_) (ls:List Lb):Prop:=w.ownsRow B 311 3 v ls.length (Ee ls)
def Md (w:D_) (A:Option Addr) (ls:List Lb):Prop:=∀ (i:Nat) (x:Lb),ls[i]? = some x->∃ b off,A=some ⟨b,off,none⟩/\b<w.heap.size/\w.cell? ⟨b,off+i*3,none⟩=some (i64 x.1)/\w.cell? ⟨b,off+(i*3+1),none⟩=some (u64 x.2.1)/\w.cell? ⟨b,off+(i*3+2),none⟩=some (i64 x.2.2)
theorem CJ.row {w:D_} {B:Nat} {v:E_} {ls:List Lb} (h:CJ w B v ls):∃ A c,v=.slice A ls.length c/\Md w A ls/\ls.length<=c:=by
 rcases h.2 with ⟨hv,h0⟩ | ⟨g,cap,cur,hv,hb,hg,Bg,hm,Df,LW⟩
 ·have:=Pa h0;subst this;exact⟨none,0,hv,λ i s hs=>by simp at hs,zl _⟩
 ·refine⟨_,cap,hv,λ i s hs=>?_,Bg⟩;have hi:=(N_.1 hs).1;have key:∀ j,j<3->w.cell? ⟨g,i*3+j,none⟩=(py s)[j]? := λ j hj=>by
   have h1:=EY ls i j s hs hj
   rw[<- LW,List.getElem?_take_of_lt (by omega)]at h1
   rw[show w.cell? ⟨g,i*3+j,none⟩=cur[i*3+j]? from (show Am w g 311 cur from hg).cell _,<-h1]
   simp
  refine⟨g,0,rfl,(Po.1 hg).1,?_⟩;simp only[Nat.zero_add];exact⟨key 0 (by omega),key 1 (by omega),key 2 (by omega)⟩
theorem CJ.kept {F:Nat->Prop} {w w':D_} {B:Nat} {v:E_} {ls:List Lb} (h:CJ w B v ls) (k:Kept F w w') (hF:∀ j,v.ownBlock=some j->¬ F j):CJ w' B v ls:=Kept.own k h hF
theorem CJ.grew {w w':D_} {B:Nat} {v:E_} {ls:List Lb} (h:CJ w B v ls) (k:Ac w w'):CJ w' B v ls:=h.kept k λ _ _ h=>h
theorem gd:(H_.info? 311).map (λ i=>(i.zero,i.size,i.bytes))=some (some (.agg #[i64 0,u64 0,i64 0]),3,24):=by kernel_rfl
theorem sZ (p q r:E_):Instr.fill (λ i=>some (i*3,3)) ((Array.range (1*3)).map ((Value.agg #[i64 0,u64 0,i64 0]).cells[·%(Value.agg #[i64 0,u64 0,i64 0]).cells.size]!)) [(0,.agg #[p,q,r])]=some #[p,q,r]:=by kernel_rfl
theorem zA0 {o:Oper} {a:Act} {w:D_} {K:Act->D_->Prop} {Q:Exit->Act->D_->Prop} (parts:Array (Nat×Operand)) (ho:o.op=.buildSlice 235 1 parts)
  (p q r:E_) (hp:(parts.map λ (i,x)=>(i,a.eval x)).toList=[(0,.agg #[p,q,r])])
  (h:K (a.put o.dst (.slice (some ⟨w.heap.size,0,none⟩) 1 1)) (w.alloc (.cells #[p,q,r] 311))):o.wp H_ a w K Q:=by
 obtain⟨i0,hi,Cu,BV,Cj⟩:=info_parts gd
 refine wp_buildSlice 235 311 1 parts ho #[p,q,r] i0 _ Tryz.underlying235 hi Cu (by rw[BV];decide) (by rw[BV];decide) ?_ h
 rw[hp,BV]
 exact sZ p q r
def Marks (w:D_) (B:Nat) (Ds:List Nat):Prop:=Ds.Nodup/\∀ D∈Ds,B<=D/\w.heap[D]? = some (.deferred (some []))
def pF (D:Nat):Deferred:={ target:=.collected D,args:=#[] }
theorem Marks.nil (w:D_) (B:Nat):Marks w B []:=⟨Pc,λ D h=>by simp at h⟩
theorem Marks.kept {F:Nat->Prop} {w w':D_} {B:Nat} {Ds:List Nat} (h:Marks w B Ds) (k:Kept F w w') (hF:∀ j,F j->∀ o:Obj,w.heap[j]? = some o->o.isCells=true):Marks w' B Ds :=
 ⟨h.1,λ D hD=>⟨(h.2 D hD).1,(k.block D (Po.1 (h.2 D hD).2).1 (λ f=>by have:=hF D f _ (h.2 D hD).2;cases this)).trans (h.2 D hD).2⟩⟩
theorem Marks.grew {w w':D_} {B:Nat} {Ds:List Nat} (h:Marks w B Ds) (k:Ac w w'):Marks w' B Ds:=h.kept k λ _ h=>h.elim
theorem Marks.cons {w:D_} {B D:Nat} {Ds:List Nat} (h:Marks w B Ds) (hB:B<=D) (hD:w.heap[D]? = some (.deferred (some []))) (hn:D∉Ds):Marks w B (D::Ds) :=
 ⟨Pm.2 ⟨hn,h.1⟩,λ x hx=>by
  rcases List.mem_cons.1 hx with rfl | hx
  ·exact⟨hB,hD⟩
  ·exact h.2 x hx⟩
theorem E7 {F:Fence} {n:Nat} {P:Program} {fn:Func} {tmps:Array E_} {R:Ending->D_->Prop} (B:Nat):∀ (Ds:List Nat) (w:D_),Marks w B Ds->(∀ w',Kept (λ j=>j∈Ds) w w'->LeavesIn F n P fn tmps R [] .returning w')->LeavesInM F n P fn tmps R (Ds.map pF) .returning w
 | [],w,_,h=>h w (zr _ _)
 | D::Ds,w,hm,h=>by
  obtain⟨hn,hm⟩:=hm;rw[Pm]at hn;refine⟨by simp,.inl ⟨D,_,rfl,run_takeDeferred (hm D (by simp)).2,E7 B Ds _ ⟨hn.2,λ x hx=>⟨(hm x (by simp[hx])).1,?_⟩⟩ λ w' k=>h w' ?_⟩⟩
  ·have Bm:x≠D:=λ e=>hn.1 (e▸hx);exact(World.putObj_heap_other Bm).trans (hm x (by simp[hx])).2
  ·exact((zr (λ j=>j∈D::Ds) w).putObj D _ (.inl (by simp))).trans (k.mono λ j _ hj=>by simp[hj])
section
variable {w wr w':D_} {R C N gS H A2 X:Nat} {v:E_} {HH:Nat} {back:Bool} {far:Int->Option Int} {st:Int->Int} {l:List (Int×Int)} {many:Int}
theorem US.cells (s:US w wr R C N gS H A2 X v HH back far st l many) {j:Nat} (hj:UF R C gS H A2 v j):∃ (t:G_) (cs:Array E_),Am wr j t cs/\(t=453\/t=550\/t=3\/t=456\/t=489):=by
 obtain⟨cs,hc,_⟩:=s.stamp.cells;obtain⟨cur,hs,_⟩:=s.steps;obtain⟨a,hh,_⟩:=s.heap;rcases hj with (rfl | rfl | rfl) | rfl | rfl | hj
 ·exact⟨_,_,s.stamp.row,by simp⟩
 ·exact⟨_,_,hc,by simp⟩
 ·exact⟨_,_,hs,by simp⟩
 ·exact⟨_,_,hh.box,by simp⟩
 ·exact⟨_,_,hh.arr,by simp⟩
 ·obtain⟨_,c1,g1⟩:=Ao hh.row hj;exact⟨_,c1,g1,by simp⟩
theorem US.isCells (s:US w wr R C N gS H A2 X v HH back far st l many):∀ j,UF R C gS H A2 v j->∀ o:Obj,wr.heap[j]? = some o->o.isCells=true:=λ j hj o ho=>by
 obtain⟨t,cs,hb,_⟩:=s.cells hj;exact hb.iscells o ho
theorem US.apart (s:US w wr R C N gS H A2 X v HH back far st l many) {g:Nat} {t:G_} {cs:Array E_} (h:Am wr g t cs) (h1:t≠453) (h2:t≠550) (h3:t≠3) (h4:t≠456) (h5:t≠489):¬ UF R C gS H A2 v g:=λ hg=>by
 obtain⟨t',lN,hb,ht⟩:=s.cells hg;have Bm:t≠t':=by rcases ht with rfl | rfl | rfl | rfl | rfl<;>assumption
 exact Ay h hb Bm rfl
theorem US.beside (s:US w wr R C N gS H A2 X v HH back far st l many) {F:Nat->Prop} (k:Kept F wr w') (hF:∀ j,F j->j<wr.heap.size->w.heap.size<=j/\¬ UF R C gS H A2 v j/\j≠X):US w w' R C N gS H A2 X v HH back far st l many:=by
 have nf:∀ j,j<wr.heap.size->UF R C gS H A2 v j\/j=X->¬ F j:=λ j hl hj hf=>by
  have:=hF j hf hl;rcases hj with h | h
  ·exact this.2.1 h
  ·exact this.2.2 h
 obtain⟨cs,hc,Et⟩:=s.stamp.cells;have AH:∀ j,UF R C gS H A2 v j->j<wr.heap.size:=λ j hj=>by obtain⟨_,_,hb,_⟩:=s.cells hj;exact hb.lt
 refine⟨s.stamp.kept k (nf _ (AH _ (.inl (.inl rfl))) (.inl (.inl (.inl rfl)))) (nf _ (AH _ (.inl (.inr (.inl rfl)))) (.inl (.inl (.inr (.inl rfl))))),s.steps.kept k (nf _ (AH _ (.inl (.inr (.inr rfl)))) (.inl (.inl (.inr (.inr rfl))))),
  s.heap.kept k (λ j hj=>nf j (AH j (.inr hj)) (.inl (.inr hj))),s.box.kept k (nf _ s.box.lt (.inr rfl)),s.kept.then k (λ i hi h=>?_),s.new,s.ne,s.vb⟩
 have:=s.kept.size;have:=(hF i h (by omega)).1;omega
end
section
variable {N:Nat} {G:Rel} {s:Int} {P:List Int} {out out':List (Int×Int)} {seen:D1} {far:Int->Option Int} {l l':List (Int×Int)}
theorem FT.congr (h:FT N G s P out seen far l) (hl:∀ e,e∈l'↔e∈l):FT N G s P out seen far l' :=
 { h with
   keys:=λ u x=>(hl _).trans (h.keys u x)
   done:=λ p hp=>(h.done p hp).imp λ x hx=>⟨hx.1,λ e he=>hx.2 e ((hl e).1 he)⟩ }
theorem FT.perm (h:FT N G s P out seen far l) (hp:out'.Perm out):FT N G s P out' seen far l :=
 { h with
   outP:=λ e he=>h.outP e (hp.mem_iff.1 he)
   outN:=(hp.map (·.1)).nodup_iff.2 h.outN
   exact':=λ p hP x hx hl=>⟨hp.mem_iff.2 (h.exact' p hP x hx hl).1,(h.exact' p hP x hx hl).2⟩ }
end
end Go.Proofs.YtepelooebggliaaGreatDoor
namespace Go.Proofs.YtepelooebggliaaGreatDoor
open Go.RowKit Go.Shelf
def FL (x:Lb):Int×Int:=(x.1,x.2.1)
def BK (back:Bool) (rk:List Int) (ss:List Sc):D1:=λ p=>(Cg (back != false) rk ss p).map (·.2)
structure Hf (w W:D_) (R C N gS H A2 X T T6 HH Z:Nat) (back:Bool) (G:Rel) (arcs:D1) (s:Int) (Ds:List Nat) (vo v:E_) (ls:List Lb) (far:Int->Option Int) (st:Int->Int) (l:List (Int×Int)) (many:Int) (P:List Int) (p:Nat) (d0:Int) (pd:List (Int×Int)):Prop where
 us:US w W R C N gS H A2 X v HH back far st l many
 box:Am W T 375 #[pt X]
 b6:Am W T6 29 #[u64 d0]
 own:CJ W T vo ls
 marks:Marks W T Ds
 each:Ec W Z (Z+1) (Z+1+1) HH p back false
 ups:FT N G s (P++[(p:Int)]) (ls.map FL) (upd arcs (p:Int) pd) far l
 near:∀ q∈P++[(p:Int)],∃ x,far q=some x/\x<=d0
 here:far p=some d0
 few:many<=1+1001*(P.length:Int)+(pd.length:Int)
 small:∀ u a,far u=some a->0<=a/\a<=1099511627776*((P.length:Int)+1)
section
variable {w W W':D_} {R C N gS H A2 X T T6 HH Z:Nat} {back:Bool} {G:Rel} {arcs:D1} {s:Int} {Ds:List Nat} {vo v:E_} {ls:List Lb} {far:Int->Option Int} {st:Int->Int} {l:List (Int×Int)} {many:Int} {P:List Int} {p:Nat} {d0:Int} {pd:List (Int×Int)}
theorem Hf.beside (h:Hf w W R C N gS H A2 X T T6 HH Z back G arcs s Ds vo v ls far st l many P p d0 pd) {B:Nat} (hB:w.heap.size<=B) (vD:∀ D∈Ds,D<B) {row:Option Nat} (k:Kept (λ j=>row=some j) W W')
  (hr:∀ r,row=some r->B<=r/\∃ o:Obj,W.heap[r]? = some o/\o.isCells=false):Hf w W' R C N gS H A2 X T T6 HH Z back G arcs s Ds vo v ls far st l many P p d0 pd:=by
 have nb:∀ {g:Nat} {t:G_} {cs:Array E_},Am W g t cs->¬ row=some g:=fun {g t cs} hb e=>by
  obtain⟨_,o,ho,hc⟩:=hr g e;rw[show W.heap[g]? = some (.cells cs t (0,0)) from hb]at ho;cases ho;cases hc
 exact { h with
  us:=h.us.beside k (λ j hj hl=>⟨Pn hB (hr j hj).1,(λ hu=>by
   obtain⟨t,cs,hb,_⟩:=h.us.cells hu;exact nb hb hj),λ e=>by subst e;exact nb h.us.box hj⟩)
  box:=h.box.kept k (nb h.box)
  b6:=h.b6.kept k (nb h.b6)
  own:=h.own.kept k (λ j hj e=>by
   obtain⟨_,cur,hc⟩:=Ao h.own hj;exact nb (show Am W j _ cur from hc) e)
  marks:=⟨h.marks.1,λ D hD=>⟨(h.marks.2 D hD).1,(k.block D (Po.1 (h.marks.2 D hD).2).1 (λ e=>by have:=(hr D e).1;have:=vD D hD;omega)).trans (h.marks.2 D hD).2⟩⟩
  each:=⟨h.each.way.kept k (nb h.each.way),h.each.node.kept k (nb h.each.node),h.each.dn.kept k (nb h.each.dn)⟩ }
theorem Hf.grew (h:Hf w W R C N gS H A2 X T T6 HH Z back G arcs s Ds vo v ls far st l many P p d0 pd) (k:Ac W W'):Hf w W' R C N gS H A2 X T T6 HH Z back G arcs s Ds vo v ls far st l many P p d0 pd :=
 { h with us:=h.us.grew k,box:=h.box.grew k,b6:=h.b6.grew k,own:=h.own.grew k,marks:=h.marks.grew k,each:=h.each.grew k }
theorem Hf.out (h:Hf w W R C N gS H A2 X T T6 HH Z back G arcs s Ds vo v ls far st l many P p d0 pd) (lS:gS<Z/\A2<Z) {j:Nat} (hj:UF R C gS H A2 v j):w.heap.size<=j/\j≠T/\j≠T6/\(∀ k,vo.ownBlock=some k->j≠k)/\j≠Z/\j≠Z+1/\j≠Z+1+1:=by
 have ap:∀ {g:Nat} {t:G_} {cs:Array E_},Am W g t cs->t≠453->t≠550->t≠3->t≠456->t≠489->j≠g:=fun {g t cs} hb h1 h2 h3 h4 h5 e=>by
  subst e;exact h.us.apart hb h1 h2 h3 h4 h5 hj
 refine⟨?_,ap h.box (by decide) (by decide) (by decide) (by decide) (by decide),ap h.b6 (by decide) (by decide) (by decide) (by decide) (by decide),λ k hk=>?_,ap h.each.way (by decide) (by decide) (by decide) (by decide) (by decide),?_,ap h.each.dn (by decide) (by decide) (by decide) (by decide) (by decide)⟩
 ·have hn:=h.us.new;rcases hj with (rfl | rfl | rfl) | rfl | rfl | hj
  ·omega
  ·omega
  ·omega
  ·omega
  ·omega
  ·exact h.us.vb j hj
 ·obtain⟨_,cur,hc⟩:=Ao h.own hk;exact ap (show Am W k _ cur from hc) (by decide) (by decide) (by decide) (by decide) (by decide)
 ·intro e;obtain⟨cs,hc,_⟩:=h.us.stamp.cells;obtain⟨a,hh,_⟩:=h.us.heap;rcases hj with (rfl | rfl | rfl) | rfl | rfl | hj
  ·exact Ay h.us.stamp.row h.each.node (by decide) e
  ·exact Ay hc h.each.node (by decide) e
  ·omega
  ·exact Ay hh.box h.each.node (by decide) e
  ·omega
  ·obtain⟨_,c1,g1⟩:=Ao hh.row hj;exact Ay (show Am W j _ c1 from g1) h.each.node (by decide) e
theorem Hf.reach (h:Hf w W R C N gS H A2 X T T6 HH Z back G arcs s Ds vo v ls far st l many P p d0 pd) (lS:gS<Z/\A2<Z) (hd:0<=d0/\d0<=1099511627776*(P.length:Int)) {u c i:Int} (hu:0<=u/\u<(N:Int)) (ha:Wk G (p:Int) u c) (hc:1<=c/\c<=1099511627776)
  (zk:mI w W R C N gS H A2 X v HH back far st l many u (d0+c) i W'):Bs (Iz w.heap.size Z (Z+1) (Z+1+1)) W W'/\(∀ B,KeepsFrom B W W')/\∃ v far st l many,Hf w W' R C N gS H A2 X T T6 HH Z back G arcs s Ds vo v ls far st l many P p d0 (pd++[(u,c)]):=by
 obtain⟨k,zk⟩:=zk
 have ho:=λ j hj=>h.out lS (j:=j) hj
 have GH:=h.us.isCells
 have base:∀ {Dc LD l' Bn v'},US w W' R C N gS H A2 X v' HH back Dc LD l' Bn->FT N G s (P++[(p:Int)]) (ls.map FL) (upd arcs (p:Int) (pd++[(u,c)])) Dc l'->(∀ q∈P++[(p:Int)],∃ x,Dc q=some x/\x<=d0)->Dc p=some d0->Bn<=many+1->(∀ u a,Dc u=some a->0<=a/\a<=1099511627776*((P.length:Int)+1)) ->
   Hf w W' R C N gS H A2 X T T6 HH Z back G arcs s Ds vo v' ls Dc LD l' Bn P p d0 (pd++[(u,c)]):=λ tT hups hn hh hm LU =>
  { us:=tT,ups:=hups,near:=hn,here:=hh,small:=LU
    few:=by have:=h.few;rw[Pg];simp;omega
    box:=h.box.kept k (λ e=>(ho _ e).2.1 rfl)
    b6:=h.b6.kept k (λ e=>(ho _ e).2.2.1 rfl)
    own:=h.own.kept k (λ j hj e=>(ho _ e).2.2.2.1 j hj rfl)
    marks:=h.marks.kept k GH
    each:=⟨h.each.way.kept k (λ e=>(ho _ e).2.2.2.2.1 rfl),h.each.node.kept k (λ e=>(ho _ e).2.2.2.2.2.1 rfl),h.each.dn.kept k (λ e=>(ho _ e).2.2.2.2.2.2 rfl)⟩ }
 refine⟨k.keptC (λ j hj=>⟨(ho j hj).1,(ho j hj).2.2.2.2⟩),λ B=>k.from B (λ j hj=>.inr (GH j hj)),?_⟩
 rcases zk with ⟨AH,v',l',Bn,JJ,LA,_,tT⟩ | ⟨Oa,Bn,JJ,tT⟩
 ·have ne:∀ q∈P++[(p:Int)],q≠u:=λ q hq e=>by
   obtain⟨x,hx,hle⟩:=h.near q hq;rw[e]at hx;have:=AH x hx;omega
  refine⟨v',_,_,l',Bn,base tT (h.ups.take h.near hd.1 h.here ha hc.1 AH LA) (λ q hq=>?_) ?_ JJ (λ q a hq=>?_)⟩
  ·rw[AA _ _ (ne q hq)];exact h.near q hq
  ·rw[AA _ _ (ne p (by simp))];exact h.here
  ·by_cases e:q=u
   ·subst e;rw[AZ]at hq;cases hq;omega
   ·rw[AA _ _ e]at hq;exact h.small q a hq
 ·exact⟨v,_,_,l,Bn,base tT (h.ups.skip h.here Oa) h.near h.here JJ h.small⟩
end
end Go.Proofs.YtepelooebggliaaGreatDoor
